import Derived.Test.YtlapbjdhekcipaaGreatPI
set_option linter.unusedVariables false
set_option linter.unusedSimpArgs false
/- Contracts of convex: the side of a point. -/
set_option maxRecDepth 20000
set_option maxHeartbeats 4000000
namespace Go.Proofs.YtlapbjdhekcipaaGreat
open Go Go.Ae
def mo:Env:=En [(85,.p iI)]
theorem Cj:EnvOk Tryz.prog mo:=bF ⟨Bt,trivial⟩ trivial
def tD:Nat→FT→Nu→FT:=fun l G nu=>cc { mo with ys:=[(l,G)],nu:=nu } cF Tryz.f118
theorem vK:yN Tryz.prog 118 tD:=by
 exact NV Cj aK Tryz.func118 (enters_of Tryz.func118 (by kernel_rfl) rfl)
theorem vW:fK Tryz.prog 64 (cc mo cF Tryz.f64):=by
 exact iV Cj aK Tryz.func64 (enters_of Tryz.func64 (by kernel_rfl) rfl)
def Qg:Env:=En [(32,.p kK)] [(64,cc mo cF Tryz.f64)] [(118,tD)]
theorem abP:EnvOk Tryz.prog Qg:=bF ⟨EV,trivial⟩ ⟨vW,trivial⟩
theorem aaz:gB Tryz.prog Qg:=uY ⟨vK,trivial⟩
theorem Yk:c4 Tryz.prog 67 gg:=by
 refine dC abP aK Tryz.func67 (enters_of Tryz.func67 (by kernel_rfl) rfl) ?_ ?_ ?_ (hI:=aaz)
 ·intro ⟨i,_⟩ b hb
  cases i with
  | none=>simp [gg,PL.ai] at hb
  | some i=>simp [gg,PL.ai] at hb; rw [hb]; rfl
 ·intro i b hb; simp [gg] at hb
 intro ⟨i,p⟩ hp
 have hp:(i.list.length≤1099511627776∧∀ v∈i.list,v.sz 2048)∧p.sz 2048:=hp
 obtain ⟨⟨hlen,aT⟩,sp⟩:=hp
 have qp:=PV.cN sp (by decide)
 cases i with
 | none =>
  conv=>whnf
  intro yl nu fn tm df
  conv=>whnf
  refine .inr ⟨1,?_⟩
  conv=>whnf
  exact ⟨.int .i64 1,rfl,.refl _⟩
 | some i =>
  obtain ⟨L,c⟩:=i
  have hlen:L.length≤1099511627776:=hlen
  have aT:∀ v∈L,PV.sz 2048 v:=aT
  obtain ⟨n,hn⟩:∃ n,n=L.length:=⟨_,rfl⟩
  obtain ⟨g,hg⟩:∃ g,g=cO L:=⟨_,rfl⟩
  have fin:∀ z:Int,z=rL (aS L) p.p→∃ v',cL (List.range 1) 3 (gg.val (some (L,c),p))=some v'∧eZ (.int .i64 z) v':=fun z h=>⟨.int .i64 z,by rw [h]; rfl,.refl _⟩
  rw [show gg.ai (some (L,c),p)=[.flat false n 6 g] from by rw [hn,hg]; rfl,show gg.args (some (L,c),p)=[.slice (some ⟨0,0,none⟩) n c,p.v] from by rw [hn]; rfl]
  rw [← hn] at hlen
  conv=>whnf
  intro yl nu fn tm df
  conv=>whnf
  refine .inl ⟨fun mm tz hz=>∃ (j:Nat) (o:Int),bu (some (.func (.yield yl) #[] #[])::some (.pointer (some ⟨3,0,none⟩))::aB 3 (some (.slice (some ⟨0,0,none⟩) n c)::some (.int .i64 n)::some (.int .i64 j)::aB 17 [])) tz∧hz=[some (.flat false n 6 g),some (.aL true 6 [p.cells]),some (.aL true 1 [[.int .i64 o]]),some (.aL true 1 [[.slice (some ⟨0,0,none⟩) n c]]),some (.bZ (pT Tryz.f67 fn tm df))]∧n - j=mm∧(j≤n∧o=rC (aS L) p.p j),.inr ⟨[0,1,2,3,4],[0,1,5,6,7],?_⟩,?_⟩
  ·conv=>whnf
   intro _
   conv=>whnf
   refine ⟨_,0,1,(.aa (.aa (.sk 3 (.aa (.aa (.aa (.sk 17 .nil rfl)))) rfl))),rfl,rfl,?_⟩
   exact ⟨Nat.zero_le _,rfl⟩
  rintro mm aQ _ ⟨j,o,aq,rfl,rfl,⟨hj,ho⟩⟩
  obtain ⟨az,rfl⟩:∃ az:Nat→Value,aQ=.func (.yield yl) #[] #[]::.pointer (some ⟨3,0,none⟩)::zs az 2 3 (.slice (some ⟨0,0,none⟩) n c::.int .i64 n::.int .i64 j::zs az 8 17 []):=bI aq
  clear aq
  conv=>whnf
  refine aF (fun h3=>?_) (fun h3=>?_)
  ·have h3:j < n:=by
    have:=of_decide_eq_true h3
    omega
   have e7:IntKind.i64.wrap ((j:Int)+1)=((j+1:Nat):Int):=by rw [aw (by omega) (by omega)]; rfl
   obtain ⟨a,b,ra,rb,⟨ma,mb⟩,fI,b6,_,_⟩:=o6 hn h3
   have sa:=aT a ma
   have sb:=aT b mb
   have qa:=PV.cN sa (by decide)
   have qb:=PV.cN sb (by decide)
   have cj:=jT h3 (by omega)
   obtain ⟨u,hu⟩:∃ u,u=ba n j:=⟨_,rfl⟩
   rw [← hu] at cj b6 rb
   rw [← hg] at ra rb
   have an:=Ka (p:=p.p) fI
   rw [← ho] at an
   conv=>whnf
   refine ⟨⟨by omega,by omega⟩,?_⟩
   simp only [toNat_cast,ar,Nat.zero_add]
   conv=>whnf
   refine ⟨by show j < n; omega,?_⟩
   conv=>whnf
   rw [ra]
   conv=>whnf
   refine .inl ⟨10,[[],[],[],[],[3],[],[5],[3,4,5,6],[2,3,4,5,6,7],[2,3,4,5,6,7,8],[0,1,2,3,4,5,6,7,8,9],[0,1,2,3,4,5,6,7,8,9,10]],by kernel_rfl,?_⟩
   conv=>whnf
   rw [show decide ((n:Int)≠0)=true from decide_eq_true (by omega)]
   conv=>whnf
   rw [cj]
   refine ⟨⟨by omega,by omega⟩,?_⟩
   simp only [toNat_cast,ar,Nat.zero_add]
   conv=>whnf
   refine ⟨by show u < n; omega,?_⟩
   conv=>whnf
   rw [rb]
   conv=>whnf
   refine ⟨rfl,?_⟩
   conv=>whnf
   refine ⟨rfl,?_⟩
   conv=>whnf
   refine ⟨rfl,?_⟩
   conv=>whnf
   refine .inl ⟨5,[[],[],[],[],[1,2,3],[0,1,2,3,4],[0,1,2,3,4,5]],by kernel_rfl,?_⟩
   conv=>whnf
   obtain ⟨z,ez,pz⟩:=c9 (aU (au a.p b.p p.p) 0)
   refine ⟨(a,b,p),rfl,⟨PV.aR sa (by decide),PV.aR sb (by decide),PV.aR sp (by decide)⟩,?_⟩
   rw [show kK.val (a,b,p)=.int .i64 z from ez]
   conv=>whnf
   rw [← pz] at an
   refine ⟨rfl,?_⟩
   conv=>whnf
   rw [e7]
   refine .inr ⟨[0,1,2,3,4],[0,1,5,6,7],?_⟩
   conv=>whnf
   intro _
   conv=>whnf
   refine ⟨_,?_,j+1,if z < o then z else o,(.aa (.aa (.sk 3 (.aa (.aa (.aa (.sk 17 .nil rfl)))) rfl))),rfl,rfl,?_⟩
   ·omega
   ·exact ⟨by omega,an.symm⟩
  ·have h3:j=n:=by
    have:=of_decide_eq_false h3
    omega
   subst h3
   conv=>whnf
   exact fin o (ho.trans (by rw [hn]; exact KP))
def Qh:Env:=En [(56,.q dp)] [(64,cc mo cF Tryz.f64),(49,cc Df cF Tryz.f49)] [(118,tD)]
theorem abQ:EnvOk Tryz.prog Qh:=bF ⟨DD,trivial⟩ ⟨vW,JQ,trivial⟩
theorem aaA:gB Tryz.prog Qh:=uY ⟨vK,trivial⟩
theorem xX:c4 Tryz.prog 23 aV:=by
 refine dC abQ aK Tryz.func23 (enters_of Tryz.func23 (by kernel_rfl) rfl) ?_ ?_ ?_ (hI:=aaA)
 ·intro i b hb
  cases i with
  | none=>simp [aV,PL.ai] at hb
  | some i=>simp [aV,PL.ai] at hb; rw [hb]; rfl
 ·intro i b hb; simp [aV] at hb
 intro i hp
 have hp:i.list.length≤1099511627776∧∀ v∈i.list,v.sz 2048:=hp
 obtain ⟨hlen,aT⟩:=hp
 cases i with
 | none =>
  conv=>whnf
  exact ⟨.int .i64 4,rfl,.refl _⟩
 | some i =>
  obtain ⟨L,c⟩:=i
  have hlen:L.length≤1099511627776:=hlen
  have aT:∀ v∈L,PV.sz 2048 v:=aT
  obtain ⟨n,hn⟩:∃ n,n=L.length:=⟨_,rfl⟩
  obtain ⟨g,hg⟩:∃ g,g=cO L:=⟨_,rfl⟩
  have fin:∀ z:Int,bw L=z→∃ v',cL (List.range 1) 3 (aV.val (some (L,c)))=some v'∧eZ (.int .i64 z) v':=fun z h=>⟨.int .i64 z,by rw [← h]; rfl,.refl _⟩
  rw [show aV.ai (some (L,c))=[.flat false n 6 g] from by rw [hn,hg]; rfl,show aV.args (some (L,c))=[.slice (some ⟨0,0,none⟩) n c] from by rw [hn]; rfl]
  rw [← hn] at hlen
  conv=>whnf
  by_cases h1:n < 3
  ·rw [show decide ((n:Int) < 3)=true from decide_eq_true (by omega)]
   conv=>whnf
   exact fin 4 (Bo (.inl (by omega)))
  rw [show decide ((n:Int) < 3)=false from decide_eq_false (by omega)]
  conv=>whnf
  by_cases J:64 < n
  ·rw [show decide ((n:Int) > 64)=true from decide_eq_true (by omega)]
   conv=>whnf
   exact fin 4 (Bo (.inr (by omega)))
  rw [show decide ((n:Int) > 64)=false from decide_eq_false (by omega)]
  conv=>whnf
  obtain ⟨z,hz⟩:∃ z,z=dm L:=⟨_,rfl⟩
  refine ⟨some (L,c),[0],by rw [show dp.args (some (L,c))=[.slice (some ⟨0,0,none⟩) n c] from by rw [hn]; rfl]; rfl,⟨by show L.length≤_; omega,aT⟩,?_⟩
  rw [show dp.ai (some (L,c))=[.flat false n 6 g] from by rw [hn,hg]; rfl,show dp.val (some (L,c))=.bool (!z) from by rw [hz]; rfl,show dp.new (some (L,c))=none from rfl]
  conv=>whnf
  refine ⟨aO.aY (fun h=>h) (fun r hr=>by rw [hg]; rfl),?_⟩
  conv=>whnf
  refine ⟨_,rfl,?_⟩
  conv=>whnf
  cases z with
  | true =>
   conv=>whnf
   exact fin 1 (MZ (by omega) hz.symm)
  | false =>
   conv=>whnf
   refine ⟨⟨by decide,by omega,by omega⟩,?_⟩
   conv=>whnf
   obtain ⟨m,hm⟩:∃ m,m=n - 1:=⟨_,rfl⟩
   obtain ⟨c1,uS⟩:∃ x,x=tG c (Int.toNat 1):=⟨_,rfl⟩
   rw [← uS,show Int.toNat (n:Int) - Int.toNat 1=m from hm.symm,show eM 0 (Int.toNat 1)=1 from rfl]
   have pZ:dm L=false:=hz.symm
   have h0:=qY (L:=L) (k:=0) (by omega)
   have so:=aT _ (oe (L:=L) (k:=0) (by omega))
   have po:=jU (L:=L) (k:=0) (by omega)
   obtain ⟨o,ho⟩:∃ o,o=iM L 0:=⟨_,rfl⟩
   rw [← ho] at h0 so po
   rw [← hg] at h0
   have qo:=PV.cN so (by decide)
   refine .inl ⟨fun mm tz hz=>∃ (i:Nat),bu (some (.slice (some ⟨0,1,none⟩) m c1)::some (.func (.func 73) #[] #[.pointer (some ⟨1,0,none⟩)])::aB 5 (some (.int .i64 m)::some (.int .i64 i)::aB 10 [])) tz∧hz=[some (.flat false n 6 g),some (.aL true 1 [[.slice (some ⟨0,0,none⟩) n c]]),some (.aL true 1 [[.int .i64 0]])]∧m - i=mm∧(i≤m∧wS (aS L) i),.inr ⟨[0,1,2],[0,1,7,8],?_⟩,?_⟩
   ·conv=>whnf
    intro _
    conv=>whnf
    refine ⟨_,0,(.aa (.aa (.sk 5 (.aa (.aa (.sk 10 .nil rfl))) rfl))),rfl,rfl,?_⟩
    exact ⟨Nat.zero_le _,Kb _⟩
   rintro mm aQ _ ⟨i,aq,rfl,rfl,⟨hi,hU⟩⟩
   obtain ⟨az,rfl⟩:∃ az:Nat→Value,aQ=.slice (some ⟨0,1,none⟩) m c1::.func (.func 73) #[] #[.pointer (some ⟨1,0,none⟩)]::zs az 2 5 (.int .i64 m::.int .i64 i::zs az 9 10 []):=bI aq
   clear aq
   conv=>whnf
   refine aF (fun h3=>?_) (fun h3=>?_)
   ·have h3:i < m:=by
     have:=of_decide_eq_true h3
     omega
    have e7:IntKind.i64.wrap ((i:Int)+1)=((i+1:Nat):Int):=by rw [aw (by omega) (by omega)]; rfl
    have ra:=qY (L:=L) (k:=i+1) (by omega)
    have sa:=aT _ (oe (L:=L) (k:=i+1) (by omega))
    have pa:=jU (L:=L) (k:=i+1) (by omega)
    obtain ⟨a,ha⟩:∃ o,o=iM L (i+1):=⟨_,rfl⟩
    rw [← ha] at ra sa pa
    rw [← hg] at ra
    have qa:=PV.cN sa (by decide)
    conv=>whnf
    refine ⟨⟨by omega,by omega⟩,?_⟩
    simp only [toNat_cast,ar,Nat.zero_add,Nat.add_comm 1 i]
    conv=>whnf
    refine ⟨by show i+1 < n; omega,?_⟩
    conv=>whnf
    rw [ra]
    conv=>whnf
    refine .inl ⟨4,[[],[],[1],[1,2],[0,1,2,3],[0,1,2,3,4],[0,1,2,3,4,5]],by kernel_rfl,?_⟩
    conv=>whnf
    have y8:g (Int.toNat 0)=o.cells:=h0
    refine ⟨⟨by omega,by omega⟩,?_⟩
    simp only [toNat_cast,ar,Nat.zero_add]
    conv=>whnf
    refine ⟨by show 0 < n; omega,?_⟩
    conv=>whnf
    rw [y8]
    conv=>whnf
    obtain ⟨z,ez,pz⟩:=c9 (fm a.p o.p)
    refine ⟨(a,o),rfl,⟨PV.aR sa (by decide),PV.aR so (by decide)⟩,?_⟩
    rw [show ox.val (a,o)=.int .i64 z from ez]
    conv=>whnf
    rw [pa,po] at pz
    by_cases h4:iz (aC (aS L) 0) (aC (aS L) (i+1))
    ·have:=NG.1 h4
     rw [show decide (z≤0)=false from decide_eq_false (by omega)]
     conv=>whnf
     rw [e7]
     refine .inr ⟨[0,1,2],[0,1,7,8],?_⟩
     conv=>whnf
     intro _
     conv=>whnf
     refine ⟨_,?_,i+1,(.aa (.aa (.sk 5 (.aa (.aa (.sk 10 .nil rfl))) rfl))),rfl,rfl,?_⟩
     ·omega
     ·exact ⟨by omega,KQ hU h4⟩
    ·have:¬ 0 < fm (aC (aS L) (i+1)) (aC (aS L) 0):=fun e=>h4 (NG.2 e)
     rw [show decide (z≤0)=true from decide_eq_true (by omega)]
     conv=>whnf
     exact fin 8 (M0 (by omega) pZ fun e=>h4 (e (i+1) (by omega) (by rw [c8]; omega)))
   ·have h3:i=m:=by
     have:=of_decide_eq_false h3
     omega
    have nH:=Ly hU (by rw [c8]; omega)
    have xx:3≤(aS L).length:=by rw [c8]; omega
    conv=>whnf
    intro yl nu fn tm df
    conv=>whnf
    skip
    refine .inl ⟨fun mm tz hz=>∃ (j:Nat),bu (some (.func (.yield yl) #[] #[])::some (.pointer (some ⟨3,0,none⟩))::aB 3 (some (.slice (some ⟨0,0,none⟩) n c)::some (.int .i64 n)::some (.int .i64 j)::aB 17 [])) tz∧hz=[some (.flat false n 6 g),some (.aL true 1 [[.slice (some ⟨0,0,none⟩) n c]]),some (.aL true 1 [[.int .i64 0]]),some (.aL true 1 [[.slice (some ⟨0,0,none⟩) n c]]),some (.bZ (pT Tryz.f23 fn tm df))]∧n - j=mm∧(j≤n∧∀ k,k < j→¬ yn (aS L) k),.inr ⟨[0,1,2,3,4],[0,1,5,6,7],?_⟩,?_⟩
    ·conv=>whnf
     intro _
     conv=>whnf
     refine ⟨_,0,(.aa (.aa (.sk 3 (.aa (.aa (.aa (.sk 17 .nil rfl)))) rfl))),rfl,rfl,?_⟩
     exact ⟨Nat.zero_le _,fun k hk=>absurd hk (Nat.not_lt_zero k)⟩
    rintro mm aQ _ ⟨j,aq,rfl,rfl,⟨hj,hB⟩⟩
    obtain ⟨az,rfl⟩:∃ az:Nat→Value,aQ=.func (.yield yl) #[] #[]::.pointer (some ⟨3,0,none⟩)::zs az 2 3 (.slice (some ⟨0,0,none⟩) n c::.int .i64 n::.int .i64 j::zs az 8 17 []):=bI aq
    clear aq
    conv=>whnf
    refine aF (fun h3=>?_) (fun h3=>?_)
    ·have h3:j < n:=by
      have:=of_decide_eq_true h3
      omega
     have e7:IntKind.i64.wrap ((j:Int)+1)=((j+1:Nat):Int):=by rw [aw (by omega) (by omega)]; rfl
     obtain ⟨a,b,ra,rb,⟨ma,mb⟩,_,b6,ha,hb⟩:=o6 hn h3
     have sa:=aT a ma
     have sb:=aT b mb
     have cj:=jT h3 (by omega)
     obtain ⟨u,hu⟩:∃ u,u=ba n j:=⟨_,rfl⟩
     rw [← hu] at cj b6 rb
     rw [← hg] at ra rb
     conv=>whnf
     refine ⟨⟨by omega,by omega⟩,?_⟩
     simp only [toNat_cast,ar,Nat.zero_add]
     conv=>whnf
     refine ⟨by show j < n; omega,?_⟩
     conv=>whnf
     rw [ra]
     conv=>whnf
     refine .inl ⟨10,[[],[],[],[],[3],[],[5],[3,4,5,6],[2,3,4,5,6,7],[2,3,4,5,6,7,8],[0,1,2,3,4,5,6,7,8,9],[0,1,2,3,4,5,6,7,8,9,10]],by kernel_rfl,?_⟩
     conv=>whnf
     rw [show decide ((n:Int)≠0)=true from decide_eq_true (by omega)]
     conv=>whnf
     rw [cj]
     refine ⟨⟨by omega,by omega⟩,?_⟩
     simp only [toNat_cast,ar,Nat.zero_add]
     conv=>whnf
     refine ⟨by show u < n; omega,?_⟩
     conv=>whnf
     rw [rb]
     conv=>whnf
     refine ⟨rfl,?_⟩
     conv=>whnf
     refine ⟨rfl,?_⟩
     conv=>whnf
     refine ⟨rfl,?_⟩
     conv=>whnf
     refine .inl ⟨fun mm tz hz=>∃ (i:Nat),bu (some (.slice (some ⟨0,0,none⟩) n c)::some (.func (.func 75) #[] #[.pointer (some ⟨16,0,none⟩),.pointer (some ⟨17,0,none⟩)])::aB 5 (some (.int .i64 n)::some (.int .i64 i)::aB 10 [])) tz∧hz=[some (.flat false n 6 g),some (.aL true 1 [[.slice (some ⟨0,0,none⟩) n c]]),some (.aL true 1 [[.int .i64 0]]),some (.aL true 1 [[.slice (some ⟨0,0,none⟩) n c]]),some (.bZ { pT Tryz.f23 fn tm df with state:=.busy }),some (.aL true 6 [a.cells]),none,none,none,none,none,none,none,none,none,none,some (.aL true 6 [a.cells]),some (.aL true 6 [b.cells])]∧n - i=mm∧(i≤n∧np (rY a b) L i),.inr ⟨[0,1,2,3,4,5,6,7,8,9,10,11,12,13,14,15,16,17],[0,1,7,8],?_⟩,?_⟩
     ·conv=>whnf
      intro _
      conv=>whnf
      refine ⟨_,0,(.aa (.aa (.sk 5 (.aa (.aa (.sk 10 .nil rfl))) rfl))),rfl,rfl,?_⟩
      exact ⟨Nat.zero_le _,DC _ _⟩
     rintro mm aQ _ ⟨i,aq,rfl,rfl,⟨hi,hU⟩⟩
     obtain ⟨az,rfl⟩:∃ az:Nat→Value,aQ=.slice (some ⟨0,0,none⟩) n c::.func (.func 75) #[] #[.pointer (some ⟨16,0,none⟩),.pointer (some ⟨17,0,none⟩)]::zs az 2 5 (.int .i64 n::.int .i64 i::zs az 9 10 []):=bI aq
     clear aq
     conv=>whnf
     refine aF (fun h4=>?_) (fun h4=>?_)
     ·have h4:i < n:=by
       have:=of_decide_eq_true h4
       omega
      have e8:IntKind.i64.wrap ((i:Int)+1)=((i+1:Nat):Int):=by rw [aw (by omega) (by omega)]; rfl
      obtain ⟨p,kG,uT,aX⟩:=qV (l:=L) (i:=i) (by omega)
      rw [← hg] at aX
      conv=>whnf
      refine ⟨⟨by omega,by omega⟩,?_⟩
      simp only [toNat_cast,ar,Nat.zero_add]
      conv=>whnf
      refine ⟨by show i < n; omega,?_⟩
      conv=>whnf
      rw [aX]
      conv=>whnf
      obtain ⟨z,hz⟩:∃ z,z=rY a b p:=⟨_,rfl⟩
      refine ⟨(a,b,p),[16,17],rfl,⟨sa,sb,aT p uT⟩,?_⟩
      rw [show rM.ai (a,b,p)=[.flat false 1 6 (fun _=>a.cells),.flat false 1 6 (fun _=>b.cells)] from rfl,show rM.val (a,b,p)=.bool z from by rw [hz]; rfl,show rM.new (a,b,p)=none from rfl]
      conv=>whnf
      refine ⟨MW a,MW b,?_⟩
      conv=>whnf
      refine ⟨_,rfl,?_⟩
      conv=>whnf
      cases z with
      | false =>
       conv=>whnf
       rw [e8]
       refine .inr ⟨[0,1,2,3,4,5,6,7,8,9,10,11,12,13,14,15,16,17],[0,1,7,8],?_⟩
       conv=>whnf
       intro _
       conv=>whnf
       refine ⟨_,?_,i+1,(.aa (.aa (.sk 5 (.aa (.aa (.sk 10 .nil rfl))) rfl))),rfl,rfl,?_⟩
       ·omega
       ·exact ⟨by omega,sS hU kG hz.symm⟩
      | true =>
       conv=>whnf
       refine ⟨rfl,?_⟩
       conv=>whnf
       exact fin 15 (FY (by omega) pZ nH fun e=>(Mf xx nH).1 e j (by rw [c8]; omega) (Wj pZ (by omega) ha (hb.trans (by rw [hn])) uT hz.symm))
     ·have h4:i=n:=by
       have:=of_decide_eq_false h4
       omega
      subst h4
      conv=>whnf
      refine ⟨rfl,?_⟩
      conv=>whnf
      rw [e7]
      refine .inr ⟨[0,1,2,3,4],[0,1,5,6,7],?_⟩
      conv=>whnf
      intro _
      conv=>whnf
      refine ⟨_,?_,j+1,(.aa (.aa (.sk 3 (.aa (.aa (.aa (.sk 17 .nil rfl)))) rfl))),rfl,rfl,?_⟩
      ·omega
      ·refine ⟨by omega,fun k hk=>?_⟩
       rcases Nat.lt_or_eq_of_le (Nat.le_of_lt_succ hk) with e | e
       ·exact hB k e
       ·subst e
        exact Y5 (by omega) ha (hb.trans (by rw [hn])) (D3 (by rw [← hn]; exact hU))
    ·have h3:j=n:=by
      have:=of_decide_eq_false h3
      omega
     subst h3
     conv=>whnf
     exact fin 0 (Mi (by omega) pZ nH ((Mf xx nH).2 fun k hk=>hB k (by rw [c8] at hk; omega)))
end Go.Proofs.YtlapbjdhekcipaaGreat
/- Contracts of convex: points inside. -/
set_option maxRecDepth 20000
set_option maxHeartbeats 4000000
namespace Go.Proofs.YtlapbjdhekcipaaGreat
open Go Go.Ae
def Ew1:Env:=En [(23,.q aV),(56,.q dp),(67,.q gg)]
theorem abR:EnvOk Tryz.prog Ew1:=bF ⟨xX,DD,Yk,trivial⟩ trivial
theorem T5:c4 Tryz.prog 19 dB:=by
 refine dC abR aK Tryz.func19 (enters_of Tryz.func19 (by kernel_rfl) rfl) ?_ ?_ ?_
 ·intro ⟨i,_⟩ b hb
  cases i with
  | none=>simp [dB,PL.ai] at hb
  | some i=>simp [dB,PL.ai] at hb; rw [hb]; rfl
 ·intro i b hb; simp [dB] at hb
 intro ⟨i,p⟩ hp
 have hp:(i.list.length≤1099511627776∧∀ v∈i.list,v.sz 2048)∧p.sz 2048:=hp
 obtain ⟨⟨hlen,aT⟩,sp⟩:=hp
 cases i with
 | none =>
  conv=>whnf
  refine ⟨none,[],rfl,⟨Nat.zero_le _,fun v hv=>nomatch hv⟩,?_⟩
  rw [show aV.ai none=[] from rfl,show aV.val none=.int .i64 4 from rfl,show aV.new none=none from rfl]
  conv=>whnf
  refine ⟨_,rfl,?_⟩
  conv=>whnf
  exact ⟨_,rfl,.refl _⟩
 | some i =>
  obtain ⟨L,c⟩:=i
  have hlen:L.length≤1099511627776:=hlen
  have aT:∀ v∈L,PV.sz 2048 v:=aT
  obtain ⟨n,hn⟩:∃ n,n=L.length:=⟨_,rfl⟩
  obtain ⟨g,hg⟩:∃ g,g=cO L:=⟨_,rfl⟩
  have fin:∀ z e:Int,l8 L p=(z,e)→∃ v',cL (List.range 1) 3 (dB.val (some (L,c),p))=some v'∧eZ (.tuple ⟨[.int .i64 z,.int .i64 e]⟩) v':=fun z e h=>⟨_,by
   rw [show dB.val (some (L,c),p)=ZE.v (l8 L p) from rfl,h]; rfl,.refl _⟩
  rw [show dB.ai (some (L,c),p)=[.flat false n 6 g] from by rw [hn,hg]; rfl,show dB.args (some (L,c),p)=[.slice (some ⟨0,0,none⟩) n c,p.v] from by rw [hn]; rfl]
  rw [← hn] at hlen
  conv=>whnf
  refine ⟨some (L,c),[0],by rw [show aV.args (some (L,c))=[.slice (some ⟨0,0,none⟩) n c] from by rw [hn]; rfl]; rfl,⟨by show L.length≤_; omega,aT⟩,?_⟩
  rw [show aV.ai (some (L,c))=[.flat false n 6 g] from by rw [hn,hg]; rfl,show aV.val (some (L,c))=.int .i64 (bw L) from rfl,show aV.new (some (L,c))=none from rfl]
  conv=>whnf
  refine ⟨aO.aY (fun h=>h) (fun r hr=>by rw [hg]; rfl),?_⟩
  conv=>whnf
  refine ⟨_,rfl,?_⟩
  obtain ⟨e,he⟩:∃ z,z=bw L:=⟨_,rfl⟩
  rw [← he]
  conv=>whnf
  by_cases h1:e=0
  ·rw [show (e != 0)=false from by simp [h1]]
   conv=>whnf
   refine ⟨some ([p],1),[2],rfl,⟨by show 1≤1099511627776; decide,(fun v hv=>by rw [List.mem_singleton.1 hv]; exact sp)⟩,?_⟩
   rw [show dp.ai (some ([p],1))=[.flat false 1 6 (cO [p])] from rfl,show dp.val (some ([p],1))=.bool (!dm [p]) from rfl,show dp.new (some ([p],1))=none from rfl]
   conv=>whnf
   refine ⟨x5 [p],?_⟩
   conv=>whnf
   refine ⟨_,rfl,?_⟩
   obtain ⟨r,hr⟩:∃ z,z=dm [p]:=⟨_,rfl⟩
   rw [← hr]
   conv=>whnf
   cases r with
   | true =>
    conv=>whnf
    exact fin 0 1 (BN fun h=>ac1 hr h.2)
   | false =>
    conv=>whnf
    obtain ⟨w,hw⟩:∃ w,w=rL (aS L) p.p:=⟨_,rfl⟩
    refine ⟨(some (L,c),p),[0],by rw [show gg.args (some (L,c),p)=[.slice (some ⟨0,0,none⟩) n c,p.v] from by rw [hn]; rfl]; rfl,⟨⟨by show L.length≤_; omega,aT⟩,sp⟩,?_⟩
    rw [show gg.ai (some (L,c),p)=[.flat false n 6 g] from by rw [hn,hg]; rfl,show gg.val (some (L,c),p)=.int .i64 w from by rw [hw]; rfl,show gg.new (some (L,c),p)=none from rfl]
    conv=>whnf
    refine ⟨aO.aY (fun h=>h) (fun r hr=>by rw [hg]; rfl),?_⟩
    conv=>whnf
    refine ⟨_,rfl,?_⟩
    conv=>whnf
    exact fin w 0 (by rw [hw]; exact M1 ⟨by rw [← he]; exact h1,abl hr⟩)
  ·rw [show (e != 0)=true from by simp [h1]]
   conv=>whnf
   exact fin 0 1 (BN fun h=>h1 (by rw [he]; exact h.1))
end Go.Proofs.YtlapbjdhekcipaaGreat
/- Contracts of convex: the points that a ring keeps. -/
set_option maxRecDepth 20000
set_option maxHeartbeats 4000000
namespace Go.Proofs.YtlapbjdhekcipaaGreat
open Go Go.Ae
theorem aaB:aZ Tryz.prog 110 uy:=by
 refine bf pM aK Tryz.func110 (enters_of Tryz.func110 (by kernel_rfl) rfl) (fun _=>rfl) (fun _=>rfl) ?_
 intro ⟨a,b,p⟩ hp
 conv=>whnf
 rw [CC b p]
 by_cases h:b=p
 ·rw [decide_eq_true h,show uy.val (a,b,p)=.bool false from congrArg Value.bool (decide_eq_false fun e=>e h)]; rfl
 ·rw [decide_eq_false h,show uy.val (a,b,p)=.bool true from congrArg Value.bool (decide_eq_true h)]; rfl
theorem aaC:aZ Tryz.prog 111 uz:=by
 refine bf pM aK Tryz.func111 (enters_of Tryz.func111 (by kernel_rfl) rfl) (fun _=>rfl) (fun _=>rfl) ?_
 intro ⟨a,b,p⟩ hp
 have hp:a.sz 1048576∧b.sz 1048576∧p.sz 1048576:=hp
 obtain ⟨sa,sb,sp⟩:=hp
 conv=>whnf
 obtain ⟨z,ez,pz⟩:=c9 (aU (au a.p b.p p.p) 0)
 refine ⟨(a,b,p),rfl,⟨PV.aR sa (by decide),PV.aR sb (by decide),PV.aR sp (by decide)⟩,?_⟩
 rw [show kK.val (a,b,p)=.int .i64 z from ez]
 conv=>whnf
 by_cases h:z=0
 ·rw [show uz.val (a,b,p)=.bool false from congrArg Value.bool (decide_eq_false fun e=>e (by rw [← pz]; exact h)),show (z != 0)=false from by simp [h]]
 ·rw [show uz.val (a,b,p)=.bool true from congrArg Value.bool (decide_eq_true (by rw [← pz]; exact h)),show (z != 0)=true from by simp [h]]
def Ex1:Env:=En [(110,.p uy),(111,.p uz)]
theorem abS:EnvOk Tryz.prog Ex1:=bF ⟨aaB,aaC,trivial⟩ trivial
theorem Yl:c4 Tryz.prog 109 (jV 110 111):=by
 refine dC abS aK Tryz.func109 (enters_of Tryz.func109 (by kernel_rfl) rfl) ?_ ?_ ?_
 ·intro ⟨i,b⟩ B hb
  cases i with
  | none=>simp [jV,QL.ai] at hb
  | some i=>simp [jV,QL.ai] at hb; rw [hb]; rfl
 ·intro i B hb
  exact A5 hb
 intro ⟨i,b⟩ hp
 have hp:i.list.length≤549755813888∧∀ v∈i.list,Q2.sz 262144 v:=hp
 obtain ⟨hlen,aT⟩:=hp
 cases i with
 | none =>
  cases b <;> (conv=>whnf) <;> refine .inr ⟨1,?_⟩ <;> (conv=>whnf) <;> exact ⟨_,rfl,.refl _⟩
 | some i =>
  obtain ⟨L,c⟩:=i
  have hlen:L.length≤549755813888:=hlen
  have aT:∀ v∈L,Q2.sz 262144 v:=aT
  obtain ⟨n,hn⟩:∃ n,n=L.length:=⟨_,rfl⟩
  obtain ⟨g,hg⟩:∃ g,g=bT L:=⟨_,rfl⟩
  cases b with
  | false =>
   rw [show (jV 110 111).ai (some (L,c),false)=[.flat false n 6 g] from by rw [hn,hg]; rfl,show (jV 110 111).args (some (L,c),false)=[.slice (some ⟨0,0,none⟩) n c,.func (.func 110) #[] #[]] from by rw [hn]; rfl]
   rw [← hn] at hlen
   conv=>whnf
   refine .inl ⟨fun mm tz hz=>∃ (j:Nat) (O:List Q2) (q:Nat) (F:Nat→List Value),bu (some (.slice (some ⟨0,0,none⟩) n c)::some (.func (.func 110) #[] #[])::aB 3 (some (eD 1 q)::aB 2 (some (.slice (some ⟨0,0,none⟩) n c)::some (.int .i64 n)::some (.int .i64 j)::aB 32 []))) tz∧hz=[some (.flat false n 6 g)]++yU 6 F q∧n - j=mm∧((j≤n∧q=O.length)∧O=pL L j∧(∀ r,r < q→F r=bT O r)),.inr ⟨[0],[0,1,5,8,9,10],?_⟩,?_⟩
   ·conv=>whnf
    intro _
    conv=>whnf
    refine ⟨_,0,[],0,fun _=>[],(.aa (.aa (.sk 3 (.aa (.sk 2 (.aa (.aa (.aa (.sk 32 .nil rfl)))) rfl)) rfl))),rfl,rfl,?_⟩
    exact ⟨⟨Nat.zero_le _,rfl⟩,rfl,fun r hr=>absurd hr (Nat.not_lt_zero r)⟩
   rintro mm aQ _ ⟨j,O,q,F,aq,rfl,rfl,⟨⟨hj,hq⟩,hO,hF⟩⟩
   obtain ⟨az,rfl⟩:∃ az:Nat→Value,aQ=.slice (some ⟨0,0,none⟩) n c::.func (.func 110) #[] #[]::zs az 2 3 (eD 1 q::zs az 6 2 (.slice (some ⟨0,0,none⟩) n c::.int .i64 n::.int .i64 j::zs az 11 32 [])):=bI aq
   clear aq
   have sL:=Ve L j
   rw [← hO,← hq] at sL
   cases q with
   | zero =>
    obtain rfl:O=[]:=List.eq_nil_of_length_eq_zero hq.symm
    conv=>whnf
    refine aF (fun h1=>?_) (fun h1=>?_)
    ·have h1:j < n:=by
      have:=of_decide_eq_true h1
      omega
     have e7:IntKind.i64.wrap ((j:Int)+1)=((j+1:Nat):Int):=by rw [aw (by omega) (by omega)]; rfl
     obtain ⟨a,ca,ra,pa,sa,qa⟩:=gV (L:=L) (k:=ef n j) (by rw [← hn]; exact jQ h1) aT
     obtain ⟨b,cb,rb,pb,sb,qb⟩:=gV (L:=L) (k:=j) (by omega) aT
     obtain ⟨d,cd,rd,pd,sd,qd⟩:=gV (L:=L) (k:=ba n j) (by rw [← hn]; exact cR h1) aT
     rw [← hg] at ra rb rd
     have lB:=Cd h1 (by omega)
     have cj:=jT h1 (by omega)
     have kG:ef n j < n:=jQ h1
     have b6:=cR h1
     obtain ⟨u,hu⟩:∃ u,u=ef n j:=⟨_,rfl⟩
     obtain ⟨w,hw⟩:∃ u,u=ba n j:=⟨_,rfl⟩
     rw [← hu] at lB kG ra
     rw [← hw] at cj b6 rd
     conv=>whnf
     refine ⟨⟨by omega,by omega⟩,?_⟩
     simp only [toNat_cast,ar,Nat.zero_add]
     conv=>whnf
     refine ⟨by show j < n; omega,?_⟩
     conv=>whnf
     rw [rb]
     conv=>whnf
     refine .inl ⟨21,[[],[],[],[],[3],[2,3,4],[2,3,4,5],[],[7],[2,3,4,5,6,7,8],[1,2,3,4,5,6,7,8,9],[1,2,3,4,5,6,7,8,9,10],[],[],[],[14],[],[16],[14,15,16,17],[13,14,15,16,17,18],[13,14,15,16,17,18,19],[0,1,2,3,4,5,6,7,8,9,10,11,12,13,14,15,16,17,18,19,20]],by kernel_rfl,?_⟩
     conv=>whnf
     rw [show decide ((n:Int)≠0)=true from decide_eq_true (by omega)]
     conv=>whnf
     rw [lB]
     refine ⟨⟨by omega,by omega⟩,?_⟩
     simp only [toNat_cast,ar,Nat.zero_add]
     conv=>whnf
     refine ⟨by show u < n; omega,?_⟩
     conv=>whnf
     rw [ra]
     conv=>whnf
     rw [show decide ((n:Int)≠0)=true from decide_eq_true (by omega)]
     conv=>whnf
     rw [cj]
     refine ⟨⟨by omega,by omega⟩,?_⟩
     simp only [toNat_cast,ar,Nat.zero_add]
     conv=>whnf
     refine ⟨by show w < n; omega,?_⟩
     conv=>whnf
     rw [rd]
     conv=>whnf
     obtain ⟨z,hz,an⟩:=Mj hn h1 pa cb cd
     rw [← hO] at an
     refine ⟨(a,b,d),rfl,⟨PV.aR sa (by decide),PV.aR sb (by decide),PV.aR sd (by decide)⟩,?_⟩
     rw [show uy.val (a,b,d)=.bool z from hz]
     conv=>whnf
     cases z with
     | false =>
      conv=>whnf
      rw [e7]
      refine .inr ⟨[0],[0,1,5,8,9,10],?_⟩
      conv=>whnf
      intro _
      conv=>whnf
      refine ⟨_,?_,j+1,[],0,F,(.aa (.aa (.sk 3 (.aa (.sk 2 (.aa (.aa (.aa (.sk 32 .nil rfl)))) rfl)) rfl))),rfl,rfl,?_⟩
      ·omega
      ·exact ⟨⟨by omega,rfl⟩,by rw [an]; rfl,hF⟩
     | true =>
      conv=>whnf
      refine ⟨by show (0+1)*80≤140737488355328; decide,?_⟩
      conv=>whnf
      rw [e7]
      refine .inr ⟨[0,24],[0,1,5,8,9,10],?_⟩
      conv=>whnf
      intro _
      conv=>whnf
      refine ⟨_,?_,j+1,[aC L j],1,_,(.aa (.aa (.sk 3 (.aa (.sk 2 (.aa (.aa (.aa (.sk 32 .nil rfl)))) rfl)) rfl))),rfl,rfl,?_⟩
      ·omega
      ·exact ⟨⟨by omega,rfl⟩,by rw [an]; rfl,vV cb rfl⟩
    ·have h1:j=n:=by
      have:=of_decide_eq_false h1
      omega
     subst h1
     have hE:gm L=[]:=by rw [hO,hn]; exact (Lz L).symm
     conv=>whnf
     rw [show (jV 110 111).new (some (L,c),false)=none from by show cT (gm L)=none; rw [hE]; rfl]
     exact ⟨.slice none 0 0,by rw [show (jV 110 111).val (some (L,c),false)=.slice none 0 0 from by show eD _ (gm L).length=_; rw [hE]; rfl]; rfl,.refl _⟩
   | succ q =>
    conv=>whnf
    refine aF (fun h1=>?_) (fun h1=>?_)
    ·have h1:j < n:=by
      have:=of_decide_eq_true h1
      omega
     have e7:IntKind.i64.wrap ((j:Int)+1)=((j+1:Nat):Int):=by rw [aw (by omega) (by omega)]; rfl
     obtain ⟨a,ca,ra,pa,sa,qa⟩:=gV (L:=L) (k:=ef n j) (by rw [← hn]; exact jQ h1) aT
     obtain ⟨b,cb,rb,pb,sb,qb⟩:=gV (L:=L) (k:=j) (by omega) aT
     obtain ⟨d,cd,rd,pd,sd,qd⟩:=gV (L:=L) (k:=ba n j) (by rw [← hn]; exact cR h1) aT
     rw [← hg] at ra rb rd
     have lB:=Cd h1 (by omega)
     have cj:=jT h1 (by omega)
     have kG:ef n j < n:=jQ h1
     have b6:=cR h1
     obtain ⟨u,hu⟩:∃ u,u=ef n j:=⟨_,rfl⟩
     obtain ⟨w,hw⟩:∃ u,u=ba n j:=⟨_,rfl⟩
     rw [← hu] at lB kG ra
     rw [← hw] at cj b6 rd
     conv=>whnf
     refine ⟨⟨by omega,by omega⟩,?_⟩
     simp only [toNat_cast,ar,Nat.zero_add]
     conv=>whnf
     refine ⟨by show j < n; omega,?_⟩
     conv=>whnf
     rw [rb]
     conv=>whnf
     refine .inl ⟨21,[[],[],[],[],[3],[2,3,4],[2,3,4,5],[],[7],[2,3,4,5,6,7,8],[1,2,3,4,5,6,7,8,9],[1,2,3,4,5,6,7,8,9,10],[],[],[],[14],[],[16],[14,15,16,17],[13,14,15,16,17,18],[13,14,15,16,17,18,19],[0,1,2,3,4,5,6,7,8,9,10,11,12,13,14,15,16,17,18,19,20]],by kernel_rfl,?_⟩
     conv=>whnf
     rw [show decide ((n:Int)≠0)=true from decide_eq_true (by omega)]
     conv=>whnf
     rw [lB]
     refine ⟨⟨by omega,by omega⟩,?_⟩
     simp only [toNat_cast,ar,Nat.zero_add]
     conv=>whnf
     refine ⟨by show u < n; omega,?_⟩
     conv=>whnf
     rw [ra]
     conv=>whnf
     rw [show decide ((n:Int)≠0)=true from decide_eq_true (by omega)]
     conv=>whnf
     rw [cj]
     refine ⟨⟨by omega,by omega⟩,?_⟩
     simp only [toNat_cast,ar,Nat.zero_add]
     conv=>whnf
     refine ⟨by show w < n; omega,?_⟩
     conv=>whnf
     rw [rd]
     conv=>whnf
     obtain ⟨z,hz,an⟩:=Mj hn h1 pa cb cd
     rw [← hO] at an
     refine ⟨(a,b,d),rfl,⟨PV.aR sa (by decide),PV.aR sb (by decide),PV.aR sd (by decide)⟩,?_⟩
     rw [show uy.val (a,b,d)=.bool z from hz]
     conv=>whnf
     cases z with
     | false =>
      conv=>whnf
      rw [e7]
      refine .inr ⟨[0,1],[0,1,5,8,9,10],?_⟩
      conv=>whnf
      intro _
      conv=>whnf
      refine ⟨_,?_,j+1,O,q+1,F,(.aa (.aa (.sk 3 (.aa (.sk 2 (.aa (.aa (.aa (.sk 32 .nil rfl)))) rfl)) rfl))),rfl,rfl,?_⟩
      ·omega
      ·exact ⟨⟨by omega,hq⟩,by rw [an]; simp,hF⟩
     | true =>
      conv=>whnf
      refine ⟨⟨by show 1≤1; decide,rfl,by show (q+1+1)*80≤140737488355328; omega⟩,?_⟩
      conv=>whnf
      refine ⟨[0,1,8,9,10],?_⟩
      conv=>whnf
      intro _
      conv=>whnf
      rw [e7]
      refine .inr ⟨[0,1],[0,1,5,8,9,10],?_⟩
      conv=>whnf
      intro _
      conv=>whnf
      refine ⟨_,?_,j+1,O++[aC L j],q+1+1,_,(.aa (.aa (.sk 3 (.aa (.sk 2 (.aa (.aa (.aa (.sk 32 .nil rfl)))) rfl)) rfl))),rfl,rfl,?_⟩
      ·omega
      ·exact ⟨⟨by omega,by rw [List.length_append,← hq]; rfl⟩,by rw [an]; simp,rf hq hF cb rfl⟩
    ·have h1:j=n:=by
      have:=of_decide_eq_false h1
      omega
     subst h1
     have hE:gm L=O:=by rw [hO,hn]; exact (Lz L).symm
     conv=>whnf
     rw [show (jV 110 111).new (some (L,c),false)=some (.flat true (q+1) 6 (bT O)) from by show cT (gm L)=_; rw [hE]; unfold cT; rw [← hq],show (jV 110 111).val (some (L,c),false)=.slice (some ⟨1,0,none⟩) (q+1) aJ from by show eD _ (gm L).length=_; rw [hE,← hq]; rfl]
     refine ⟨1,?_⟩
     conv=>whnf
     exact ⟨⟨rfl,aO.qW (fun h=>h) hF (fun r hr=>rfl)⟩,_,rfl,.refl _⟩
  | true =>
   rw [show (jV 110 111).ai (some (L,c),true)=[.flat false n 6 g] from by rw [hn,hg]; rfl,show (jV 110 111).args (some (L,c),true)=[.slice (some ⟨0,0,none⟩) n c,.func (.func 111) #[] #[]] from by rw [hn]; rfl]
   rw [← hn] at hlen
   conv=>whnf
   refine .inl ⟨fun mm tz hz=>∃ (j:Nat) (O:List Q2) (q:Nat) (F:Nat→List Value),bu (some (.slice (some ⟨0,0,none⟩) n c)::some (.func (.func 111) #[] #[])::aB 3 (some (eD 1 q)::aB 2 (some (.slice (some ⟨0,0,none⟩) n c)::some (.int .i64 n)::some (.int .i64 j)::aB 32 []))) tz∧hz=[some (.flat false n 6 g)]++yU 6 F q∧n - j=mm∧((j≤n∧q=O.length)∧O=rO L j∧(∀ r,r < q→F r=bT O r)),.inr ⟨[0],[0,1,5,8,9,10],?_⟩,?_⟩
   ·conv=>whnf
    intro _
    conv=>whnf
    refine ⟨_,0,[],0,fun _=>[],(.aa (.aa (.sk 3 (.aa (.sk 2 (.aa (.aa (.aa (.sk 32 .nil rfl)))) rfl)) rfl))),rfl,rfl,?_⟩
    exact ⟨⟨Nat.zero_le _,rfl⟩,rfl,fun r hr=>absurd hr (Nat.not_lt_zero r)⟩
   rintro mm aQ _ ⟨j,O,q,F,aq,rfl,rfl,⟨⟨hj,hq⟩,hO,hF⟩⟩
   obtain ⟨az,rfl⟩:∃ az:Nat→Value,aQ=.slice (some ⟨0,0,none⟩) n c::.func (.func 111) #[] #[]::zs az 2 3 (eD 1 q::zs az 6 2 (.slice (some ⟨0,0,none⟩) n c::.int .i64 n::.int .i64 j::zs az 11 32 [])):=bI aq
   clear aq
   have sL:=Vf L j
   rw [← hO,← hq] at sL
   cases q with
   | zero =>
    obtain rfl:O=[]:=List.eq_nil_of_length_eq_zero hq.symm
    conv=>whnf
    refine aF (fun h1=>?_) (fun h1=>?_)
    ·have h1:j < n:=by
      have:=of_decide_eq_true h1
      omega
     have e7:IntKind.i64.wrap ((j:Int)+1)=((j+1:Nat):Int):=by rw [aw (by omega) (by omega)]; rfl
     obtain ⟨a,ca,ra,pa,sa,qa⟩:=gV (L:=L) (k:=ef n j) (by rw [← hn]; exact jQ h1) aT
     obtain ⟨b,cb,rb,pb,sb,qb⟩:=gV (L:=L) (k:=j) (by omega) aT
     obtain ⟨d,cd,rd,pd,sd,qd⟩:=gV (L:=L) (k:=ba n j) (by rw [← hn]; exact cR h1) aT
     rw [← hg] at ra rb rd
     have lB:=Cd h1 (by omega)
     have cj:=jT h1 (by omega)
     have kG:ef n j < n:=jQ h1
     have b6:=cR h1
     obtain ⟨u,hu⟩:∃ u,u=ef n j:=⟨_,rfl⟩
     obtain ⟨w,hw⟩:∃ u,u=ba n j:=⟨_,rfl⟩
     rw [← hu] at lB kG ra
     rw [← hw] at cj b6 rd
     conv=>whnf
     refine ⟨⟨by omega,by omega⟩,?_⟩
     simp only [toNat_cast,ar,Nat.zero_add]
     conv=>whnf
     refine ⟨by show j < n; omega,?_⟩
     conv=>whnf
     rw [rb]
     conv=>whnf
     refine .inl ⟨21,[[],[],[],[],[3],[2,3,4],[2,3,4,5],[],[7],[2,3,4,5,6,7,8],[1,2,3,4,5,6,7,8,9],[1,2,3,4,5,6,7,8,9,10],[],[],[],[14],[],[16],[14,15,16,17],[13,14,15,16,17,18],[13,14,15,16,17,18,19],[0,1,2,3,4,5,6,7,8,9,10,11,12,13,14,15,16,17,18,19,20]],by kernel_rfl,?_⟩
     conv=>whnf
     rw [show decide ((n:Int)≠0)=true from decide_eq_true (by omega)]
     conv=>whnf
     rw [lB]
     refine ⟨⟨by omega,by omega⟩,?_⟩
     simp only [toNat_cast,ar,Nat.zero_add]
     conv=>whnf
     refine ⟨by show u < n; omega,?_⟩
     conv=>whnf
     rw [ra]
     conv=>whnf
     rw [show decide ((n:Int)≠0)=true from decide_eq_true (by omega)]
     conv=>whnf
     rw [cj]
     refine ⟨⟨by omega,by omega⟩,?_⟩
     simp only [toNat_cast,ar,Nat.zero_add]
     conv=>whnf
     refine ⟨by show w < n; omega,?_⟩
     conv=>whnf
     rw [rd]
     conv=>whnf
     obtain ⟨z,hz,an⟩:=Mk hn h1 pa cb cd
     rw [← hO] at an
     refine ⟨(a,b,d),rfl,⟨PV.aR sa (by decide),PV.aR sb (by decide),PV.aR sd (by decide)⟩,?_⟩
     rw [show uz.val (a,b,d)=.bool z from hz]
     conv=>whnf
     cases z with
     | false =>
      conv=>whnf
      rw [e7]
      refine .inr ⟨[0],[0,1,5,8,9,10],?_⟩
      conv=>whnf
      intro _
      conv=>whnf
      refine ⟨_,?_,j+1,[],0,F,(.aa (.aa (.sk 3 (.aa (.sk 2 (.aa (.aa (.aa (.sk 32 .nil rfl)))) rfl)) rfl))),rfl,rfl,?_⟩
      ·omega
      ·exact ⟨⟨by omega,rfl⟩,by rw [an]; rfl,hF⟩
     | true =>
      conv=>whnf
      refine ⟨by show (0+1)*80≤140737488355328; decide,?_⟩
      conv=>whnf
      rw [e7]
      refine .inr ⟨[0,24],[0,1,5,8,9,10],?_⟩
      conv=>whnf
      intro _
      conv=>whnf
      refine ⟨_,?_,j+1,[aC L j],1,_,(.aa (.aa (.sk 3 (.aa (.sk 2 (.aa (.aa (.aa (.sk 32 .nil rfl)))) rfl)) rfl))),rfl,rfl,?_⟩
      ·omega
      ·exact ⟨⟨by omega,rfl⟩,by rw [an]; rfl,vV cb rfl⟩
    ·have h1:j=n:=by
      have:=of_decide_eq_false h1
      omega
     subst h1
     have hE:jn L=[]:=by rw [hO,hn]; exact (LA L).symm
     conv=>whnf
     rw [show (jV 110 111).new (some (L,c),true)=none from by show cT (jn L)=none; rw [hE]; rfl]
     exact ⟨.slice none 0 0,by rw [show (jV 110 111).val (some (L,c),true)=.slice none 0 0 from by show eD _ (jn L).length=_; rw [hE]; rfl]; rfl,.refl _⟩
   | succ q =>
    conv=>whnf
    refine aF (fun h1=>?_) (fun h1=>?_)
    ·have h1:j < n:=by
      have:=of_decide_eq_true h1
      omega
     have e7:IntKind.i64.wrap ((j:Int)+1)=((j+1:Nat):Int):=by rw [aw (by omega) (by omega)]; rfl
     obtain ⟨a,ca,ra,pa,sa,qa⟩:=gV (L:=L) (k:=ef n j) (by rw [← hn]; exact jQ h1) aT
     obtain ⟨b,cb,rb,pb,sb,qb⟩:=gV (L:=L) (k:=j) (by omega) aT
     obtain ⟨d,cd,rd,pd,sd,qd⟩:=gV (L:=L) (k:=ba n j) (by rw [← hn]; exact cR h1) aT
     rw [← hg] at ra rb rd
     have lB:=Cd h1 (by omega)
     have cj:=jT h1 (by omega)
     have kG:ef n j < n:=jQ h1
     have b6:=cR h1
     obtain ⟨u,hu⟩:∃ u,u=ef n j:=⟨_,rfl⟩
     obtain ⟨w,hw⟩:∃ u,u=ba n j:=⟨_,rfl⟩
     rw [← hu] at lB kG ra
     rw [← hw] at cj b6 rd
     conv=>whnf
     refine ⟨⟨by omega,by omega⟩,?_⟩
     simp only [toNat_cast,ar,Nat.zero_add]
     conv=>whnf
     refine ⟨by show j < n; omega,?_⟩
     conv=>whnf
     rw [rb]
     conv=>whnf
     refine .inl ⟨21,[[],[],[],[],[3],[2,3,4],[2,3,4,5],[],[7],[2,3,4,5,6,7,8],[1,2,3,4,5,6,7,8,9],[1,2,3,4,5,6,7,8,9,10],[],[],[],[14],[],[16],[14,15,16,17],[13,14,15,16,17,18],[13,14,15,16,17,18,19],[0,1,2,3,4,5,6,7,8,9,10,11,12,13,14,15,16,17,18,19,20]],by kernel_rfl,?_⟩
     conv=>whnf
     rw [show decide ((n:Int)≠0)=true from decide_eq_true (by omega)]
     conv=>whnf
     rw [lB]
     refine ⟨⟨by omega,by omega⟩,?_⟩
     simp only [toNat_cast,ar,Nat.zero_add]
     conv=>whnf
     refine ⟨by show u < n; omega,?_⟩
     conv=>whnf
     rw [ra]
     conv=>whnf
     rw [show decide ((n:Int)≠0)=true from decide_eq_true (by omega)]
     conv=>whnf
     rw [cj]
     refine ⟨⟨by omega,by omega⟩,?_⟩
     simp only [toNat_cast,ar,Nat.zero_add]
     conv=>whnf
     refine ⟨by show w < n; omega,?_⟩
     conv=>whnf
     rw [rd]
     conv=>whnf
     obtain ⟨z,hz,an⟩:=Mk hn h1 pa cb cd
     rw [← hO] at an
     refine ⟨(a,b,d),rfl,⟨PV.aR sa (by decide),PV.aR sb (by decide),PV.aR sd (by decide)⟩,?_⟩
     rw [show uz.val (a,b,d)=.bool z from hz]
     conv=>whnf
     cases z with
     | false =>
      conv=>whnf
      rw [e7]
      refine .inr ⟨[0,1],[0,1,5,8,9,10],?_⟩
      conv=>whnf
      intro _
      conv=>whnf
      refine ⟨_,?_,j+1,O,q+1,F,(.aa (.aa (.sk 3 (.aa (.sk 2 (.aa (.aa (.aa (.sk 32 .nil rfl)))) rfl)) rfl))),rfl,rfl,?_⟩
      ·omega
      ·exact ⟨⟨by omega,hq⟩,by rw [an]; simp,hF⟩
     | true =>
      conv=>whnf
      refine ⟨⟨by show 1≤1; decide,rfl,by show (q+1+1)*80≤140737488355328; omega⟩,?_⟩
      conv=>whnf
      refine ⟨[0,1,8,9,10],?_⟩
      conv=>whnf
      intro _
      conv=>whnf
      rw [e7]
      refine .inr ⟨[0,1],[0,1,5,8,9,10],?_⟩
      conv=>whnf
      intro _
      conv=>whnf
      refine ⟨_,?_,j+1,O++[aC L j],q+1+1,_,(.aa (.aa (.sk 3 (.aa (.sk 2 (.aa (.aa (.aa (.sk 32 .nil rfl)))) rfl)) rfl))),rfl,rfl,?_⟩
      ·omega
      ·exact ⟨⟨by omega,by rw [List.length_append,← hq]; rfl⟩,by rw [an]; simp,rf hq hF cb rfl⟩
    ·have h1:j=n:=by
      have:=of_decide_eq_false h1
      omega
     subst h1
     have hE:jn L=O:=by rw [hO,hn]; exact (LA L).symm
     conv=>whnf
     rw [show (jV 110 111).new (some (L,c),true)=some (.flat true (q+1) 6 (bT O)) from by show cT (jn L)=_; rw [hE]; unfold cT; rw [← hq],show (jV 110 111).val (some (L,c),true)=.slice (some ⟨1,0,none⟩) (q+1) aJ from by show eD _ (jn L).length=_; rw [hE,← hq]; rfl]
     refine ⟨1,?_⟩
     conv=>whnf
     exact ⟨⟨rfl,aO.qW (fun h=>h) hF (fun r hr=>rfl)⟩,_,rfl,.refl _⟩
end Go.Proofs.YtlapbjdhekcipaaGreat
/- Contracts of convex: the ring of a polygon. -/
set_option maxRecDepth 20000
set_option maxHeartbeats 4000000
namespace Go.Proofs.YtlapbjdhekcipaaGreat
open Go Go.Ae
def I3:Env:=En [(33,.p kB)]
theorem abT:EnvOk Tryz.prog I3:=bF ⟨yp,trivial⟩ trivial
theorem VD:fK Tryz.prog 145 (cc I3 cF Tryz.f145):=by
 exact iV abT aK Tryz.func145 (enters_of Tryz.func145 (by kernel_rfl) rfl)
def I5:Env:=En [] [(145,cc I3 cF Tryz.f145)] [] true
theorem abU:EnvOk Tryz.prog I5:=bF trivial ⟨VD,trivial⟩
theorem SU:fK Tryz.prog 112 (cc I5 cF Tryz.f112):=by
 exact iV abU aK Tryz.func112 (enters_of Tryz.func112 (by kernel_rfl) rfl)
abbrev jl:bk:=jV 110 111
def Ey2:Env:=En [(109,.q jl),(74,.p ox)] [(112,cc I5 cF Tryz.f112)]
theorem abV:EnvOk Tryz.prog Ey2:=bF ⟨Yl,Nc,trivial⟩ ⟨SU,trivial⟩
theorem Ym:c4 Tryz.prog 58 fa:=by
 refine dC abV aK Tryz.func58 (enters_of Tryz.func58 (by kernel_rfl) rfl) ?_ ?_ ?_
 ·intro i B hb
  cases i with
  | none=>simp [fa,QL.ai] at hb
  | some i=>simp [fa,QL.ai] at hb; rw [hb]; rfl
 ·intro i B hb
  exact A5 hb
 intro i hp
 have hp:i.list.length≤549755813888∧∀ v∈i.list,Q2.sz 262144 v:=hp
 obtain ⟨hlen,aT⟩:=hp
 cases i with
 | none =>
  conv=>whnf
  refine ⟨(none,false),[],rfl,⟨Nat.zero_le _,fun v hv=>nomatch hv⟩,?_⟩
  rw [show jl.ai (none,false)=[] from rfl,show jl.val (none,false)=.slice none 0 0 from rfl,show jl.new (none,false)=none from rfl]
  conv=>whnf
  refine ⟨_,rfl,?_⟩
  conv=>whnf
  refine ⟨(none,true),[],rfl,⟨Nat.zero_le _,fun v hv=>nomatch hv⟩,?_⟩
  rw [show jl.ai (none,true)=[] from rfl,show jl.val (none,true)=.slice none 0 0 from rfl,show jl.new (none,true)=none from rfl]
  conv=>whnf
  refine ⟨_,rfl,?_⟩
  conv=>whnf
  exact ⟨_,rfl,.refl _⟩
 | some i =>
  obtain ⟨L,c⟩:=i
  have hlen:L.length≤549755813888:=hlen
  have aT:∀ v∈L,Q2.sz 262144 v:=aT
  obtain ⟨n,hn⟩:∃ n,n=L.length:=⟨_,rfl⟩
  obtain ⟨g,hg⟩:∃ g,g=bT L:=⟨_,rfl⟩
  obtain ⟨D,hD⟩:∃ D,D=rN false L:=⟨_,rfl⟩
  obtain ⟨C,hC⟩:∃ C,C=rN true D:=⟨_,rfl⟩
  have hR:fw L=if C.length < 3 then [] else eF C:=by rw [TP,← hD,← hC]
  have I6:D.length≤n∧∀ v∈D,Q2.sz 262144 v:=⟨by rw [hD,hn]; exact (xB L).length_le,fun v hv=>aT v ((xB L).subset (by rw [hD] at hv; exact hv))⟩
  have CM:C.length≤n∧∀ v∈C,Q2.sz 262144 v:=⟨Nat.le_trans (by rw [hC]; exact (Au D).length_le) I6.1,fun v hv=>I6.2 v ((Au D).subset (by rw [hC] at hv; exact hv))⟩
  obtain ⟨cu,fo⟩:∃ c,c=aJ:=⟨_,rfl⟩
  obtain ⟨K,hK⟩:∃ K,K=gx fa (some (L,c)):=⟨_,rfl⟩
  have r6:∀ H:ax,fw L=[]→K (.slice none 0 0) H:=fun H h=>by
   rw [hK]
   unfold gx
   rw [show fa.new (some (L,c))=none from by show cT (fw L)=none; rw [h]; rfl,show fa.val (some (L,c))=.slice none 0 0 from by show eD _ (fw L).length=_; rw [h]; rfl]
   exact ⟨_,rfl,.refl _⟩
  rw [show fa.ai (some (L,c))=[.flat false n 6 g] from by rw [hn,hg]; rfl,show fa.args (some (L,c))=[.slice (some ⟨0,0,none⟩) n c] from by rw [hn]; rfl,← hK]
  rw [← hn] at hlen
  conv=>whnf
  refine ⟨(some (L,c),false),[0],by rw [show jl.args (some (L,c),false)=[.slice (some ⟨0,0,none⟩) n c,.func (.func 110) #[] #[]] from by rw [hn]; rfl]; rfl,⟨by show L.length≤_; omega,aT⟩,?_⟩
  obtain ⟨d,hd⟩:∃ d,d=D.length:=⟨_,rfl⟩
  rw [show jl.ai (some (L,c),false)=[.flat false n 6 g] from by rw [hn,hg]; rfl,show jl.val (some (L,c),false)=eD 1 d from by rw [hd,hD]; rfl,show jl.new (some (L,c),false)=cT D from by rw [hD]; rfl]
  cases d with
  | zero =>
   obtain rfl:D=[]:=List.eq_nil_of_length_eq_zero hd.symm
   conv=>whnf
   refine ⟨aO.aY (fun h=>h) (fun r hr=>by rw [hg]; rfl),?_⟩
   conv=>whnf
   refine ⟨_,rfl,?_⟩
   conv=>whnf
   refine ⟨(none,true),[],rfl,⟨Nat.zero_le _,fun v hv=>nomatch hv⟩,?_⟩
   rw [show jl.ai (none,true)=[] from rfl,show jl.val (none,true)=.slice none 0 0 from rfl,show jl.new (none,true)=none from rfl]
   conv=>whnf
   refine ⟨_,rfl,?_⟩
   conv=>whnf
   exact r6 _ (by rw [hR,hC]; rfl)
  | succ d =>
   obtain ⟨G,hG⟩:∃ G,G=bT D:=⟨_,rfl⟩
   rw [show cT D=some (.flat true (d+1) 6 G) from by unfold cT; rw [← hd,hG]]
   conv=>whnf
   refine ⟨aO.aY (fun h=>h) (fun r hr=>by rw [hg]; rfl),?_⟩
   conv=>whnf
   refine ⟨_,rfl,?_⟩
   conv=>whnf
   obtain ⟨e,he⟩:∃ d,d=C.length:=⟨_,rfl⟩
   refine ⟨(some (D,aJ),true),[1],by rw [show jl.args (some (D,aJ),true)=[.slice (some ⟨0,0,none⟩) (d+1) aJ,.func (.func 111) #[] #[]] from by rw [hd]; rfl]; rfl,⟨by show D.length≤_; omega,I6.2⟩,?_⟩
   rw [show jl.ai (some (D,aJ),true)=[.flat false (d+1) 6 G] from by rw [hd,hG]; rfl,show jl.val (some (D,aJ),true)=eD 1 e from by rw [he,hC]; rfl,show jl.new (some (D,aJ),true)=cT C from by rw [hC]; rfl]
   cases e with
   | zero =>
    obtain rfl:C=[]:=List.eq_nil_of_length_eq_zero he.symm
    conv=>whnf
    refine ⟨aO.aY (fun h=>by cases h) (fun r hr=>by rw [hG]; rfl),?_⟩
    conv=>whnf
    refine ⟨_,rfl,?_⟩
    conv=>whnf
    exact r6 _ (by rw [hR]; rfl)
   | succ e =>
    obtain ⟨E,hE⟩:∃ G,G=bT C:=⟨_,rfl⟩
    rw [show cT C=some (.flat true (e+1) 6 E) from by unfold cT; rw [← he,hE]]
    conv=>whnf
    refine ⟨aO.aY (fun h=>by cases h) (fun r hr=>by rw [hG]; rfl),?_⟩
    conv=>whnf
    refine ⟨_,rfl,?_⟩
    conv=>whnf
    by_cases h3:e+1 < 3
    ·rw [show decide (((e+1:Nat):Int) < 3)=true from decide_eq_true (by omega)]
     conv=>whnf
     exact r6 _ (by rw [hR,if_pos (by omega)])
    rw [show decide (((e+1:Nat):Int) < 3)=false from decide_eq_false (by omega)]
    rw [if_neg (by omega)] at hR
    obtain ⟨N,hN⟩:∃ N,N=e+1:=⟨_,rfl⟩
    rw [← hN] at he
    rw [← hN]
    obtain ⟨M,hM⟩:∃ N,N=d+1:=⟨_,rfl⟩
    rw [← hM,← fo]
    conv=>whnf
    refine .inl ⟨fun mm tz hz=>∃ (i:Nat) (m:Nat),bu (some (.slice (some ⟨2,0,none⟩) N cu)::aB 2 (some (.int .i64 m)::aB 9 (some (.slice (some ⟨2,0,none⟩) N cu)::some (.int .i64 N)::some (.int .i64 i)::aB 21 []))) tz∧hz=[some (.flat false n 6 g),some (.flat true M 6 G),some (.flat true N 6 E)]∧N - i=mm∧(i≤N∧m=nk C i),.inr ⟨[0,1,2],[0,3,13,14,15],?_⟩,?_⟩
    ·conv=>whnf
     intro _
     conv=>whnf
     refine ⟨_,0,0,(.aa (.sk 2 (.aa (.sk 9 (.aa (.aa (.aa (.sk 21 .nil rfl)))) rfl)) rfl)),rfl,rfl,?_⟩
     exact ⟨Nat.zero_le _,rfl⟩
    rintro mm aQ _ ⟨i,m,aq,rfl,rfl,⟨hi,hm⟩⟩
    obtain ⟨az,rfl⟩:∃ az:Nat→Value,aQ=.slice (some ⟨2,0,none⟩) N cu::zs az 1 2 (.int .i64 m::zs az 4 9 (.slice (some ⟨2,0,none⟩) N cu::.int .i64 N::.int .i64 i::zs az 16 21 [])):=bI aq
    clear aq
    have kH:m < N:=by rw [hm,he]; exact (JO C i (by omega)).1 (by omega)
    conv=>whnf
    refine aF (fun h1=>?_) (fun h1=>?_)
    ·have h1:i < N:=by
      have:=of_decide_eq_true h1
      omega
     have e7:IntKind.i64.wrap ((i:Int)+1)=((i+1:Nat):Int):=by rw [aw (by omega) (by omega)]; rfl
     obtain ⟨p,cp,rp,pp,sp,qp⟩:=gV (L:=C) (k:=i) (by omega) CM.2
     obtain ⟨q,cq,rq,pq,sq,qq⟩:=gV (L:=C) (k:=m) (by omega) CM.2
     rw [← hE] at rp rq
     conv=>whnf
     refine ⟨⟨by omega,by omega⟩,?_⟩
     simp only [toNat_cast,ar,Nat.zero_add]
     conv=>whnf
     refine ⟨by show i < N; omega,?_⟩
     conv=>whnf
     rw [rp]
     conv=>whnf
     refine .inl ⟨5,[[],[],[],[1,2],[1,2,3],[0,1,2,3,4],[0,1,2,3,4,5]],by kernel_rfl,?_⟩
     conv=>whnf
     refine ⟨⟨by omega,by omega⟩,?_⟩
     simp only [toNat_cast,ar,Nat.zero_add]
     conv=>whnf
     refine ⟨by show m < N; omega,?_⟩
     conv=>whnf
     rw [rq]
     conv=>whnf
     obtain ⟨z,ez,pz⟩:=c9 (fm p.p q.p)
     refine ⟨(p,q),rfl,⟨PV.aR sp (by decide),PV.aR sq (by decide)⟩,?_⟩
     rw [show ox.val (p,q)=.int .i64 z from ez]
     conv=>whnf
     rw [pp,pq] at pz
     have sL:nk C (i+1)=if z < 0 then i else m:=by
      show (if fm (aC C i) (aC C (nk C i)) < 0 then i else nk C i)=_
      rw [pz,hm]
     refine aF (fun J=>?_) (fun J=>?_)
     ·have J:z < 0:=of_decide_eq_true J
      conv=>whnf
      rw [e7]
      refine .inr ⟨[0,1,2],[0,3,13,14,15],?_⟩
      conv=>whnf
      intro _
      conv=>whnf
      refine ⟨_,?_,i+1,i,(.aa (.sk 2 (.aa (.sk 9 (.aa (.aa (.aa (.sk 21 .nil rfl)))) rfl)) rfl)),rfl,rfl,?_⟩
      ·omega
      ·exact ⟨by omega,by rw [sL,if_pos J]⟩
     ·have J:¬ z < 0:=of_decide_eq_false J
      conv=>whnf
      rw [e7]
      refine .inr ⟨[0,1,2],[0,3,13,14,15],?_⟩
      conv=>whnf
      intro _
      conv=>whnf
      refine ⟨_,?_,i+1,m,(.aa (.sk 2 (.aa (.sk 9 (.aa (.aa (.aa (.sk 21 .nil rfl)))) rfl)) rfl)),rfl,rfl,?_⟩
      ·omega
      ·exact ⟨by omega,by rw [sL,if_neg J]⟩
    ·have h1:i=N:=by
      have:=of_decide_eq_false h1
      omega
     subst h1
     conv=>whnf
     refine .inl ⟨6,[[],[],[0,1],[],[],[3,4],[0,1,2,3,4,5],[0,1,2,3,4,5,6],[0,1,2,3,4,5,6,7]],by kernel_rfl,?_⟩
     conv=>whnf
     refine ⟨⟨by omega,by omega,by omega⟩,?_⟩
     rw [show Int.toNat (i:Int) - Int.toNat (m:Int)=i - m from rfl,show Int.toNat (m:Int)=m from rfl,ar,Nat.zero_add]
     conv=>whnf
     refine ⟨⟨by omega,by omega,by omega⟩,?_⟩
     conv=>whnf
     obtain ⟨a,ha⟩:∃ a,a=i - m:=⟨_,rfl⟩
     obtain ⟨ca,hca⟩:∃ a,a=tG cu m:=⟨_,rfl⟩
     obtain ⟨cb,hcb⟩:∃ a,a=tG cu (Int.toNat 0):=⟨_,rfl⟩
     rw [← ha,← hca,← hcb,show eM 0 (Int.toNat 0)=0 from rfl,show Int.toNat (m:Int) - Int.toNat 0=m from rfl,Nat.zero_add]
     have w1:IntKind.i64.wrap (0+(a:Int))=(a:Int):=by rw [aw (by omega) (by omega)]; omega
     have w2:IntKind.i64.wrap ((a:Int)+(m:Int))=(i:Int):=by rw [aw (by omega) (by omega)]; omega
     refine .inr ⟨3,?_⟩
     conv=>whnf
     refine ⟨by decide,?_⟩
     conv=>whnf
     rw [w1,show decide ((a:Int) < 0)=false from decide_eq_false (by omega)]
     conv=>whnf
     refine ⟨by decide,?_⟩
     conv=>whnf
     rw [w2,show decide ((i:Int) < 0)=false from decide_eq_false (by omega)]
     conv=>whnf
     have w3:IntKind.i64.wrap ((i:Int) - IntKind.i64.wrap (0 - ((0:Nat):Int)))=(i:Int):=by
      rw [show IntKind.i64.wrap (0 - ((0:Nat):Int))=0 from rfl,aw (by omega) (by omega)]; omega
     rw [w3,show decide ((i:Int) > 0)=true from decide_eq_true (by omega)]
     conv=>whnf
     refine ⟨⟨by omega,by omega,by omega⟩,?_⟩
     conv=>whnf
     refine ⟨⟨by omega,by show (i:Int)*((80:Nat):Int)≤_; omega⟩,?_⟩
     conv=>whnf
     refine ⟨⟨by omega,by omega,by omega⟩,?_⟩
     rw [show (0:Int).toNat=0 from rfl,show eM 0 0=0 from rfl]
     conv=>whnf
     refine .inr ⟨3,?_⟩
     conv=>whnf
     refine ⟨by decide,?_⟩
     conv=>whnf
     refine ⟨by omega,?_⟩
     conv=>whnf
     rw [show Int.toNat (((0:Nat):Int)) - 0=0 from rfl,show (Src.fl a fun j=>E (eM (0+m) j)).m=a from rfl,Nat.zero_add]
     refine ⟨⟨by decide,⟨Nat.zero_le _,rfl⟩,by show (0+a)*80≤_; omega⟩,?_⟩
     conv=>whnf
     refine ⟨[25,26,27],?_⟩
     conv=>whnf
     intro _
     conv=>whnf
     refine ⟨by decide,?_⟩
     conv=>whnf
     refine ⟨by omega,?_⟩
     conv=>whnf
     rw [show (Src.fl m fun j=>E (eM 0 j)).m=m from rfl]
     refine ⟨⟨by decide,⟨Nat.le_refl _,rfl⟩,by show (0+a+m)*80≤_; omega⟩,?_⟩
     conv=>whnf
     refine ⟨[25,26,27],?_⟩
     conv=>whnf
     intro _
     conv=>whnf
     rw [show 0+a+m=i from by omega]
     have hl:(fw L).length=i:=by rw [hR,At]; omega
     rw [hK]
     unfold gx
     rw [show fa.new (some (L,c))=some (.flat true i 6 (bT (fw L))) from Wk hl (by omega),show fa.val (some (L,c))=.slice (some ⟨1,0,none⟩) i aJ from (congrArg (eD 1) hl).trans (Wl (by omega))]
     refine ⟨10,?_⟩
     conv=>whnf
     refine ⟨⟨rfl,aO.qW (fun h=>h) (fun r hr=>?_) (fun r hr=>rfl)⟩,_,rfl,.refl _⟩
     rw [hR,TH (L:=C) (fun r hr=>by rw [hE]) (by omega) (by omega) r (by omega),hm,he]
     rfl
end Go.Proofs.YtlapbjdhekcipaaGreat
/- Contracts of convex: what is left of a polygon by a line. -/
set_option maxRecDepth 20000
set_option maxHeartbeats 4000000
namespace Go.Proofs.YtlapbjdhekcipaaGreat
open Go Go.Ae
def I7:Env:=En [(70,.p pj),(34,.p gf),(38,.p gC),(71,.p lR),(39,.p w8)] [(64,cc mo cF Tryz.f64)] [(118,tD)]
theorem abW:EnvOk Tryz.prog I7:=bF ⟨LI,Fu,wh,Nd,aay,trivial⟩ ⟨vW,trivial⟩
theorem aaD:gB Tryz.prog I7:=uY ⟨vK,trivial⟩
def Pb:Nat→FT→Nu→FT:=fun l G nu=>cc { I7 with ys:=[(l,G)],nu:=nu } cF Tryz.f114
theorem Yn:yN Tryz.prog 114 Pb:=by
 exact NV abW aK Tryz.func114 (enters_of Tryz.func114 (by kernel_rfl) rfl) (hI:=aaD)
def Dg:Env:=En [] [] [(114,Pb)]
theorem abX:EnvOk Tryz.prog Dg:=bF trivial trivial
theorem aaE:gB Tryz.prog Dg:=uY ⟨Yn,trivial⟩
theorem Yo:fK Tryz.prog 113 (cc Dg cF Tryz.f113):=by
 exact iV abX aK Tryz.func113 (enters_of Tryz.func113 (by kernel_rfl) rfl) (hI:=aaE)
def Ez3:Env:=En [] [(113,cc Dg cF Tryz.f113)]
theorem abY:EnvOk Tryz.prog Ez3:=bF trivial ⟨Yo,trivial⟩
abbrev ie:bk:=HF 114
theorem aaF:c4 Tryz.prog 59 ie:=by
 refine dC abY aK Tryz.func59 (enters_of Tryz.func59 (by kernel_rfl) rfl) ?_ ?_ ?_
 ·intro ⟨i,_⟩ B hb
  cases i with
  | none=>simp [ie,HF,QL.ai] at hb; rcases hb with rfl | rfl | rfl <;> rfl
  | some i=>simp [ie,HF,QL.ai] at hb; rcases hb with rfl | rfl | rfl | rfl <;> rfl
 ·intro i B hb
  exact A5 hb
 intro ⟨i,a,b⟩ hp
 have hp:i.list.length≤1073741824∧(∀ v∈i.list,Q2.sz 2048 v)∧a.sz 2048∧b.sz 2048:=hp
 obtain ⟨hlen,aT,sa,sb⟩:=hp
 have qa:=PV.cN sa (by decide)
 have qb:=PV.cN sb (by decide)
 cases i with
 | none =>
  conv=>whnf
  intro yl nu fn tm df
  conv=>whnf
  intro I8 nu2 Qi Qj Qk
  conv=>whnf
  refine .inr ⟨1,?_⟩
  conv=>whnf
  exact ⟨_,rfl,.refl _⟩
 | some i =>
  obtain ⟨L,c⟩:=i
  have hlen:L.length≤1073741824:=hlen
  have aT:∀ v∈L,Q2.sz 2048 v:=aT
  obtain ⟨n,hn⟩:∃ n,n=L.length:=⟨_,rfl⟩
  obtain ⟨g,hg⟩:∃ g,g=bT L:=⟨_,rfl⟩
  obtain ⟨K,hK⟩:∃ K,K=gx ie (some (L,c),(a,b)):=⟨_,rfl⟩
  rw [show ie.ai (some (L,c),(a,b))=[.flat false n 6 g,.aL false 1 [[.slice (some ⟨0,0,none⟩) n c]],.aL false 6 [a.cells],.aL false 6 [b.cells]] from by rw [hn,hg]; rfl,show ie.args (some (L,c),(a,b))=[.func (.func 114) #[] #[.pointer (some ⟨1,0,none⟩),.pointer (some ⟨2,0,none⟩),.pointer (some ⟨3,0,none⟩)]] from rfl,← hK]
  rw [← hn] at hlen
  conv=>whnf
  intro yl nu fn tm df
  conv=>whnf
  intro I8 nu2 Qi Qj Qk
  conv=>whnf
  refine .inl ⟨fun mm tz hz=>∃ (j:Nat) (O:List Q2) (q:Nat) (F:Nat→List Value),bu (some (.func (.yield I8) #[] #[])::some (.pointer (some ⟨7,0,none⟩))::aB 3 (some (.slice (some ⟨0,0,none⟩) n c)::some (.int .i64 n)::some (.int .i64 j)::aB 17 [])) tz∧hz=[some (.flat false n 6 g),some (.aL false 1 [[.slice (some ⟨0,0,none⟩) n c]]),some (.aL false 6 [a.cells]),some (.aL false 6 [b.cells]),some (.aL true 1 [[eD 9 q]]),some (.bZ (pT Tryz.f113 fn tm df)),some (.aL true 1 [[.func (.yield yl) #[] #[]]]),some (.aL true 1 [[.slice (some ⟨0,0,none⟩) n c]]),some (.bZ (pT Tryz.f114 Qi Qj Qk))]++yU 6 F q∧n - j=mm∧((j≤n∧q=O.length)∧O=((bg L).take j).flatMap (mT (eE a.p b.p))∧∀ r,r < q→F r=bT O r),.inr ⟨[0,1,2,3,4,5,6,7,8],[0,1,5,6,7],?_⟩,?_⟩
  ·conv=>whnf
   intro _
   conv=>whnf
   refine ⟨_,0,[],0,fun _=>[],(.aa (.aa (.sk 3 (.aa (.aa (.aa (.sk 17 .nil rfl)))) rfl))),rfl,rfl,?_⟩
   exact ⟨⟨Nat.zero_le _,rfl⟩,rfl,fun r hr=>absurd hr (Nat.not_lt_zero r)⟩
  rintro mm aQ _ ⟨j,O,q,F,aq,rfl,rfl,⟨⟨hj,hq⟩,hO,hF⟩⟩
  obtain ⟨az,rfl⟩:∃ az:Nat→Value,aQ=.func (.yield I8) #[] #[]::.pointer (some ⟨7,0,none⟩)::zs az 2 3 (.slice (some ⟨0,0,none⟩) n c::.int .i64 n::.int .i64 j::zs az 8 17 []):=bI aq
  clear aq
  have sL:=Wm (eE a.p b.p) L j
  rw [← hO,← hq] at sL
  cases q with
  | zero =>
   obtain rfl:O=[]:=List.eq_nil_of_length_eq_zero hq.symm
   conv=>whnf
   refine aF (fun h7=>?_) (fun h7=>?_)
   ·have h7:j < n:=by
     have:=of_decide_eq_true h7
     omega
    have e8:IntKind.i64.wrap ((j:Int)+1)=((j+1:Nat):Int):=by rw [aw (by omega) (by omega)]; rfl
    obtain ⟨u,cu,ru,pu,su,qu⟩:=gV (L:=L) (k:=j) (by omega) aT
    obtain ⟨v,cv,rv,pv,sv,qv⟩:=gV (L:=L) (k:=ba n j) (by rw [hn]; exact cR (by omega)) aT
    have cj:=jT h7 (by omega)
    have b6:=cR h7
    have fI:(bg L)[j]?=some (u.p,v.p):=by rw [pu,pv]; rw [hn] at b6 ⊢; exact qX (gR (by omega)) (gR b6)
    rw [← pu] at cu
    obtain ⟨k,hk⟩:∃ u,u=ba n j:=⟨_,rfl⟩
    rw [← hk] at cj b6 rv
    rw [← hg] at ru rv
    conv=>whnf
    refine ⟨⟨by omega,by omega⟩,?_⟩
    simp only [toNat_cast,ar,Nat.zero_add]
    conv=>whnf
    refine ⟨by show j < n; omega,?_⟩
    conv=>whnf
    rw [ru]
    conv=>whnf
    refine .inl ⟨10,[[],[],[],[],[3],[],[5],[3,4,5,6],[2,3,4,5,6,7],[2,3,4,5,6,7,8],[0,1,2,3,4,5,6,7,8,9],[0,1,2,3,4,5,6,7,8,9,10]],by kernel_rfl,?_⟩
    conv=>whnf
    rw [show decide ((n:Int)≠0)=true from decide_eq_true (by omega)]
    conv=>whnf
    rw [cj]
    refine ⟨⟨by omega,by omega⟩,?_⟩
    simp only [toNat_cast,ar,Nat.zero_add]
    conv=>whnf
    refine ⟨by show k < n; omega,?_⟩
    conv=>whnf
    rw [rv]
    conv=>whnf
    refine ⟨rfl,?_⟩
    conv=>whnf
    refine ⟨rfl,?_⟩
    conv=>whnf
    refine ⟨rfl,?_⟩
    conv=>whnf
    refine .inl ⟨10,[[],[],[],[0,1,2],[],[],[],[0,1,2,3,4,5,6],[],[],[0,1,2,3,4,5,6,7,8,9],[0,1,2,3,4,5,6,7,8,9,10]],by kernel_rfl,?_⟩
    conv=>whnf
    obtain ⟨x,ex,px,sx,qx⟩:=fk (wT qa qb qu)
    refine ⟨(a,b,u),rfl,⟨PV.aR sa (by decide),PV.aR sb (by decide),PV.aR su (by decide)⟩,?_⟩
    rw [show pj.val (a,b,u)=x.v from ex]
    conv=>whnf
    obtain ⟨y,ey,py,sy,qy⟩:=fk (wT qa qb qv)
    refine ⟨(a,b,v),rfl,⟨PV.aR sa (by decide),PV.aR sb (by decide),PV.aR sv (by decide)⟩,?_⟩
    rw [show pj.val (a,b,v)=y.v from ey]
    conv=>whnf
    obtain ⟨z,ez,pz⟩:=c9 (aU x.q 0)
    refine ⟨x,rfl,RV.bC sx (by decide),?_⟩
    rw [show gf.val x=.int .i64 z from ez]
    conv=>whnf
    have hz:=sV x.q 0
    rw [← pz] at hz
    have an:=LB (w:=ck (atR u.p v.p (x.q / (x.q - y.q)))) fI hO (px.trans (wD _ _ _).symm) (py.trans (wD _ _ _).symm) (gY _)
    rw [← pz] at an
    by_cases h8:z ≥ 0
    ·rw [show decide (z ≥ 0)=true from decide_eq_true h8]
     rw [if_pos h8] at an
     conv=>whnf
     refine ⟨rfl,?_⟩
     conv=>whnf
     refine ⟨rfl,?_⟩
     conv=>whnf
     refine ⟨rfl,?_⟩
     conv=>whnf
     refine ⟨by decide,?_⟩
     conv=>whnf
     refine ⟨rfl,?_⟩
     conv=>whnf
     refine .inl ⟨3,[[],[0],[],[0,1,2],[0,1,2,3],[0,1,2,3,4]],by kernel_rfl,?_⟩
     conv=>whnf
     obtain ⟨z3,u9,vd⟩:=c9 (aU x.q 0)
     refine ⟨x,rfl,RV.bC sx (by decide),?_⟩
     rw [show gf.val x=.int .i64 z3 from u9]
     conv=>whnf
     obtain ⟨z2,ve,nZ⟩:=c9 (aU y.q 0)
     refine ⟨y,rfl,RV.bC sy (by decide),?_⟩
     rw [show gf.val y=.int .i64 z2 from ve]
     conv=>whnf
     have ng:=sV y.q 0
     rw [← nZ] at ng
     obtain rfl:z3=z:=vd.trans pz.symm
     rw [show IntKind.i64.wrap (z3*z2)=z3*z2 from by rcases hz with rfl | rfl | rfl <;> rcases ng with rfl | rfl | rfl <;> rfl]
     rw [← nZ] at an
     by_cases h9:z3*z2 < 0
     ·rw [show decide (z3*z2 < 0)=true from decide_eq_true h9]
      rw [if_pos h9] at an
      conv=>whnf
      refine .inr (.inr (.inl ⟨9,1,[[],[],[],[1,2],[0,1,2,3],[0,1,2,3,4],[0,1,2,3,4,5],[0,1,2,3,4,5],[],[0,1,2,3,4,5,6,8],[0,1,2,3,4,5,6,7,8,9]],[7],by kernel_rfl,?_⟩))
      conv=>whnf
      obtain ⟨d2,ke,vf,vg,vh⟩:=fk (QB.sub qx qy)
      refine ⟨(x,y),rfl,⟨RV.bC sx (by decide),RV.bC sy (by decide)⟩,?_⟩
      rw [show gC.val (x,y)=d2.v from ke]
      conv=>whnf
      obtain ⟨t,et,pt,st,qt⟩:=fk (QB.div qx vh (by decide))
      obtain ⟨e,ee,pe⟩:=c9 (if d2.q=0 then 10 else 0)
      refine ⟨(x,d2),rfl,⟨RV.bC sx (by decide),RV.bC vg (by decide)⟩,?_⟩
      rw [show lR.val (x,d2)=.tuple ⟨[t.v,.int .i64 e]⟩ from by rw [← et,← ee]; rfl]
      conv=>whnf
      refine .inl ⟨5,[[],[],[],[],[1,2,3],[0,1,2,3,4],[0,1,2,3,4,5]],by kernel_rfl,?_⟩
      conv=>whnf
      obtain ⟨w,ew,pw,sw,qw⟩:=nv (yH qu qv qt)
      refine ⟨((u,v),t),rfl,⟨⟨PV.aR su (by decide),PV.aR sv (by decide)⟩,RV.aR st (by decide)⟩,?_⟩
      rw [show w8.val ((u,v),t)=w.v from ew]
      conv=>whnf
      have cw:=(PV.k9 ew).symm
      rw [← pw] at cw
      rw [show (ck (atR u.p v.p (x.q / (x.q - y.q)))).p=w.p from by rw [gY,pw,pt,vf]] at an
      refine ⟨rfl,?_⟩
      conv=>whnf
      refine ⟨rfl,?_⟩
      conv=>whnf
      refine ⟨rfl,?_⟩
      conv=>whnf
      refine ⟨⟨rfl,by show (0+1+1)*80≤140737488355328; decide⟩,?_⟩
      conv=>whnf
      refine ⟨rfl,?_⟩
      conv=>whnf
      refine ⟨rfl,?_⟩
      conv=>whnf
      rw [e8]
      refine .inr ⟨[0,1,2,3,4,5,6,7,8,54],[0,1,5,6,7],?_⟩
      conv=>whnf
      intro _
      conv=>whnf
      refine ⟨_,?_,j+1,[u.p]++[w.p],0+1+1,_,(.aa (.aa (.sk 3 (.aa (.aa (.aa (.sk 17 .nil rfl)))) rfl))),rfl,rfl,?_⟩
      ·omega
      ·exact ⟨⟨by omega,rfl⟩,by rw [an]; rfl,rf (O:=[u.p]) rfl (vV cu rfl) cw rfl⟩
     ·rw [show decide (z3*z2 < 0)=false from decide_eq_false h9]
      rw [if_neg h9] at an
      conv=>whnf
      refine ⟨rfl,?_⟩
      conv=>whnf
      rw [e8]
      refine .inr ⟨[0,1,2,3,4,5,6,7,8,34],[0,1,5,6,7],?_⟩
      conv=>whnf
      intro _
      conv=>whnf
      refine ⟨_,?_,j+1,[u.p],0+1,_,(.aa (.aa (.sk 3 (.aa (.aa (.aa (.sk 17 .nil rfl)))) rfl))),rfl,rfl,?_⟩
      ·omega
      ·exact ⟨⟨by omega,rfl⟩,by rw [an]; rfl,vV cu rfl⟩
    ·rw [show decide (z ≥ 0)=false from decide_eq_false h8]
     rw [if_neg h8] at an
     conv=>whnf
     refine .inl ⟨3,[[],[0],[],[0,1,2],[0,1,2,3],[0,1,2,3,4]],by kernel_rfl,?_⟩
     conv=>whnf
     obtain ⟨z3,u9,vd⟩:=c9 (aU x.q 0)
     refine ⟨x,rfl,RV.bC sx (by decide),?_⟩
     rw [show gf.val x=.int .i64 z3 from u9]
     conv=>whnf
     obtain ⟨z2,ve,nZ⟩:=c9 (aU y.q 0)
     refine ⟨y,rfl,RV.bC sy (by decide),?_⟩
     rw [show gf.val y=.int .i64 z2 from ve]
     conv=>whnf
     have ng:=sV y.q 0
     rw [← nZ] at ng
     obtain rfl:z3=z:=vd.trans pz.symm
     rw [show IntKind.i64.wrap (z3*z2)=z3*z2 from by rcases hz with rfl | rfl | rfl <;> rcases ng with rfl | rfl | rfl <;> rfl]
     rw [← nZ] at an
     by_cases h9:z3*z2 < 0
     ·rw [show decide (z3*z2 < 0)=true from decide_eq_true h9]
      rw [if_pos h9] at an
      conv=>whnf
      refine .inr (.inr (.inl ⟨9,1,[[],[],[],[1,2],[0,1,2,3],[0,1,2,3,4],[0,1,2,3,4,5],[0,1,2,3,4,5],[],[0,1,2,3,4,5,6,8],[0,1,2,3,4,5,6,7,8,9]],[7],by kernel_rfl,?_⟩))
      conv=>whnf
      obtain ⟨d2,ke,vf,vg,vh⟩:=fk (QB.sub qx qy)
      refine ⟨(x,y),rfl,⟨RV.bC sx (by decide),RV.bC sy (by decide)⟩,?_⟩
      rw [show gC.val (x,y)=d2.v from ke]
      conv=>whnf
      obtain ⟨t,et,pt,st,qt⟩:=fk (QB.div qx vh (by decide))
      obtain ⟨e,ee,pe⟩:=c9 (if d2.q=0 then 10 else 0)
      refine ⟨(x,d2),rfl,⟨RV.bC sx (by decide),RV.bC vg (by decide)⟩,?_⟩
      rw [show lR.val (x,d2)=.tuple ⟨[t.v,.int .i64 e]⟩ from by rw [← et,← ee]; rfl]
      conv=>whnf
      refine .inl ⟨5,[[],[],[],[],[1,2,3],[0,1,2,3,4],[0,1,2,3,4,5]],by kernel_rfl,?_⟩
      conv=>whnf
      obtain ⟨w,ew,pw,sw,qw⟩:=nv (yH qu qv qt)
      refine ⟨((u,v),t),rfl,⟨⟨PV.aR su (by decide),PV.aR sv (by decide)⟩,RV.aR st (by decide)⟩,?_⟩
      rw [show w8.val ((u,v),t)=w.v from ew]
      conv=>whnf
      have cw:=(PV.k9 ew).symm
      rw [← pw] at cw
      rw [show (ck (atR u.p v.p (x.q / (x.q - y.q)))).p=w.p from by rw [gY,pw,pt,vf]] at an
      refine ⟨rfl,?_⟩
      conv=>whnf
      refine ⟨rfl,?_⟩
      conv=>whnf
      refine ⟨rfl,?_⟩
      conv=>whnf
      refine ⟨by decide,?_⟩
      conv=>whnf
      refine ⟨rfl,?_⟩
      conv=>whnf
      refine ⟨rfl,?_⟩
      conv=>whnf
      rw [e8]
      refine .inr ⟨[0,1,2,3,4,5,6,7,8,51],[0,1,5,6,7],?_⟩
      conv=>whnf
      intro _
      conv=>whnf
      refine ⟨_,?_,j+1,[w.p],0+1,_,(.aa (.aa (.sk 3 (.aa (.aa (.aa (.sk 17 .nil rfl)))) rfl))),rfl,rfl,?_⟩
      ·omega
      ·exact ⟨⟨by omega,rfl⟩,by rw [an]; rfl,vV cw rfl⟩
     ·rw [show decide (z3*z2 < 0)=false from decide_eq_false h9]
      rw [if_neg h9] at an
      conv=>whnf
      refine ⟨rfl,?_⟩
      conv=>whnf
      rw [e8]
      refine .inr ⟨[0,1,2,3,4,5,6,7,8],[0,1,5,6,7],?_⟩
      conv=>whnf
      intro _
      conv=>whnf
      refine ⟨_,?_,j+1,[],0,fun _=>[],(.aa (.aa (.sk 3 (.aa (.aa (.aa (.sk 17 .nil rfl)))) rfl))),rfl,rfl,?_⟩
      ·omega
      ·exact ⟨⟨by omega,rfl⟩,by rw [an]; rfl,fun r hr=>absurd hr (Nat.not_lt_zero r)⟩
   ·have h7:j=n:=by
     have:=of_decide_eq_false h7
     omega
    subst h7
    have y5:eY (eE a.p b.p) L=[]:=by rw [hO,hn]; exact (Ml _ L).symm
    conv=>whnf
    rw [hK]
    unfold gx
    rw [show ie.new (some (L,c),(a,b))=none from by show cT (eY (eE a.p b.p) L)=none; rw [y5]; rfl,show ie.val (some (L,c),(a,b))=.slice none 0 0 from by show eD _ (eY (eE a.p b.p) L).length=_; rw [y5]; rfl]
    exact ⟨_,rfl,.refl _⟩
  | succ q =>
   conv=>whnf
   refine aF (fun h7=>?_) (fun h7=>?_)
   ·have h7:j < n:=by
     have:=of_decide_eq_true h7
     omega
    have e8:IntKind.i64.wrap ((j:Int)+1)=((j+1:Nat):Int):=by rw [aw (by omega) (by omega)]; rfl
    obtain ⟨u,cu,ru,pu,su,qu⟩:=gV (L:=L) (k:=j) (by omega) aT
    obtain ⟨v,cv,rv,pv,sv,qv⟩:=gV (L:=L) (k:=ba n j) (by rw [hn]; exact cR (by omega)) aT
    have cj:=jT h7 (by omega)
    have b6:=cR h7
    have fI:(bg L)[j]?=some (u.p,v.p):=by rw [pu,pv]; rw [hn] at b6 ⊢; exact qX (gR (by omega)) (gR b6)
    rw [← pu] at cu
    obtain ⟨k,hk⟩:∃ u,u=ba n j:=⟨_,rfl⟩
    rw [← hk] at cj b6 rv
    rw [← hg] at ru rv
    conv=>whnf
    refine ⟨⟨by omega,by omega⟩,?_⟩
    simp only [toNat_cast,ar,Nat.zero_add]
    conv=>whnf
    refine ⟨by show j < n; omega,?_⟩
    conv=>whnf
    rw [ru]
    conv=>whnf
    refine .inl ⟨10,[[],[],[],[],[3],[],[5],[3,4,5,6],[2,3,4,5,6,7],[2,3,4,5,6,7,8],[0,1,2,3,4,5,6,7,8,9],[0,1,2,3,4,5,6,7,8,9,10]],by kernel_rfl,?_⟩
    conv=>whnf
    rw [show decide ((n:Int)≠0)=true from decide_eq_true (by omega)]
    conv=>whnf
    rw [cj]
    refine ⟨⟨by omega,by omega⟩,?_⟩
    simp only [toNat_cast,ar,Nat.zero_add]
    conv=>whnf
    refine ⟨by show k < n; omega,?_⟩
    conv=>whnf
    rw [rv]
    conv=>whnf
    refine ⟨rfl,?_⟩
    conv=>whnf
    refine ⟨rfl,?_⟩
    conv=>whnf
    refine ⟨rfl,?_⟩
    conv=>whnf
    refine .inl ⟨10,[[],[],[],[0,1,2],[],[],[],[0,1,2,3,4,5,6],[],[],[0,1,2,3,4,5,6,7,8,9],[0,1,2,3,4,5,6,7,8,9,10]],by kernel_rfl,?_⟩
    conv=>whnf
    obtain ⟨x,ex,px,sx,qx⟩:=fk (wT qa qb qu)
    refine ⟨(a,b,u),rfl,⟨PV.aR sa (by decide),PV.aR sb (by decide),PV.aR su (by decide)⟩,?_⟩
    rw [show pj.val (a,b,u)=x.v from ex]
    conv=>whnf
    obtain ⟨y,ey,py,sy,qy⟩:=fk (wT qa qb qv)
    refine ⟨(a,b,v),rfl,⟨PV.aR sa (by decide),PV.aR sb (by decide),PV.aR sv (by decide)⟩,?_⟩
    rw [show pj.val (a,b,v)=y.v from ey]
    conv=>whnf
    obtain ⟨z,ez,pz⟩:=c9 (aU x.q 0)
    refine ⟨x,rfl,RV.bC sx (by decide),?_⟩
    rw [show gf.val x=.int .i64 z from ez]
    conv=>whnf
    have hz:=sV x.q 0
    rw [← pz] at hz
    have an:=LB (w:=ck (atR u.p v.p (x.q / (x.q - y.q)))) fI hO (px.trans (wD _ _ _).symm) (py.trans (wD _ _ _).symm) (gY _)
    rw [← pz] at an
    by_cases h8:z ≥ 0
    ·rw [show decide (z ≥ 0)=true from decide_eq_true h8]
     rw [if_pos h8] at an
     conv=>whnf
     refine ⟨rfl,?_⟩
     conv=>whnf
     refine ⟨rfl,?_⟩
     conv=>whnf
     refine ⟨rfl,?_⟩
     conv=>whnf
     refine ⟨⟨rfl,by show (q+1+1)*80≤140737488355328; omega⟩,?_⟩
     conv=>whnf
     refine ⟨rfl,?_⟩
     conv=>whnf
     refine .inl ⟨3,[[],[0],[],[0,1,2],[0,1,2,3],[0,1,2,3,4]],by kernel_rfl,?_⟩
     conv=>whnf
     obtain ⟨z3,u9,vd⟩:=c9 (aU x.q 0)
     refine ⟨x,rfl,RV.bC sx (by decide),?_⟩
     rw [show gf.val x=.int .i64 z3 from u9]
     conv=>whnf
     obtain ⟨z2,ve,nZ⟩:=c9 (aU y.q 0)
     refine ⟨y,rfl,RV.bC sy (by decide),?_⟩
     rw [show gf.val y=.int .i64 z2 from ve]
     conv=>whnf
     have ng:=sV y.q 0
     rw [← nZ] at ng
     obtain rfl:z3=z:=vd.trans pz.symm
     rw [show IntKind.i64.wrap (z3*z2)=z3*z2 from by rcases hz with rfl | rfl | rfl <;> rcases ng with rfl | rfl | rfl <;> rfl]
     rw [← nZ] at an
     by_cases h9:z3*z2 < 0
     ·rw [show decide (z3*z2 < 0)=true from decide_eq_true h9]
      rw [if_pos h9] at an
      conv=>whnf
      refine .inr (.inr (.inl ⟨9,1,[[],[],[],[1,2],[0,1,2,3],[0,1,2,3,4],[0,1,2,3,4,5],[0,1,2,3,4,5],[],[0,1,2,3,4,5,6,8],[0,1,2,3,4,5,6,7,8,9]],[7],by kernel_rfl,?_⟩))
      conv=>whnf
      obtain ⟨d2,ke,vf,vg,vh⟩:=fk (QB.sub qx qy)
      refine ⟨(x,y),rfl,⟨RV.bC sx (by decide),RV.bC sy (by decide)⟩,?_⟩
      rw [show gC.val (x,y)=d2.v from ke]
      conv=>whnf
      obtain ⟨t,et,pt,st,qt⟩:=fk (QB.div qx vh (by decide))
      obtain ⟨e,ee,pe⟩:=c9 (if d2.q=0 then 10 else 0)
      refine ⟨(x,d2),rfl,⟨RV.bC sx (by decide),RV.bC vg (by decide)⟩,?_⟩
      rw [show lR.val (x,d2)=.tuple ⟨[t.v,.int .i64 e]⟩ from by rw [← et,← ee]; rfl]
      conv=>whnf
      refine .inl ⟨5,[[],[],[],[],[1,2,3],[0,1,2,3,4],[0,1,2,3,4,5]],by kernel_rfl,?_⟩
      conv=>whnf
      obtain ⟨w,ew,pw,sw,qw⟩:=nv (yH qu qv qt)
      refine ⟨((u,v),t),rfl,⟨⟨PV.aR su (by decide),PV.aR sv (by decide)⟩,RV.aR st (by decide)⟩,?_⟩
      rw [show w8.val ((u,v),t)=w.v from ew]
      conv=>whnf
      have cw:=(PV.k9 ew).symm
      rw [← pw] at cw
      rw [show (ck (atR u.p v.p (x.q / (x.q - y.q)))).p=w.p from by rw [gY,pw,pt,vf]] at an
      refine ⟨rfl,?_⟩
      conv=>whnf
      refine ⟨rfl,?_⟩
      conv=>whnf
      refine ⟨rfl,?_⟩
      conv=>whnf
      refine ⟨⟨rfl,by show (q+1+1+1)*80≤140737488355328; omega⟩,?_⟩
      conv=>whnf
      refine ⟨rfl,?_⟩
      conv=>whnf
      refine ⟨rfl,?_⟩
      conv=>whnf
      rw [e8]
      refine .inr ⟨[0,1,2,3,4,5,6,7,8,55],[0,1,5,6,7],?_⟩
      conv=>whnf
      intro _
      conv=>whnf
      refine ⟨_,?_,j+1,(O++[u.p])++[w.p],q+1+1+1,_,(.aa (.aa (.sk 3 (.aa (.aa (.aa (.sk 17 .nil rfl)))) rfl))),rfl,rfl,?_⟩
      ·omega
      ·exact ⟨⟨by omega,by rw [List.length_append,List.length_append,← hq]; rfl⟩,by rw [an]; simp,rf (O:=O++[u.p]) (by rw [List.length_append,← hq]; rfl) (rf hq hF cu rfl) cw rfl⟩
     ·rw [show decide (z3*z2 < 0)=false from decide_eq_false h9]
      rw [if_neg h9] at an
      conv=>whnf
      refine ⟨rfl,?_⟩
      conv=>whnf
      rw [e8]
      refine .inr ⟨[0,1,2,3,4,5,6,7,8,35],[0,1,5,6,7],?_⟩
      conv=>whnf
      intro _
      conv=>whnf
      refine ⟨_,?_,j+1,O++[u.p],q+1+1,_,(.aa (.aa (.sk 3 (.aa (.aa (.aa (.sk 17 .nil rfl)))) rfl))),rfl,rfl,?_⟩
      ·omega
      ·exact ⟨⟨by omega,by rw [List.length_append,← hq]; rfl⟩,by rw [an]; simp,rf hq hF cu rfl⟩
    ·rw [show decide (z ≥ 0)=false from decide_eq_false h8]
     rw [if_neg h8] at an
     conv=>whnf
     refine .inl ⟨3,[[],[0],[],[0,1,2],[0,1,2,3],[0,1,2,3,4]],by kernel_rfl,?_⟩
     conv=>whnf
     obtain ⟨z3,u9,vd⟩:=c9 (aU x.q 0)
     refine ⟨x,rfl,RV.bC sx (by decide),?_⟩
     rw [show gf.val x=.int .i64 z3 from u9]
     conv=>whnf
     obtain ⟨z2,ve,nZ⟩:=c9 (aU y.q 0)
     refine ⟨y,rfl,RV.bC sy (by decide),?_⟩
     rw [show gf.val y=.int .i64 z2 from ve]
     conv=>whnf
     have ng:=sV y.q 0
     rw [← nZ] at ng
     obtain rfl:z3=z:=vd.trans pz.symm
     rw [show IntKind.i64.wrap (z3*z2)=z3*z2 from by rcases hz with rfl | rfl | rfl <;> rcases ng with rfl | rfl | rfl <;> rfl]
     rw [← nZ] at an
     by_cases h9:z3*z2 < 0
     ·rw [show decide (z3*z2 < 0)=true from decide_eq_true h9]
      rw [if_pos h9] at an
      conv=>whnf
      refine .inr (.inr (.inl ⟨9,1,[[],[],[],[1,2],[0,1,2,3],[0,1,2,3,4],[0,1,2,3,4,5],[0,1,2,3,4,5],[],[0,1,2,3,4,5,6,8],[0,1,2,3,4,5,6,7,8,9]],[7],by kernel_rfl,?_⟩))
      conv=>whnf
      obtain ⟨d2,ke,vf,vg,vh⟩:=fk (QB.sub qx qy)
      refine ⟨(x,y),rfl,⟨RV.bC sx (by decide),RV.bC sy (by decide)⟩,?_⟩
      rw [show gC.val (x,y)=d2.v from ke]
      conv=>whnf
      obtain ⟨t,et,pt,st,qt⟩:=fk (QB.div qx vh (by decide))
      obtain ⟨e,ee,pe⟩:=c9 (if d2.q=0 then 10 else 0)
      refine ⟨(x,d2),rfl,⟨RV.bC sx (by decide),RV.bC vg (by decide)⟩,?_⟩
      rw [show lR.val (x,d2)=.tuple ⟨[t.v,.int .i64 e]⟩ from by rw [← et,← ee]; rfl]
      conv=>whnf
      refine .inl ⟨5,[[],[],[],[],[1,2,3],[0,1,2,3,4],[0,1,2,3,4,5]],by kernel_rfl,?_⟩
      conv=>whnf
      obtain ⟨w,ew,pw,sw,qw⟩:=nv (yH qu qv qt)
      refine ⟨((u,v),t),rfl,⟨⟨PV.aR su (by decide),PV.aR sv (by decide)⟩,RV.aR st (by decide)⟩,?_⟩
      rw [show w8.val ((u,v),t)=w.v from ew]
      conv=>whnf
      have cw:=(PV.k9 ew).symm
      rw [← pw] at cw
      rw [show (ck (atR u.p v.p (x.q / (x.q - y.q)))).p=w.p from by rw [gY,pw,pt,vf]] at an
      refine ⟨rfl,?_⟩
      conv=>whnf
      refine ⟨rfl,?_⟩
      conv=>whnf
      refine ⟨rfl,?_⟩
      conv=>whnf
      refine ⟨⟨rfl,by show (q+1+1)*80≤140737488355328; omega⟩,?_⟩
      conv=>whnf
      refine ⟨rfl,?_⟩
      conv=>whnf
      refine ⟨rfl,?_⟩
      conv=>whnf
      rw [e8]
      refine .inr ⟨[0,1,2,3,4,5,6,7,8,52],[0,1,5,6,7],?_⟩
      conv=>whnf
      intro _
      conv=>whnf
      refine ⟨_,?_,j+1,O++[w.p],q+1+1,_,(.aa (.aa (.sk 3 (.aa (.aa (.aa (.sk 17 .nil rfl)))) rfl))),rfl,rfl,?_⟩
      ·omega
      ·exact ⟨⟨by omega,by rw [List.length_append,← hq]; rfl⟩,by rw [an]; simp,rf hq hF cw rfl⟩
     ·rw [show decide (z3*z2 < 0)=false from decide_eq_false h9]
      rw [if_neg h9] at an
      conv=>whnf
      refine ⟨rfl,?_⟩
      conv=>whnf
      rw [e8]
      refine .inr ⟨[0,1,2,3,4,5,6,7,8,9],[0,1,5,6,7],?_⟩
      conv=>whnf
      intro _
      conv=>whnf
      refine ⟨_,?_,j+1,O,q+1,F,(.aa (.aa (.sk 3 (.aa (.aa (.aa (.sk 17 .nil rfl)))) rfl))),rfl,rfl,?_⟩
      ·omega
      ·exact ⟨⟨by omega,hq⟩,by rw [an]; simp,hF⟩
   ·have h7:j=n:=by
     have:=of_decide_eq_false h7
     omega
    subst h7
    have y5:eY (eE a.p b.p) L=O:=by rw [hO,hn]; exact (Ml _ L).symm
    conv=>whnf
    rw [hK]
    unfold gx
    rw [show ie.new (some (L,c),(a,b))=some (.flat true (q+1) 6 (bT O)) from by show cT (eY (eE a.p b.p) L)=_; rw [y5]; unfold cT; rw [← hq],show ie.val (some (L,c),(a,b))=.slice (some ⟨4,0,none⟩) (q+1) aJ from by show eD _ (eY (eE a.p b.p) L).length=_; rw [y5,← hq]; rfl]
    refine ⟨9,?_⟩
    conv=>whnf
    exact ⟨⟨rfl,aO.qW (fun h=>h) hF (fun r hr=>rfl)⟩,_,rfl,.refl _⟩
end Go.Proofs.YtlapbjdhekcipaaGreat
/- Contracts of convex: halves. -/
set_option maxRecDepth 20000
set_option maxHeartbeats 4000000
namespace Go.Proofs.YtlapbjdhekcipaaGreat
open Go Go.Ae
theorem Yp:fK Tryz.prog 60 (cc mo cF Tryz.f60):=by
 exact iV Cj aK Tryz.func60 (enters_of Tryz.func60 (by kernel_rfl) rfl)
theorem SV:fK Tryz.prog 57 (cc mo cF Tryz.f57):=by
 exact iV Cj aK Tryz.func57 (enters_of Tryz.func57 (by kernel_rfl) rfl)
end Go.Proofs.YtlapbjdhekcipaaGreat
/- Contracts of convex: what two rings have in common. -/
set_option maxRecDepth 20000
set_option maxHeartbeats 4000000
namespace Go.Proofs.YtlapbjdhekcipaaGreat
open Go Go.Ae
def Ql:Env:=En [(23,.q aV),(58,.q fa),(59,.r ie)] [(60,cc mo cF Tryz.f60),(57,cc mo cF Tryz.f57),(64,cc mo cF Tryz.f64)] [(118,tD)]
theorem abZ:EnvOk Tryz.prog Ql:=bF ⟨xX,Ym,aaF,trivial⟩ ⟨Yp,SV,vW,trivial⟩
theorem aaG:gB Tryz.prog Ql:=uY ⟨vK,trivial⟩
theorem VE:c4 Tryz.prog 16 iU:=by
 refine dC abZ aK Tryz.func16 (enters_of Tryz.func16 (by kernel_rfl) rfl) ?_ ?_ ?_ (hI:=aaG)
 ·intro ⟨i,k⟩ B hb
  cases i <;> cases k <;> simp [iU,PL.ai] at hb
  ·rw [hb]; rfl
  ·rw [hb]; rfl
  ·rcases hb with rfl | rfl <;> rfl
 ·intro i B hb
  exact A5 hb
 intro ⟨i,k⟩ hp
 have hp:((i.list.length≤1099511627776∧∀ v∈i.list,v.sz 2048)∧k.list.length≤1099511627776∧∀ v∈k.list,v.sz 2048)∧CE i.list k.list:=hp
 obtain ⟨⟨⟨pN,oG⟩,ug,lf⟩,a9⟩:=hp
 cases i with
 | none =>
  cases k with
  | none =>
   conv=>whnf
   refine ⟨none,[],rfl,⟨Nat.zero_le _,fun v hv=>nomatch hv⟩,?_⟩
   rw [show aV.ai none=[] from rfl,show aV.val none=.int .i64 4 from rfl,show aV.new none=none from rfl]
   conv=>whnf
   refine ⟨_,rfl,?_⟩
   conv=>whnf
   exact ⟨_,rfl,.refl _⟩
  | some k =>
   conv=>whnf
   refine ⟨none,[],rfl,⟨Nat.zero_le _,fun v hv=>nomatch hv⟩,?_⟩
   rw [show aV.ai none=[] from rfl,show aV.val none=.int .i64 4 from rfl,show aV.new none=none from rfl]
   conv=>whnf
   refine ⟨_,rfl,?_⟩
   conv=>whnf
   exact ⟨_,rfl,.refl _⟩
 | some i =>
  obtain ⟨A,c⟩:=i
  have pN:A.length≤1099511627776:=pN
  have oG:∀ v∈A,PV.sz 2048 v:=oG
  obtain ⟨na,cW⟩:∃ n,n=A.length:=⟨_,rfl⟩
  obtain ⟨ga,eg⟩:∃ g,g=cO A:=⟨_,rfl⟩
  cases k with
  | none =>
   obtain ⟨K,hK⟩:∃ K,K=gx iU (some (A,c),none):=⟨_,rfl⟩
   have fin:∀ H:ax,K (.tuple ⟨[.slice none 0 0,.int .i64 1]⟩) H:=fun H=>by
    have h:gN A []=([],1):=G1 fun e=>by have:=e.2; cases this
    rw [hK]
    unfold gx
    rw [show iU.new (some (A,c),none)=none from by show cT (gN A []).1=none; rw [h]; rfl,show iU.val (some (A,c),none)=.tuple ⟨[.slice none 0 0,.int .i64 1]⟩ from by show Value.tuple ⟨[eD _ (gN A []).1.length,.int .i64 (gN A []).2]⟩=_; rw [h]; rfl]
    exact ⟨_,rfl,.refl _⟩
   rw [show iU.ai (some (A,c),none)=[.flat false na 6 ga] from by rw [cW,eg]; rfl,show iU.args (some (A,c),none)=[.slice (some ⟨0,0,none⟩) na c,.slice none 0 0] from by rw [cW]; rfl,← hK]
   rw [← cW] at pN
   conv=>whnf
   refine ⟨some (A,c),[0],by rw [show aV.args (some (A,c))=[.slice (some ⟨0,0,none⟩) na c] from by rw [cW]; rfl]; rfl,⟨by show A.length≤_; omega,oG⟩,?_⟩
   rw [show aV.ai (some (A,c))=[.flat false na 6 ga] from by rw [cW,eg]; rfl,show aV.val (some (A,c))=.int .i64 (bw A) from rfl,show aV.new (some (A,c))=none from rfl]
   conv=>whnf
   refine ⟨aO.aY (fun h=>h) (fun r hr=>by rw [eg]; rfl),?_⟩
   conv=>whnf
   refine ⟨_,rfl,?_⟩
   obtain ⟨e,he⟩:∃ z,z=bw A:=⟨_,rfl⟩
   rw [← he]
   conv=>whnf
   by_cases h1:e=0
   ·rw [show (e != 0)=false from by simp [h1]]
    conv=>whnf
    refine ⟨none,[],rfl,⟨Nat.zero_le _,fun v hv=>nomatch hv⟩,?_⟩
    rw [show aV.ai none=[] from rfl,show aV.val none=.int .i64 4 from rfl,show aV.new none=none from rfl]
    conv=>whnf
    refine ⟨_,rfl,?_⟩
    conv=>whnf
    exact fin _
   ·rw [show (e != 0)=true from by simp [h1]]
    conv=>whnf
    exact fin _
  | some k =>
   obtain ⟨B,d⟩:=k
   have ug:B.length≤1099511627776:=ug
   have lf:∀ v∈B,PV.sz 2048 v:=lf
   have a9:CE A B:=a9
   obtain ⟨nb,gj⟩:∃ n,n=B.length:=⟨_,rfl⟩
   obtain ⟨gb,nh⟩:∃ g,g=cO B:=⟨_,rfl⟩
   obtain ⟨K,hK⟩:∃ K,K=gx iU (some (A,c),some (B,d)):=⟨_,rfl⟩
   have r6:∀ (e:Int) (H:ax),gN A B=([],e)→K (.tuple ⟨[.slice none 0 0,.int .i64 e]⟩) H:=fun e H h=>by
    rw [hK]
    unfold gx
    rw [show iU.new (some (A,c),some (B,d))=none from by show cT (gN A B).1=none; rw [h]; rfl,show iU.val (some (A,c),some (B,d))=.tuple ⟨[.slice none 0 0,.int .i64 e]⟩ from by show Value.tuple ⟨[eD _ (gN A B).1.length,.int .i64 (gN A B).2]⟩=_; rw [h]; rfl]
    exact ⟨_,rfl,.refl _⟩
   rw [show iU.ai (some (A,c),some (B,d))=[.flat false na 6 ga,.flat false nb 6 gb] from by rw [cW,eg,gj,nh]; rfl,show iU.args (some (A,c),some (B,d))=[.slice (some ⟨0,0,none⟩) na c,.slice (some ⟨1,0,none⟩) nb d] from by rw [cW,gj]; rfl,← hK]
   rw [← cW] at pN
   rw [← gj] at ug
   conv=>whnf
   refine ⟨some (A,c),[0],by rw [show aV.args (some (A,c))=[.slice (some ⟨0,0,none⟩) na c] from by rw [cW]; rfl]; rfl,⟨by show A.length≤_; omega,oG⟩,?_⟩
   rw [show aV.ai (some (A,c))=[.flat false na 6 ga] from by rw [cW,eg]; rfl,show aV.val (some (A,c))=.int .i64 (bw A) from rfl,show aV.new (some (A,c))=none from rfl]
   conv=>whnf
   refine ⟨aO.aY (fun h=>h) (fun r hr=>by rw [eg]; rfl),?_⟩
   conv=>whnf
   refine ⟨_,rfl,?_⟩
   obtain ⟨e,he⟩:∃ z,z=bw A:=⟨_,rfl⟩
   rw [← he]
   conv=>whnf
   by_cases h1:e=0
   ·rw [show (e != 0)=false from by simp [h1]]
    conv=>whnf
    refine ⟨some (B,d),[1],by rw [show aV.args (some (B,d))=[.slice (some ⟨0,0,none⟩) nb d] from by rw [gj]; rfl]; rfl,⟨by show B.length≤_; omega,lf⟩,?_⟩
    rw [show aV.ai (some (B,d))=[.flat false nb 6 gb] from by rw [gj,nh]; rfl,show aV.val (some (B,d))=.int .i64 (bw B) from rfl,show aV.new (some (B,d))=none from rfl]
    conv=>whnf
    refine ⟨aO.aY (fun h=>h) (fun r hr=>by rw [nh]; rfl),?_⟩
    conv=>whnf
    refine ⟨_,rfl,?_⟩
    obtain ⟨e2,cA⟩:∃ z,z=bw B:=⟨_,rfl⟩
    rw [← cA]
    conv=>whnf
    by_cases J:e2=0
    ·rw [show (e2 != 0)=false from by simp [J]]
     have zW:bw A=0:=by rw [← he]; exact h1
     have Dh:bw B=0:=by rw [← cA]; exact J
     have a9:=a9 zW Dh
     have hzA:=o5 zW
     have hzB:=o5 Dh
     have I9:ga=bT (aS A):=by rw [Fq zW,eg]
     have hnA:na=(aS A).length:=by rw [c8,cW]
     conv=>whnf
     intro yl nu fn tm df
     conv=>whnf
     refine .inl ⟨fun mm tz hz=>∃ (j:Nat) (p:Nat) (F:Nat→List Value),bu (some (.func (.yield yl) #[] #[])::some (.pointer (some ⟨3,0,none⟩))::aB 3 (some (.slice (some ⟨1,0,none⟩) nb d)::some (.int .i64 nb)::some (.int .i64 j)::aB 17 [])) tz∧hz=[some (.flat false na 6 ga),some (.flat false nb 6 gb),some (.aL true 1 [[ac2 (.slice (some ⟨0,0,none⟩) na c) p j]]),some (.aL true 1 [[.slice (some ⟨1,0,none⟩) nb d]]),some (.bZ (pT Tryz.f16 fn tm df))]++ac3 F p j∧nb - j=mm∧((j≤nb∧(0 < j→p=(iT (aS A) (aS B) j).length))∧(0 < j→∀ r,r < p→F r=bT (iT (aS A) (aS B) j) r)),.inr ⟨[0,1,2,3,4],[0,1,5,6,7],?_⟩,?_⟩
     ·conv=>whnf
      intro _
      conv=>whnf
      refine ⟨_,0,0,fun _=>[],(.aa (.aa (.sk 3 (.aa (.aa (.aa (.sk 17 .nil rfl)))) rfl))),rfl,rfl,?_⟩
      exact ⟨⟨Nat.zero_le _,fun h=>absurd h (Nat.lt_irrefl 0)⟩,fun h=>absurd h (Nat.lt_irrefl 0)⟩
     rintro mm aQ _ ⟨j,p,F,aq,rfl,rfl,⟨⟨hj,uV⟩,hF⟩⟩
     obtain ⟨az,rfl⟩:∃ az:Nat→Value,aQ=.func (.yield yl) #[] #[]::.pointer (some ⟨3,0,none⟩)::zs az 2 3 (.slice (some ⟨1,0,none⟩) nb d::.int .i64 nb::.int .i64 j::zs az 8 17 []):=bI aq
     clear aq
     cases j with
     | zero =>
      conv=>whnf
      refine aF (fun h3=>?_) (fun h3=>?_)
      ·have h3:0 < nb:=by
        have:=of_decide_eq_true h3
        omega
       have e7:IntKind.i64.wrap (((0:Nat):Int)+1)=((0+1:Nat):Int):=by rw [aw (by omega) (by omega)]; rfl
       obtain ⟨a,b,ra,rb,⟨ma,mb⟩,fI,b6,_,_⟩:=o6 gj h3
       have sa:=lf a ma
       have sb:=lf b mb
       have cj:=jT h3 (by omega)
       obtain ⟨u,hu⟩:∃ u,u=ba nb (0):=⟨_,rfl⟩
       rw [← hu] at cj b6 rb
       rw [← nh] at ra rb
       obtain ⟨vi,vj⟩:=a9 (0) (by rw [c8]; omega)
       have hf:=Fs (a:=a.p) (b:=b.p) vi vj (PV.cN sa (by decide)) (PV.cN sb (by decide))
       obtain ⟨C,hC⟩:∃ C,C=eY (eE a.p b.p) (iT (aS A) (aS B) (0)):=⟨_,rfl⟩
       obtain ⟨R,hR⟩:∃ R,R=fw C:=⟨_,rfl⟩
       have ny:=D5 fI hC hR
       obtain ⟨m,hm⟩:∃ m,m=C.length:=⟨_,rfl⟩
       obtain ⟨q,hq⟩:∃ m,m=R.length:=⟨_,rfl⟩
       conv=>whnf
       refine ⟨⟨by omega,by omega⟩,?_⟩
       simp only [toNat_cast,ar,Nat.zero_add]
       conv=>whnf
       refine ⟨by show 0 < nb; omega,?_⟩
       conv=>whnf
       rw [ra]
       conv=>whnf
       refine .inl ⟨10,[[],[],[],[],[3],[],[5],[3,4,5,6],[2,3,4,5,6,7],[2,3,4,5,6,7,8],[0,1,2,3,4,5,6,7,8,9],[0,1,2,3,4,5,6,7,8,9,10]],by kernel_rfl,?_⟩
       conv=>whnf
       rw [show decide ((nb:Int)≠0)=true from decide_eq_true (by omega)]
       conv=>whnf
       rw [cj]
       refine ⟨⟨by omega,by omega⟩,?_⟩
       simp only [toNat_cast,ar,Nat.zero_add]
       conv=>whnf
       refine ⟨by show u < nb; omega,?_⟩
       conv=>whnf
       rw [rb]
       conv=>whnf
       refine ⟨rfl,?_⟩
       conv=>whnf
       refine ⟨rfl,?_⟩
       conv=>whnf
       refine ⟨rfl,?_⟩
       conv=>whnf
       refine ⟨(some (aS A,c),(a,b)),[0,18,19,20],rfl,⟨vi,vj,sa,sb⟩,?_⟩
       rw [show ie.ai (some (aS A,c),(a,b))=[.flat false na 6 ga,.aL false 1 [[.slice (some ⟨0,0,none⟩) na c]],.aL false 6 [a.cells],.aL false 6 [b.cells]] from by rw [hnA,I9]; rfl,show ie.val (some (aS A,c),(a,b))=eD 4 m from by rw [hm,hC]; rfl]
       rw [show ie.new (some (aS A,c),(a,b))=cT C from by rw [hC]; rfl]
       cases m with
       | zero =>
        obtain rfl:C=[]:=List.eq_nil_of_length_eq_zero hm.symm
        conv=>whnf
        refine ⟨.inl (aO.aY (fun h=>h) (fun r hr=>by rw [I9]; rfl)),?_⟩
        conv=>whnf
        refine ⟨.inr ⟨_,_,_,_,rfl,rfl,rfl⟩,?_⟩
        conv=>whnf
        refine ⟨.inr ⟨_,_,_,_,rfl,rfl,rfl⟩,?_⟩
        conv=>whnf
        refine ⟨.inr ⟨_,_,_,_,rfl,rfl,rfl⟩,?_⟩
        conv=>whnf
        refine ⟨_,rfl,?_⟩
        conv=>whnf
        refine ⟨none,[],rfl,⟨Nat.zero_le _,fun v hv=>nomatch hv⟩,?_⟩
        rw [show fa.ai none=[] from rfl,show fa.val none=.slice none 0 0 from rfl,show fa.new none=none from rfl]
        conv=>whnf
        refine ⟨_,rfl,?_⟩
        conv=>whnf
        rw [show fw []=[] from rfl] at hR
        subst hR
        refine ⟨rfl,?_⟩
        conv=>whnf
        rw [e7]
        refine .inr ⟨[0,1,2,3,4],[0,1,5,6,7],?_⟩
        conv=>whnf
        intro _
        conv=>whnf
        refine ⟨_,?_,0+1,0,fun _=>[],(.aa (.aa (.sk 3 (.aa (.aa (.aa (.sk 17 .nil rfl)))) rfl))),rfl,rfl,?_⟩
        ·omega
        ·exact ⟨⟨by omega,fun _=>congrArg List.length ny⟩,fun _ r hr=>absurd hr (Nat.not_lt_zero r)⟩
       | succ m =>
        rw [show cT C=some (.flat true (m+1) 6 (bT C)) from by unfold cT; rw [← hm]]
        conv=>whnf
        refine ⟨.inl (aO.aY (fun h=>h) (fun r hr=>by rw [I9]; rfl)),?_⟩
        conv=>whnf
        refine ⟨.inr ⟨_,_,_,_,rfl,rfl,rfl⟩,?_⟩
        conv=>whnf
        refine ⟨.inr ⟨_,_,_,_,rfl,rfl,rfl⟩,?_⟩
        conv=>whnf
        refine ⟨.inr ⟨_,_,_,_,rfl,rfl,rfl⟩,?_⟩
        conv=>whnf
        refine ⟨_,rfl,?_⟩
        conv=>whnf
        refine ⟨some (C,aJ),[21],by rw [show fa.args (some (C,aJ))=[.slice (some ⟨0,0,none⟩) (m+1) aJ] from by rw [hm]; rfl]; rfl,⟨by rw [hC]; exact hf.1,fun v hv=>hf.2 v (by rw [← hC]; exact hv)⟩,?_⟩
        obtain ⟨G,hG⟩:∃ G,G=bT C:=⟨_,rfl⟩
        rw [← hG,show fa.ai (some (C,aJ))=[.flat false (m+1) 6 G] from by rw [hm,hG]; rfl,show fa.val (some (C,aJ))=eD 1 q from by rw [hq,hR]; rfl,show fa.new (some (C,aJ))=cT R from by rw [hR]; rfl]
        cases q with
        | zero =>
         obtain rfl:R=[]:=List.eq_nil_of_length_eq_zero hq.symm
         conv=>whnf
         refine ⟨aO.aY (fun h=>by cases h) (fun r hr=>by rw [hG]; rfl),?_⟩
         conv=>whnf
         refine ⟨_,rfl,?_⟩
         conv=>whnf
         refine ⟨rfl,?_⟩
         conv=>whnf
         rw [e7]
         refine .inr ⟨[0,1,2,3,4],[0,1,5,6,7],?_⟩
         conv=>whnf
         intro _
         conv=>whnf
         refine ⟨_,?_,0+1,0,fun _=>[],(.aa (.aa (.sk 3 (.aa (.aa (.aa (.sk 17 .nil rfl)))) rfl))),rfl,rfl,?_⟩
         ·omega
         ·exact ⟨⟨by omega,fun _=>congrArg List.length ny⟩,fun _ r hr=>absurd hr (Nat.not_lt_zero r)⟩
        | succ q =>
         obtain ⟨E,hE⟩:∃ G,G=bT R:=⟨_,rfl⟩
         rw [show cT R=some (.flat true (q+1) 6 E) from by unfold cT; rw [← hq,hE]]
         conv=>whnf
         refine ⟨aO.aY (fun h=>by cases h) (fun r hr=>by rw [hG]; rfl),?_⟩
         conv=>whnf
         refine ⟨_,rfl,?_⟩
         conv=>whnf
         refine ⟨rfl,?_⟩
         conv=>whnf
         rw [e7]
         refine .inr ⟨[0,1,2,3,4,22],[0,1,5,6,7],?_⟩
         conv=>whnf
         intro _
         conv=>whnf
         refine ⟨_,?_,0+1,q+1,E,(.aa (.aa (.sk 3 (.aa (.aa (.aa (.sk 17 .nil rfl)))) rfl))),rfl,rfl,?_⟩
         ·omega
         ·exact ⟨⟨by omega,fun _=>hq.trans (congrArg List.length ny)⟩,fun _ r hr=>by rw [hE,ny]⟩
      ·have:=of_decide_eq_false h3
       omega
     | succ j =>
      have m8:=uV (Nat.succ_pos j)
      have Di:=hF (Nat.succ_pos j)
      obtain ⟨S,hS⟩:∃ S,S=iT (aS A) (aS B) (j+1):=⟨_,rfl⟩
      rw [← hS] at m8 Di
      cases p with
      | zero =>
       obtain rfl:S=[]:=List.eq_nil_of_length_eq_zero m8.symm
       conv=>whnf
       refine aF (fun h3=>?_) (fun h3=>?_)
       ·have h3:(j+1) < nb:=by
         have:=of_decide_eq_true h3
         omega
        have e7:IntKind.i64.wrap ((((j+1):Nat):Int)+1)=(((j+1)+1:Nat):Int):=by rw [aw (by omega) (by omega)]; rfl
        obtain ⟨a,b,ra,rb,⟨ma,mb⟩,fI,b6,_,_⟩:=o6 gj h3
        have sa:=lf a ma
        have sb:=lf b mb
        have cj:=jT h3 (by omega)
        obtain ⟨u,hu⟩:∃ u,u=ba nb ((j+1)):=⟨_,rfl⟩
        rw [← hu] at cj b6 rb
        rw [← nh] at ra rb
        obtain ⟨vi,vj⟩:=a9 ((j+1)) (by rw [c8]; omega)
        have hf:=Fs (a:=a.p) (b:=b.p) vi vj (PV.cN sa (by decide)) (PV.cN sb (by decide))
        obtain ⟨C,hC⟩:∃ C,C=eY (eE a.p b.p) (iT (aS A) (aS B) ((j+1))):=⟨_,rfl⟩
        obtain ⟨R,hR⟩:∃ R,R=fw C:=⟨_,rfl⟩
        have ny:=D5 fI hC hR
        obtain ⟨m,hm⟩:∃ m,m=C.length:=⟨_,rfl⟩
        obtain ⟨q,hq⟩:∃ m,m=R.length:=⟨_,rfl⟩
        conv=>whnf
        refine ⟨⟨by omega,by omega⟩,?_⟩
        simp only [toNat_cast,ar,Nat.zero_add]
        conv=>whnf
        refine ⟨by show (j+1) < nb; omega,?_⟩
        conv=>whnf
        rw [ra]
        conv=>whnf
        refine .inl ⟨10,[[],[],[],[],[3],[],[5],[3,4,5,6],[2,3,4,5,6,7],[2,3,4,5,6,7,8],[0,1,2,3,4,5,6,7,8,9],[0,1,2,3,4,5,6,7,8,9,10]],by kernel_rfl,?_⟩
        conv=>whnf
        rw [show decide ((nb:Int)≠0)=true from decide_eq_true (by omega)]
        conv=>whnf
        rw [cj]
        refine ⟨⟨by omega,by omega⟩,?_⟩
        simp only [toNat_cast,ar,Nat.zero_add]
        conv=>whnf
        refine ⟨by show u < nb; omega,?_⟩
        conv=>whnf
        rw [rb]
        conv=>whnf
        refine ⟨rfl,?_⟩
        conv=>whnf
        refine ⟨rfl,?_⟩
        conv=>whnf
        refine ⟨rfl,?_⟩
        conv=>whnf
        refine ⟨(none,(a,b)),[18,19,20],rfl,⟨Nat.zero_le _,(fun v hv=>nomatch hv),sa,sb⟩,?_⟩
        rw [show ie.ai (none,(a,b))=[.aL false 1 [[.slice none 0 0]],.aL false 6 [a.cells],.aL false 6 [b.cells]] from rfl,show ie.val (none,(a,b))=.slice none 0 0 from rfl,show ie.new (none,(a,b))=none from rfl]
        conv=>whnf
        refine ⟨.inr ⟨_,_,_,_,rfl,rfl,rfl⟩,?_⟩
        conv=>whnf
        refine ⟨.inr ⟨_,_,_,_,rfl,rfl,rfl⟩,?_⟩
        conv=>whnf
        refine ⟨.inr ⟨_,_,_,_,rfl,rfl,rfl⟩,?_⟩
        conv=>whnf
        refine ⟨_,rfl,?_⟩
        conv=>whnf
        refine ⟨none,[],rfl,⟨Nat.zero_le _,fun v hv=>nomatch hv⟩,?_⟩
        rw [show fa.ai none=[] from rfl,show fa.val none=.slice none 0 0 from rfl,show fa.new none=none from rfl]
        conv=>whnf
        refine ⟨_,rfl,?_⟩
        conv=>whnf
        obtain rfl:C=[]:=by rw [hC,← hS]; rfl
        rw [show fw []=[] from rfl] at hR
        subst hR
        refine ⟨rfl,?_⟩
        conv=>whnf
        rw [e7]
        refine .inr ⟨[0,1,2,3,4],[0,1,5,6,7],?_⟩
        conv=>whnf
        intro _
        conv=>whnf
        refine ⟨_,?_,(j+1)+1,0,fun _=>[],(.aa (.aa (.sk 3 (.aa (.aa (.aa (.sk 17 .nil rfl)))) rfl))),rfl,rfl,?_⟩
        ·omega
        ·exact ⟨⟨by omega,fun _=>congrArg List.length ny⟩,fun _ r hr=>absurd hr (Nat.not_lt_zero r)⟩
       ·have h3:j+1=nb:=by
         have:=of_decide_eq_false h3
         omega
        conv=>whnf
        exact r6 11 _ ((NI ⟨zW,Dh⟩ (R:=[]) (by rw [← gj,← h3]; exact hS)).trans (Wo rfl))
      | succ p =>
       conv=>whnf
       refine aF (fun h3=>?_) (fun h3=>?_)
       ·have h3:(j+1) < nb:=by
         have:=of_decide_eq_true h3
         omega
        have e7:IntKind.i64.wrap ((((j+1):Nat):Int)+1)=(((j+1)+1:Nat):Int):=by rw [aw (by omega) (by omega)]; rfl
        obtain ⟨a,b,ra,rb,⟨ma,mb⟩,fI,b6,_,_⟩:=o6 gj h3
        have sa:=lf a ma
        have sb:=lf b mb
        have cj:=jT h3 (by omega)
        obtain ⟨u,hu⟩:∃ u,u=ba nb ((j+1)):=⟨_,rfl⟩
        rw [← hu] at cj b6 rb
        rw [← nh] at ra rb
        obtain ⟨vi,vj⟩:=a9 ((j+1)) (by rw [c8]; omega)
        have hf:=Fs (a:=a.p) (b:=b.p) vi vj (PV.cN sa (by decide)) (PV.cN sb (by decide))
        obtain ⟨C,hC⟩:∃ C,C=eY (eE a.p b.p) (iT (aS A) (aS B) ((j+1))):=⟨_,rfl⟩
        obtain ⟨R,hR⟩:∃ R,R=fw C:=⟨_,rfl⟩
        have ny:=D5 fI hC hR
        obtain ⟨m,hm⟩:∃ m,m=C.length:=⟨_,rfl⟩
        obtain ⟨q,hq⟩:∃ m,m=R.length:=⟨_,rfl⟩
        conv=>whnf
        refine ⟨⟨by omega,by omega⟩,?_⟩
        simp only [toNat_cast,ar,Nat.zero_add]
        conv=>whnf
        refine ⟨by show (j+1) < nb; omega,?_⟩
        conv=>whnf
        rw [ra]
        conv=>whnf
        refine .inl ⟨10,[[],[],[],[],[3],[],[5],[3,4,5,6],[2,3,4,5,6,7],[2,3,4,5,6,7,8],[0,1,2,3,4,5,6,7,8,9],[0,1,2,3,4,5,6,7,8,9,10]],by kernel_rfl,?_⟩
        conv=>whnf
        rw [show decide ((nb:Int)≠0)=true from decide_eq_true (by omega)]
        conv=>whnf
        rw [cj]
        refine ⟨⟨by omega,by omega⟩,?_⟩
        simp only [toNat_cast,ar,Nat.zero_add]
        conv=>whnf
        refine ⟨by show u < nb; omega,?_⟩
        conv=>whnf
        rw [rb]
        conv=>whnf
        refine ⟨rfl,?_⟩
        conv=>whnf
        refine ⟨rfl,?_⟩
        conv=>whnf
        refine ⟨rfl,?_⟩
        conv=>whnf
        refine ⟨(some (S,aJ),(a,b)),[5,19,20,21],by rw [show ie.args (some (S,aJ),(a,b))=[.func (.func 114) #[] #[.pointer (some ⟨1,0,none⟩),.pointer (some ⟨2,0,none⟩),.pointer (some ⟨3,0,none⟩)]] from rfl]; rfl,⟨by rw [hS]; exact vi,by rw [hS]; exact vj,sa,sb⟩,?_⟩
        rw [show ie.ai (some (S,aJ),(a,b))=[.flat false (p+1) 6 (bT S),.aL false 1 [[.slice (some ⟨0,0,none⟩) (p+1) aJ]],.aL false 6 [a.cells],.aL false 6 [b.cells]] from by rw [m8]; rfl,show ie.val (some (S,aJ),(a,b))=eD 4 m from by rw [hm,hC,← hS]; rfl]
        rw [show ie.new (some (S,aJ),(a,b))=cT C from by rw [hC,← hS]; rfl]
        cases m with
        | zero =>
         obtain rfl:C=[]:=List.eq_nil_of_length_eq_zero hm.symm
         conv=>whnf
         refine ⟨.inl (aO.qW (fun h=>by cases h) Di (fun r hr=>rfl)),?_⟩
         conv=>whnf
         refine ⟨.inr ⟨_,_,_,_,rfl,rfl,rfl⟩,?_⟩
         conv=>whnf
         refine ⟨.inr ⟨_,_,_,_,rfl,rfl,rfl⟩,?_⟩
         conv=>whnf
         refine ⟨.inr ⟨_,_,_,_,rfl,rfl,rfl⟩,?_⟩
         conv=>whnf
         refine ⟨_,rfl,?_⟩
         conv=>whnf
         refine ⟨none,[],rfl,⟨Nat.zero_le _,fun v hv=>nomatch hv⟩,?_⟩
         rw [show fa.ai none=[] from rfl,show fa.val none=.slice none 0 0 from rfl,show fa.new none=none from rfl]
         conv=>whnf
         refine ⟨_,rfl,?_⟩
         conv=>whnf
         rw [show fw []=[] from rfl] at hR
         subst hR
         refine ⟨rfl,?_⟩
         conv=>whnf
         rw [e7]
         refine .inr ⟨[0,1,2,3,4],[0,1,5,6,7],?_⟩
         conv=>whnf
         intro _
         conv=>whnf
         refine ⟨_,?_,(j+1)+1,0,fun _=>[],(.aa (.aa (.sk 3 (.aa (.aa (.aa (.sk 17 .nil rfl)))) rfl))),rfl,rfl,?_⟩
         ·omega
         ·exact ⟨⟨by omega,fun _=>congrArg List.length ny⟩,fun _ r hr=>absurd hr (Nat.not_lt_zero r)⟩
        | succ m =>
         rw [show cT C=some (.flat true (m+1) 6 (bT C)) from by unfold cT; rw [← hm]]
         conv=>whnf
         refine ⟨.inl (aO.qW (fun h=>by cases h) Di (fun r hr=>rfl)),?_⟩
         conv=>whnf
         refine ⟨.inr ⟨_,_,_,_,rfl,rfl,rfl⟩,?_⟩
         conv=>whnf
         refine ⟨.inr ⟨_,_,_,_,rfl,rfl,rfl⟩,?_⟩
         conv=>whnf
         refine ⟨.inr ⟨_,_,_,_,rfl,rfl,rfl⟩,?_⟩
         conv=>whnf
         refine ⟨_,rfl,?_⟩
         conv=>whnf
         refine ⟨some (C,aJ),[22],by rw [show fa.args (some (C,aJ))=[.slice (some ⟨0,0,none⟩) (m+1) aJ] from by rw [hm]; rfl]; rfl,⟨by rw [hC]; exact hf.1,fun v hv=>hf.2 v (by rw [← hC]; exact hv)⟩,?_⟩
         obtain ⟨G,hG⟩:∃ G,G=bT C:=⟨_,rfl⟩
         rw [← hG,show fa.ai (some (C,aJ))=[.flat false (m+1) 6 G] from by rw [hm,hG]; rfl,show fa.val (some (C,aJ))=eD 1 q from by rw [hq,hR]; rfl,show fa.new (some (C,aJ))=cT R from by rw [hR]; rfl]
         cases q with
         | zero =>
          obtain rfl:R=[]:=List.eq_nil_of_length_eq_zero hq.symm
          conv=>whnf
          refine ⟨aO.aY (fun h=>by cases h) (fun r hr=>by rw [hG]; rfl),?_⟩
          conv=>whnf
          refine ⟨_,rfl,?_⟩
          conv=>whnf
          refine ⟨rfl,?_⟩
          conv=>whnf
          rw [e7]
          refine .inr ⟨[0,1,2,3,4],[0,1,5,6,7],?_⟩
          conv=>whnf
          intro _
          conv=>whnf
          refine ⟨_,?_,(j+1)+1,0,fun _=>[],(.aa (.aa (.sk 3 (.aa (.aa (.aa (.sk 17 .nil rfl)))) rfl))),rfl,rfl,?_⟩
          ·omega
          ·exact ⟨⟨by omega,fun _=>congrArg List.length ny⟩,fun _ r hr=>absurd hr (Nat.not_lt_zero r)⟩
         | succ q =>
          obtain ⟨E,hE⟩:∃ G,G=bT R:=⟨_,rfl⟩
          rw [show cT R=some (.flat true (q+1) 6 E) from by unfold cT; rw [← hq,hE]]
          conv=>whnf
          refine ⟨aO.aY (fun h=>by cases h) (fun r hr=>by rw [hG]; rfl),?_⟩
          conv=>whnf
          refine ⟨_,rfl,?_⟩
          conv=>whnf
          refine ⟨rfl,?_⟩
          conv=>whnf
          rw [e7]
          refine .inr ⟨[0,1,2,3,4,23],[0,1,5,6,7],?_⟩
          conv=>whnf
          intro _
          conv=>whnf
          refine ⟨_,?_,(j+1)+1,q+1,E,(.aa (.aa (.sk 3 (.aa (.aa (.aa (.sk 17 .nil rfl)))) rfl))),rfl,rfl,?_⟩
          ·omega
          ·exact ⟨⟨by omega,fun _=>hq.trans (congrArg List.length ny)⟩,fun _ r hr=>by rw [hE,ny]⟩
       ·have h3:j+1=nb:=by
         have:=of_decide_eq_false h3
         omega
        have hv:=NI ⟨zW,Dh⟩ (R:=S) (by rw [← gj,← h3]; exact hS)
        conv=>whnf
        by_cases h6:64 < p+1
        ·rw [show decide (((p+1:Nat):Int) > 64)=true from decide_eq_true (by omega)]
         conv=>whnf
         exact r6 4 _ (hv.trans (Wp (by omega)))
        ·rw [show decide (((p+1:Nat):Int) > 64)=false from decide_eq_false (by omega)]
         conv=>whnf
         rw [hK]
         unfold gx
         rw [NH (by omega) (by omega)] at hv
         rw [show iU.new (some (A,c),some (B,d))=some (.flat true (p+1) 6 (bT S)) from by show cT (gN A B).1=_; rw [hv]; unfold cT; rw [← m8],show iU.val (some (A,c),some (B,d))=.tuple ⟨[.slice (some ⟨2,0,none⟩) (p+1) aJ,.int .i64 0]⟩ from by show Value.tuple ⟨[eD _ (gN A B).1.length,.int .i64 (gN A B).2]⟩=_; rw [hv,← m8]; rfl]
         refine ⟨5,?_⟩
         conv=>whnf
         exact ⟨⟨rfl,aO.qW (fun h=>h) Di (fun r hr=>rfl)⟩,_,rfl,.refl _⟩
    ·rw [show (e2 != 0)=true from by simp [J]]
     conv=>whnf
     exact r6 1 _ (G1 fun h=>J (by rw [cA]; exact h.2))
   ·rw [show (e != 0)=true from by simp [h1]]
    conv=>whnf
    exact r6 1 _ (G1 fun h=>h1 (by rw [he]; exact h.1))
end Go.Proofs.YtlapbjdhekcipaaGreat
/- Contracts of convex: edges that separate. -/
set_option maxRecDepth 20000
set_option maxHeartbeats 4000000
namespace Go.Proofs.YtlapbjdhekcipaaGreat
open Go Go.Ae
theorem Yq:aZ Tryz.prog 101 (pX true):=by
 refine bf pM aK Tryz.func101 (enters_of Tryz.func101 (by kernel_rfl) rfl) (fun _=>rfl) (fun _=>rfl) ?_
 intro (z:Int) hp
 conv=>whnf
 rfl
theorem Yr:aZ Tryz.prog 103 (pX false):=by
 refine bf pM aK Tryz.func103 (enters_of Tryz.func103 (by kernel_rfl) rfl) (fun _=>rfl) (fun _=>rfl) ?_
 intro (z:Int) hp
 conv=>whnf
 rfl
theorem Ys:aZ Tryz.prog 105 (pX true):=by
 refine bf pM aK Tryz.func105 (enters_of Tryz.func105 (by kernel_rfl) rfl) (fun _=>rfl) (fun _=>rfl) ?_
 intro (z:Int) hp
 conv=>whnf
 rfl
def Ja:Env:=En [(32,.p kK),(101,.p (pX true)),(103,.p (pX false)),(105,.p (pX true))]
theorem ab0:EnvOk Tryz.prog Ja:=bF ⟨EV,Yq,Yr,Ys,trivial⟩ trivial
theorem SW:fK Tryz.prog 168 (cc Ja cF Tryz.f168):=by
 exact iV ab0 aK Tryz.func168 (enters_of Tryz.func168 (by kernel_rfl) rfl)
def Jb:Env:=En [] [(168,cc Ja cF Tryz.f168)]
theorem ab1:EnvOk Tryz.prog Jb:=bF trivial ⟨SW,trivial⟩
theorem T6:fK Tryz.prog 106 (cc Jb cF Tryz.f106):=by
 exact iV ab1 aK Tryz.func106 (enters_of Tryz.func106 (by kernel_rfl) rfl)
def Jc:Env:=En [] [(106,cc Jb cF Tryz.f106)]
theorem ab2:EnvOk Tryz.prog Jc:=bF trivial ⟨T6,trivial⟩
theorem Ra:fK Tryz.prog 49 (cc Jc cF Tryz.f49):=by
 exact iV ab2 aK Tryz.func49 (enters_of Tryz.func49 (by kernel_rfl) rfl)
def Qm:Env:=En [] [(49,cc Jc cF Tryz.f49),(64,cc mo cF Tryz.f64)] [(118,tD)]
theorem ab3:EnvOk Tryz.prog Qm:=bF trivial ⟨Ra,vW,trivial⟩
theorem aaH:gB Tryz.prog Qm:=uY ⟨vK,trivial⟩
abbrev jL:bk:=xc 101 103 105 g7
abbrev ni:bk:=xc 101 103 105 jZ
theorem T7:c4 Tryz.prog 144 jL:=by
 refine dC ab3 aK Tryz.func144 (enters_of Tryz.func144 (by kernel_rfl) rfl) ?_ ?_ ?_ (hI:=aaH)
 ·intro i b hb; simp [jL,xc] at hb; rcases hb with rfl | rfl <;> rfl
 ·intro i b hb; simp [jL,xc] at hb
 intro ⟨⟨⟨A,c⟩,⟨B,d⟩⟩,f,s⟩ hp
 have hp:((f,s)=(101,true)∨(f,s)=(103,false)∨(f,s)=(105,true))∧(A.length≤1073741824∧∀ v∈A,Q2.sz 2048 v)∧B.length≤1073741824∧∀ v∈B,Q2.sz 2048 v:=hp
 obtain ⟨uU,⟨hla,zX⟩,hlb,Dj⟩:=hp
 obtain ⟨n,hn⟩:∃ n,n=A.length:=⟨_,rfl⟩
 obtain ⟨g,hg⟩:∃ g,g=bT A:=⟨_,rfl⟩
 obtain ⟨m,hm⟩:∃ n,n=B.length:=⟨_,rfl⟩
 obtain ⟨g2,xw⟩:∃ g,g=bT B:=⟨_,rfl⟩
 obtain ⟨K,hK⟩:∃ K,K=gx jL (((A,c),(B,d)),(f,s)):=⟨_,rfl⟩
 have fin:∀ (x:XV) (z:Bool) (H:ax),gy (g7 s A B)=(x,z)→K (.tuple ⟨[x.v,.bool z]⟩) H:=fun x z H h=>by
  rw [hK]
  unfold gx
  rw [show jL.new (((A,c),(B,d)),(f,s))=none from rfl,show jL.val (((A,c),(B,d)),(f,s))=.tuple ⟨[x.v,.bool z]⟩ from by show Value.tuple ⟨[(gy (g7 s A B)).1.v,.bool (gy (g7 s A B)).2]⟩=_; rw [h]]
  exact ⟨_,rfl,.refl _⟩
 rw [show jL.ai (((A,c),(B,d)),(f,s))=[.flat false n 6 g,.flat false m 6 g2] from by rw [hn,hg,hm,xw]; rfl,show jL.args (((A,c),(B,d)),(f,s))=[.slice (some ⟨0,0,none⟩) n c,.slice (some ⟨1,0,none⟩) m d,.func (.func f) #[] #[]] from by rw [hn,hm]; rfl,← hK]
 rw [← hn] at hla
 rw [← hm] at hlb
 conv=>whnf
 intro yl nu fn tm df
 conv=>whnf
 refine .inl ⟨fun mm tz hz=>∃ (j:Nat),bu (some (.func (.yield yl) #[] #[])::some (.pointer (some ⟨6,0,none⟩))::aB 3 (some (.slice (some ⟨0,0,none⟩) n c)::some (.int .i64 n)::some (.int .i64 j)::aB 17 [])) tz∧hz=[some (.flat false n 6 g),some (.flat false m 6 g2),some (.aL true 1 [[.slice (some ⟨1,0,none⟩) m d]]),some (.aL true 1 [[.func (.func f) #[] #[]]]),some (.aL true 12 [mN.cells]),some (.aL true 1 [[.bool false]]),some (.aL true 1 [[.slice (some ⟨0,0,none⟩) n c]]),some (.bZ (pT Tryz.f144 fn tm df))]∧n - j=mm∧(j≤n∧np (mV s B) (bg A) j),.inr ⟨[0,1,2,3,4,5,6,7],[0,1,5,6,7],?_⟩,?_⟩
 ·conv=>whnf
  intro _
  conv=>whnf
  refine ⟨_,0,(.aa (.aa (.sk 3 (.aa (.aa (.aa (.sk 17 .nil rfl)))) rfl))),rfl,rfl,?_⟩
  exact ⟨Nat.zero_le _,DC _ _⟩
 rintro mm aQ _ ⟨j,aq,rfl,rfl,⟨hj,hU⟩⟩
 obtain ⟨az,rfl⟩:∃ az:Nat→Value,aQ=.func (.yield yl) #[] #[]::.pointer (some ⟨6,0,none⟩)::zs az 2 3 (.slice (some ⟨0,0,none⟩) n c::.int .i64 n::.int .i64 j::zs az 8 17 []):=bI aq
 clear aq
 conv=>whnf
 refine aF (fun h3=>?_) (fun h3=>?_)
 ·have h3:j < n:=by
   have:=of_decide_eq_true h3
   omega
  have e7:IntKind.i64.wrap ((j:Int)+1)=((j+1:Nat):Int):=by rw [aw (by omega) (by omega)]; rfl
  obtain ⟨a,ca,ra,pa,sa,qa⟩:=gV (L:=A) (k:=j) (by omega) zX
  obtain ⟨b,cb,rb,pb,sb,qb⟩:=gV (L:=A) (k:=ba n j) (by rw [hn]; exact cR (by omega)) zX
  have cj:=jT h3 (by omega)
  have b6:=cR h3
  have fI:(bg A)[j]?=some (a.p,b.p):=by rw [pa,pb]; rw [hn] at b6 ⊢; exact qX (gR (by omega)) (gR b6)
  rw [← pa] at ca
  rw [← pb] at cb
  obtain ⟨u,hu⟩:∃ u,u=ba n j:=⟨_,rfl⟩
  rw [← hu] at cj b6 rb
  rw [← hg] at ra rb
  conv=>whnf
  refine ⟨⟨by omega,by omega⟩,?_⟩
  simp only [toNat_cast,ar,Nat.zero_add]
  conv=>whnf
  refine ⟨by show j < n; omega,?_⟩
  conv=>whnf
  rw [ra]
  conv=>whnf
  refine .inl ⟨10,[[],[],[],[],[3],[],[5],[3,4,5,6],[2,3,4,5,6,7],[2,3,4,5,6,7,8],[0,1,2,3,4,5,6,7,8,9],[0,1,2,3,4,5,6,7,8,9,10]],by kernel_rfl,?_⟩
  conv=>whnf
  rw [show decide ((n:Int)≠0)=true from decide_eq_true (by omega)]
  conv=>whnf
  rw [cj]
  refine ⟨⟨by omega,by omega⟩,?_⟩
  simp only [toNat_cast,ar,Nat.zero_add]
  conv=>whnf
  refine ⟨by show u < n; omega,?_⟩
  conv=>whnf
  rw [rb]
  conv=>whnf
  refine ⟨rfl,?_⟩
  conv=>whnf
  refine ⟨rfl,?_⟩
  conv=>whnf
  refine ⟨rfl,?_⟩
  conv=>whnf
  refine .inl ⟨fun mm tz hz=>∃ (i:Nat),bu (some (.slice (some ⟨1,0,none⟩) m d)::some (.func (.func 168) #[] #[.pointer (some ⟨3,0,none⟩),.pointer (some ⟨19,0,none⟩),.pointer (some ⟨20,0,none⟩)])::aB 5 (some (.int .i64 m)::some (.int .i64 i)::aB 10 [])) tz∧hz=[some (.flat false n 6 g),some (.flat false m 6 g2),some (.aL true 1 [[.slice (some ⟨1,0,none⟩) m d]]),some (.aL true 1 [[.func (.func f) #[] #[]]]),some (.aL true 12 [mN.cells]),some (.aL true 1 [[.bool false]]),some (.aL true 1 [[.slice (some ⟨0,0,none⟩) n c]]),some (.bZ { pT Tryz.f144 fn tm df with state:=.busy }),some (.aL true 6 [a.cells]),none,none,none,none,none,none,none,none,none,none,some (.aL true 6 [a.cells]),some (.aL true 6 [b.cells])]∧m - i=mm∧(i≤m∧np (rZ s a.p b.p) B i),.inr ⟨[0,1,2,3,4,5,6,7,8,9,10,11,12,13,14,15,16,17,18,19,20],[0,1,7,8],?_⟩,?_⟩
  ·conv=>whnf
   intro _
   conv=>whnf
   refine ⟨_,0,(.aa (.aa (.sk 5 (.aa (.aa (.sk 10 .nil rfl))) rfl))),rfl,rfl,?_⟩
   exact ⟨Nat.zero_le _,DC _ _⟩
  rintro mm aQ _ ⟨i,aq,rfl,rfl,⟨hi,hV⟩⟩
  obtain ⟨az,rfl⟩:∃ az:Nat→Value,aQ=.slice (some ⟨1,0,none⟩) m d::.func (.func 168) #[] #[.pointer (some ⟨3,0,none⟩),.pointer (some ⟨19,0,none⟩),.pointer (some ⟨20,0,none⟩)]::zs az 2 5 (.int .i64 m::.int .i64 i::zs az 9 10 []):=bI aq
  clear aq
  conv=>whnf
  refine aF (fun h4=>?_) (fun h4=>?_)
  ·have h4:i < m:=by
    have:=of_decide_eq_true h4
    omega
   have e8:IntKind.i64.wrap ((i:Int)+1)=((i+1:Nat):Int):=by rw [aw (by omega) (by omega)]; rfl
   obtain ⟨x,cx,rx,px,sx,qx⟩:=gV (L:=B) (k:=i) (by omega) Dj
   rw [← xw] at rx
   have Jd:x.p∈B:=by rw [px]; exact eU (by omega)
   have Je:B[i]?=some x.p:=by rw [px]; exact gR (by omega)
   conv=>whnf
   refine ⟨⟨by omega,by omega⟩,?_⟩
   simp only [toNat_cast,ar,Nat.zero_add]
   conv=>whnf
   refine ⟨by show i < m; omega,?_⟩
   conv=>whnf
   rw [rx]
   conv=>whnf
   refine .inl ⟨5,[[],[],[],[],[1,2,3],[0,1,2,3,4],[0,1,2,3,4,5],[0,1,2,3,4,5,6]],by kernel_rfl,?_⟩
   conv=>whnf
   obtain ⟨z,ez,pz⟩:=c9 (aU (au a.p b.p x.p) 0)
   refine ⟨(a,b,x),rfl,⟨PV.aR sa (by decide),PV.aR sb (by decide),PV.aR sx (by decide)⟩,?_⟩
   rw [show kK.val (a,b,x)=.int .i64 z from ez]
   conv=>whnf
   obtain ⟨w,hw⟩:∃ w,w=qE s z:=⟨_,rfl⟩
   have gD:rZ s a.p b.p x.p=!w:=by unfold rZ; rw [← pz,← hw]
   rcases uU with h | h | h
   ·obtain ⟨rfl,rfl⟩:=Prod.mk.inj h
    refine ⟨(z:Int),rfl,trivial,?_⟩
    rw [show (pX true).val z=.bool w from by rw [hw]; rfl]
    conv=>whnf
    cases w with
    | true =>
     conv=>whnf
     rw [e8]
     refine .inr ⟨[0,1,2,3,4,5,6,7,8,9,10,11,12,13,14,15,16,17,18,19,20],[0,1,7,8],?_⟩
     conv=>whnf
     intro _
     conv=>whnf
     refine ⟨_,?_,i+1,(.aa (.aa (.sk 5 (.aa (.aa (.sk 10 .nil rfl))) rfl))),rfl,rfl,?_⟩
     ·omega
     ·exact ⟨by omega,sS hV Je gD⟩
    | false =>
     conv=>whnf
     refine ⟨rfl,?_⟩
     conv=>whnf
     rw [e7]
     refine .inr ⟨[0,1,2,3,4,5,6,7],[0,1,5,6,7],?_⟩
     conv=>whnf
     intro _
     conv=>whnf
     refine ⟨_,?_,j+1,(.aa (.aa (.sk 3 (.aa (.aa (.aa (.sk 17 .nil rfl)))) rfl))),rfl,rfl,?_⟩
     ·omega
     ·exact ⟨by omega,sS hU fI (FZ Jd gD)⟩
   ·obtain ⟨rfl,rfl⟩:=Prod.mk.inj h
    refine ⟨(z:Int),rfl,trivial,?_⟩
    rw [show (pX false).val z=.bool w from by rw [hw]; rfl]
    conv=>whnf
    cases w with
    | true =>
     conv=>whnf
     rw [e8]
     refine .inr ⟨[0,1,2,3,4,5,6,7,8,9,10,11,12,13,14,15,16,17,18,19,20],[0,1,7,8],?_⟩
     conv=>whnf
     intro _
     conv=>whnf
     refine ⟨_,?_,i+1,(.aa (.aa (.sk 5 (.aa (.aa (.sk 10 .nil rfl))) rfl))),rfl,rfl,?_⟩
     ·omega
     ·exact ⟨by omega,sS hV Je gD⟩
    | false =>
     conv=>whnf
     refine ⟨rfl,?_⟩
     conv=>whnf
     rw [e7]
     refine .inr ⟨[0,1,2,3,4,5,6,7],[0,1,5,6,7],?_⟩
     conv=>whnf
     intro _
     conv=>whnf
     refine ⟨_,?_,j+1,(.aa (.aa (.sk 3 (.aa (.aa (.aa (.sk 17 .nil rfl)))) rfl))),rfl,rfl,?_⟩
     ·omega
     ·exact ⟨by omega,sS hU fI (FZ Jd gD)⟩
   ·obtain ⟨rfl,rfl⟩:=Prod.mk.inj h
    refine ⟨(z:Int),rfl,trivial,?_⟩
    rw [show (pX true).val z=.bool w from by rw [hw]; rfl]
    conv=>whnf
    cases w with
    | true =>
     conv=>whnf
     rw [e8]
     refine .inr ⟨[0,1,2,3,4,5,6,7,8,9,10,11,12,13,14,15,16,17,18,19,20],[0,1,7,8],?_⟩
     conv=>whnf
     intro _
     conv=>whnf
     refine ⟨_,?_,i+1,(.aa (.aa (.sk 5 (.aa (.aa (.sk 10 .nil rfl))) rfl))),rfl,rfl,?_⟩
     ·omega
     ·exact ⟨by omega,sS hV Je gD⟩
    | false =>
     conv=>whnf
     refine ⟨rfl,?_⟩
     conv=>whnf
     rw [e7]
     refine .inr ⟨[0,1,2,3,4,5,6,7],[0,1,5,6,7],?_⟩
     conv=>whnf
     intro _
     conv=>whnf
     refine ⟨_,?_,j+1,(.aa (.aa (.sk 3 (.aa (.aa (.aa (.sk 17 .nil rfl)))) rfl))),rfl,rfl,?_⟩
     ·omega
     ·exact ⟨by omega,sS hU fI (FZ Jd gD)⟩
  ·have h4:i=m:=by
    have:=of_decide_eq_false h4
    omega
   subst h4
   conv=>whnf
   refine ⟨rfl,?_⟩
   conv=>whnf
   refine fin (a,b) true _ ?_
   rw [Vh hU fI (Wr (D3 (by rw [← hm]; exact hV)))]
   show ((ck a.p,ck b.p),true)=((a,b),true)
   rw [← ca,← cb]
 ·have h3:j=n:=by
   have:=of_decide_eq_false h3
   omega
  subst h3
  conv=>whnf
  exact fin mN false _ (by rw [Vi hn hU]; rfl)
end Go.Proofs.YtlapbjdhekcipaaGreat
