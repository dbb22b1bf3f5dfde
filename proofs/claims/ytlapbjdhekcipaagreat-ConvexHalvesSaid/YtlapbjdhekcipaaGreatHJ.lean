import Derived.Test.YtlapbjdhekcipaaGreatHI
set_option linter.unusedVariables false
set_option linter.unusedSimpArgs false
set_option maxRecDepth 20000
set_option maxHeartbeats 4000000
namespace Go.Proofs.YtlapbjdhekcipaaGreat
open Go Go.Ae
def lh:Env:=En [(85,.p kQ)]
theorem DK:EnvOk Tryz.prog lh:=bF ⟨CV,trivial⟩ trivial
def uN:Nat→FT→Nu→FT:=fun l G nu=>b9 { lh with ys:=[(l,G)],nu:=nu } cF Tryz.f118
theorem wX:Ag Tryz.prog 118 uN:=by
 exact PS DK aN Tryz.func118 (enters_of Tryz.func118 (by kernel_rfl) rfl)
theorem xl:gj Tryz.prog 64 (b9 lh cF Tryz.f64):=by
 exact js DK aN Tryz.func64 (enters_of Tryz.func64 (by kernel_rfl) rfl)
def Sh:Env:=En [(32,.p jL)] [(64,b9 lh cF Tryz.f64)] [(118,uN)]
theorem ad6:EnvOk Tryz.prog Sh:=bF ⟨Cg,trivial⟩ ⟨xl,trivial⟩
theorem acO:gV Tryz.prog Sh:=wa ⟨wX,trivial⟩
theorem aax:di Tryz.prog 67 m8:=by
 refine dQ ad6 aN Tryz.func67 (enters_of Tryz.func67 (by kernel_rfl) rfl) ?_ ?_ ?_ (hI:=acO)
 ·intro ⟨i,_⟩ b hb;cases i with
  | none=>simp [m8,PL.ah] at hb
  | some i=>simp [m8,PL.ah] at hb; rw [hb]; rfl
 ·intro i b hb; simp [m8] at hb
 intro ⟨i,p⟩ hp;have hp:(i.list.length≤1099511627776∧∀ v∈i.list,v.sz 2048)∧p.sz 2048:=hp;obtain ⟨⟨hlen,aW⟩,sp⟩:=hp;have qp:=PV.cL sp (by decide)
 cases i with
 | none =>
  conv=>whnf
  intro yl nu fn tm df;conv=>whnf
  refine .inr ⟨1,?_⟩;conv=>whnf
  exact ⟨.int .i64 1,rfl,.refl _⟩
 | some i =>
  obtain ⟨L,c⟩:=i;have hlen:L.length≤1099511627776:=hlen;have aW:∀ v∈L,PV.sz 2048 v:=aW;obtain ⟨n,hn⟩:∃ n,n=L.length:=⟨_,rfl⟩;obtain ⟨g,hg⟩:∃ g,g=cW L:=⟨_,rfl⟩;have fin:∀ z:Int,z=fp (aR L) p.p→∃ v',cR (List.range 1) 3 (m8.val (some (L,c),p))=some v'∧fj (.int .i64 z) v':=fun z h=>⟨.int .i64 z,by rw [h]; rfl,.refl _⟩
  rw [show m8.ah (some (L,c),p)=[.flat false n 6 g] from by rw [hn,hg]; rfl,show m8.args (some (L,c),p)=[.slice (some ⟨0,0,none⟩) n c,p.v] from by rw [hn]; rfl]
  rw [← hn] at hlen;conv=>whnf
  intro yl nu fn tm df;conv=>whnf
  refine .inl ⟨fun mm tz hz=>∃ (j:Nat) (o:Int),bw (some (.func (.yield yl) #[] #[])::some (.pointer (some ⟨3,0,none⟩))::aF 3 (some (.slice (some ⟨0,0,none⟩) n c)::some (.int .i64 n)::some (.int .i64 j)::aF 17 [])) tz∧hz=[some (.flat false n 6 g),some (.aP true 6 [p.cells]),some (.aP true 1 [[.int .i64 o]]),some (.aP true 1 [[.slice (some ⟨0,0,none⟩) n c]]),some (.b6 (re Tryz.f67 fn tm df))]∧n - j=mm∧(j≤n∧o=uX (aR L) p.p j),.inr ⟨[0,1,2,3,4],[0,1,5,6,7],?_⟩,?_⟩
  ·conv=>whnf
   intro _;conv=>whnf
   refine ⟨_,0,1,(.aa (.aa (.sk 3 (.aa (.aa (.aa (.sk 17 .nil rfl)))) rfl))),rfl,rfl,?_⟩;exact ⟨Nat.zero_le _,rfl⟩
  rintro mm aV _ ⟨j,o,aA,rfl,rfl,⟨hj,ho⟩⟩
  obtain ⟨az,rfl⟩:∃ az:Nat→Value,aV=.func (.yield yl) #[] #[]::.pointer (some ⟨3,0,none⟩)::zs az 2 3 (.slice (some ⟨0,0,none⟩) n c::.int .i64 n::.int .i64 j::zs az 8 17 []):=bI aA;clear aA;conv=>whnf
  refine aM (fun h3=>?_) (fun h3=>?_)
  ·have h3:j < n:=by
    have:=of_decide_eq_true h3;omega
   have e7:IntKind.i64.wrap ((j:Int)+1)=((j+1:Nat):Int):=by rw [ax (by omega) (by omega)]; rfl
   obtain ⟨a,b,ra,rb,⟨ma,mb⟩,gr,ck,_,_⟩:=si hn h3;have sa:=aW a ma;have sb:=aW b mb;have qa:=PV.cL sa (by decide)
   have qb:=PV.cL sb (by decide)
   have cK:=kR h3 (by omega)
   obtain ⟨u,hu⟩:∃ u,u=aX n j:=⟨_,rfl⟩;rw [← hu] at cK ck rb;rw [← hg] at ra rb;have ar:=TD (p:=p.p) gr;rw [← ho] at ar;conv=>whnf
   refine ⟨⟨by omega,by omega⟩,?_⟩
   simp only [toNat_cast,aw,Nat.zero_add];conv=>whnf
   refine ⟨by show j < n; omega,?_⟩
   conv=>whnf
   rw [ra];conv=>whnf
   refine .inl ⟨10,[[],[],[],[],[3],[],[5],[3,4,5,6],[2,3,4,5,6,7],[2,3,4,5,6,7,8],[0,1,2,3,4,5,6,7,8,9],[0,1,2,3,4,5,6,7,8,9,10]],by kernel_rfl,?_⟩
   conv=>whnf
   rw [show decide ((n:Int)≠0)=true from decide_eq_true (by omega)]
   conv=>whnf
   rw [cK];refine ⟨⟨by omega,by omega⟩,?_⟩
   simp only [toNat_cast,aw,Nat.zero_add];conv=>whnf
   refine ⟨by show u < n; omega,?_⟩
   conv=>whnf
   rw [rb];conv=>whnf
   refine ⟨rfl,?_⟩;conv=>whnf
   refine ⟨rfl,?_⟩;conv=>whnf
   refine ⟨rfl,?_⟩;conv=>whnf
   refine .inl ⟨5,[[],[],[],[],[1,2,3],[0,1,2,3,4],[0,1,2,3,4,5]],by kernel_rfl,?_⟩
   conv=>whnf
   obtain ⟨z,ez,pz⟩:=dS (aZ (ao a.p b.p p.p) 0);refine ⟨(a,b,p),rfl,⟨PV.aO sa (by decide),PV.aO sb (by decide),PV.aO sp (by decide)⟩,?_⟩
   rw [show jL.val (a,b,p)=.int .i64 z from ez]
   conv=>whnf
   rw [← pz] at ar;refine ⟨rfl,?_⟩;conv=>whnf
   rw [e7];refine .inr ⟨[0,1,2,3,4],[0,1,5,6,7],?_⟩;conv=>whnf
   intro _;conv=>whnf
   refine ⟨_,?_,j+1,if z < o then z else o,(.aa (.aa (.sk 3 (.aa (.aa (.aa (.sk 17 .nil rfl)))) rfl))),rfl,rfl,?_⟩
   ·omega
   ·exact ⟨by omega,ar.symm⟩
  ·have h3:j=n:=by
    have:=of_decide_eq_false h3;omega
   subst h3;conv=>whnf
   exact fin o (ho.trans (by rw [hn]; exact UH))
def Si:Env:=En [(56,.q dF)] [(64,b9 lh cF Tryz.f64),(49,b9 EU cF Tryz.f49)] [(118,uN)]
theorem ad7:EnvOk Tryz.prog Si:=bF ⟨By,trivial⟩ ⟨xl,K6,trivial⟩
theorem acP:gV Tryz.prog Si:=wa ⟨wX,trivial⟩
theorem xm:di Tryz.prog 23 bd:=by
 refine dQ ad7 aN Tryz.func23 (enters_of Tryz.func23 (by kernel_rfl) rfl) ?_ ?_ ?_ (hI:=acP)
 ·intro i b hb;cases i with
  | none=>simp [bd,PL.ah] at hb
  | some i=>simp [bd,PL.ah] at hb; rw [hb]; rfl
 ·intro i b hb; simp [bd] at hb
 intro i hp;have hp:i.list.length≤1099511627776∧∀ v∈i.list,v.sz 2048:=hp;obtain ⟨hlen,aW⟩:=hp;cases i with
 | none =>
  conv=>whnf
  exact ⟨.int .i64 4,rfl,.refl _⟩
 | some i =>
  obtain ⟨L,c⟩:=i;have hlen:L.length≤1099511627776:=hlen;have aW:∀ v∈L,PV.sz 2048 v:=aW;obtain ⟨n,hn⟩:∃ n,n=L.length:=⟨_,rfl⟩;obtain ⟨g,hg⟩:∃ g,g=cW L:=⟨_,rfl⟩;have fin:∀ z:Int,bo L=z→∃ v',cR (List.range 1) 3 (bd.val (some (L,c)))=some v'∧fj (.int .i64 z) v':=fun z h=>⟨.int .i64 z,by rw [← h]; rfl,.refl _⟩
  rw [show bd.ah (some (L,c))=[.flat false n 6 g] from by rw [hn,hg]; rfl,show bd.args (some (L,c))=[.slice (some ⟨0,0,none⟩) n c] from by rw [hn]; rfl]
  rw [← hn] at hlen;conv=>whnf
  by_cases h1:n < 3
  ·rw [show decide ((n:Int) < 3)=true from decide_eq_true (by omega)]
   conv=>whnf
   exact fin 4 (CO (.inl (by omega)))
  rw [show decide ((n:Int) < 3)=false from decide_eq_false (by omega)]
  conv=>whnf
  by_cases J:64 < n
  ·rw [show decide ((n:Int) > 64)=true from decide_eq_true (by omega)]
   conv=>whnf
   exact fin 4 (CO (.inr (by omega)))
  rw [show decide ((n:Int) > 64)=false from decide_eq_false (by omega)]
  conv=>whnf
  obtain ⟨z,hz⟩:∃ z,z=dB L:=⟨_,rfl⟩;refine ⟨some (L,c),[0],by rw [show dF.args (some (L,c))=[.slice (some ⟨0,0,none⟩) n c] from by rw [hn]; rfl]; rfl,⟨by show L.length≤_; omega,aW⟩,?_⟩
  rw [show dF.ah (some (L,c))=[.flat false n 6 g] from by rw [hn,hg]; rfl,show dF.val (some (L,c))=.bool (!z) from by rw [hz]; rfl,show dF.new (some (L,c))=none from rfl]
  conv=>whnf
  refine ⟨aH.aT (fun h=>h) (fun r hr=>by rw [hg]; rfl),?_⟩
  conv=>whnf
  refine ⟨_,rfl,?_⟩;conv=>whnf
  cases z with
  | true =>
   conv=>whnf
   exact fin 1 (OH (by omega) hz.symm)
  | false =>
   conv=>whnf
   refine ⟨⟨by decide,by omega,by omega⟩,?_⟩
   conv=>whnf
   obtain ⟨m,hm⟩:∃ m,m=n - 1:=⟨_,rfl⟩;obtain ⟨c1,rG⟩:∃ x,x=uQ c (Int.toNat 1):=⟨_,rfl⟩;rw [← rG,show Int.toNat (n:Int) - Int.toNat 1=m from hm.symm,show fe 0 (Int.toNat 1)=1 from rfl]
   have rl:dB L=false:=hz.symm;have h0:=sh (L:=L) (k:=0) (by omega)
   have so:=aW _ (o7 (L:=L) (k:=0) (by omega))
   have po:=kh (L:=L) (k:=0) (by omega)
   obtain ⟨o,ho⟩:∃ o,o=jg L 0:=⟨_,rfl⟩;rw [← ho] at h0 so po;rw [← hg] at h0;have qo:=PV.cL so (by decide)
   refine .inl ⟨fun mm tz hz=>∃ (i:Nat),bw (some (.slice (some ⟨0,1,none⟩) m c1)::some (.func (.func 73) #[] #[.pointer (some ⟨1,0,none⟩)])::aF 5 (some (.int .i64 m)::some (.int .i64 i)::aF 10 [])) tz∧hz=[some (.flat false n 6 g),some (.aP true 1 [[.slice (some ⟨0,0,none⟩) n c]]),some (.aP true 1 [[.int .i64 0]])]∧m - i=mm∧(i≤m∧x9 (aR L) i),.inr ⟨[0,1,2],[0,1,7,8],?_⟩,?_⟩
   ·conv=>whnf
    intro _;conv=>whnf
    refine ⟨_,0,(.aa (.aa (.sk 5 (.aa (.aa (.sk 10 .nil rfl))) rfl))),rfl,rfl,?_⟩;exact ⟨Nat.zero_le _,Lr _⟩
   rintro mm aV _ ⟨i,aA,rfl,rfl,⟨hi,hU⟩⟩
   obtain ⟨az,rfl⟩:∃ az:Nat→Value,aV=.slice (some ⟨0,1,none⟩) m c1::.func (.func 73) #[] #[.pointer (some ⟨1,0,none⟩)]::zs az 2 5 (.int .i64 m::.int .i64 i::zs az 9 10 []):=bI aA;clear aA;conv=>whnf
   refine aM (fun h3=>?_) (fun h3=>?_)
   ·have h3:i < m:=by
     have:=of_decide_eq_true h3;omega
    have e7:IntKind.i64.wrap ((i:Int)+1)=((i+1:Nat):Int):=by rw [ax (by omega) (by omega)]; rfl
    have ra:=sh (L:=L) (k:=i+1) (by omega)
    have sa:=aW _ (o7 (L:=L) (k:=i+1) (by omega))
    have pa:=kh (L:=L) (k:=i+1) (by omega)
    obtain ⟨a,ha⟩:∃ o,o=jg L (i+1):=⟨_,rfl⟩;rw [← ha] at ra sa pa;rw [← hg] at ra;have qa:=PV.cL sa (by decide)
    conv=>whnf
    refine ⟨⟨by omega,by omega⟩,?_⟩
    simp only [toNat_cast,aw,Nat.zero_add,Nat.add_comm 1 i];conv=>whnf
    refine ⟨by show i+1 < n; omega,?_⟩
    conv=>whnf
    rw [ra];conv=>whnf
    refine .inl ⟨4,[[],[],[1],[1,2],[0,1,2,3],[0,1,2,3,4],[0,1,2,3,4,5]],by kernel_rfl,?_⟩
    conv=>whnf
    have Az:g (Int.toNat 0)=o.cells:=h0;refine ⟨⟨by omega,by omega⟩,?_⟩
    simp only [toNat_cast,aw,Nat.zero_add];conv=>whnf
    refine ⟨by show 0 < n; omega,?_⟩
    conv=>whnf
    rw [Az];conv=>whnf
    obtain ⟨z,ez,pz⟩:=dS (fI a.p o.p);refine ⟨(a,o),rfl,⟨PV.aO sa (by decide),PV.aO so (by decide)⟩,?_⟩
    rw [show pE.val (a,o)=.int .i64 z from ez]
    conv=>whnf
    rw [pa,po] at pz;by_cases h4:gq (aq (aR L) 0) (aq (aR L) (i+1))
    ·have:=Pu.1 h4;rw [show decide (z≤0)=false from decide_eq_false (by omega)]
     conv=>whnf
     rw [e7];refine .inr ⟨[0,1,2],[0,1,7,8],?_⟩;conv=>whnf
     intro _;conv=>whnf
     refine ⟨_,?_,i+1,(.aa (.aa (.sk 5 (.aa (.aa (.sk 10 .nil rfl))) rfl))),rfl,rfl,?_⟩
     ·omega
     ·exact ⟨by omega,Mf hU h4⟩
    ·have:¬ 0 < fI (aq (aR L) (i+1)) (aq (aR L) 0):=fun e=>h4 (Pu.2 e)
     rw [show decide (z≤0)=true from decide_eq_true (by omega)]
     conv=>whnf
     exact fin 8 (OI (by omega) rl fun e=>h4 (e (i+1) (by omega) (by rw [c0]; omega)))
   ·have h3:i=m:=by
     have:=of_decide_eq_false h3;omega
    have oh:=M3 hU (by rw [c0]; omega)
    have yG:3≤(aR L).length:=by rw [c0]; omega
    conv=>whnf
    intro yl nu fn tm df;conv=>whnf
    skip
    refine .inl ⟨fun mm tz hz=>∃ (j:Nat),bw (some (.func (.yield yl) #[] #[])::some (.pointer (some ⟨3,0,none⟩))::aF 3 (some (.slice (some ⟨0,0,none⟩) n c)::some (.int .i64 n)::some (.int .i64 j)::aF 17 [])) tz∧hz=[some (.flat false n 6 g),some (.aP true 1 [[.slice (some ⟨0,0,none⟩) n c]]),some (.aP true 1 [[.int .i64 0]]),some (.aP true 1 [[.slice (some ⟨0,0,none⟩) n c]]),some (.b6 (re Tryz.f23 fn tm df))]∧n - j=mm∧(j≤n∧∀ k,k < j→¬ zJ (aR L) k),.inr ⟨[0,1,2,3,4],[0,1,5,6,7],?_⟩,?_⟩
    ·conv=>whnf
     intro _;conv=>whnf
     refine ⟨_,0,(.aa (.aa (.sk 3 (.aa (.aa (.aa (.sk 17 .nil rfl)))) rfl))),rfl,rfl,?_⟩;exact ⟨Nat.zero_le _,fun k hk=>absurd hk (Nat.not_lt_zero k)⟩
    rintro mm aV _ ⟨j,aA,rfl,rfl,⟨hj,hB⟩⟩
    obtain ⟨az,rfl⟩:∃ az:Nat→Value,aV=.func (.yield yl) #[] #[]::.pointer (some ⟨3,0,none⟩)::zs az 2 3 (.slice (some ⟨0,0,none⟩) n c::.int .i64 n::.int .i64 j::zs az 8 17 []):=bI aA;clear aA;conv=>whnf
    refine aM (fun h3=>?_) (fun h3=>?_)
    ·have h3:j < n:=by
      have:=of_decide_eq_true h3;omega
     have e7:IntKind.i64.wrap ((j:Int)+1)=((j+1:Nat):Int):=by rw [ax (by omega) (by omega)]; rfl
     obtain ⟨a,b,ra,rb,⟨ma,mb⟩,_,ck,ha,hb⟩:=si hn h3;have sa:=aW a ma;have sb:=aW b mb;have cK:=kR h3 (by omega)
     obtain ⟨u,hu⟩:∃ u,u=aX n j:=⟨_,rfl⟩;rw [← hu] at cK ck rb;rw [← hg] at ra rb;conv=>whnf
     refine ⟨⟨by omega,by omega⟩,?_⟩
     simp only [toNat_cast,aw,Nat.zero_add];conv=>whnf
     refine ⟨by show j < n; omega,?_⟩
     conv=>whnf
     rw [ra];conv=>whnf
     refine .inl ⟨10,[[],[],[],[],[3],[],[5],[3,4,5,6],[2,3,4,5,6,7],[2,3,4,5,6,7,8],[0,1,2,3,4,5,6,7,8,9],[0,1,2,3,4,5,6,7,8,9,10]],by kernel_rfl,?_⟩
     conv=>whnf
     rw [show decide ((n:Int)≠0)=true from decide_eq_true (by omega)]
     conv=>whnf
     rw [cK];refine ⟨⟨by omega,by omega⟩,?_⟩
     simp only [toNat_cast,aw,Nat.zero_add];conv=>whnf
     refine ⟨by show u < n; omega,?_⟩
     conv=>whnf
     rw [rb];conv=>whnf
     refine ⟨rfl,?_⟩;conv=>whnf
     refine ⟨rfl,?_⟩;conv=>whnf
     refine ⟨rfl,?_⟩;conv=>whnf
     refine .inl ⟨fun mm tz hz=>∃ (i:Nat),bw (some (.slice (some ⟨0,0,none⟩) n c)::some (.func (.func 75) #[] #[.pointer (some ⟨16,0,none⟩),.pointer (some ⟨17,0,none⟩)])::aF 5 (some (.int .i64 n)::some (.int .i64 i)::aF 10 [])) tz∧hz=[some (.flat false n 6 g),some (.aP true 1 [[.slice (some ⟨0,0,none⟩) n c]]),some (.aP true 1 [[.int .i64 0]]),some (.aP true 1 [[.slice (some ⟨0,0,none⟩) n c]]),some (.b6 { re Tryz.f23 fn tm df with state:=.busy }),some (.aP true 6 [a.cells]),none,none,none,none,none,none,none,none,none,none,some (.aP true 6 [a.cells]),some (.aP true 6 [b.cells])]∧n - i=mm∧(i≤n∧nY (tq a b) L i),.inr ⟨[0,1,2,3,4,5,6,7,8,9,10,11,12,13,14,15,16,17],[0,1,7,8],?_⟩,?_⟩
     ·conv=>whnf
      intro _;conv=>whnf
      refine ⟨_,0,(.aa (.aa (.sk 5 (.aa (.aa (.sk 10 .nil rfl))) rfl))),rfl,rfl,?_⟩;exact ⟨Nat.zero_le _,Fg _ _⟩
     rintro mm aV _ ⟨i,aA,rfl,rfl,⟨hi,hU⟩⟩
     obtain ⟨az,rfl⟩:∃ az:Nat→Value,aV=.slice (some ⟨0,0,none⟩) n c::.func (.func 75) #[] #[.pointer (some ⟨16,0,none⟩),.pointer (some ⟨17,0,none⟩)]::zs az 2 5 (.int .i64 n::.int .i64 i::zs az 9 10 []):=bI aA;clear aA;conv=>whnf
     refine aM (fun h4=>?_) (fun h4=>?_)
     ·have h4:i < n:=by
       have:=of_decide_eq_true h4;omega
      have e8:IntKind.i64.wrap ((i:Int)+1)=((i+1:Nat):Int):=by rw [ax (by omega) (by omega)]; rfl
      obtain ⟨p,lf,vZ,a8⟩:=r9 (l:=L) (i:=i) (by omega)
      rw [← hg] at a8;conv=>whnf
      refine ⟨⟨by omega,by omega⟩,?_⟩
      simp only [toNat_cast,aw,Nat.zero_add];conv=>whnf
      refine ⟨by show i < n; omega,?_⟩
      conv=>whnf
      rw [a8];conv=>whnf
      obtain ⟨z,hz⟩:∃ z,z=tq a b p:=⟨_,rfl⟩;refine ⟨(a,b,p),[16,17],rfl,⟨sa,sb,aW p vZ⟩,?_⟩;rw [show sZ.ah (a,b,p)=[.flat false 1 6 (fun _=>a.cells),.flat false 1 6 (fun _=>b.cells)] from rfl,show sZ.val (a,b,p)=.bool z from by rw [hz]; rfl,show sZ.new (a,b,p)=none from rfl]
      conv=>whnf
      refine ⟨OE a,OE b,?_⟩;conv=>whnf
      refine ⟨_,rfl,?_⟩;conv=>whnf
      cases z with
      | false =>
       conv=>whnf
       rw [e8];refine .inr ⟨[0,1,2,3,4,5,6,7,8,9,10,11,12,13,14,15,16,17],[0,1,7,8],?_⟩;conv=>whnf
       intro _;conv=>whnf
       refine ⟨_,?_,i+1,(.aa (.aa (.sk 5 (.aa (.aa (.sk 10 .nil rfl))) rfl))),rfl,rfl,?_⟩
       ·omega
       ·exact ⟨by omega,uh hU lf hz.symm⟩
      | true =>
       conv=>whnf
       refine ⟨rfl,?_⟩;conv=>whnf
       exact fin 15 (He (by omega) rl oh fun e=>(NN yG oh).1 e j (by rw [c0]; omega) (Yu rl (by omega) ha (hb.trans (by rw [hn])) vZ hz.symm))
     ·have h4:i=n:=by
       have:=of_decide_eq_false h4;omega
      subst h4;conv=>whnf
      refine ⟨rfl,?_⟩;conv=>whnf
      rw [e7];refine .inr ⟨[0,1,2,3,4],[0,1,5,6,7],?_⟩;conv=>whnf
      intro _;conv=>whnf
      refine ⟨_,?_,j+1,(.aa (.aa (.sk 3 (.aa (.aa (.aa (.sk 17 .nil rfl)))) rfl))),rfl,rfl,?_⟩
      ·omega
      ·refine ⟨by omega,fun k hk=>?_⟩
       rcases Nat.lt_or_eq_of_le (Nat.le_of_lt_succ hk) with e | e
       ·exact hB k e
       ·subst e;exact abg (by omega) ha (hb.trans (by rw [hn])) (FG (by rw [← hn]; exact hU))
    ·have h3:j=n:=by
      have:=of_decide_eq_false h3;omega
     subst h3;conv=>whnf
     exact fin 0 (NP (by omega) rl oh ((NN yG oh).2 fun k hk=>hB k (by rw [c0] at hk; omega)))
open Go Go.Ae
def Ew1:Env:=En [(23,.q bd),(56,.q dF),(67,.q m8)]
theorem ad8:EnvOk Tryz.prog Ew1:=bF ⟨xm,By,aax,trivial⟩ trivial
theorem V8:di Tryz.prog 19 kI:=by
 refine dQ ad8 aN Tryz.func19 (enters_of Tryz.func19 (by kernel_rfl) rfl) ?_ ?_ ?_
 ·intro ⟨i,_⟩ b hb;cases i with
  | none=>simp [kI,PL.ah] at hb
  | some i=>simp [kI,PL.ah] at hb; rw [hb]; rfl
 ·intro i b hb; simp [kI] at hb
 intro ⟨i,p⟩ hp;have hp:(i.list.length≤1099511627776∧∀ v∈i.list,v.sz 2048)∧p.sz 2048:=hp;obtain ⟨⟨hlen,aW⟩,sp⟩:=hp;cases i with
 | none =>
  conv=>whnf
  refine ⟨none,[],rfl,⟨Nat.zero_le _,fun v hv=>nomatch hv⟩,?_⟩
  rw [show bd.ah none=[] from rfl,show bd.val none=.int .i64 4 from rfl,show bd.new none=none from rfl]
  conv=>whnf
  refine ⟨_,rfl,?_⟩;conv=>whnf
  exact ⟨_,rfl,.refl _⟩
 | some i =>
  obtain ⟨L,c⟩:=i;have hlen:L.length≤1099511627776:=hlen;have aW:∀ v∈L,PV.sz 2048 v:=aW;obtain ⟨n,hn⟩:∃ n,n=L.length:=⟨_,rfl⟩;obtain ⟨g,hg⟩:∃ g,g=cW L:=⟨_,rfl⟩;have fin:∀ z e:Int,ri L p=(z,e)→∃ v',cR (List.range 1) 3 (kI.val (some (L,c),p))=some v'∧fj (.tuple ⟨[.int .i64 z,.int .i64 e]⟩) v':=fun z e h=>⟨_,by
   rw [show kI.val (some (L,c),p)=ZE.v (ri L p) from rfl,h]; rfl,.refl _⟩
  rw [show kI.ah (some (L,c),p)=[.flat false n 6 g] from by rw [hn,hg]; rfl,show kI.args (some (L,c),p)=[.slice (some ⟨0,0,none⟩) n c,p.v] from by rw [hn]; rfl]
  rw [← hn] at hlen;conv=>whnf
  refine ⟨some (L,c),[0],by rw [show bd.args (some (L,c))=[.slice (some ⟨0,0,none⟩) n c] from by rw [hn]; rfl]; rfl,⟨by show L.length≤_; omega,aW⟩,?_⟩
  rw [show bd.ah (some (L,c))=[.flat false n 6 g] from by rw [hn,hg]; rfl,show bd.val (some (L,c))=.int .i64 (bo L) from rfl,show bd.new (some (L,c))=none from rfl]
  conv=>whnf
  refine ⟨aH.aT (fun h=>h) (fun r hr=>by rw [hg]; rfl),?_⟩
  conv=>whnf
  refine ⟨_,rfl,?_⟩;obtain ⟨e,he⟩:∃ z,z=bo L:=⟨_,rfl⟩;rw [← he];conv=>whnf
  by_cases h1:e=0
  ·rw [show (e != 0)=false from by simp [h1]]
   conv=>whnf
   refine ⟨some ([p],1),[2],rfl,⟨by show 1≤1099511627776; decide,(fun v hv=>by rw [List.mem_singleton.1 hv]; exact sp)⟩,?_⟩
   rw [show dF.ah (some ([p],1))=[.flat false 1 6 (cW [p])] from rfl,show dF.val (some ([p],1))=.bool (!dB [p]) from rfl,show dF.new (some ([p],1))=none from rfl]
   conv=>whnf
   refine ⟨Hb [p],?_⟩;conv=>whnf
   refine ⟨_,rfl,?_⟩;obtain ⟨r,hr⟩:∃ z,z=dB [p]:=⟨_,rfl⟩;rw [← hr];conv=>whnf
   cases r with
   | true =>
    conv=>whnf
    exact fin 0 1 (Pv fun h=>afj hr h.2)
   | false =>
    conv=>whnf
    obtain ⟨w,hw⟩:∃ w,w=fp (aR L) p.p:=⟨_,rfl⟩;refine ⟨(some (L,c),p),[0],by rw [show m8.args (some (L,c),p)=[.slice (some ⟨0,0,none⟩) n c,p.v] from by rw [hn]; rfl]; rfl,⟨⟨by show L.length≤_; omega,aW⟩,sp⟩,?_⟩
    rw [show m8.ah (some (L,c),p)=[.flat false n 6 g] from by rw [hn,hg]; rfl,show m8.val (some (L,c),p)=.int .i64 w from by rw [hw]; rfl,show m8.new (some (L,c),p)=none from rfl]
    conv=>whnf
    refine ⟨aH.aT (fun h=>h) (fun r hr=>by rw [hg]; rfl),?_⟩
    conv=>whnf
    refine ⟨_,rfl,?_⟩;conv=>whnf
    exact fin w 0 (by rw [hw]; exact OJ ⟨by rw [← he]; exact h1,adC hr⟩)
  ·rw [show (e != 0)=true from by simp [h1]]
   conv=>whnf
   exact fin 0 1 (Pv fun h=>h1 (by rw [he]; exact h.1))
open Go Go.Ae
theorem acQ:bg Tryz.prog 110 vD:=by
 refine bk qW aN Tryz.func110 (enters_of Tryz.func110 (by kernel_rfl) rfl) (fun _=>rfl) (fun _=>rfl) ?_
 intro ⟨a,b,p⟩ hp;conv=>whnf
 rw [th b p];by_cases h:b=p
 ·rw [decide_eq_true h,show vD.val (a,b,p)=.bool false from congrArg Value.bool (decide_eq_false fun e=>e h)]; rfl
 ·rw [decide_eq_false h,show vD.val (a,b,p)=.bool true from congrArg Value.bool (decide_eq_true h)]; rfl
theorem acR:bg Tryz.prog 111 vE:=by
 refine bk qW aN Tryz.func111 (enters_of Tryz.func111 (by kernel_rfl) rfl) (fun _=>rfl) (fun _=>rfl) ?_
 intro ⟨a,b,p⟩ hp;have hp:a.sz 1048576∧b.sz 1048576∧p.sz 1048576:=hp;obtain ⟨sa,sb,sp⟩:=hp;conv=>whnf
 obtain ⟨z,ez,pz⟩:=dS (aZ (ao a.p b.p p.p) 0);refine ⟨(a,b,p),rfl,⟨PV.aO sa (by decide),PV.aO sb (by decide),PV.aO sp (by decide)⟩,?_⟩
 rw [show jL.val (a,b,p)=.int .i64 z from ez]
 conv=>whnf
 by_cases h:z=0
 ·rw [show vE.val (a,b,p)=.bool false from congrArg Value.bool (decide_eq_false fun e=>e (by rw [← pz]; exact h)),show (z != 0)=false from by simp [h]]
 ·rw [show vE.val (a,b,p)=.bool true from congrArg Value.bool (decide_eq_true (by rw [← pz]; exact h)),show (z != 0)=true from by simp [h]]
def Ex1:Env:=En [(110,.p vD),(111,.p vE)]
theorem ad9:EnvOk Tryz.prog Ex1:=bF ⟨acQ,acR,trivial⟩ trivial
theorem aay:di Tryz.prog 109 (ki 110 111):=by
 refine dQ ad9 aN Tryz.func109 (enters_of Tryz.func109 (by kernel_rfl) rfl) ?_ ?_ ?_
 ·intro ⟨i,b⟩ B hb;cases i with
  | none=>simp [ki,QL.ah] at hb
  | some i=>simp [ki,QL.ah] at hb; rw [hb]; rfl
 ·intro i B hb;exact zh hb
 intro ⟨i,b⟩ hp;have hp:i.list.length≤549755813888∧∀ v∈i.list,Q2.sz 262144 v:=hp;obtain ⟨hlen,aW⟩:=hp;cases i with
 | none =>
  cases b <;> (conv=>whnf) <;> refine .inr ⟨1,?_⟩ <;> (conv=>whnf) <;> exact ⟨_,rfl,.refl _⟩
 | some i =>
  obtain ⟨L,c⟩:=i;have hlen:L.length≤549755813888:=hlen;have aW:∀ v∈L,Q2.sz 262144 v:=aW;obtain ⟨n,hn⟩:∃ n,n=L.length:=⟨_,rfl⟩;obtain ⟨g,hg⟩:∃ g,g=bG L:=⟨_,rfl⟩;cases b with
  | false =>
   rw [show (ki 110 111).ah (some (L,c),false)=[.flat false n 6 g] from by rw [hn,hg]; rfl,show (ki 110 111).args (some (L,c),false)=[.slice (some ⟨0,0,none⟩) n c,.func (.func 110) #[] #[]] from by rw [hn]; rfl]
   rw [← hn] at hlen;conv=>whnf
   refine .inl ⟨fun mm tz hz=>∃ (j:Nat) (O:List Q2) (q:Nat) (F:Nat→List Value),bw (some (.slice (some ⟨0,0,none⟩) n c)::some (.func (.func 110) #[] #[])::aF 3 (some (dn 1 q)::aF 2 (some (.slice (some ⟨0,0,none⟩) n c)::some (.int .i64 n)::some (.int .i64 j)::aF 32 []))) tz∧hz=[some (.flat false n 6 g)]++Ao 6 F q∧n - j=mm∧((j≤n∧q=O.length)∧O=qU L j∧(∀ r,r < q→F r=bG O r)),.inr ⟨[0],[0,1,5,8,9,10],?_⟩,?_⟩
   ·conv=>whnf
    intro _;conv=>whnf
    refine ⟨_,0,[],0,fun _=>[],(.aa (.aa (.sk 3 (.aa (.sk 2 (.aa (.aa (.aa (.sk 32 .nil rfl)))) rfl)) rfl))),rfl,rfl,?_⟩
    exact ⟨⟨Nat.zero_le _,rfl⟩,rfl,fun r hr=>absurd hr (Nat.not_lt_zero r)⟩
   rintro mm aV _ ⟨j,O,q,F,aA,rfl,rfl,⟨⟨hj,hq⟩,hO,hF⟩⟩
   obtain ⟨az,rfl⟩:∃ az:Nat→Value,aV=.slice (some ⟨0,0,none⟩) n c::.func (.func 110) #[] #[]::zs az 2 3 (dn 1 q::zs az 6 2 (.slice (some ⟨0,0,none⟩) n c::.int .i64 n::.int .i64 j::zs az 11 32 [])):=bI aA;clear aA;have tY:=Xi L j;rw [← hO,← hq] at tY;cases q with
   | zero =>
    obtain rfl:O=[]:=List.eq_nil_of_length_eq_zero hq.symm;conv=>whnf
    refine aM (fun h1=>?_) (fun h1=>?_)
    ·have h1:j < n:=by
      have:=of_decide_eq_true h1;omega
     have e7:IntKind.i64.wrap ((j:Int)+1)=((j+1:Nat):Int):=by rw [ax (by omega) (by omega)]; rfl
     obtain ⟨a,ca,ra,pa,sa,qa⟩:=ik (L:=L) (k:=db n j) (by rw [← hn]; exact jo h1) aW
     obtain ⟨b,cb,rb,pb,sb,qb⟩:=ik (L:=L) (k:=j) (by omega) aW
     obtain ⟨d,cd,rd,pd,sd,qd⟩:=ik (L:=L) (k:=aX n j) (by rw [← hn]; exact cI h1) aW
     rw [← hg] at ra rb rd;have mi:=DE h1 (by omega)
     have cK:=kR h1 (by omega)
     have lf:db n j < n:=jo h1;have ck:=cI h1;obtain ⟨u,hu⟩:∃ u,u=db n j:=⟨_,rfl⟩;obtain ⟨w,hw⟩:∃ u,u=aX n j:=⟨_,rfl⟩;rw [← hu] at mi lf ra;rw [← hw] at cK ck rd;conv=>whnf
     refine ⟨⟨by omega,by omega⟩,?_⟩
     simp only [toNat_cast,aw,Nat.zero_add];conv=>whnf
     refine ⟨by show j < n; omega,?_⟩
     conv=>whnf
     rw [rb];conv=>whnf
     refine .inl ⟨21,[[],[],[],[],[3],[2,3,4],[2,3,4,5],[],[7],[2,3,4,5,6,7,8],[1,2,3,4,5,6,7,8,9],[1,2,3,4,5,6,7,8,9,10],[],[],[],[14],[],[16],[14,15,16,17],[13,14,15,16,17,18],[13,14,15,16,17,18,19],[0,1,2,3,4,5,6,7,8,9,10,11,12,13,14,15,16,17,18,19,20]],by kernel_rfl,?_⟩
     conv=>whnf
     rw [show decide ((n:Int)≠0)=true from decide_eq_true (by omega)]
     conv=>whnf
     rw [mi];refine ⟨⟨by omega,by omega⟩,?_⟩
     simp only [toNat_cast,aw,Nat.zero_add];conv=>whnf
     refine ⟨by show u < n; omega,?_⟩
     conv=>whnf
     rw [ra];conv=>whnf
     rw [show decide ((n:Int)≠0)=true from decide_eq_true (by omega)]
     conv=>whnf
     rw [cK];refine ⟨⟨by omega,by omega⟩,?_⟩
     simp only [toNat_cast,aw,Nat.zero_add];conv=>whnf
     refine ⟨by show w < n; omega,?_⟩
     conv=>whnf
     rw [rd];conv=>whnf
     obtain ⟨z,hz,ar⟩:=NQ hn h1 pa cb cd;rw [← hO] at ar;refine ⟨(a,b,d),rfl,⟨PV.aO sa (by decide),PV.aO sb (by decide),PV.aO sd (by decide)⟩,?_⟩
     rw [show vD.val (a,b,d)=.bool z from hz]
     conv=>whnf
     cases z with
     | false =>
      conv=>whnf
      rw [e7];refine .inr ⟨[0],[0,1,5,8,9,10],?_⟩;conv=>whnf
      intro _;conv=>whnf
      refine ⟨_,?_,j+1,[],0,F,(.aa (.aa (.sk 3 (.aa (.sk 2 (.aa (.aa (.aa (.sk 32 .nil rfl)))) rfl)) rfl))),rfl,rfl,?_⟩
      ·omega
      ·exact ⟨⟨by omega,rfl⟩,by rw [ar]; rfl,hF⟩
     | true =>
      conv=>whnf
      refine ⟨by show (0+1)*80≤140737488355328; decide,?_⟩
      conv=>whnf
      rw [e7];refine .inr ⟨[0,24],[0,1,5,8,9,10],?_⟩;conv=>whnf
      intro _;conv=>whnf
      refine ⟨_,?_,j+1,[aq L j],1,_,(.aa (.aa (.sk 3 (.aa (.sk 2 (.aa (.aa (.aa (.sk 32 .nil rfl)))) rfl)) rfl))),rfl,rfl,?_⟩
      ·omega
      ·exact ⟨⟨by omega,rfl⟩,by rw [ar]; rfl,xi cb rfl⟩
    ·have h1:j=n:=by
      have:=of_decide_eq_false h1;omega
     subst h1;have hE:gE L=[]:=by rw [hO,hn]; exact (M4 L).symm
     conv=>whnf
     rw [show (ki 110 111).new (some (L,c),false)=none from by show b8 (gE L)=none; rw [hE]; rfl]
     exact ⟨.slice none 0 0,by rw [show (ki 110 111).val (some (L,c),false)=.slice none 0 0 from by show dn _ (gE L).length=_; rw [hE]; rfl]; rfl,.refl _⟩
   | succ q =>
    conv=>whnf
    refine aM (fun h1=>?_) (fun h1=>?_)
    ·have h1:j < n:=by
      have:=of_decide_eq_true h1;omega
     have e7:IntKind.i64.wrap ((j:Int)+1)=((j+1:Nat):Int):=by rw [ax (by omega) (by omega)]; rfl
     obtain ⟨a,ca,ra,pa,sa,qa⟩:=ik (L:=L) (k:=db n j) (by rw [← hn]; exact jo h1) aW
     obtain ⟨b,cb,rb,pb,sb,qb⟩:=ik (L:=L) (k:=j) (by omega) aW
     obtain ⟨d,cd,rd,pd,sd,qd⟩:=ik (L:=L) (k:=aX n j) (by rw [← hn]; exact cI h1) aW
     rw [← hg] at ra rb rd;have mi:=DE h1 (by omega)
     have cK:=kR h1 (by omega)
     have lf:db n j < n:=jo h1;have ck:=cI h1;obtain ⟨u,hu⟩:∃ u,u=db n j:=⟨_,rfl⟩;obtain ⟨w,hw⟩:∃ u,u=aX n j:=⟨_,rfl⟩;rw [← hu] at mi lf ra;rw [← hw] at cK ck rd;conv=>whnf
     refine ⟨⟨by omega,by omega⟩,?_⟩
     simp only [toNat_cast,aw,Nat.zero_add];conv=>whnf
     refine ⟨by show j < n; omega,?_⟩
     conv=>whnf
     rw [rb];conv=>whnf
     refine .inl ⟨21,[[],[],[],[],[3],[2,3,4],[2,3,4,5],[],[7],[2,3,4,5,6,7,8],[1,2,3,4,5,6,7,8,9],[1,2,3,4,5,6,7,8,9,10],[],[],[],[14],[],[16],[14,15,16,17],[13,14,15,16,17,18],[13,14,15,16,17,18,19],[0,1,2,3,4,5,6,7,8,9,10,11,12,13,14,15,16,17,18,19,20]],by kernel_rfl,?_⟩
     conv=>whnf
     rw [show decide ((n:Int)≠0)=true from decide_eq_true (by omega)]
     conv=>whnf
     rw [mi];refine ⟨⟨by omega,by omega⟩,?_⟩
     simp only [toNat_cast,aw,Nat.zero_add];conv=>whnf
     refine ⟨by show u < n; omega,?_⟩
     conv=>whnf
     rw [ra];conv=>whnf
     rw [show decide ((n:Int)≠0)=true from decide_eq_true (by omega)]
     conv=>whnf
     rw [cK];refine ⟨⟨by omega,by omega⟩,?_⟩
     simp only [toNat_cast,aw,Nat.zero_add];conv=>whnf
     refine ⟨by show w < n; omega,?_⟩
     conv=>whnf
     rw [rd];conv=>whnf
     obtain ⟨z,hz,ar⟩:=NQ hn h1 pa cb cd;rw [← hO] at ar;refine ⟨(a,b,d),rfl,⟨PV.aO sa (by decide),PV.aO sb (by decide),PV.aO sd (by decide)⟩,?_⟩
     rw [show vD.val (a,b,d)=.bool z from hz]
     conv=>whnf
     cases z with
     | false =>
      conv=>whnf
      rw [e7];refine .inr ⟨[0,1],[0,1,5,8,9,10],?_⟩;conv=>whnf
      intro _;conv=>whnf
      refine ⟨_,?_,j+1,O,q+1,F,(.aa (.aa (.sk 3 (.aa (.sk 2 (.aa (.aa (.aa (.sk 32 .nil rfl)))) rfl)) rfl))),rfl,rfl,?_⟩
      ·omega
      ·exact ⟨⟨by omega,hq⟩,by rw [ar]; simp,hF⟩
     | true =>
      conv=>whnf
      refine ⟨⟨by show 1≤1; decide,rfl,by show (q+1+1)*80≤140737488355328; omega⟩,?_⟩
      conv=>whnf
      refine ⟨[0,1,8,9,10],?_⟩;conv=>whnf
      intro _;conv=>whnf
      rw [e7];refine .inr ⟨[0,1],[0,1,5,8,9,10],?_⟩;conv=>whnf
      intro _;conv=>whnf
      refine ⟨_,?_,j+1,O++[aq L j],q+1+1,_,(.aa (.aa (.sk 3 (.aa (.sk 2 (.aa (.aa (.aa (.sk 32 .nil rfl)))) rfl)) rfl))),rfl,rfl,?_⟩
      ·omega
      ·exact ⟨⟨by omega,by rw [List.length_append,← hq]; rfl⟩,by rw [ar]; simp,sD hq hF cb rfl⟩
    ·have h1:j=n:=by
      have:=of_decide_eq_false h1;omega
     subst h1;have hE:gE L=O:=by rw [hO,hn]; exact (M4 L).symm
     conv=>whnf
     rw [show (ki 110 111).new (some (L,c),false)=some (.flat true (q+1) 6 (bG O)) from by show b8 (gE L)=_; rw [hE]; unfold b8; rw [← hq],show (ki 110 111).val (some (L,c),false)=.slice (some ⟨1,0,none⟩) (q+1) aI from by show dn _ (gE L).length=_; rw [hE,← hq]; rfl]
     refine ⟨1,?_⟩;conv=>whnf
     exact ⟨⟨rfl,aH.sf (fun h=>h) hF (fun r hr=>rfl)⟩,_,rfl,.refl _⟩
  | true =>
   rw [show (ki 110 111).ah (some (L,c),true)=[.flat false n 6 g] from by rw [hn,hg]; rfl,show (ki 110 111).args (some (L,c),true)=[.slice (some ⟨0,0,none⟩) n c,.func (.func 111) #[] #[]] from by rw [hn]; rfl]
   rw [← hn] at hlen;conv=>whnf
   refine .inl ⟨fun mm tz hz=>∃ (j:Nat) (O:List Q2) (q:Nat) (F:Nat→List Value),bw (some (.slice (some ⟨0,0,none⟩) n c)::some (.func (.func 111) #[] #[])::aF 3 (some (dn 1 q)::aF 2 (some (.slice (some ⟨0,0,none⟩) n c)::some (.int .i64 n)::some (.int .i64 j)::aF 32 []))) tz∧hz=[some (.flat false n 6 g)]++Ao 6 F q∧n - j=mm∧((j≤n∧q=O.length)∧O=s6 L j∧(∀ r,r < q→F r=bG O r)),.inr ⟨[0],[0,1,5,8,9,10],?_⟩,?_⟩
   ·conv=>whnf
    intro _;conv=>whnf
    refine ⟨_,0,[],0,fun _=>[],(.aa (.aa (.sk 3 (.aa (.sk 2 (.aa (.aa (.aa (.sk 32 .nil rfl)))) rfl)) rfl))),rfl,rfl,?_⟩
    exact ⟨⟨Nat.zero_le _,rfl⟩,rfl,fun r hr=>absurd hr (Nat.not_lt_zero r)⟩
   rintro mm aV _ ⟨j,O,q,F,aA,rfl,rfl,⟨⟨hj,hq⟩,hO,hF⟩⟩
   obtain ⟨az,rfl⟩:∃ az:Nat→Value,aV=.slice (some ⟨0,0,none⟩) n c::.func (.func 111) #[] #[]::zs az 2 3 (dn 1 q::zs az 6 2 (.slice (some ⟨0,0,none⟩) n c::.int .i64 n::.int .i64 j::zs az 11 32 [])):=bI aA;clear aA;have tY:=Xj L j;rw [← hO,← hq] at tY;cases q with
   | zero =>
    obtain rfl:O=[]:=List.eq_nil_of_length_eq_zero hq.symm;conv=>whnf
    refine aM (fun h1=>?_) (fun h1=>?_)
    ·have h1:j < n:=by
      have:=of_decide_eq_true h1;omega
     have e7:IntKind.i64.wrap ((j:Int)+1)=((j+1:Nat):Int):=by rw [ax (by omega) (by omega)]; rfl
     obtain ⟨a,ca,ra,pa,sa,qa⟩:=ik (L:=L) (k:=db n j) (by rw [← hn]; exact jo h1) aW
     obtain ⟨b,cb,rb,pb,sb,qb⟩:=ik (L:=L) (k:=j) (by omega) aW
     obtain ⟨d,cd,rd,pd,sd,qd⟩:=ik (L:=L) (k:=aX n j) (by rw [← hn]; exact cI h1) aW
     rw [← hg] at ra rb rd;have mi:=DE h1 (by omega)
     have cK:=kR h1 (by omega)
     have lf:db n j < n:=jo h1;have ck:=cI h1;obtain ⟨u,hu⟩:∃ u,u=db n j:=⟨_,rfl⟩;obtain ⟨w,hw⟩:∃ u,u=aX n j:=⟨_,rfl⟩;rw [← hu] at mi lf ra;rw [← hw] at cK ck rd;conv=>whnf
     refine ⟨⟨by omega,by omega⟩,?_⟩
     simp only [toNat_cast,aw,Nat.zero_add];conv=>whnf
     refine ⟨by show j < n; omega,?_⟩
     conv=>whnf
     rw [rb];conv=>whnf
     refine .inl ⟨21,[[],[],[],[],[3],[2,3,4],[2,3,4,5],[],[7],[2,3,4,5,6,7,8],[1,2,3,4,5,6,7,8,9],[1,2,3,4,5,6,7,8,9,10],[],[],[],[14],[],[16],[14,15,16,17],[13,14,15,16,17,18],[13,14,15,16,17,18,19],[0,1,2,3,4,5,6,7,8,9,10,11,12,13,14,15,16,17,18,19,20]],by kernel_rfl,?_⟩
     conv=>whnf
     rw [show decide ((n:Int)≠0)=true from decide_eq_true (by omega)]
     conv=>whnf
     rw [mi];refine ⟨⟨by omega,by omega⟩,?_⟩
     simp only [toNat_cast,aw,Nat.zero_add];conv=>whnf
     refine ⟨by show u < n; omega,?_⟩
     conv=>whnf
     rw [ra];conv=>whnf
     rw [show decide ((n:Int)≠0)=true from decide_eq_true (by omega)]
     conv=>whnf
     rw [cK];refine ⟨⟨by omega,by omega⟩,?_⟩
     simp only [toNat_cast,aw,Nat.zero_add];conv=>whnf
     refine ⟨by show w < n; omega,?_⟩
     conv=>whnf
     rw [rd];conv=>whnf
     obtain ⟨z,hz,ar⟩:=NR hn h1 pa cb cd;rw [← hO] at ar;refine ⟨(a,b,d),rfl,⟨PV.aO sa (by decide),PV.aO sb (by decide),PV.aO sd (by decide)⟩,?_⟩
     rw [show vE.val (a,b,d)=.bool z from hz]
     conv=>whnf
     cases z with
     | false =>
      conv=>whnf
      rw [e7];refine .inr ⟨[0],[0,1,5,8,9,10],?_⟩;conv=>whnf
      intro _;conv=>whnf
      refine ⟨_,?_,j+1,[],0,F,(.aa (.aa (.sk 3 (.aa (.sk 2 (.aa (.aa (.aa (.sk 32 .nil rfl)))) rfl)) rfl))),rfl,rfl,?_⟩
      ·omega
      ·exact ⟨⟨by omega,rfl⟩,by rw [ar]; rfl,hF⟩
     | true =>
      conv=>whnf
      refine ⟨by show (0+1)*80≤140737488355328; decide,?_⟩
      conv=>whnf
      rw [e7];refine .inr ⟨[0,24],[0,1,5,8,9,10],?_⟩;conv=>whnf
      intro _;conv=>whnf
      refine ⟨_,?_,j+1,[aq L j],1,_,(.aa (.aa (.sk 3 (.aa (.sk 2 (.aa (.aa (.aa (.sk 32 .nil rfl)))) rfl)) rfl))),rfl,rfl,?_⟩
      ·omega
      ·exact ⟨⟨by omega,rfl⟩,by rw [ar]; rfl,xi cb rfl⟩
    ·have h1:j=n:=by
      have:=of_decide_eq_false h1;omega
     subst h1;have hE:jI L=[]:=by rw [hO,hn]; exact (M5 L).symm
     conv=>whnf
     rw [show (ki 110 111).new (some (L,c),true)=none from by show b8 (jI L)=none; rw [hE]; rfl]
     exact ⟨.slice none 0 0,by rw [show (ki 110 111).val (some (L,c),true)=.slice none 0 0 from by show dn _ (jI L).length=_; rw [hE]; rfl]; rfl,.refl _⟩
   | succ q =>
    conv=>whnf
    refine aM (fun h1=>?_) (fun h1=>?_)
    ·have h1:j < n:=by
      have:=of_decide_eq_true h1;omega
     have e7:IntKind.i64.wrap ((j:Int)+1)=((j+1:Nat):Int):=by rw [ax (by omega) (by omega)]; rfl
     obtain ⟨a,ca,ra,pa,sa,qa⟩:=ik (L:=L) (k:=db n j) (by rw [← hn]; exact jo h1) aW
     obtain ⟨b,cb,rb,pb,sb,qb⟩:=ik (L:=L) (k:=j) (by omega) aW
     obtain ⟨d,cd,rd,pd,sd,qd⟩:=ik (L:=L) (k:=aX n j) (by rw [← hn]; exact cI h1) aW
     rw [← hg] at ra rb rd;have mi:=DE h1 (by omega)
     have cK:=kR h1 (by omega)
     have lf:db n j < n:=jo h1;have ck:=cI h1;obtain ⟨u,hu⟩:∃ u,u=db n j:=⟨_,rfl⟩;obtain ⟨w,hw⟩:∃ u,u=aX n j:=⟨_,rfl⟩;rw [← hu] at mi lf ra;rw [← hw] at cK ck rd;conv=>whnf
     refine ⟨⟨by omega,by omega⟩,?_⟩
     simp only [toNat_cast,aw,Nat.zero_add];conv=>whnf
     refine ⟨by show j < n; omega,?_⟩
     conv=>whnf
     rw [rb];conv=>whnf
     refine .inl ⟨21,[[],[],[],[],[3],[2,3,4],[2,3,4,5],[],[7],[2,3,4,5,6,7,8],[1,2,3,4,5,6,7,8,9],[1,2,3,4,5,6,7,8,9,10],[],[],[],[14],[],[16],[14,15,16,17],[13,14,15,16,17,18],[13,14,15,16,17,18,19],[0,1,2,3,4,5,6,7,8,9,10,11,12,13,14,15,16,17,18,19,20]],by kernel_rfl,?_⟩
     conv=>whnf
     rw [show decide ((n:Int)≠0)=true from decide_eq_true (by omega)]
     conv=>whnf
     rw [mi];refine ⟨⟨by omega,by omega⟩,?_⟩
     simp only [toNat_cast,aw,Nat.zero_add];conv=>whnf
     refine ⟨by show u < n; omega,?_⟩
     conv=>whnf
     rw [ra];conv=>whnf
     rw [show decide ((n:Int)≠0)=true from decide_eq_true (by omega)]
     conv=>whnf
     rw [cK];refine ⟨⟨by omega,by omega⟩,?_⟩
     simp only [toNat_cast,aw,Nat.zero_add];conv=>whnf
     refine ⟨by show w < n; omega,?_⟩
     conv=>whnf
     rw [rd];conv=>whnf
     obtain ⟨z,hz,ar⟩:=NR hn h1 pa cb cd;rw [← hO] at ar;refine ⟨(a,b,d),rfl,⟨PV.aO sa (by decide),PV.aO sb (by decide),PV.aO sd (by decide)⟩,?_⟩
     rw [show vE.val (a,b,d)=.bool z from hz]
     conv=>whnf
     cases z with
     | false =>
      conv=>whnf
      rw [e7];refine .inr ⟨[0,1],[0,1,5,8,9,10],?_⟩;conv=>whnf
      intro _;conv=>whnf
      refine ⟨_,?_,j+1,O,q+1,F,(.aa (.aa (.sk 3 (.aa (.sk 2 (.aa (.aa (.aa (.sk 32 .nil rfl)))) rfl)) rfl))),rfl,rfl,?_⟩
      ·omega
      ·exact ⟨⟨by omega,hq⟩,by rw [ar]; simp,hF⟩
     | true =>
      conv=>whnf
      refine ⟨⟨by show 1≤1; decide,rfl,by show (q+1+1)*80≤140737488355328; omega⟩,?_⟩
      conv=>whnf
      refine ⟨[0,1,8,9,10],?_⟩;conv=>whnf
      intro _;conv=>whnf
      rw [e7];refine .inr ⟨[0,1],[0,1,5,8,9,10],?_⟩;conv=>whnf
      intro _;conv=>whnf
      refine ⟨_,?_,j+1,O++[aq L j],q+1+1,_,(.aa (.aa (.sk 3 (.aa (.sk 2 (.aa (.aa (.aa (.sk 32 .nil rfl)))) rfl)) rfl))),rfl,rfl,?_⟩
      ·omega
      ·exact ⟨⟨by omega,by rw [List.length_append,← hq]; rfl⟩,by rw [ar]; simp,sD hq hF cb rfl⟩
    ·have h1:j=n:=by
      have:=of_decide_eq_false h1;omega
     subst h1;have hE:jI L=O:=by rw [hO,hn]; exact (M5 L).symm
     conv=>whnf
     rw [show (ki 110 111).new (some (L,c),true)=some (.flat true (q+1) 6 (bG O)) from by show b8 (jI L)=_; rw [hE]; unfold b8; rw [← hq],show (ki 110 111).val (some (L,c),true)=.slice (some ⟨1,0,none⟩) (q+1) aI from by show dn _ (jI L).length=_; rw [hE,← hq]; rfl]
     refine ⟨1,?_⟩;conv=>whnf
     exact ⟨⟨rfl,aH.sf (fun h=>h) hF (fun r hr=>rfl)⟩,_,rfl,.refl _⟩
open Go Go.Ae
def Kh:Env:=En [(33,.p mL)]
theorem aea:EnvOk Tryz.prog Kh:=bF ⟨zM,trivial⟩ trivial
theorem XN:gj Tryz.prog 145 (b9 Kh cF Tryz.f145):=by
 exact js aea aN Tryz.func145 (enters_of Tryz.func145 (by kernel_rfl) rfl)
def Ki:Env:=En [] [(145,b9 Kh cF Tryz.f145)] [] true
theorem aeb:EnvOk Tryz.prog Ki:=bF trivial ⟨XN,trivial⟩
theorem U2:gj Tryz.prog 112 (b9 Ki cF Tryz.f112):=by
 exact js aeb aN Tryz.func112 (enters_of Tryz.func112 (by kernel_rfl) rfl)
abbrev jG:cl:=ki 110 111
def Ey2:Env:=En [(109,.q jG),(74,.p pE)] [(112,b9 Ki cF Tryz.f112)]
theorem aec:EnvOk Tryz.prog Ey2:=bF ⟨aay,OY,trivial⟩ ⟨U2,trivial⟩
theorem O0:di Tryz.prog 58 dC:=by
 refine dQ aec aN Tryz.func58 (enters_of Tryz.func58 (by kernel_rfl) rfl) ?_ ?_ ?_
 ·intro i B hb;cases i with
  | none=>simp [dC,QL.ah] at hb
  | some i=>simp [dC,QL.ah] at hb; rw [hb]; rfl
 ·intro i B hb;exact zh hb
 intro i hp;have hp:i.list.length≤549755813888∧∀ v∈i.list,Q2.sz 262144 v:=hp;obtain ⟨hlen,aW⟩:=hp;cases i with
 | none =>
  conv=>whnf
  refine ⟨(none,false),[],rfl,⟨Nat.zero_le _,fun v hv=>nomatch hv⟩,?_⟩
  rw [show jG.ah (none,false)=[] from rfl,show jG.val (none,false)=.slice none 0 0 from rfl,show jG.new (none,false)=none from rfl]
  conv=>whnf
  refine ⟨_,rfl,?_⟩;conv=>whnf
  refine ⟨(none,true),[],rfl,⟨Nat.zero_le _,fun v hv=>nomatch hv⟩,?_⟩
  rw [show jG.ah (none,true)=[] from rfl,show jG.val (none,true)=.slice none 0 0 from rfl,show jG.new (none,true)=none from rfl]
  conv=>whnf
  refine ⟨_,rfl,?_⟩;conv=>whnf
  exact ⟨_,rfl,.refl _⟩
 | some i =>
  obtain ⟨L,c⟩:=i;have hlen:L.length≤549755813888:=hlen;have aW:∀ v∈L,Q2.sz 262144 v:=aW;obtain ⟨n,hn⟩:∃ n,n=L.length:=⟨_,rfl⟩;obtain ⟨g,hg⟩:∃ g,g=bG L:=⟨_,rfl⟩;obtain ⟨D,hD⟩:∃ D,D=s3 false L:=⟨_,rfl⟩;obtain ⟨C,hC⟩:∃ C,C=s3 true D:=⟨_,rfl⟩;have hR:fg L=if C.length < 3 then [] else eI C:=by rw [VS,← hD,← hC]
  have Kj:D.length≤n∧∀ v∈D,Q2.sz 262144 v:=⟨by rw [hD,hn]; exact (yK L).length_le,fun v hv=>aW v ((yK L).subset (by rw [hD] at hv; exact hv))⟩
  have Em:C.length≤n∧∀ v∈C,Q2.sz 262144 v:=⟨Nat.le_trans (by rw [hC]; exact (BN D).length_le) Kj.1,fun v hv=>Kj.2 v ((BN D).subset (by rw [hC] at hv; exact hv))⟩
  obtain ⟨cu,eJ⟩:∃ c,c=aI:=⟨_,rfl⟩;obtain ⟨K,hK⟩:∃ K,K=gz dC (some (L,c)):=⟨_,rfl⟩;have kY:∀ H:ay,fg L=[]→K (.slice none 0 0) H:=fun H h=>by
   rw [hK];unfold gz;rw [show dC.new (some (L,c))=none from by show b8 (fg L)=none; rw [h]; rfl,show dC.val (some (L,c))=.slice none 0 0 from by show dn _ (fg L).length=_; rw [h]; rfl]
   exact ⟨_,rfl,.refl _⟩
  rw [show dC.ah (some (L,c))=[.flat false n 6 g] from by rw [hn,hg]; rfl,show dC.args (some (L,c))=[.slice (some ⟨0,0,none⟩) n c] from by rw [hn]; rfl,← hK]
  rw [← hn] at hlen;conv=>whnf
  refine ⟨(some (L,c),false),[0],by rw [show jG.args (some (L,c),false)=[.slice (some ⟨0,0,none⟩) n c,.func (.func 110) #[] #[]] from by rw [hn]; rfl]; rfl,⟨by show L.length≤_; omega,aW⟩,?_⟩
  obtain ⟨d,hd⟩:∃ d,d=D.length:=⟨_,rfl⟩;rw [show jG.ah (some (L,c),false)=[.flat false n 6 g] from by rw [hn,hg]; rfl,show jG.val (some (L,c),false)=dn 1 d from by rw [hd,hD]; rfl,show jG.new (some (L,c),false)=b8 D from by rw [hD]; rfl]
  cases d with
  | zero =>
   obtain rfl:D=[]:=List.eq_nil_of_length_eq_zero hd.symm;conv=>whnf
   refine ⟨aH.aT (fun h=>h) (fun r hr=>by rw [hg]; rfl),?_⟩
   conv=>whnf
   refine ⟨_,rfl,?_⟩;conv=>whnf
   refine ⟨(none,true),[],rfl,⟨Nat.zero_le _,fun v hv=>nomatch hv⟩,?_⟩
   rw [show jG.ah (none,true)=[] from rfl,show jG.val (none,true)=.slice none 0 0 from rfl,show jG.new (none,true)=none from rfl]
   conv=>whnf
   refine ⟨_,rfl,?_⟩;conv=>whnf
   exact kY _ (by rw [hR,hC]; rfl)
  | succ d =>
   obtain ⟨G,hG⟩:∃ G,G=bG D:=⟨_,rfl⟩;rw [show b8 D=some (.flat true (d+1) 6 G) from by unfold b8; rw [← hd,hG]]
   conv=>whnf
   refine ⟨aH.aT (fun h=>h) (fun r hr=>by rw [hg]; rfl),?_⟩
   conv=>whnf
   refine ⟨_,rfl,?_⟩;conv=>whnf
   obtain ⟨e,he⟩:∃ d,d=C.length:=⟨_,rfl⟩;refine ⟨(some (D,aI),true),[1],by rw [show jG.args (some (D,aI),true)=[.slice (some ⟨0,0,none⟩) (d+1) aI,.func (.func 111) #[] #[]] from by rw [hd]; rfl]; rfl,⟨by show D.length≤_; omega,Kj.2⟩,?_⟩
   rw [show jG.ah (some (D,aI),true)=[.flat false (d+1) 6 G] from by rw [hd,hG]; rfl,show jG.val (some (D,aI),true)=dn 1 e from by rw [he,hC]; rfl,show jG.new (some (D,aI),true)=b8 C from by rw [hC]; rfl]
   cases e with
   | zero =>
    obtain rfl:C=[]:=List.eq_nil_of_length_eq_zero he.symm;conv=>whnf
    refine ⟨aH.aT (fun h=>by cases h) (fun r hr=>by rw [hG]; rfl),?_⟩
    conv=>whnf
    refine ⟨_,rfl,?_⟩;conv=>whnf
    exact kY _ (by rw [hR]; rfl)
   | succ e =>
    obtain ⟨E,hE⟩:∃ G,G=bG C:=⟨_,rfl⟩;rw [show b8 C=some (.flat true (e+1) 6 E) from by unfold b8; rw [← he,hE]]
    conv=>whnf
    refine ⟨aH.aT (fun h=>by cases h) (fun r hr=>by rw [hG]; rfl),?_⟩
    conv=>whnf
    refine ⟨_,rfl,?_⟩;conv=>whnf
    by_cases h3:e+1 < 3
    ·rw [show decide (((e+1:Nat):Int) < 3)=true from decide_eq_true (by omega)]
     conv=>whnf
     exact kY _ (by rw [hR,if_pos (by omega)])
    rw [show decide (((e+1:Nat):Int) < 3)=false from decide_eq_false (by omega)]
    rw [if_neg (by omega)] at hR
    obtain ⟨N,hN⟩:∃ N,N=e+1:=⟨_,rfl⟩;rw [← hN] at he;rw [← hN];obtain ⟨M,hM⟩:∃ N,N=d+1:=⟨_,rfl⟩;rw [← hM,← eJ];conv=>whnf
    refine .inl ⟨fun mm tz hz=>∃ (i:Nat) (m:Nat),bw (some (.slice (some ⟨2,0,none⟩) N cu)::aF 2 (some (.int .i64 m)::aF 9 (some (.slice (some ⟨2,0,none⟩) N cu)::some (.int .i64 N)::some (.int .i64 i)::aF 21 []))) tz∧hz=[some (.flat false n 6 g),some (.flat true M 6 G),some (.flat true N 6 E)]∧N - i=mm∧(i≤N∧m=nU C i),.inr ⟨[0,1,2],[0,3,13,14,15],?_⟩,?_⟩
    ·conv=>whnf
     intro _;conv=>whnf
     refine ⟨_,0,0,(.aa (.sk 2 (.aa (.sk 9 (.aa (.aa (.aa (.sk 21 .nil rfl)))) rfl)) rfl)),rfl,rfl,?_⟩;exact ⟨Nat.zero_le _,rfl⟩
    rintro mm aV _ ⟨i,m,aA,rfl,rfl,⟨hi,hm⟩⟩
    obtain ⟨az,rfl⟩:∃ az:Nat→Value,aV=.slice (some ⟨2,0,none⟩) N cu::zs az 1 2 (.int .i64 m::zs az 4 9 (.slice (some ⟨2,0,none⟩) N cu::.int .i64 N::.int .i64 i::zs az 16 21 [])):=bI aA;clear aA;have lg:m < N:=by rw [hm,he]; exact (K4 C i (by omega)).1 (by omega)
    conv=>whnf
    refine aM (fun h1=>?_) (fun h1=>?_)
    ·have h1:i < N:=by
      have:=of_decide_eq_true h1;omega
     have e7:IntKind.i64.wrap ((i:Int)+1)=((i+1:Nat):Int):=by rw [ax (by omega) (by omega)]; rfl
     obtain ⟨p,cp,rp,pp,sp,qp⟩:=ik (L:=C) (k:=i) (by omega) Em.2
     obtain ⟨q,cq,rq,pq,sq,qq⟩:=ik (L:=C) (k:=m) (by omega) Em.2
     rw [← hE] at rp rq;conv=>whnf
     refine ⟨⟨by omega,by omega⟩,?_⟩
     simp only [toNat_cast,aw,Nat.zero_add];conv=>whnf
     refine ⟨by show i < N; omega,?_⟩
     conv=>whnf
     rw [rp];conv=>whnf
     refine .inl ⟨5,[[],[],[],[1,2],[1,2,3],[0,1,2,3,4],[0,1,2,3,4,5]],by kernel_rfl,?_⟩
     conv=>whnf
     refine ⟨⟨by omega,by omega⟩,?_⟩
     simp only [toNat_cast,aw,Nat.zero_add];conv=>whnf
     refine ⟨by show m < N; omega,?_⟩
     conv=>whnf
     rw [rq];conv=>whnf
     obtain ⟨z,ez,pz⟩:=dS (fI p.p q.p);refine ⟨(p,q),rfl,⟨PV.aO sp (by decide),PV.aO sq (by decide)⟩,?_⟩
     rw [show pE.val (p,q)=.int .i64 z from ez]
     conv=>whnf
     rw [pp,pq] at pz;have tY:nU C (i+1)=if z < 0 then i else m:=by
      show (if fI (aq C i) (aq C (nU C i)) < 0 then i else nU C i)=_
      rw [pz,hm]
     refine aM (fun J=>?_) (fun J=>?_)
     ·have J:z < 0:=of_decide_eq_true J;conv=>whnf
      rw [e7];refine .inr ⟨[0,1,2],[0,3,13,14,15],?_⟩;conv=>whnf
      intro _;conv=>whnf
      refine ⟨_,?_,i+1,i,(.aa (.sk 2 (.aa (.sk 9 (.aa (.aa (.aa (.sk 21 .nil rfl)))) rfl)) rfl)),rfl,rfl,?_⟩
      ·omega
      ·exact ⟨by omega,by rw [tY,if_pos J]⟩
     ·have J:¬ z < 0:=of_decide_eq_false J;conv=>whnf
      rw [e7];refine .inr ⟨[0,1,2],[0,3,13,14,15],?_⟩;conv=>whnf
      intro _;conv=>whnf
      refine ⟨_,?_,i+1,m,(.aa (.sk 2 (.aa (.sk 9 (.aa (.aa (.aa (.sk 21 .nil rfl)))) rfl)) rfl)),rfl,rfl,?_⟩
      ·omega
      ·exact ⟨by omega,by rw [tY,if_neg J]⟩
    ·have h1:i=N:=by
      have:=of_decide_eq_false h1;omega
     subst h1;conv=>whnf
     refine .inl ⟨6,[[],[],[0,1],[],[],[3,4],[0,1,2,3,4,5],[0,1,2,3,4,5,6],[0,1,2,3,4,5,6,7]],by kernel_rfl,?_⟩
     conv=>whnf
     refine ⟨⟨by omega,by omega,by omega⟩,?_⟩
     rw [show Int.toNat (i:Int) - Int.toNat (m:Int)=i - m from rfl,show Int.toNat (m:Int)=m from rfl,aw,Nat.zero_add]
     conv=>whnf
     refine ⟨⟨by omega,by omega,by omega⟩,?_⟩
     conv=>whnf
     obtain ⟨a,ha⟩:∃ a,a=i - m:=⟨_,rfl⟩;obtain ⟨ca,hca⟩:∃ a,a=uQ cu m:=⟨_,rfl⟩;obtain ⟨cb,hcb⟩:∃ a,a=uQ cu (Int.toNat 0):=⟨_,rfl⟩;rw [← ha,← hca,← hcb,show fe 0 (Int.toNat 0)=0 from rfl,show Int.toNat (m:Int) - Int.toNat 0=m from rfl,Nat.zero_add]
     have w1:IntKind.i64.wrap (0+(a:Int))=(a:Int):=by rw [ax (by omega) (by omega)]; omega
     have w2:IntKind.i64.wrap ((a:Int)+(m:Int))=(i:Int):=by rw [ax (by omega) (by omega)]; omega
     refine .inr ⟨3,?_⟩;conv=>whnf
     refine ⟨by decide,?_⟩
     conv=>whnf
     rw [w1,show decide ((a:Int) < 0)=false from decide_eq_false (by omega)]
     conv=>whnf
     refine ⟨by decide,?_⟩
     conv=>whnf
     rw [w2,show decide ((i:Int) < 0)=false from decide_eq_false (by omega)]
     conv=>whnf
     have w3:IntKind.i64.wrap ((i:Int) - IntKind.i64.wrap (0 - ((0:Nat):Int)))=(i:Int):=by
      rw [show IntKind.i64.wrap (0 - ((0:Nat):Int))=0 from rfl,ax (by omega) (by omega)]; omega
     rw [w3,show decide ((i:Int) > 0)=true from decide_eq_true (by omega)]
     conv=>whnf
     refine ⟨⟨by omega,by omega,by omega⟩,?_⟩
     conv=>whnf
     refine ⟨⟨by omega,by show (i:Int)*((80:Nat):Int)≤_; omega⟩,?_⟩
     conv=>whnf
     refine ⟨⟨by omega,by omega,by omega⟩,?_⟩
     rw [show (0:Int).toNat=0 from rfl,show fe 0 0=0 from rfl]
     conv=>whnf
     refine .inr ⟨3,?_⟩;conv=>whnf
     refine ⟨by decide,?_⟩
     conv=>whnf
     refine ⟨by omega,?_⟩
     conv=>whnf
     rw [show Int.toNat (((0:Nat):Int)) - 0=0 from rfl,show (Src.fl a fun j=>E (fe (0+m) j)).m=a from rfl,Nat.zero_add]
     refine ⟨⟨by decide,⟨Nat.zero_le _,rfl⟩,by show (0+a)*80≤_; omega⟩,?_⟩
     conv=>whnf
     refine ⟨[25,26,27],?_⟩;conv=>whnf
     intro _;conv=>whnf
     refine ⟨by decide,?_⟩
     conv=>whnf
     refine ⟨by omega,?_⟩
     conv=>whnf
     rw [show (Src.fl m fun j=>E (fe 0 j)).m=m from rfl]
     refine ⟨⟨by decide,⟨Nat.le_refl _,rfl⟩,by show (0+a+m)*80≤_; omega⟩,?_⟩
     conv=>whnf
     refine ⟨[25,26,27],?_⟩;conv=>whnf
     intro _;conv=>whnf
     rw [show 0+a+m=i from by omega]
     have hl:(fg L).length=i:=by rw [hR,BM]; omega
     rw [hK];unfold gz;rw [show dC.new (some (L,c))=some (.flat true i 6 (bG (fg L))) from xB hl (by omega),show dC.val (some (L,c))=.slice (some ⟨1,0,none⟩) i aI from (congrArg (dn 1) hl).trans (xC (by omega))]
     refine ⟨10,?_⟩;conv=>whnf
     refine ⟨⟨rfl,aH.sf (fun h=>h) (fun r hr=>?_) (fun r hr=>rfl)⟩,_,rfl,.refl _⟩
     rw [hR,VN (L:=C) (fun r hr=>by rw [hE]) (by omega) (by omega) r (by omega),hm,he]
     rfl
open Go Go.Ae
def Kk:Env:=En [(70,.p qC),(34,.p iJ),(38,.p gW),(71,.p qR),(39,.p yk)] [(64,b9 lh cF Tryz.f64)] [(118,uN)]
theorem aed:EnvOk Tryz.prog Kk:=bF ⟨Nl,GK,xF,OZ,acN,trivial⟩ ⟨xl,trivial⟩
theorem acS:gV Tryz.prog Kk:=wa ⟨wX,trivial⟩
def Rb:Nat→FT→Nu→FT:=fun l G nu=>b9 { Kk with ys:=[(l,G)],nu:=nu } cF Tryz.f114
theorem aaz:Ag Tryz.prog 114 Rb:=by
 exact PS aed aN Tryz.func114 (enters_of Tryz.func114 (by kernel_rfl) rfl) (hI:=acS)
def EV:Env:=En [] [] [(114,Rb)]
theorem aee:EnvOk Tryz.prog EV:=bF trivial trivial
theorem acT:gV Tryz.prog EV:=wa ⟨aaz,trivial⟩
theorem aaA:gj Tryz.prog 113 (b9 EV cF Tryz.f113):=by
 exact js aee aN Tryz.func113 (enters_of Tryz.func113 (by kernel_rfl) rfl) (hI:=acT)
def Ez3:Env:=En [] [(113,b9 EV cF Tryz.f113)]
theorem aef:EnvOk Tryz.prog Ez3:=bF trivial ⟨aaA,trivial⟩
abbrev gi:cl:=I3 114
theorem PF:di Tryz.prog 59 gi:=by
 refine dQ aef aN Tryz.func59 (enters_of Tryz.func59 (by kernel_rfl) rfl) ?_ ?_ ?_
 ·intro ⟨i,_⟩ B hb;cases i with
  | none=>simp [gi,I3,QL.ah] at hb; rcases hb with rfl | rfl | rfl <;> rfl
  | some i=>simp [gi,I3,QL.ah] at hb; rcases hb with rfl | rfl | rfl | rfl <;> rfl
 ·intro i B hb;exact zh hb
 intro ⟨i,a,b⟩ hp;have hp:i.list.length≤1073741824∧(∀ v∈i.list,Q2.sz 2048 v)∧a.sz 2048∧b.sz 2048:=hp;obtain ⟨hlen,aW,sa,sb⟩:=hp;have qa:=PV.cL sa (by decide)
 have qb:=PV.cL sb (by decide)
 cases i with
 | none =>
  conv=>whnf
  intro yl nu fn tm df;conv=>whnf
  intro Kl nu2 Sj Sk Sl;conv=>whnf
  refine .inr ⟨1,?_⟩;conv=>whnf
  exact ⟨_,rfl,.refl _⟩
 | some i =>
  obtain ⟨L,c⟩:=i;have hlen:L.length≤1073741824:=hlen;have aW:∀ v∈L,Q2.sz 2048 v:=aW;obtain ⟨n,hn⟩:∃ n,n=L.length:=⟨_,rfl⟩;obtain ⟨g,hg⟩:∃ g,g=bG L:=⟨_,rfl⟩;obtain ⟨K,hK⟩:∃ K,K=gz gi (some (L,c),(a,b)):=⟨_,rfl⟩;rw [show gi.ah (some (L,c),(a,b))=[.flat false n 6 g,.aP false 1 [[.slice (some ⟨0,0,none⟩) n c]],.aP false 6 [a.cells],.aP false 6 [b.cells]] from by rw [hn,hg]; rfl,show gi.args (some (L,c),(a,b))=[.func (.func 114) #[] #[.pointer (some ⟨1,0,none⟩),.pointer (some ⟨2,0,none⟩),.pointer (some ⟨3,0,none⟩)]] from rfl,← hK]
  rw [← hn] at hlen;conv=>whnf
  intro yl nu fn tm df;conv=>whnf
  intro Kl nu2 Sj Sk Sl;conv=>whnf
  refine .inl ⟨fun mm tz hz=>∃ (j:Nat) (O:List Q2) (q:Nat) (F:Nat→List Value),bw (some (.func (.yield Kl) #[] #[])::some (.pointer (some ⟨7,0,none⟩))::aF 3 (some (.slice (some ⟨0,0,none⟩) n c)::some (.int .i64 n)::some (.int .i64 j)::aF 17 [])) tz∧hz=[some (.flat false n 6 g),some (.aP false 1 [[.slice (some ⟨0,0,none⟩) n c]]),some (.aP false 6 [a.cells]),some (.aP false 6 [b.cells]),some (.aP true 1 [[dn 9 q]]),some (.b6 (re Tryz.f113 fn tm df)),some (.aP true 1 [[.func (.yield yl) #[] #[]]]),some (.aP true 1 [[.slice (some ⟨0,0,none⟩) n c]]),some (.b6 (re Tryz.f114 Sj Sk Sl))]++Ao 6 F q∧n - j=mm∧((j≤n∧q=O.length)∧O=((aY L).take j).flatMap (jX (cU a.p b.p))∧∀ r,r < q→F r=bG O r),.inr ⟨[0,1,2,3,4,5,6,7,8],[0,1,5,6,7],?_⟩,?_⟩
  ·conv=>whnf
   intro _;conv=>whnf
   refine ⟨_,0,[],0,fun _=>[],(.aa (.aa (.sk 3 (.aa (.aa (.aa (.sk 17 .nil rfl)))) rfl))),rfl,rfl,?_⟩
   exact ⟨⟨Nat.zero_le _,rfl⟩,rfl,fun r hr=>absurd hr (Nat.not_lt_zero r)⟩
  rintro mm aV _ ⟨j,O,q,F,aA,rfl,rfl,⟨⟨hj,hq⟩,hO,hF⟩⟩
  obtain ⟨az,rfl⟩:∃ az:Nat→Value,aV=.func (.yield Kl) #[] #[]::.pointer (some ⟨7,0,none⟩)::zs az 2 3 (.slice (some ⟨0,0,none⟩) n c::.int .i64 n::.int .i64 j::zs az 8 17 []):=bI aA;clear aA;have tY:=Yv (cU a.p b.p) L j;rw [← hO,← hq] at tY;cases q with
  | zero =>
   obtain rfl:O=[]:=List.eq_nil_of_length_eq_zero hq.symm;conv=>whnf
   refine aM (fun h7=>?_) (fun h7=>?_)
   ·have h7:j < n:=by
     have:=of_decide_eq_true h7;omega
    have e8:IntKind.i64.wrap ((j:Int)+1)=((j+1:Nat):Int):=by rw [ax (by omega) (by omega)]; rfl
    obtain ⟨u,cu,ru,pu,su,qu⟩:=ik (L:=L) (k:=j) (by omega) aW
    obtain ⟨v,cv,rv,pv,sv,qv⟩:=ik (L:=L) (k:=aX n j) (by rw [hn]; exact cI (by omega)) aW
    have cK:=kR h7 (by omega)
    have ck:=cI h7;have gr:(aY L)[j]?=some (u.p,v.p):=by rw [pu,pv]; rw [hn] at ck ⊢; exact qf (ig (by omega)) (ig ck)
    rw [← pu] at cu;obtain ⟨k,hk⟩:∃ u,u=aX n j:=⟨_,rfl⟩;rw [← hk] at cK ck rv;rw [← hg] at ru rv;conv=>whnf
    refine ⟨⟨by omega,by omega⟩,?_⟩
    simp only [toNat_cast,aw,Nat.zero_add];conv=>whnf
    refine ⟨by show j < n; omega,?_⟩
    conv=>whnf
    rw [ru];conv=>whnf
    refine .inl ⟨10,[[],[],[],[],[3],[],[5],[3,4,5,6],[2,3,4,5,6,7],[2,3,4,5,6,7,8],[0,1,2,3,4,5,6,7,8,9],[0,1,2,3,4,5,6,7,8,9,10]],by kernel_rfl,?_⟩
    conv=>whnf
    rw [show decide ((n:Int)≠0)=true from decide_eq_true (by omega)]
    conv=>whnf
    rw [cK];refine ⟨⟨by omega,by omega⟩,?_⟩
    simp only [toNat_cast,aw,Nat.zero_add];conv=>whnf
    refine ⟨by show k < n; omega,?_⟩
    conv=>whnf
    rw [rv];conv=>whnf
    refine ⟨rfl,?_⟩;conv=>whnf
    refine ⟨rfl,?_⟩;conv=>whnf
    refine ⟨rfl,?_⟩;conv=>whnf
    refine .inl ⟨10,[[],[],[],[0,1,2],[],[],[],[0,1,2,3,4,5,6],[],[],[0,1,2,3,4,5,6,7,8,9],[0,1,2,3,4,5,6,7,8,9,10]],by kernel_rfl,?_⟩
    conv=>whnf
    obtain ⟨x,ex,px,sx,qx⟩:=fH (yc qa qb qu);refine ⟨(a,b,u),rfl,⟨PV.aO sa (by decide),PV.aO sb (by decide),PV.aO su (by decide)⟩,?_⟩
    rw [show qC.val (a,b,u)=x.v from ex]
    conv=>whnf
    obtain ⟨y,ey,py,sy,qy⟩:=fH (yc qa qb qv);refine ⟨(a,b,v),rfl,⟨PV.aO sa (by decide),PV.aO sb (by decide),PV.aO sv (by decide)⟩,?_⟩
    rw [show qC.val (a,b,v)=y.v from ey]
    conv=>whnf
    obtain ⟨z,ez,pz⟩:=dS (aZ x.q 0);refine ⟨x,rfl,RV.bJ sx (by decide),?_⟩
    rw [show iJ.val x=.int .i64 z from ez]
    conv=>whnf
    have hz:=p9 x.q 0;rw [← pz] at hz;have ar:=M6 (w:=cc (atR u.p v.p (x.q / (x.q - y.q)))) gr hO (px.trans (m7 _ _ _).symm) (py.trans (m7 _ _ _).symm) (gJ _);rw [← pz] at ar;by_cases h8:z ≥ 0
    ·rw [show decide (z ≥ 0)=true from decide_eq_true h8]
     rw [if_pos h8] at ar;conv=>whnf
     refine ⟨rfl,?_⟩;conv=>whnf
     refine ⟨rfl,?_⟩;conv=>whnf
     refine ⟨rfl,?_⟩;conv=>whnf
     refine ⟨by decide,?_⟩
     conv=>whnf
     refine ⟨rfl,?_⟩;conv=>whnf
     refine .inl ⟨3,[[],[0],[],[0,1,2],[0,1,2,3],[0,1,2,3,4]],by kernel_rfl,?_⟩
     conv=>whnf
     obtain ⟨z3,wh,wi⟩:=dS (aZ x.q 0);refine ⟨x,rfl,RV.bJ sx (by decide),?_⟩
     rw [show iJ.val x=.int .i64 z3 from wh]
     conv=>whnf
     obtain ⟨z2,wj,oN⟩:=dS (aZ y.q 0);refine ⟨y,rfl,RV.bJ sy (by decide),?_⟩
     rw [show iJ.val y=.int .i64 z2 from wj]
     conv=>whnf
     have nM:=p9 y.q 0;rw [← oN] at nM;obtain rfl:z3=z:=wi.trans pz.symm;rw [show IntKind.i64.wrap (z3*z2)=z3*z2 from by rcases hz with rfl | rfl | rfl <;> rcases nM with rfl | rfl | rfl <;> rfl]
     rw [← oN] at ar;by_cases h9:z3*z2 < 0
     ·rw [show decide (z3*z2 < 0)=true from decide_eq_true h9]
      rw [if_pos h9] at ar;conv=>whnf
      refine .inr (.inr (.inl ⟨9,1,[[],[],[],[1,2],[0,1,2,3],[0,1,2,3,4],[0,1,2,3,4,5],[0,1,2,3,4,5],[],[0,1,2,3,4,5,6,8],[0,1,2,3,4,5,6,7,8,9]],[7],by kernel_rfl,?_⟩))
      conv=>whnf
      obtain ⟨d2,kD,wk,wm,wo⟩:=fH (QB.sub qx qy);refine ⟨(x,y),rfl,⟨RV.bJ sx (by decide),RV.bJ sy (by decide)⟩,?_⟩
      rw [show gW.val (x,y)=d2.v from kD]
      conv=>whnf
      obtain ⟨t,et,pt,st,qt⟩:=fH (QB.div qx wo (by decide))
      obtain ⟨e,ee,pe⟩:=dS (if d2.q=0 then 10 else 0)
      refine ⟨(x,d2),rfl,⟨RV.bJ sx (by decide),RV.bJ wm (by decide)⟩,?_⟩
      rw [show qR.val (x,d2)=.tuple ⟨[t.v,.int .i64 e]⟩ from by rw [← et,← ee]; rfl]
      conv=>whnf
      refine .inl ⟨5,[[],[],[],[],[1,2,3],[0,1,2,3,4],[0,1,2,3,4,5]],by kernel_rfl,?_⟩
      conv=>whnf
      obtain ⟨w,ew,pw,sw,qw⟩:=sY (z9 qu qv qt);refine ⟨((u,v),t),rfl,⟨⟨PV.aO su (by decide),PV.aO sv (by decide)⟩,RV.aO st (by decide)⟩,?_⟩
      rw [show yk.val ((u,v),t)=w.v from ew]
      conv=>whnf
      have cw:=(PV.ko ew).symm;rw [← pw] at cw;rw [show (cc (atR u.p v.p (x.q / (x.q - y.q)))).p=w.p from by rw [gJ,pw,pt,wk]] at ar
      refine ⟨rfl,?_⟩;conv=>whnf
      refine ⟨rfl,?_⟩;conv=>whnf
      refine ⟨rfl,?_⟩;conv=>whnf
      refine ⟨⟨rfl,by show (0+1+1)*80≤140737488355328; decide⟩,?_⟩
      conv=>whnf
      refine ⟨rfl,?_⟩;conv=>whnf
      refine ⟨rfl,?_⟩;conv=>whnf
      rw [e8];refine .inr ⟨[0,1,2,3,4,5,6,7,8,54],[0,1,5,6,7],?_⟩;conv=>whnf
      intro _;conv=>whnf
      refine ⟨_,?_,j+1,[u.p]++[w.p],0+1+1,_,(.aa (.aa (.sk 3 (.aa (.aa (.aa (.sk 17 .nil rfl)))) rfl))),rfl,rfl,?_⟩
      ·omega
      ·exact ⟨⟨by omega,rfl⟩,by rw [ar]; rfl,sD (O:=[u.p]) rfl (xi cu rfl) cw rfl⟩
     ·rw [show decide (z3*z2 < 0)=false from decide_eq_false h9]
      rw [if_neg h9] at ar;conv=>whnf
      refine ⟨rfl,?_⟩;conv=>whnf
      rw [e8];refine .inr ⟨[0,1,2,3,4,5,6,7,8,34],[0,1,5,6,7],?_⟩;conv=>whnf
      intro _;conv=>whnf
      refine ⟨_,?_,j+1,[u.p],0+1,_,(.aa (.aa (.sk 3 (.aa (.aa (.aa (.sk 17 .nil rfl)))) rfl))),rfl,rfl,?_⟩
      ·omega
      ·exact ⟨⟨by omega,rfl⟩,by rw [ar]; rfl,xi cu rfl⟩
    ·rw [show decide (z ≥ 0)=false from decide_eq_false h8]
     rw [if_neg h8] at ar;conv=>whnf
     refine .inl ⟨3,[[],[0],[],[0,1,2],[0,1,2,3],[0,1,2,3,4]],by kernel_rfl,?_⟩
     conv=>whnf
     obtain ⟨z3,wh,wi⟩:=dS (aZ x.q 0);refine ⟨x,rfl,RV.bJ sx (by decide),?_⟩
     rw [show iJ.val x=.int .i64 z3 from wh]
     conv=>whnf
     obtain ⟨z2,wj,oN⟩:=dS (aZ y.q 0);refine ⟨y,rfl,RV.bJ sy (by decide),?_⟩
     rw [show iJ.val y=.int .i64 z2 from wj]
     conv=>whnf
     have nM:=p9 y.q 0;rw [← oN] at nM;obtain rfl:z3=z:=wi.trans pz.symm;rw [show IntKind.i64.wrap (z3*z2)=z3*z2 from by rcases hz with rfl | rfl | rfl <;> rcases nM with rfl | rfl | rfl <;> rfl]
     rw [← oN] at ar;by_cases h9:z3*z2 < 0
     ·rw [show decide (z3*z2 < 0)=true from decide_eq_true h9]
      rw [if_pos h9] at ar;conv=>whnf
      refine .inr (.inr (.inl ⟨9,1,[[],[],[],[1,2],[0,1,2,3],[0,1,2,3,4],[0,1,2,3,4,5],[0,1,2,3,4,5],[],[0,1,2,3,4,5,6,8],[0,1,2,3,4,5,6,7,8,9]],[7],by kernel_rfl,?_⟩))
      conv=>whnf
      obtain ⟨d2,kD,wk,wm,wo⟩:=fH (QB.sub qx qy);refine ⟨(x,y),rfl,⟨RV.bJ sx (by decide),RV.bJ sy (by decide)⟩,?_⟩
      rw [show gW.val (x,y)=d2.v from kD]
      conv=>whnf
      obtain ⟨t,et,pt,st,qt⟩:=fH (QB.div qx wo (by decide))
      obtain ⟨e,ee,pe⟩:=dS (if d2.q=0 then 10 else 0)
      refine ⟨(x,d2),rfl,⟨RV.bJ sx (by decide),RV.bJ wm (by decide)⟩,?_⟩
      rw [show qR.val (x,d2)=.tuple ⟨[t.v,.int .i64 e]⟩ from by rw [← et,← ee]; rfl]
      conv=>whnf
      refine .inl ⟨5,[[],[],[],[],[1,2,3],[0,1,2,3,4],[0,1,2,3,4,5]],by kernel_rfl,?_⟩
      conv=>whnf
      obtain ⟨w,ew,pw,sw,qw⟩:=sY (z9 qu qv qt);refine ⟨((u,v),t),rfl,⟨⟨PV.aO su (by decide),PV.aO sv (by decide)⟩,RV.aO st (by decide)⟩,?_⟩
      rw [show yk.val ((u,v),t)=w.v from ew]
      conv=>whnf
      have cw:=(PV.ko ew).symm;rw [← pw] at cw;rw [show (cc (atR u.p v.p (x.q / (x.q - y.q)))).p=w.p from by rw [gJ,pw,pt,wk]] at ar
      refine ⟨rfl,?_⟩;conv=>whnf
      refine ⟨rfl,?_⟩;conv=>whnf
      refine ⟨rfl,?_⟩;conv=>whnf
      refine ⟨by decide,?_⟩
      conv=>whnf
      refine ⟨rfl,?_⟩;conv=>whnf
      refine ⟨rfl,?_⟩;conv=>whnf
      rw [e8];refine .inr ⟨[0,1,2,3,4,5,6,7,8,51],[0,1,5,6,7],?_⟩;conv=>whnf
      intro _;conv=>whnf
      refine ⟨_,?_,j+1,[w.p],0+1,_,(.aa (.aa (.sk 3 (.aa (.aa (.aa (.sk 17 .nil rfl)))) rfl))),rfl,rfl,?_⟩
      ·omega
      ·exact ⟨⟨by omega,rfl⟩,by rw [ar]; rfl,xi cw rfl⟩
     ·rw [show decide (z3*z2 < 0)=false from decide_eq_false h9]
      rw [if_neg h9] at ar;conv=>whnf
      refine ⟨rfl,?_⟩;conv=>whnf
      rw [e8];refine .inr ⟨[0,1,2,3,4,5,6,7,8],[0,1,5,6,7],?_⟩;conv=>whnf
      intro _;conv=>whnf
      refine ⟨_,?_,j+1,[],0,fun _=>[],(.aa (.aa (.sk 3 (.aa (.aa (.aa (.sk 17 .nil rfl)))) rfl))),rfl,rfl,?_⟩
      ·omega
      ·exact ⟨⟨by omega,rfl⟩,by rw [ar]; rfl,fun r hr=>absurd hr (Nat.not_lt_zero r)⟩
   ·have h7:j=n:=by
     have:=of_decide_eq_false h7;omega
    subst h7;have Av:cB (cU a.p b.p) L=[]:=by rw [hO,hn]; exact (NS _ L).symm
    conv=>whnf
    rw [hK];unfold gz;rw [show gi.new (some (L,c),(a,b))=none from by show b8 (cB (cU a.p b.p) L)=none; rw [Av]; rfl,show gi.val (some (L,c),(a,b))=.slice none 0 0 from by show dn _ (cB (cU a.p b.p) L).length=_; rw [Av]; rfl]
    exact ⟨_,rfl,.refl _⟩
  | succ q =>
   conv=>whnf
   refine aM (fun h7=>?_) (fun h7=>?_)
   ·have h7:j < n:=by
     have:=of_decide_eq_true h7;omega
    have e8:IntKind.i64.wrap ((j:Int)+1)=((j+1:Nat):Int):=by rw [ax (by omega) (by omega)]; rfl
    obtain ⟨u,cu,ru,pu,su,qu⟩:=ik (L:=L) (k:=j) (by omega) aW
    obtain ⟨v,cv,rv,pv,sv,qv⟩:=ik (L:=L) (k:=aX n j) (by rw [hn]; exact cI (by omega)) aW
    have cK:=kR h7 (by omega)
    have ck:=cI h7;have gr:(aY L)[j]?=some (u.p,v.p):=by rw [pu,pv]; rw [hn] at ck ⊢; exact qf (ig (by omega)) (ig ck)
    rw [← pu] at cu;obtain ⟨k,hk⟩:∃ u,u=aX n j:=⟨_,rfl⟩;rw [← hk] at cK ck rv;rw [← hg] at ru rv;conv=>whnf
    refine ⟨⟨by omega,by omega⟩,?_⟩
    simp only [toNat_cast,aw,Nat.zero_add];conv=>whnf
    refine ⟨by show j < n; omega,?_⟩
    conv=>whnf
    rw [ru];conv=>whnf
    refine .inl ⟨10,[[],[],[],[],[3],[],[5],[3,4,5,6],[2,3,4,5,6,7],[2,3,4,5,6,7,8],[0,1,2,3,4,5,6,7,8,9],[0,1,2,3,4,5,6,7,8,9,10]],by kernel_rfl,?_⟩
    conv=>whnf
    rw [show decide ((n:Int)≠0)=true from decide_eq_true (by omega)]
    conv=>whnf
    rw [cK];refine ⟨⟨by omega,by omega⟩,?_⟩
    simp only [toNat_cast,aw,Nat.zero_add];conv=>whnf
    refine ⟨by show k < n; omega,?_⟩
    conv=>whnf
    rw [rv];conv=>whnf
    refine ⟨rfl,?_⟩;conv=>whnf
    refine ⟨rfl,?_⟩;conv=>whnf
    refine ⟨rfl,?_⟩;conv=>whnf
    refine .inl ⟨10,[[],[],[],[0,1,2],[],[],[],[0,1,2,3,4,5,6],[],[],[0,1,2,3,4,5,6,7,8,9],[0,1,2,3,4,5,6,7,8,9,10]],by kernel_rfl,?_⟩
    conv=>whnf
    obtain ⟨x,ex,px,sx,qx⟩:=fH (yc qa qb qu);refine ⟨(a,b,u),rfl,⟨PV.aO sa (by decide),PV.aO sb (by decide),PV.aO su (by decide)⟩,?_⟩
    rw [show qC.val (a,b,u)=x.v from ex]
    conv=>whnf
    obtain ⟨y,ey,py,sy,qy⟩:=fH (yc qa qb qv);refine ⟨(a,b,v),rfl,⟨PV.aO sa (by decide),PV.aO sb (by decide),PV.aO sv (by decide)⟩,?_⟩
    rw [show qC.val (a,b,v)=y.v from ey]
    conv=>whnf
    obtain ⟨z,ez,pz⟩:=dS (aZ x.q 0);refine ⟨x,rfl,RV.bJ sx (by decide),?_⟩
    rw [show iJ.val x=.int .i64 z from ez]
    conv=>whnf
    have hz:=p9 x.q 0;rw [← pz] at hz;have ar:=M6 (w:=cc (atR u.p v.p (x.q / (x.q - y.q)))) gr hO (px.trans (m7 _ _ _).symm) (py.trans (m7 _ _ _).symm) (gJ _);rw [← pz] at ar;by_cases h8:z ≥ 0
    ·rw [show decide (z ≥ 0)=true from decide_eq_true h8]
     rw [if_pos h8] at ar;conv=>whnf
     refine ⟨rfl,?_⟩;conv=>whnf
     refine ⟨rfl,?_⟩;conv=>whnf
     refine ⟨rfl,?_⟩;conv=>whnf
     refine ⟨⟨rfl,by show (q+1+1)*80≤140737488355328; omega⟩,?_⟩
     conv=>whnf
     refine ⟨rfl,?_⟩;conv=>whnf
     refine .inl ⟨3,[[],[0],[],[0,1,2],[0,1,2,3],[0,1,2,3,4]],by kernel_rfl,?_⟩
     conv=>whnf
     obtain ⟨z3,wh,wi⟩:=dS (aZ x.q 0);refine ⟨x,rfl,RV.bJ sx (by decide),?_⟩
     rw [show iJ.val x=.int .i64 z3 from wh]
     conv=>whnf
     obtain ⟨z2,wj,oN⟩:=dS (aZ y.q 0);refine ⟨y,rfl,RV.bJ sy (by decide),?_⟩
     rw [show iJ.val y=.int .i64 z2 from wj]
     conv=>whnf
     have nM:=p9 y.q 0;rw [← oN] at nM;obtain rfl:z3=z:=wi.trans pz.symm;rw [show IntKind.i64.wrap (z3*z2)=z3*z2 from by rcases hz with rfl | rfl | rfl <;> rcases nM with rfl | rfl | rfl <;> rfl]
     rw [← oN] at ar;by_cases h9:z3*z2 < 0
     ·rw [show decide (z3*z2 < 0)=true from decide_eq_true h9]
      rw [if_pos h9] at ar;conv=>whnf
      refine .inr (.inr (.inl ⟨9,1,[[],[],[],[1,2],[0,1,2,3],[0,1,2,3,4],[0,1,2,3,4,5],[0,1,2,3,4,5],[],[0,1,2,3,4,5,6,8],[0,1,2,3,4,5,6,7,8,9]],[7],by kernel_rfl,?_⟩))
      conv=>whnf
      obtain ⟨d2,kD,wk,wm,wo⟩:=fH (QB.sub qx qy);refine ⟨(x,y),rfl,⟨RV.bJ sx (by decide),RV.bJ sy (by decide)⟩,?_⟩
      rw [show gW.val (x,y)=d2.v from kD]
      conv=>whnf
      obtain ⟨t,et,pt,st,qt⟩:=fH (QB.div qx wo (by decide))
      obtain ⟨e,ee,pe⟩:=dS (if d2.q=0 then 10 else 0)
      refine ⟨(x,d2),rfl,⟨RV.bJ sx (by decide),RV.bJ wm (by decide)⟩,?_⟩
      rw [show qR.val (x,d2)=.tuple ⟨[t.v,.int .i64 e]⟩ from by rw [← et,← ee]; rfl]
      conv=>whnf
      refine .inl ⟨5,[[],[],[],[],[1,2,3],[0,1,2,3,4],[0,1,2,3,4,5]],by kernel_rfl,?_⟩
      conv=>whnf
      obtain ⟨w,ew,pw,sw,qw⟩:=sY (z9 qu qv qt);refine ⟨((u,v),t),rfl,⟨⟨PV.aO su (by decide),PV.aO sv (by decide)⟩,RV.aO st (by decide)⟩,?_⟩
      rw [show yk.val ((u,v),t)=w.v from ew]
      conv=>whnf
      have cw:=(PV.ko ew).symm;rw [← pw] at cw;rw [show (cc (atR u.p v.p (x.q / (x.q - y.q)))).p=w.p from by rw [gJ,pw,pt,wk]] at ar
      refine ⟨rfl,?_⟩;conv=>whnf
      refine ⟨rfl,?_⟩;conv=>whnf
      refine ⟨rfl,?_⟩;conv=>whnf
      refine ⟨⟨rfl,by show (q+1+1+1)*80≤140737488355328; omega⟩,?_⟩
      conv=>whnf
      refine ⟨rfl,?_⟩;conv=>whnf
      refine ⟨rfl,?_⟩;conv=>whnf
      rw [e8];refine .inr ⟨[0,1,2,3,4,5,6,7,8,55],[0,1,5,6,7],?_⟩;conv=>whnf
      intro _;conv=>whnf
      refine ⟨_,?_,j+1,(O++[u.p])++[w.p],q+1+1+1,_,(.aa (.aa (.sk 3 (.aa (.aa (.aa (.sk 17 .nil rfl)))) rfl))),rfl,rfl,?_⟩
      ·omega
      ·exact ⟨⟨by omega,by rw [List.length_append,List.length_append,← hq]; rfl⟩,by rw [ar]; simp,sD (O:=O++[u.p]) (by rw [List.length_append,← hq]; rfl) (sD hq hF cu rfl) cw rfl⟩
     ·rw [show decide (z3*z2 < 0)=false from decide_eq_false h9]
      rw [if_neg h9] at ar;conv=>whnf
      refine ⟨rfl,?_⟩;conv=>whnf
      rw [e8];refine .inr ⟨[0,1,2,3,4,5,6,7,8,35],[0,1,5,6,7],?_⟩;conv=>whnf
      intro _;conv=>whnf
      refine ⟨_,?_,j+1,O++[u.p],q+1+1,_,(.aa (.aa (.sk 3 (.aa (.aa (.aa (.sk 17 .nil rfl)))) rfl))),rfl,rfl,?_⟩
      ·omega
      ·exact ⟨⟨by omega,by rw [List.length_append,← hq]; rfl⟩,by rw [ar]; simp,sD hq hF cu rfl⟩
    ·rw [show decide (z ≥ 0)=false from decide_eq_false h8]
     rw [if_neg h8] at ar;conv=>whnf
     refine .inl ⟨3,[[],[0],[],[0,1,2],[0,1,2,3],[0,1,2,3,4]],by kernel_rfl,?_⟩
     conv=>whnf
     obtain ⟨z3,wh,wi⟩:=dS (aZ x.q 0);refine ⟨x,rfl,RV.bJ sx (by decide),?_⟩
     rw [show iJ.val x=.int .i64 z3 from wh]
     conv=>whnf
     obtain ⟨z2,wj,oN⟩:=dS (aZ y.q 0);refine ⟨y,rfl,RV.bJ sy (by decide),?_⟩
     rw [show iJ.val y=.int .i64 z2 from wj]
     conv=>whnf
     have nM:=p9 y.q 0;rw [← oN] at nM;obtain rfl:z3=z:=wi.trans pz.symm;rw [show IntKind.i64.wrap (z3*z2)=z3*z2 from by rcases hz with rfl | rfl | rfl <;> rcases nM with rfl | rfl | rfl <;> rfl]
     rw [← oN] at ar;by_cases h9:z3*z2 < 0
     ·rw [show decide (z3*z2 < 0)=true from decide_eq_true h9]
      rw [if_pos h9] at ar;conv=>whnf
      refine .inr (.inr (.inl ⟨9,1,[[],[],[],[1,2],[0,1,2,3],[0,1,2,3,4],[0,1,2,3,4,5],[0,1,2,3,4,5],[],[0,1,2,3,4,5,6,8],[0,1,2,3,4,5,6,7,8,9]],[7],by kernel_rfl,?_⟩))
      conv=>whnf
      obtain ⟨d2,kD,wk,wm,wo⟩:=fH (QB.sub qx qy);refine ⟨(x,y),rfl,⟨RV.bJ sx (by decide),RV.bJ sy (by decide)⟩,?_⟩
      rw [show gW.val (x,y)=d2.v from kD]
      conv=>whnf
      obtain ⟨t,et,pt,st,qt⟩:=fH (QB.div qx wo (by decide))
      obtain ⟨e,ee,pe⟩:=dS (if d2.q=0 then 10 else 0)
      refine ⟨(x,d2),rfl,⟨RV.bJ sx (by decide),RV.bJ wm (by decide)⟩,?_⟩
      rw [show qR.val (x,d2)=.tuple ⟨[t.v,.int .i64 e]⟩ from by rw [← et,← ee]; rfl]
      conv=>whnf
      refine .inl ⟨5,[[],[],[],[],[1,2,3],[0,1,2,3,4],[0,1,2,3,4,5]],by kernel_rfl,?_⟩
      conv=>whnf
      obtain ⟨w,ew,pw,sw,qw⟩:=sY (z9 qu qv qt);refine ⟨((u,v),t),rfl,⟨⟨PV.aO su (by decide),PV.aO sv (by decide)⟩,RV.aO st (by decide)⟩,?_⟩
      rw [show yk.val ((u,v),t)=w.v from ew]
      conv=>whnf
      have cw:=(PV.ko ew).symm;rw [← pw] at cw;rw [show (cc (atR u.p v.p (x.q / (x.q - y.q)))).p=w.p from by rw [gJ,pw,pt,wk]] at ar
      refine ⟨rfl,?_⟩;conv=>whnf
      refine ⟨rfl,?_⟩;conv=>whnf
      refine ⟨rfl,?_⟩;conv=>whnf
      refine ⟨⟨rfl,by show (q+1+1)*80≤140737488355328; omega⟩,?_⟩
      conv=>whnf
      refine ⟨rfl,?_⟩;conv=>whnf
      refine ⟨rfl,?_⟩;conv=>whnf
      rw [e8];refine .inr ⟨[0,1,2,3,4,5,6,7,8,52],[0,1,5,6,7],?_⟩;conv=>whnf
      intro _;conv=>whnf
      refine ⟨_,?_,j+1,O++[w.p],q+1+1,_,(.aa (.aa (.sk 3 (.aa (.aa (.aa (.sk 17 .nil rfl)))) rfl))),rfl,rfl,?_⟩
      ·omega
      ·exact ⟨⟨by omega,by rw [List.length_append,← hq]; rfl⟩,by rw [ar]; simp,sD hq hF cw rfl⟩
     ·rw [show decide (z3*z2 < 0)=false from decide_eq_false h9]
      rw [if_neg h9] at ar;conv=>whnf
      refine ⟨rfl,?_⟩;conv=>whnf
      rw [e8];refine .inr ⟨[0,1,2,3,4,5,6,7,8,9],[0,1,5,6,7],?_⟩;conv=>whnf
      intro _;conv=>whnf
      refine ⟨_,?_,j+1,O,q+1,F,(.aa (.aa (.sk 3 (.aa (.aa (.aa (.sk 17 .nil rfl)))) rfl))),rfl,rfl,?_⟩
      ·omega
      ·exact ⟨⟨by omega,hq⟩,by rw [ar]; simp,hF⟩
   ·have h7:j=n:=by
     have:=of_decide_eq_false h7;omega
    subst h7;have Av:cB (cU a.p b.p) L=O:=by rw [hO,hn]; exact (NS _ L).symm
    conv=>whnf
    rw [hK];unfold gz;rw [show gi.new (some (L,c),(a,b))=some (.flat true (q+1) 6 (bG O)) from by show b8 (cB (cU a.p b.p) L)=_; rw [Av]; unfold b8; rw [← hq],show gi.val (some (L,c),(a,b))=.slice (some ⟨4,0,none⟩) (q+1) aI from by show dn _ (cB (cU a.p b.p) L).length=_; rw [Av,← hq]; rfl]
    refine ⟨9,?_⟩;conv=>whnf
    exact ⟨⟨rfl,aH.sf (fun h=>h) hF (fun r hr=>rfl)⟩,_,rfl,.refl _⟩
open Go Go.Ae
theorem O1:gj Tryz.prog 60 (b9 lh cF Tryz.f60):=by
 exact js DK aN Tryz.func60 (enters_of Tryz.func60 (by kernel_rfl) rfl)
theorem Mn:gj Tryz.prog 57 (b9 lh cF Tryz.f57):=by
 exact js DK aN Tryz.func57 (enters_of Tryz.func57 (by kernel_rfl) rfl)
def Ez4:Env:=rS [(23,.q bd),(56,.q dF),(58,.q dC),(59,.r gi)] [(60,b9 lh cF Tryz.f60),(57,b9 lh cF Tryz.f57)]
theorem aeg:EnvOk Tryz.prog Ez4:=tC ⟨xm,By,O0,PF,trivial⟩ ⟨O1,Mn,trivial⟩
theorem XO:di Tryz.prog 14 cA:=by
 refine dQ aeg aN Tryz.func14 (enters_of Tryz.func14 (by kernel_rfl) rfl) ?_ ?_ ?_
 ·intro ⟨i,_⟩ b hb;cases i with
  | none=>simp [cA,PL.ah] at hb
  | some i=>simp [cA,PL.ah] at hb; rw [hb]; rfl
 ·intro i B hb;exact zh hb
 intro ⟨i,a,b⟩ hp;have hp:(i.list.length≤1099511627776∧∀ v∈i.list,v.sz 2048)∧a.sz 2048∧b.sz 2048:=hp;obtain ⟨⟨hlen,aW⟩,sa,sb⟩:=hp;cases i with
 | none =>
  conv=>whnf
  refine ⟨none,[],rfl,⟨Nat.zero_le _,fun v hv=>nomatch hv⟩,?_⟩
  rw [show bd.ah none=[] from rfl,show bd.val none=.int .i64 4 from rfl,show bd.new none=none from rfl]
  conv=>whnf
  refine ⟨_,rfl,?_⟩;conv=>whnf
  exact ⟨_,rfl,.refl _⟩
 | some i =>
  obtain ⟨L,c⟩:=i;have hlen:L.length≤1099511627776:=hlen;have aW:∀ v∈L,PV.sz 2048 v:=aW;obtain ⟨n,hn⟩:∃ n,n=L.length:=⟨_,rfl⟩;obtain ⟨g,hg⟩:∃ g,g=cW L:=⟨_,rfl⟩;obtain ⟨K,hK⟩:∃ K,K=gz cA (some (L,c),(a,b)):=⟨_,rfl⟩;have kY:∀ (e:Int) (H:ay),dp L a b=([],e)→K (.tuple ⟨[.slice none 0 0,.int .i64 e]⟩) H:=fun e H h=>by
   rw [hK];unfold gz;rw [show cA.new (some (L,c),(a,b))=none from by show b8 (dp L a b).1=none; rw [h]; rfl,show cA.val (some (L,c),(a,b))=.tuple ⟨[.slice none 0 0,.int .i64 e]⟩ from by show Value.tuple ⟨[dn _ (dp L a b).1.length,.int .i64 (dp L a b).2]⟩=_; rw [h]; rfl]
   exact ⟨_,rfl,.refl _⟩
  rw [show cA.ah (some (L,c),(a,b))=[.flat false n 6 g] from by rw [hn,hg]; rfl,show cA.args (some (L,c),(a,b))=[.slice (some ⟨0,0,none⟩) n c,a.v,b.v] from by rw [hn]; rfl,← hK]
  rw [← hn] at hlen;conv=>whnf
  refine ⟨some (L,c),[0],by rw [show bd.args (some (L,c))=[.slice (some ⟨0,0,none⟩) n c] from by rw [hn]; rfl]; rfl,⟨by show L.length≤_; omega,aW⟩,?_⟩
  rw [show bd.ah (some (L,c))=[.flat false n 6 g] from by rw [hn,hg]; rfl,show bd.val (some (L,c))=.int .i64 (bo L) from rfl,show bd.new (some (L,c))=none from rfl]
  conv=>whnf
  refine ⟨aH.aT (fun h=>h) (fun r hr=>by rw [hg]; rfl),?_⟩
  conv=>whnf
  refine ⟨_,rfl,?_⟩;obtain ⟨e,he⟩:∃ z,z=bo L:=⟨_,rfl⟩;rw [← he];conv=>whnf
  by_cases h1:e=0
  ·rw [show (e != 0)=false from by simp [h1]]
   conv=>whnf
   refine ⟨some ([a,b],2),[3],rfl,⟨by show 2≤1099511627776; decide,(fun v hv=>by rcases List.mem_cons.1 hv with rfl | hv; exact sa; rw [List.mem_singleton.1 hv]; exact sb)⟩,?_⟩
   rw [show dF.ah (some ([a,b],2))=[.flat false 2 6 (cW [a,b])] from rfl,show dF.val (some ([a,b],2))=.bool (!dB [a,b]) from rfl,show dF.new (some ([a,b],2))=none from rfl]
   conv=>whnf
   refine ⟨Hb [a,b],?_⟩;conv=>whnf
   refine ⟨_,rfl,?_⟩;obtain ⟨r,hr⟩:∃ z,z=dB [a,b]:=⟨_,rfl⟩;rw [← hr];conv=>whnf
   cases r with
   | true =>
    conv=>whnf
    exact kY 1 _ (Pw fun h=>QY hr h.2.1 h.2.2)
   | false =>
    conv=>whnf
    have hk:bo L=0∧a.canon∧b.canon:=⟨by rw [← he]; exact h1,P9 hr⟩
    have hz:=nQ hk.1;rw [th a b];by_cases J:a=b
    ·rw [decide_eq_true J];conv=>whnf
     exact kY 12 _ (Px hk J)
    rw [decide_eq_false J];conv=>whnf
    obtain ⟨Q,hQ⟩:∃ Q,Q=aR L:=⟨_,rfl⟩;have hnQ:n=Q.length:=by rw [hQ,c0,hn]
    have Km:g=bG Q:=by rw [hQ,Cu hk.1,hg]
    have Sn:∀ v∈Q,Q2.sz 2048 v:=by rw [hQ]; exact sK aW (by decide)
    have hf:=Cv (P:=Q) (a:=a.p) (b:=b.p) (by omega) Sn (PV.cL sa (by decide)) (PV.cL sb (by decide))
    obtain ⟨C,hC⟩:∃ C,C=cB (cU a.p b.p) Q:=⟨_,rfl⟩;obtain ⟨R,hR⟩:∃ R,R=fg C:=⟨_,rfl⟩;have hv:=OL hk J (by rw [← hQ]; exact hC) hR
    obtain ⟨m,hm⟩:∃ m,m=C.length:=⟨_,rfl⟩;obtain ⟨q,hq⟩:∃ m,m=R.length:=⟨_,rfl⟩;refine ⟨(some (Q,c),(a,b)),[0,4,5,6],by rw [show gi.args (some (Q,c),(a,b))=[.func (.func 114) #[] #[.pointer (some ⟨1,0,none⟩),.pointer (some ⟨2,0,none⟩),.pointer (some ⟨3,0,none⟩)]] from rfl]; rfl,⟨by show Q.length≤_; omega,Sn,sa,sb⟩,?_⟩
    rw [show gi.ah (some (Q,c),(a,b))=[.flat false n 6 g,.aP false 1 [[.slice (some ⟨0,0,none⟩) n c]],.aP false 6 [a.cells],.aP false 6 [b.cells]] from by rw [hnQ,Km]; rfl,show gi.val (some (Q,c),(a,b))=dn 4 m from by rw [hm,hC]; rfl,show gi.new (some (Q,c),(a,b))=b8 C from by rw [hC]; rfl]
    cases m with
    | zero =>
     obtain rfl:C=[]:=List.eq_nil_of_length_eq_zero hm.symm;conv=>whnf
     refine ⟨.inl (aH.aT (fun h=>by first | exact h | cases h) (fun r hr=>by rw [Km]; rfl)),?_⟩
     conv=>whnf
     refine ⟨.inr ⟨_,_,_,_,rfl,rfl,rfl⟩,?_⟩;conv=>whnf
     refine ⟨.inr ⟨_,_,_,_,rfl,rfl,rfl⟩,?_⟩;conv=>whnf
     refine ⟨.inr ⟨_,_,_,_,rfl,rfl,rfl⟩,?_⟩;conv=>whnf
     refine ⟨_,rfl,?_⟩;conv=>whnf
     refine ⟨none,[],rfl,⟨Nat.zero_le _,fun v hv=>nomatch hv⟩,?_⟩
     rw [show dC.ah none=[] from rfl,show dC.val none=.slice none 0 0 from rfl,show dC.new none=none from rfl]
     conv=>whnf
     refine ⟨_,rfl,?_⟩;conv=>whnf
     exact kY 11 _ (hv.trans (Hf (by rw [hR]; rfl)))
    | succ m =>
     rw [show b8 C=some (.flat true (m+1) 6 (bG C)) from by unfold b8; rw [← hm]]
     conv=>whnf
     refine ⟨.inl (aH.aT (fun h=>by first | exact h | cases h) (fun r hr=>by rw [Km]; rfl)),?_⟩
     conv=>whnf
     refine ⟨.inr ⟨_,_,_,_,rfl,rfl,rfl⟩,?_⟩;conv=>whnf
     refine ⟨.inr ⟨_,_,_,_,rfl,rfl,rfl⟩,?_⟩;conv=>whnf
     refine ⟨.inr ⟨_,_,_,_,rfl,rfl,rfl⟩,?_⟩;conv=>whnf
     refine ⟨_,rfl,?_⟩;conv=>whnf
     refine ⟨some (C,aI),[7],by rw [show dC.args (some (C,aI))=[.slice (some ⟨0,0,none⟩) (m+1) aI] from by rw [hm]; rfl]; rfl,⟨by rw [hC]; exact hf.1,fun v hv=>hf.2 v (by rw [← hC]; exact hv)⟩,?_⟩
     obtain ⟨G,hG⟩:∃ G,G=bG C:=⟨_,rfl⟩;rw [← hG,show dC.ah (some (C,aI))=[.flat false (m+1) 6 G] from by rw [hm,hG]; rfl,show dC.val (some (C,aI))=dn 1 q from by rw [hq,hR]; rfl,show dC.new (some (C,aI))=b8 R from by rw [hR]; rfl]
     cases q with
     | zero =>
      obtain rfl:R=[]:=List.eq_nil_of_length_eq_zero hq.symm;conv=>whnf
      refine ⟨aH.aT (fun h=>by cases h) (fun r hr=>by rw [hG]; rfl),?_⟩
      conv=>whnf
      refine ⟨_,rfl,?_⟩;conv=>whnf
      exact kY 11 _ (hv.trans (Hf rfl))
     | succ q =>
      obtain ⟨E,hE⟩:∃ G,G=bG R:=⟨_,rfl⟩;rw [show b8 R=some (.flat true (q+1) 6 E) from by unfold b8; rw [← hq,hE]]
      conv=>whnf
      refine ⟨aH.aT (fun h=>by cases h) (fun r hr=>by rw [hG]; rfl),?_⟩
      conv=>whnf
      refine ⟨_,rfl,?_⟩;conv=>whnf
      by_cases h6:64 < q+1
      ·rw [show decide (((q+1:Nat):Int) > 64)=true from decide_eq_true (by omega)]
       conv=>whnf
       exact kY 4 _ (hv.trans (OM (by omega)))
      ·rw [show decide (((q+1:Nat):Int) > 64)=false from decide_eq_false (by omega)]
       conv=>whnf
       rw [hK];unfold gz;rw [Df (by omega) (by omega)] at hv
       rw [show cA.new (some (L,c),(a,b))=some (.flat true (q+1) 6 E) from by show b8 (dp L a b).1=_; rw [hv,hE]; unfold b8; rw [← hq],show cA.val (some (L,c),(a,b))=.tuple ⟨[.slice (some ⟨1,0,none⟩) (q+1) aI,.int .i64 0]⟩ from by show Value.tuple ⟨[dn _ (dp L a b).1.length,.int .i64 (dp L a b).2]⟩=_; rw [hv,← hq]; rfl]
       refine ⟨8,?_⟩;conv=>whnf
       exact ⟨⟨rfl,aH.aT (fun h=>h) (fun r hr=>by rw [hE]; rfl)⟩,_,rfl,.refl _⟩
  ·rw [show (e != 0)=true from by simp [h1]]
   conv=>whnf
   exact kY 1 _ (Pw fun h=>h1 (by rw [he]; exact h.1))
open Go Go.Ae
def So:Env:=En [(23,.q bd),(58,.q dC),(59,.r gi)] [(60,b9 lh cF Tryz.f60),(57,b9 lh cF Tryz.f57),(64,b9 lh cF Tryz.f64)] [(118,uN)]
theorem aeh:EnvOk Tryz.prog So:=bF ⟨xm,O0,PF,trivial⟩ ⟨O1,Mn,xl,trivial⟩
theorem acU:gV Tryz.prog So:=wa ⟨wX,trivial⟩
theorem XP:di Tryz.prog 16 jr:=by
 refine dQ aeh aN Tryz.func16 (enters_of Tryz.func16 (by kernel_rfl) rfl) ?_ ?_ ?_ (hI:=acU)
 ·intro ⟨i,k⟩ B hb;cases i <;> cases k <;> simp [jr,PL.ah] at hb
  ·rw [hb]; rfl
  ·rw [hb]; rfl
  ·rcases hb with rfl | rfl <;> rfl
 ·intro i B hb;exact zh hb
 intro ⟨i,k⟩ hp;have hp:((i.list.length≤1099511627776∧∀ v∈i.list,v.sz 2048)∧k.list.length≤1099511627776∧∀ v∈k.list,v.sz 2048)∧D4 i.list k.list:=hp;obtain ⟨⟨⟨qX,pN⟩,vr,l6⟩,bc⟩:=hp;cases i with
 | none =>
  cases k with
  | none =>
   conv=>whnf
   refine ⟨none,[],rfl,⟨Nat.zero_le _,fun v hv=>nomatch hv⟩,?_⟩
   rw [show bd.ah none=[] from rfl,show bd.val none=.int .i64 4 from rfl,show bd.new none=none from rfl]
   conv=>whnf
   refine ⟨_,rfl,?_⟩;conv=>whnf
   exact ⟨_,rfl,.refl _⟩
  | some k =>
   conv=>whnf
   refine ⟨none,[],rfl,⟨Nat.zero_le _,fun v hv=>nomatch hv⟩,?_⟩
   rw [show bd.ah none=[] from rfl,show bd.val none=.int .i64 4 from rfl,show bd.new none=none from rfl]
   conv=>whnf
   refine ⟨_,rfl,?_⟩;conv=>whnf
   exact ⟨_,rfl,.refl _⟩
 | some i =>
  obtain ⟨A,c⟩:=i;have qX:A.length≤1099511627776:=qX;have pN:∀ v∈A,PV.sz 2048 v:=pN;obtain ⟨na,gC⟩:∃ n,n=A.length:=⟨_,rfl⟩;obtain ⟨ga,kF⟩:∃ g,g=cW A:=⟨_,rfl⟩;cases k with
  | none =>
   obtain ⟨K,hK⟩:∃ K,K=gz jr (some (A,c),none):=⟨_,rfl⟩;have fin:∀ H:ay,K (.tuple ⟨[.slice none 0 0,.int .i64 1]⟩) H:=fun H=>by
    have h:ia A []=([],1):=Ik fun e=>by have:=e.2; cases this
    rw [hK];unfold gz;rw [show jr.new (some (A,c),none)=none from by show b8 (ia A []).1=none; rw [h]; rfl,show jr.val (some (A,c),none)=.tuple ⟨[.slice none 0 0,.int .i64 1]⟩ from by show Value.tuple ⟨[dn _ (ia A []).1.length,.int .i64 (ia A []).2]⟩=_; rw [h]; rfl]
    exact ⟨_,rfl,.refl _⟩
   rw [show jr.ah (some (A,c),none)=[.flat false na 6 ga] from by rw [gC,kF]; rfl,show jr.args (some (A,c),none)=[.slice (some ⟨0,0,none⟩) na c,.slice none 0 0] from by rw [gC]; rfl,← hK]
   rw [← gC] at qX;conv=>whnf
   refine ⟨some (A,c),[0],by rw [show bd.args (some (A,c))=[.slice (some ⟨0,0,none⟩) na c] from by rw [gC]; rfl]; rfl,⟨by show A.length≤_; omega,pN⟩,?_⟩
   rw [show bd.ah (some (A,c))=[.flat false na 6 ga] from by rw [gC,kF]; rfl,show bd.val (some (A,c))=.int .i64 (bo A) from rfl,show bd.new (some (A,c))=none from rfl]
   conv=>whnf
   refine ⟨aH.aT (fun h=>h) (fun r hr=>by rw [kF]; rfl),?_⟩
   conv=>whnf
   refine ⟨_,rfl,?_⟩;obtain ⟨e,he⟩:∃ z,z=bo A:=⟨_,rfl⟩;rw [← he];conv=>whnf
   by_cases h1:e=0
   ·rw [show (e != 0)=false from by simp [h1]]
    conv=>whnf
    refine ⟨none,[],rfl,⟨Nat.zero_le _,fun v hv=>nomatch hv⟩,?_⟩
    rw [show bd.ah none=[] from rfl,show bd.val none=.int .i64 4 from rfl,show bd.new none=none from rfl]
    conv=>whnf
    refine ⟨_,rfl,?_⟩;conv=>whnf
    exact fin _
   ·rw [show (e != 0)=true from by simp [h1]]
    conv=>whnf
    exact fin _
  | some k =>
   obtain ⟨B,d⟩:=k;have vr:B.length≤1099511627776:=vr;have l6:∀ v∈B,PV.sz 2048 v:=l6;have bc:D4 A B:=bc;obtain ⟨nb,gB⟩:∃ n,n=B.length:=⟨_,rfl⟩;obtain ⟨gb,nN⟩:∃ g,g=cW B:=⟨_,rfl⟩;obtain ⟨K,hK⟩:∃ K,K=gz jr (some (A,c),some (B,d)):=⟨_,rfl⟩;have kY:∀ (e:Int) (H:ay),ia A B=([],e)→K (.tuple ⟨[.slice none 0 0,.int .i64 e]⟩) H:=fun e H h=>by
    rw [hK];unfold gz;rw [show jr.new (some (A,c),some (B,d))=none from by show b8 (ia A B).1=none; rw [h]; rfl,show jr.val (some (A,c),some (B,d))=.tuple ⟨[.slice none 0 0,.int .i64 e]⟩ from by show Value.tuple ⟨[dn _ (ia A B).1.length,.int .i64 (ia A B).2]⟩=_; rw [h]; rfl]
    exact ⟨_,rfl,.refl _⟩
   rw [show jr.ah (some (A,c),some (B,d))=[.flat false na 6 ga,.flat false nb 6 gb] from by rw [gC,kF,gB,nN]; rfl,show jr.args (some (A,c),some (B,d))=[.slice (some ⟨0,0,none⟩) na c,.slice (some ⟨1,0,none⟩) nb d] from by rw [gC,gB]; rfl,← hK]
   rw [← gC] at qX;rw [← gB] at vr;conv=>whnf
   refine ⟨some (A,c),[0],by rw [show bd.args (some (A,c))=[.slice (some ⟨0,0,none⟩) na c] from by rw [gC]; rfl]; rfl,⟨by show A.length≤_; omega,pN⟩,?_⟩
   rw [show bd.ah (some (A,c))=[.flat false na 6 ga] from by rw [gC,kF]; rfl,show bd.val (some (A,c))=.int .i64 (bo A) from rfl,show bd.new (some (A,c))=none from rfl]
   conv=>whnf
   refine ⟨aH.aT (fun h=>h) (fun r hr=>by rw [kF]; rfl),?_⟩
   conv=>whnf
   refine ⟨_,rfl,?_⟩;obtain ⟨e,he⟩:∃ z,z=bo A:=⟨_,rfl⟩;rw [← he];conv=>whnf
   by_cases h1:e=0
   ·rw [show (e != 0)=false from by simp [h1]]
    conv=>whnf
    refine ⟨some (B,d),[1],by rw [show bd.args (some (B,d))=[.slice (some ⟨0,0,none⟩) nb d] from by rw [gB]; rfl]; rfl,⟨by show B.length≤_; omega,l6⟩,?_⟩
    rw [show bd.ah (some (B,d))=[.flat false nb 6 gb] from by rw [gB,nN]; rfl,show bd.val (some (B,d))=.int .i64 (bo B) from rfl,show bd.new (some (B,d))=none from rfl]
    conv=>whnf
    refine ⟨aH.aT (fun h=>h) (fun r hr=>by rw [nN]; rfl),?_⟩
    conv=>whnf
    refine ⟨_,rfl,?_⟩;obtain ⟨e2,cg⟩:∃ z,z=bo B:=⟨_,rfl⟩;rw [← cg];conv=>whnf
    by_cases J:e2=0
    ·rw [show (e2 != 0)=false from by simp [J]]
     have Bh:bo A=0:=by rw [← he]; exact h1
     have EW:bo B=0:=by rw [← cg]; exact J
     have bc:=bc Bh EW;have hzA:=nQ Bh;have hzB:=nQ EW;have Kn:ga=bG (aR A):=by rw [Cu Bh,kF]
     have hnA:na=(aR A).length:=by rw [c0,gC]
     conv=>whnf
     intro yl nu fn tm df;conv=>whnf
     refine .inl ⟨fun mm tz hz=>∃ (j:Nat) (p:Nat) (F:Nat→List Value),bw (some (.func (.yield yl) #[] #[])::some (.pointer (some ⟨3,0,none⟩))::aF 3 (some (.slice (some ⟨1,0,none⟩) nb d)::some (.int .i64 nb)::some (.int .i64 j)::aF 17 [])) tz∧hz=[some (.flat false na 6 ga),some (.flat false nb 6 gb),some (.aP true 1 [[afk (.slice (some ⟨0,0,none⟩) na c) p j]]),some (.aP true 1 [[.slice (some ⟨1,0,none⟩) nb d]]),some (.b6 (re Tryz.f16 fn tm df))]++afl F p j∧nb - j=mm∧((j≤nb∧(0 < j→p=(jq (aR A) (aR B) j).length))∧(0 < j→∀ r,r < p→F r=bG (jq (aR A) (aR B) j) r)),.inr ⟨[0,1,2,3,4],[0,1,5,6,7],?_⟩,?_⟩
     ·conv=>whnf
      intro _;conv=>whnf
      refine ⟨_,0,0,fun _=>[],(.aa (.aa (.sk 3 (.aa (.aa (.aa (.sk 17 .nil rfl)))) rfl))),rfl,rfl,?_⟩
      exact ⟨⟨Nat.zero_le _,fun h=>absurd h (Nat.lt_irrefl 0)⟩,fun h=>absurd h (Nat.lt_irrefl 0)⟩
     rintro mm aV _ ⟨j,p,F,aA,rfl,rfl,⟨⟨hj,v7⟩,hF⟩⟩
     obtain ⟨az,rfl⟩:∃ az:Nat→Value,aV=.func (.yield yl) #[] #[]::.pointer (some ⟨3,0,none⟩)::zs az 2 3 (.slice (some ⟨1,0,none⟩) nb d::.int .i64 nb::.int .i64 j::zs az 8 17 []):=bI aA;clear aA;cases j with
     | zero =>
      conv=>whnf
      refine aM (fun h3=>?_) (fun h3=>?_)
      ·have h3:0 < nb:=by
        have:=of_decide_eq_true h3;omega
       have e7:IntKind.i64.wrap (((0:Nat):Int)+1)=((0+1:Nat):Int):=by rw [ax (by omega) (by omega)]; rfl
       obtain ⟨a,b,ra,rb,⟨ma,mb⟩,gr,ck,_,_⟩:=si gB h3;have sa:=l6 a ma;have sb:=l6 b mb;have cK:=kR h3 (by omega)
       obtain ⟨u,hu⟩:∃ u,u=aX nb (0):=⟨_,rfl⟩;rw [← hu] at cK ck rb;rw [← nN] at ra rb;obtain ⟨wq,wu⟩:=bc (0) (by rw [c0]; omega)
       have hf:=Cv (a:=a.p) (b:=b.p) wq wu (PV.cL sa (by decide)) (PV.cL sb (by decide))
       obtain ⟨C,hC⟩:∃ C,C=cB (cU a.p b.p) (jq (aR A) (aR B) (0)):=⟨_,rfl⟩;obtain ⟨R,hR⟩:∃ R,R=fg C:=⟨_,rfl⟩;have n6:=FI gr hC hR;obtain ⟨m,hm⟩:∃ m,m=C.length:=⟨_,rfl⟩;obtain ⟨q,hq⟩:∃ m,m=R.length:=⟨_,rfl⟩;conv=>whnf
       refine ⟨⟨by omega,by omega⟩,?_⟩
       simp only [toNat_cast,aw,Nat.zero_add];conv=>whnf
       refine ⟨by show 0 < nb; omega,?_⟩
       conv=>whnf
       rw [ra];conv=>whnf
       refine .inl ⟨10,[[],[],[],[],[3],[],[5],[3,4,5,6],[2,3,4,5,6,7],[2,3,4,5,6,7,8],[0,1,2,3,4,5,6,7,8,9],[0,1,2,3,4,5,6,7,8,9,10]],by kernel_rfl,?_⟩
       conv=>whnf
       rw [show decide ((nb:Int)≠0)=true from decide_eq_true (by omega)]
       conv=>whnf
       rw [cK];refine ⟨⟨by omega,by omega⟩,?_⟩
       simp only [toNat_cast,aw,Nat.zero_add];conv=>whnf
       refine ⟨by show u < nb; omega,?_⟩
       conv=>whnf
       rw [rb];conv=>whnf
       refine ⟨rfl,?_⟩;conv=>whnf
       refine ⟨rfl,?_⟩;conv=>whnf
       refine ⟨rfl,?_⟩;conv=>whnf
       refine ⟨(some (aR A,c),(a,b)),[0,18,19,20],rfl,⟨wq,wu,sa,sb⟩,?_⟩;rw [show gi.ah (some (aR A,c),(a,b))=[.flat false na 6 ga,.aP false 1 [[.slice (some ⟨0,0,none⟩) na c]],.aP false 6 [a.cells],.aP false 6 [b.cells]] from by rw [hnA,Kn]; rfl,show gi.val (some (aR A,c),(a,b))=dn 4 m from by rw [hm,hC]; rfl]
       rw [show gi.new (some (aR A,c),(a,b))=b8 C from by rw [hC]; rfl]
       cases m with
       | zero =>
        obtain rfl:C=[]:=List.eq_nil_of_length_eq_zero hm.symm;conv=>whnf
        refine ⟨.inl (aH.aT (fun h=>h) (fun r hr=>by rw [Kn]; rfl)),?_⟩
        conv=>whnf
        refine ⟨.inr ⟨_,_,_,_,rfl,rfl,rfl⟩,?_⟩;conv=>whnf
        refine ⟨.inr ⟨_,_,_,_,rfl,rfl,rfl⟩,?_⟩;conv=>whnf
        refine ⟨.inr ⟨_,_,_,_,rfl,rfl,rfl⟩,?_⟩;conv=>whnf
        refine ⟨_,rfl,?_⟩;conv=>whnf
        refine ⟨none,[],rfl,⟨Nat.zero_le _,fun v hv=>nomatch hv⟩,?_⟩
        rw [show dC.ah none=[] from rfl,show dC.val none=.slice none 0 0 from rfl,show dC.new none=none from rfl]
        conv=>whnf
        refine ⟨_,rfl,?_⟩;conv=>whnf
        rw [show fg []=[] from rfl] at hR
        subst hR;refine ⟨rfl,?_⟩;conv=>whnf
        rw [e7];refine .inr ⟨[0,1,2,3,4],[0,1,5,6,7],?_⟩;conv=>whnf
        intro _;conv=>whnf
        refine ⟨_,?_,0+1,0,fun _=>[],(.aa (.aa (.sk 3 (.aa (.aa (.aa (.sk 17 .nil rfl)))) rfl))),rfl,rfl,?_⟩
        ·omega
        ·exact ⟨⟨by omega,fun _=>congrArg List.length n6⟩,fun _ r hr=>absurd hr (Nat.not_lt_zero r)⟩
       | succ m =>
        rw [show b8 C=some (.flat true (m+1) 6 (bG C)) from by unfold b8; rw [← hm]]
        conv=>whnf
        refine ⟨.inl (aH.aT (fun h=>h) (fun r hr=>by rw [Kn]; rfl)),?_⟩
        conv=>whnf
        refine ⟨.inr ⟨_,_,_,_,rfl,rfl,rfl⟩,?_⟩;conv=>whnf
        refine ⟨.inr ⟨_,_,_,_,rfl,rfl,rfl⟩,?_⟩;conv=>whnf
        refine ⟨.inr ⟨_,_,_,_,rfl,rfl,rfl⟩,?_⟩;conv=>whnf
        refine ⟨_,rfl,?_⟩;conv=>whnf
        refine ⟨some (C,aI),[21],by rw [show dC.args (some (C,aI))=[.slice (some ⟨0,0,none⟩) (m+1) aI] from by rw [hm]; rfl]; rfl,⟨by rw [hC]; exact hf.1,fun v hv=>hf.2 v (by rw [← hC]; exact hv)⟩,?_⟩
        obtain ⟨G,hG⟩:∃ G,G=bG C:=⟨_,rfl⟩;rw [← hG,show dC.ah (some (C,aI))=[.flat false (m+1) 6 G] from by rw [hm,hG]; rfl,show dC.val (some (C,aI))=dn 1 q from by rw [hq,hR]; rfl,show dC.new (some (C,aI))=b8 R from by rw [hR]; rfl]
        cases q with
        | zero =>
         obtain rfl:R=[]:=List.eq_nil_of_length_eq_zero hq.symm;conv=>whnf
         refine ⟨aH.aT (fun h=>by cases h) (fun r hr=>by rw [hG]; rfl),?_⟩
         conv=>whnf
         refine ⟨_,rfl,?_⟩;conv=>whnf
         refine ⟨rfl,?_⟩;conv=>whnf
         rw [e7];refine .inr ⟨[0,1,2,3,4],[0,1,5,6,7],?_⟩;conv=>whnf
         intro _;conv=>whnf
         refine ⟨_,?_,0+1,0,fun _=>[],(.aa (.aa (.sk 3 (.aa (.aa (.aa (.sk 17 .nil rfl)))) rfl))),rfl,rfl,?_⟩
         ·omega
         ·exact ⟨⟨by omega,fun _=>congrArg List.length n6⟩,fun _ r hr=>absurd hr (Nat.not_lt_zero r)⟩
        | succ q =>
         obtain ⟨E,hE⟩:∃ G,G=bG R:=⟨_,rfl⟩;rw [show b8 R=some (.flat true (q+1) 6 E) from by unfold b8; rw [← hq,hE]]
         conv=>whnf
         refine ⟨aH.aT (fun h=>by cases h) (fun r hr=>by rw [hG]; rfl),?_⟩
         conv=>whnf
         refine ⟨_,rfl,?_⟩;conv=>whnf
         refine ⟨rfl,?_⟩;conv=>whnf
         rw [e7];refine .inr ⟨[0,1,2,3,4,22],[0,1,5,6,7],?_⟩;conv=>whnf
         intro _;conv=>whnf
         refine ⟨_,?_,0+1,q+1,E,(.aa (.aa (.sk 3 (.aa (.aa (.aa (.sk 17 .nil rfl)))) rfl))),rfl,rfl,?_⟩
         ·omega
         ·exact ⟨⟨by omega,fun _=>hq.trans (congrArg List.length n6)⟩,fun _ r hr=>by rw [hE,n6]⟩
      ·have:=of_decide_eq_false h3;omega
     | succ j =>
      have nI:=v7 (Nat.succ_pos j);have EX:=hF (Nat.succ_pos j);obtain ⟨S,hS⟩:∃ S,S=jq (aR A) (aR B) (j+1):=⟨_,rfl⟩;rw [← hS] at nI EX;cases p with
      | zero =>
       obtain rfl:S=[]:=List.eq_nil_of_length_eq_zero nI.symm;conv=>whnf
       refine aM (fun h3=>?_) (fun h3=>?_)
       ·have h3:(j+1) < nb:=by
         have:=of_decide_eq_true h3;omega
        have e7:IntKind.i64.wrap ((((j+1):Nat):Int)+1)=(((j+1)+1:Nat):Int):=by rw [ax (by omega) (by omega)]; rfl
        obtain ⟨a,b,ra,rb,⟨ma,mb⟩,gr,ck,_,_⟩:=si gB h3;have sa:=l6 a ma;have sb:=l6 b mb;have cK:=kR h3 (by omega)
        obtain ⟨u,hu⟩:∃ u,u=aX nb ((j+1)):=⟨_,rfl⟩;rw [← hu] at cK ck rb;rw [← nN] at ra rb;obtain ⟨wq,wu⟩:=bc ((j+1)) (by rw [c0]; omega)
        have hf:=Cv (a:=a.p) (b:=b.p) wq wu (PV.cL sa (by decide)) (PV.cL sb (by decide))
        obtain ⟨C,hC⟩:∃ C,C=cB (cU a.p b.p) (jq (aR A) (aR B) ((j+1))):=⟨_,rfl⟩;obtain ⟨R,hR⟩:∃ R,R=fg C:=⟨_,rfl⟩;have n6:=FI gr hC hR;obtain ⟨m,hm⟩:∃ m,m=C.length:=⟨_,rfl⟩;obtain ⟨q,hq⟩:∃ m,m=R.length:=⟨_,rfl⟩;conv=>whnf
        refine ⟨⟨by omega,by omega⟩,?_⟩
        simp only [toNat_cast,aw,Nat.zero_add];conv=>whnf
        refine ⟨by show (j+1) < nb; omega,?_⟩
        conv=>whnf
        rw [ra];conv=>whnf
        refine .inl ⟨10,[[],[],[],[],[3],[],[5],[3,4,5,6],[2,3,4,5,6,7],[2,3,4,5,6,7,8],[0,1,2,3,4,5,6,7,8,9],[0,1,2,3,4,5,6,7,8,9,10]],by kernel_rfl,?_⟩
        conv=>whnf
        rw [show decide ((nb:Int)≠0)=true from decide_eq_true (by omega)]
        conv=>whnf
        rw [cK];refine ⟨⟨by omega,by omega⟩,?_⟩
        simp only [toNat_cast,aw,Nat.zero_add];conv=>whnf
        refine ⟨by show u < nb; omega,?_⟩
        conv=>whnf
        rw [rb];conv=>whnf
        refine ⟨rfl,?_⟩;conv=>whnf
        refine ⟨rfl,?_⟩;conv=>whnf
        refine ⟨rfl,?_⟩;conv=>whnf
        refine ⟨(none,(a,b)),[18,19,20],rfl,⟨Nat.zero_le _,(fun v hv=>nomatch hv),sa,sb⟩,?_⟩
        rw [show gi.ah (none,(a,b))=[.aP false 1 [[.slice none 0 0]],.aP false 6 [a.cells],.aP false 6 [b.cells]] from rfl,show gi.val (none,(a,b))=.slice none 0 0 from rfl,show gi.new (none,(a,b))=none from rfl]
        conv=>whnf
        refine ⟨.inr ⟨_,_,_,_,rfl,rfl,rfl⟩,?_⟩;conv=>whnf
        refine ⟨.inr ⟨_,_,_,_,rfl,rfl,rfl⟩,?_⟩;conv=>whnf
        refine ⟨.inr ⟨_,_,_,_,rfl,rfl,rfl⟩,?_⟩;conv=>whnf
        refine ⟨_,rfl,?_⟩;conv=>whnf
        refine ⟨none,[],rfl,⟨Nat.zero_le _,fun v hv=>nomatch hv⟩,?_⟩
        rw [show dC.ah none=[] from rfl,show dC.val none=.slice none 0 0 from rfl,show dC.new none=none from rfl]
        conv=>whnf
        refine ⟨_,rfl,?_⟩;conv=>whnf
        obtain rfl:C=[]:=by rw [hC,← hS]; rfl
        rw [show fg []=[] from rfl] at hR
        subst hR;refine ⟨rfl,?_⟩;conv=>whnf
        rw [e7];refine .inr ⟨[0,1,2,3,4],[0,1,5,6,7],?_⟩;conv=>whnf
        intro _;conv=>whnf
        refine ⟨_,?_,(j+1)+1,0,fun _=>[],(.aa (.aa (.sk 3 (.aa (.aa (.aa (.sk 17 .nil rfl)))) rfl))),rfl,rfl,?_⟩
        ·omega
        ·exact ⟨⟨by omega,fun _=>congrArg List.length n6⟩,fun _ r hr=>absurd hr (Nat.not_lt_zero r)⟩
       ·have h3:j+1=nb:=by
         have:=of_decide_eq_false h3;omega
        conv=>whnf
        exact kY 11 _ ((Py ⟨Bh,EW⟩ (R:=[]) (by rw [← gB,← h3]; exact hS)).trans (Hf rfl))
      | succ p =>
       conv=>whnf
       refine aM (fun h3=>?_) (fun h3=>?_)
       ·have h3:(j+1) < nb:=by
         have:=of_decide_eq_true h3;omega
        have e7:IntKind.i64.wrap ((((j+1):Nat):Int)+1)=(((j+1)+1:Nat):Int):=by rw [ax (by omega) (by omega)]; rfl
        obtain ⟨a,b,ra,rb,⟨ma,mb⟩,gr,ck,_,_⟩:=si gB h3;have sa:=l6 a ma;have sb:=l6 b mb;have cK:=kR h3 (by omega)
        obtain ⟨u,hu⟩:∃ u,u=aX nb ((j+1)):=⟨_,rfl⟩;rw [← hu] at cK ck rb;rw [← nN] at ra rb;obtain ⟨wq,wu⟩:=bc ((j+1)) (by rw [c0]; omega)
        have hf:=Cv (a:=a.p) (b:=b.p) wq wu (PV.cL sa (by decide)) (PV.cL sb (by decide))
        obtain ⟨C,hC⟩:∃ C,C=cB (cU a.p b.p) (jq (aR A) (aR B) ((j+1))):=⟨_,rfl⟩;obtain ⟨R,hR⟩:∃ R,R=fg C:=⟨_,rfl⟩;have n6:=FI gr hC hR;obtain ⟨m,hm⟩:∃ m,m=C.length:=⟨_,rfl⟩;obtain ⟨q,hq⟩:∃ m,m=R.length:=⟨_,rfl⟩;conv=>whnf
        refine ⟨⟨by omega,by omega⟩,?_⟩
        simp only [toNat_cast,aw,Nat.zero_add];conv=>whnf
        refine ⟨by show (j+1) < nb; omega,?_⟩
        conv=>whnf
        rw [ra];conv=>whnf
        refine .inl ⟨10,[[],[],[],[],[3],[],[5],[3,4,5,6],[2,3,4,5,6,7],[2,3,4,5,6,7,8],[0,1,2,3,4,5,6,7,8,9],[0,1,2,3,4,5,6,7,8,9,10]],by kernel_rfl,?_⟩
        conv=>whnf
        rw [show decide ((nb:Int)≠0)=true from decide_eq_true (by omega)]
        conv=>whnf
        rw [cK];refine ⟨⟨by omega,by omega⟩,?_⟩
        simp only [toNat_cast,aw,Nat.zero_add];conv=>whnf
        refine ⟨by show u < nb; omega,?_⟩
        conv=>whnf
        rw [rb];conv=>whnf
        refine ⟨rfl,?_⟩;conv=>whnf
        refine ⟨rfl,?_⟩;conv=>whnf
        refine ⟨rfl,?_⟩;conv=>whnf
        refine ⟨(some (S,aI),(a,b)),[5,19,20,21],by rw [show gi.args (some (S,aI),(a,b))=[.func (.func 114) #[] #[.pointer (some ⟨1,0,none⟩),.pointer (some ⟨2,0,none⟩),.pointer (some ⟨3,0,none⟩)]] from rfl]; rfl,⟨by rw [hS]; exact wq,by rw [hS]; exact wu,sa,sb⟩,?_⟩
        rw [show gi.ah (some (S,aI),(a,b))=[.flat false (p+1) 6 (bG S),.aP false 1 [[.slice (some ⟨0,0,none⟩) (p+1) aI]],.aP false 6 [a.cells],.aP false 6 [b.cells]] from by rw [nI]; rfl,show gi.val (some (S,aI),(a,b))=dn 4 m from by rw [hm,hC,← hS]; rfl]
        rw [show gi.new (some (S,aI),(a,b))=b8 C from by rw [hC,← hS]; rfl]
        cases m with
        | zero =>
         obtain rfl:C=[]:=List.eq_nil_of_length_eq_zero hm.symm;conv=>whnf
         refine ⟨.inl (aH.sf (fun h=>by cases h) EX (fun r hr=>rfl)),?_⟩
         conv=>whnf
         refine ⟨.inr ⟨_,_,_,_,rfl,rfl,rfl⟩,?_⟩;conv=>whnf
         refine ⟨.inr ⟨_,_,_,_,rfl,rfl,rfl⟩,?_⟩;conv=>whnf
         refine ⟨.inr ⟨_,_,_,_,rfl,rfl,rfl⟩,?_⟩;conv=>whnf
         refine ⟨_,rfl,?_⟩;conv=>whnf
         refine ⟨none,[],rfl,⟨Nat.zero_le _,fun v hv=>nomatch hv⟩,?_⟩
         rw [show dC.ah none=[] from rfl,show dC.val none=.slice none 0 0 from rfl,show dC.new none=none from rfl]
         conv=>whnf
         refine ⟨_,rfl,?_⟩;conv=>whnf
         rw [show fg []=[] from rfl] at hR
         subst hR;refine ⟨rfl,?_⟩;conv=>whnf
         rw [e7];refine .inr ⟨[0,1,2,3,4],[0,1,5,6,7],?_⟩;conv=>whnf
         intro _;conv=>whnf
         refine ⟨_,?_,(j+1)+1,0,fun _=>[],(.aa (.aa (.sk 3 (.aa (.aa (.aa (.sk 17 .nil rfl)))) rfl))),rfl,rfl,?_⟩
         ·omega
         ·exact ⟨⟨by omega,fun _=>congrArg List.length n6⟩,fun _ r hr=>absurd hr (Nat.not_lt_zero r)⟩
        | succ m =>
         rw [show b8 C=some (.flat true (m+1) 6 (bG C)) from by unfold b8; rw [← hm]]
         conv=>whnf
         refine ⟨.inl (aH.sf (fun h=>by cases h) EX (fun r hr=>rfl)),?_⟩
         conv=>whnf
         refine ⟨.inr ⟨_,_,_,_,rfl,rfl,rfl⟩,?_⟩;conv=>whnf
         refine ⟨.inr ⟨_,_,_,_,rfl,rfl,rfl⟩,?_⟩;conv=>whnf
         refine ⟨.inr ⟨_,_,_,_,rfl,rfl,rfl⟩,?_⟩;conv=>whnf
         refine ⟨_,rfl,?_⟩;conv=>whnf
         refine ⟨some (C,aI),[22],by rw [show dC.args (some (C,aI))=[.slice (some ⟨0,0,none⟩) (m+1) aI] from by rw [hm]; rfl]; rfl,⟨by rw [hC]; exact hf.1,fun v hv=>hf.2 v (by rw [← hC]; exact hv)⟩,?_⟩
         obtain ⟨G,hG⟩:∃ G,G=bG C:=⟨_,rfl⟩;rw [← hG,show dC.ah (some (C,aI))=[.flat false (m+1) 6 G] from by rw [hm,hG]; rfl,show dC.val (some (C,aI))=dn 1 q from by rw [hq,hR]; rfl,show dC.new (some (C,aI))=b8 R from by rw [hR]; rfl]
         cases q with
         | zero =>
          obtain rfl:R=[]:=List.eq_nil_of_length_eq_zero hq.symm;conv=>whnf
          refine ⟨aH.aT (fun h=>by cases h) (fun r hr=>by rw [hG]; rfl),?_⟩
          conv=>whnf
          refine ⟨_,rfl,?_⟩;conv=>whnf
          refine ⟨rfl,?_⟩;conv=>whnf
          rw [e7];refine .inr ⟨[0,1,2,3,4],[0,1,5,6,7],?_⟩;conv=>whnf
          intro _;conv=>whnf
          refine ⟨_,?_,(j+1)+1,0,fun _=>[],(.aa (.aa (.sk 3 (.aa (.aa (.aa (.sk 17 .nil rfl)))) rfl))),rfl,rfl,?_⟩
          ·omega
          ·exact ⟨⟨by omega,fun _=>congrArg List.length n6⟩,fun _ r hr=>absurd hr (Nat.not_lt_zero r)⟩
         | succ q =>
          obtain ⟨E,hE⟩:∃ G,G=bG R:=⟨_,rfl⟩;rw [show b8 R=some (.flat true (q+1) 6 E) from by unfold b8; rw [← hq,hE]]
          conv=>whnf
          refine ⟨aH.aT (fun h=>by cases h) (fun r hr=>by rw [hG]; rfl),?_⟩
          conv=>whnf
          refine ⟨_,rfl,?_⟩;conv=>whnf
          refine ⟨rfl,?_⟩;conv=>whnf
          rw [e7];refine .inr ⟨[0,1,2,3,4,23],[0,1,5,6,7],?_⟩;conv=>whnf
          intro _;conv=>whnf
          refine ⟨_,?_,(j+1)+1,q+1,E,(.aa (.aa (.sk 3 (.aa (.aa (.aa (.sk 17 .nil rfl)))) rfl))),rfl,rfl,?_⟩
          ·omega
          ·exact ⟨⟨by omega,fun _=>hq.trans (congrArg List.length n6)⟩,fun _ r hr=>by rw [hE,n6]⟩
       ·have h3:j+1=nb:=by
         have:=of_decide_eq_false h3;omega
        have hv:=Py ⟨Bh,EW⟩ (R:=S) (by rw [← gB,← h3]; exact hS)
        conv=>whnf
        by_cases h6:64 < p+1
        ·rw [show decide (((p+1:Nat):Int) > 64)=true from decide_eq_true (by omega)]
         conv=>whnf
         exact kY 4 _ (hv.trans (OM (by omega)))
        ·rw [show decide (((p+1:Nat):Int) > 64)=false from decide_eq_false (by omega)]
         conv=>whnf
         rw [hK];unfold gz;rw [Df (by omega) (by omega)] at hv
         rw [show jr.new (some (A,c),some (B,d))=some (.flat true (p+1) 6 (bG S)) from by show b8 (ia A B).1=_; rw [hv]; unfold b8; rw [← nI],show jr.val (some (A,c),some (B,d))=.tuple ⟨[.slice (some ⟨2,0,none⟩) (p+1) aI,.int .i64 0]⟩ from by show Value.tuple ⟨[dn _ (ia A B).1.length,.int .i64 (ia A B).2]⟩=_; rw [hv,← nI]; rfl]
         refine ⟨5,?_⟩;conv=>whnf
         exact ⟨⟨rfl,aH.sf (fun h=>h) EX (fun r hr=>rfl)⟩,_,rfl,.refl _⟩
    ·rw [show (e2 != 0)=true from by simp [J]]
     conv=>whnf
     exact kY 1 _ (Ik fun h=>J (by rw [cg]; exact h.2))
   ·rw [show (e != 0)=true from by simp [h1]]
    conv=>whnf
    exact kY 1 _ (Ik fun h=>h1 (by rw [he]; exact h.1))
end Go.Proofs.YtlapbjdhekcipaaGreat
