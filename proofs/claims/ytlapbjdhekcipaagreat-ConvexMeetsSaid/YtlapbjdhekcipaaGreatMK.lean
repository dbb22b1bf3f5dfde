import Derived.Test.YtlapbjdhekcipaaGreatMJ
set_option linter.unusedVariables false
set_option linter.unusedSimpArgs false
set_option maxRecDepth 20000
set_option maxHeartbeats 4000000
namespace Go.Proofs.YtlapbjdhekcipaaGreat
open Go Go.Ae
def Eu5:Env:=En [(144,.q jS)]
theorem ac5:EnvOk Tryz.prog Eu5:=bH ⟨UZ,trivial⟩ trivial
theorem RX:dk Tryz.prog 100 nz:=by
 refine eI ac5 aP Tryz.func100 (enters_of Tryz.func100 (by kernel_rfl) rfl) ?_ ?_ ?_
 ·intro i b hb; simp [nz,xH] at hb; rcases hb with rfl | rfl <;> rfl
 ·intro i b hb; simp [nz,xH] at hb
 intro ⟨⟨⟨A,c⟩,⟨B,d⟩⟩,f,s⟩ hp;have hp:((f,s)=(101,true)∨(f,s)=(103,false)∨(f,s)=(105,true))∧(A.length≤1073741824∧∀ v∈A,Q2.sz 2048 v)∧B.length≤1073741824∧∀ v∈B,Q2.sz 2048 v:=hp;obtain ⟨vv,Ri,dF⟩:=hp;obtain ⟨n,hn⟩:∃ n,n=A.length:=⟨_,rfl⟩;obtain ⟨g,hg⟩:∃ g,g=bP A:=⟨_,rfl⟩;obtain ⟨m,hm⟩:∃ n,n=B.length:=⟨_,rfl⟩;obtain ⟨k,hk⟩:∃ g,g=bP B:=⟨_,rfl⟩;have fin:∀ (x:XV) (z:Bool),gC (kc s A B)=(x,z)→∃ v',cR (List.range 2) 3 (nz.val (((A,c),(B,d)),(f,s)))=some v'∧fe (.tuple ⟨[x.v,.bool z]⟩) v':=fun x z h=>⟨_,by rw [show nz.val (((A,c),(B,d)),(f,s))=.tuple ⟨[x.v,.bool z]⟩ from by show Value.tuple ⟨[(gC (kc s A B)).1.v,.bool (gC (kc s A B)).2]⟩=_; rw [h]]; rfl,.refl _⟩
 rw [show nz.ae (((A,c),(B,d)),(f,s))=[.flat false n 6 g,.flat false m 6 k] from by rw [hn,hg,hm,hk]; rfl,show nz.args (((A,c),(B,d)),(f,s))=[.slice (some ⟨0,0,none⟩) n c,.slice (some ⟨1,0,none⟩) m d,.func (.func f) #[] #[]] from by rw [hn,hm]; rfl]
 conv=>whnf
 obtain ⟨⟨x,z⟩,hx⟩:∃ x,gC (ie s A B)=x:=⟨_,rfl⟩;refine ⟨(((A,c),(B,d)),(f,s)),[0,1],by rw [show jS.args (((A,c),(B,d)),(f,s))=[.slice (some ⟨0,0,none⟩) n c,.slice (some ⟨1,0,none⟩) m d,.func (.func f) #[] #[]] from by rw [hn,hm]; rfl]; rfl,⟨vv,Ri,dF⟩,?_⟩
 rw [show jS.ae (((A,c),(B,d)),(f,s))=[.flat false n 6 g,.flat false m 6 k] from by rw [hn,hm,hg,hk]; rfl,show jS.val (((A,c),(B,d)),(f,s))=.tuple ⟨[x.v,.bool z]⟩ from by show Value.tuple ⟨[(gC (ie s A B)).1.v,.bool (gC (ie s A B)).2]⟩=_; rw [hx],show jS.new (((A,c),(B,d)),(f,s))=none from rfl]
 conv=>whnf
 refine ⟨ar.aE (fun h=>h) (fun r hr=>by rw [hg]; rfl),ar.aE (fun h=>h) (fun r hr=>by rw [hk]; rfl),?_⟩
 conv=>whnf
 refine ⟨_,rfl,?_⟩;conv=>whnf
 cases z with
 | true =>
  conv=>whnf
  exact fin x true (Xm hx)
 | false =>
  conv=>whnf
  obtain ⟨⟨y,w⟩,hy⟩:∃ x,gC (ie s B A)=x:=⟨_,rfl⟩;refine ⟨(((B,d),(A,c)),(f,s)),[1,0],by rw [show jS.args (((B,d),(A,c)),(f,s))=[.slice (some ⟨0,0,none⟩) m d,.slice (some ⟨1,0,none⟩) n c,.func (.func f) #[] #[]] from by rw [hm,hn]; rfl]; rfl,⟨vv,dF,Ri⟩,?_⟩
  rw [show jS.ae (((B,d),(A,c)),(f,s))=[.flat false m 6 k,.flat false n 6 g] from by rw [hm,hn,hk,hg]; rfl,show jS.val (((B,d),(A,c)),(f,s))=.tuple ⟨[y.v,.bool w]⟩ from by show Value.tuple ⟨[(gC (ie s B A)).1.v,.bool (gC (ie s B A)).2]⟩=_; rw [hy],show jS.new (((B,d),(A,c)),(f,s))=none from rfl]
  conv=>whnf
  refine ⟨ar.aE (fun h=>h) (fun r hr=>by rw [hk]; rfl),ar.aE (fun h=>h) (fun r hr=>by rw [hg]; rfl),?_⟩
  conv=>whnf
  refine ⟨_,rfl,?_⟩;conv=>whnf
  exact fin y w ((Xn hx).trans hy)
def Eu6:Env:=En [(23,.q aX),(100,.q nz)]
theorem ac6:EnvOk Tryz.prog Eu6:=bH ⟨yC,RX,trivial⟩ trivial
theorem Zr:dk Tryz.prog 44 mr:=by
 refine eI ac6 aP Tryz.func44 (enters_of Tryz.func44 (by kernel_rfl) rfl) ?_ ?_ ?_
 ·intro ⟨i,k⟩ B hb;cases i <;> cases k <;> simp [O0,mr,PL.ae] at hb
  ·rw [hb]; rfl
  ·rw [hb]; rfl
  ·rcases hb with rfl | rfl <;> rfl
 ·intro i b hb; simp [O0,mr] at hb
 intro ⟨i,k⟩ hp;have hp:(i.list.length≤1099511627776∧∀ v∈i.list,v.sz 2048)∧k.list.length≤1099511627776∧∀ v∈k.list,v.sz 2048:=hp;obtain ⟨⟨qn,o8⟩,uR,lH⟩:=hp;cases i with
 | none =>
  cases k with
  | none =>
   conv=>whnf
   refine ⟨none,[],rfl,⟨Nat.zero_le _,fun v hv=>nomatch hv⟩,?_⟩
   rw [show aX.ae none=[] from rfl,show aX.val none=.int .i64 4 from rfl,show aX.new none=none from rfl]
   conv=>whnf
   refine ⟨_,rfl,?_⟩;conv=>whnf
   exact ⟨_,rfl,.refl _⟩
  | some k =>
   conv=>whnf
   refine ⟨none,[],rfl,⟨Nat.zero_le _,fun v hv=>nomatch hv⟩,?_⟩
   rw [show aX.ae none=[] from rfl,show aX.val none=.int .i64 4 from rfl,show aX.new none=none from rfl]
   conv=>whnf
   refine ⟨_,rfl,?_⟩;conv=>whnf
   exact ⟨_,rfl,.refl _⟩
 | some i =>
  obtain ⟨A,c⟩:=i;have qn:A.length≤1099511627776:=qn;have o8:∀ v∈A,PV.sz 2048 v:=o8;obtain ⟨na,bt⟩:∃ n,n=A.length:=⟨_,rfl⟩;obtain ⟨ga,bC⟩:∃ g,g=di A:=⟨_,rfl⟩;have fin:∀ (k:PL) (B:List PV) (x:XV) (e:Int) (n:Nat),k.list=B→nf A B=(x,e)→∃ v',cR (List.range n) 3 (cG.val mr (some (A,c),k))=some v'∧fe (.tuple ⟨[x.v,.int .i64 e]⟩) v':=fun k B x e n hk h=>⟨.tuple ⟨[x.v,.int .i64 e]⟩,by
   subst hk;rw [show cG.val mr (some (A,c),k)=.tuple ⟨[x.v,.int .i64 e]⟩ from by show Value.tuple ⟨[(nf A k.list).1.v,.int .i64 (nf A k.list).2]⟩=_; rw [h]]; rfl,.refl _⟩
  cases k with
  | none =>
   rw [show cG.ae mr (some (A,c),none)=[.flat false na 6 ga] from by rw [bt,bC]; rfl,show cG.args mr (some (A,c),none)=[.slice (some ⟨0,0,none⟩) na c,.slice none 0 0] from by rw [bt]; rfl]
   rw [← bt] at qn;conv=>whnf
   refine ⟨some (A,c),[0],by rw [show aX.args (some (A,c))=[.slice (some ⟨0,0,none⟩) na c] from by rw [bt]; rfl]; rfl,⟨by show A.length≤_; omega,o8⟩,?_⟩
   rw [show aX.ae (some (A,c))=[.flat false na 6 ga] from by rw [bt,bC]; rfl,show aX.val (some (A,c))=.int .i64 (bz A) from rfl,show aX.new (some (A,c))=none from rfl]
   conv=>whnf
   refine ⟨ar.aE (fun h=>h) (fun r hr=>by rw [bC]; rfl),?_⟩
   conv=>whnf
   refine ⟨_,rfl,?_⟩;obtain ⟨e,he⟩:∃ z,z=bz A:=⟨_,rfl⟩;rw [← he];conv=>whnf
   by_cases h1:e=0
   ·rw [show (e != 0)=false from by simp [h1]]
    conv=>whnf
    refine ⟨none,[],rfl,⟨Nat.zero_le _,fun v hv=>nomatch hv⟩,?_⟩
    rw [show aX.ae none=[] from rfl,show aX.val none=.int .i64 4 from rfl,show aX.new none=none from rfl]
    conv=>whnf
    refine ⟨_,rfl,?_⟩;conv=>whnf
    exact fin none [] mZ 1 _ rfl (Cy fun e=>by have:=e.2; cases this)
   ·rw [show (e != 0)=true from by simp [h1]]
    conv=>whnf
    exact fin none [] mZ 1 _ rfl (Cy fun e=>by have:=e.2; cases this)
  | some k =>
   obtain ⟨B,d⟩:=k;have uR:B.length≤1099511627776:=uR;have lH:∀ v∈B,PV.sz 2048 v:=lH;obtain ⟨nb,bX⟩:∃ n,n=B.length:=⟨_,rfl⟩;obtain ⟨gb,cU⟩:∃ g,g=di B:=⟨_,rfl⟩;rw [show cG.ae mr (some (A,c),some (B,d))=[.flat false na 6 ga,.flat false nb 6 gb] from by rw [bt,bC,bX,cU]; rfl,show cG.args mr (some (A,c),some (B,d))=[.slice (some ⟨0,0,none⟩) na c,.slice (some ⟨1,0,none⟩) nb d] from by rw [bt,bX]; rfl]
   rw [← bt] at qn;rw [← bX] at uR;have fin:=fun (x:XV) (e:Int)=>fin (some (B,d)) B x e 2 rfl
   conv=>whnf
   refine ⟨some (A,c),[0],by rw [show aX.args (some (A,c))=[.slice (some ⟨0,0,none⟩) na c] from by rw [bt]; rfl]; rfl,⟨by show A.length≤_; omega,o8⟩,?_⟩
   rw [show aX.ae (some (A,c))=[.flat false na 6 ga] from by rw [bt,bC]; rfl,show aX.val (some (A,c))=.int .i64 (bz A) from rfl,show aX.new (some (A,c))=none from rfl]
   conv=>whnf
   refine ⟨ar.aE (fun h=>h) (fun r hr=>by rw [bC]; rfl),?_⟩
   conv=>whnf
   refine ⟨_,rfl,?_⟩;obtain ⟨e,he⟩:∃ z,z=bz A:=⟨_,rfl⟩;rw [← he];conv=>whnf
   by_cases h1:e=0
   ·rw [show (e != 0)=false from by simp [h1]]
    conv=>whnf
    refine ⟨some (B,d),[1],by rw [show aX.args (some (B,d))=[.slice (some ⟨0,0,none⟩) nb d] from by rw [bX]; rfl]; rfl,⟨by show B.length≤_; omega,lH⟩,?_⟩
    rw [show aX.ae (some (B,d))=[.flat false nb 6 gb] from by rw [bX,cU]; rfl,show aX.val (some (B,d))=.int .i64 (bz B) from rfl,show aX.new (some (B,d))=none from rfl]
    conv=>whnf
    refine ⟨ar.aE (fun h=>h) (fun r hr=>by rw [cU]; rfl),?_⟩
    conv=>whnf
    refine ⟨_,rfl,?_⟩;obtain ⟨e2,cj⟩:∃ z,z=bz B:=⟨_,rfl⟩;rw [← cj];conv=>whnf
    by_cases J:e2=0
    ·rw [show (e2 != 0)=false from by simp [J]]
     have hk:bz A=0∧bz B=0:=⟨by rw [← he]; exact h1,by rw [← cj]; exact J⟩
     have hzA:=oD hk.1;have hzB:=oD hk.2;conv=>whnf
     obtain ⟨⟨x,z⟩,hx⟩:∃ x,gC (kc true (aV A) (aV B))=x:=⟨_,rfl⟩;refine ⟨(((aV A,c),(aV B,d)),(105,true)),[0,1],by rw [show nz.args (((aV A,c),(aV B,d)),(105,true))=[.slice (some ⟨0,0,none⟩) na c,.slice (some ⟨1,0,none⟩) nb d,.func (.func 105) #[] #[]] from by rw [bt,bX,← cY A,← cY B]; rfl]; rfl,⟨by simp,⟨by show (aV A).length≤_; rw [cY]; omega,wS o8 (by decide)⟩,by show (aV B).length≤_; rw [cY]; omega,wS lH (by decide)⟩,?_⟩
     rw [show nz.ae (((aV A,c),(aV B,d)),(105,true))=[.flat false na 6 ga,.flat false nb 6 gb] from by rw [bt,bX,bC,cU,← cY A,← cY B,← F5 hk.1,← F5 hk.2]; rfl,show nz.val (((aV A,c),(aV B,d)),(105,true))=.tuple ⟨[x.v,.bool z]⟩ from by show Value.tuple ⟨[(gC (kc true (aV A) (aV B))).1.v,.bool (gC (kc true (aV A) (aV B))).2]⟩=_; rw [hx],show nz.new (((aV A,c),(aV B,d)),(105,true))=none from rfl]
     conv=>whnf
     refine ⟨ar.aE (fun h=>h) (fun r hr=>by rw [bC]; rfl),ar.aE (fun h=>h) (fun r hr=>by rw [cU]; rfl),?_⟩
     conv=>whnf
     refine ⟨_,rfl,?_⟩;conv=>whnf
     have hv:=Xo hk hx;cases z with
     | false =>
      conv=>whnf
      exact fin _ _ hv
     | true =>
      conv=>whnf
      exact fin _ _ hv
    ·rw [show (e2 != 0)=true from by simp [J]]
     conv=>whnf
     exact fin mZ 1 (Cy fun h=>J (by rw [cj]; exact h.2))
   ·rw [show (e != 0)=true from by simp [h1]]
    conv=>whnf
    exact fin mZ 1 (Cy fun h=>h1 (by rw [he]; exact h.1))
open Go Go.Ae
def Rj:Env:=En [(23,.q aX),(56,.q eL),(70,.p pW),(34,.p iC),(38,.p gH),(71,.p qj),(33,.p mo),(35,.p jG)] [(64,cl mI cK Tryz.f64)] [(118,ug)]
theorem ac7:EnvOk Tryz.prog Rj:=bH ⟨yC,Eu,Mv,F9,wT,N0,yX,NX,trivial⟩ ⟨wG,trivial⟩
theorem abG:gG Tryz.prog Rj:=vy ⟨wm,trivial⟩
theorem Zs:dk Tryz.prog 21 mc:=by
 refine eI ac7 aP Tryz.func21 (enters_of Tryz.func21 (by kernel_rfl) rfl) ?_ ?_ ?_ (hI:=abG)
 ·intro ⟨i,_⟩ b hb;cases i with
  | none=>simp [mc,PL.ae] at hb
  | some i=>simp [mc,PL.ae] at hb; rw [hb]; rfl
 ·intro i b hb; simp [mc] at hb
 intro ⟨i,⟨p,q⟩⟩ hp;have hp:(i.list.length≤1099511627776∧∀ v∈i.list,v.sz 2048)∧p.sz 2048∧q.sz 2048:=hp;obtain ⟨⟨hlen,bc⟩,sp,sq⟩:=hp;have qp:=PV.dy sp (by decide)
 have qq:=PV.dy sq (by decide)
 cases i with
 | none =>
  conv=>whnf
  refine ⟨none,[],rfl,⟨Nat.zero_le _,fun v hv=>nomatch hv⟩,?_⟩
  rw [show aX.ae none=[] from rfl,show aX.val none=.int .i64 4 from rfl,show aX.new none=none from rfl]
  conv=>whnf
  refine ⟨_,rfl,?_⟩;conv=>whnf
  exact ⟨_,rfl,.refl _⟩
 | some i =>
  obtain ⟨L,c⟩:=i;have hlen:L.length≤1099511627776:=hlen;have bc:∀ v∈L,PV.sz 2048 v:=bc;obtain ⟨n,hn⟩:∃ n,n=L.length:=⟨_,rfl⟩;obtain ⟨g,hg⟩:∃ g,g=di L:=⟨_,rfl⟩;obtain ⟨K,hK⟩:∃ K,K=iT mc (some (L,c),(p,q)):=⟨_,rfl⟩;have fin:∀ (x y:RV) (z:Bool) (e:Int) (H:aA),gQ L (p,q)=((x,y),z,e)→K (.tuple ⟨[x.v,y.v,.bool z,.int .i64 e]⟩) H:=fun x y z e H h=>by
   rw [hK];unfold iT;rw [show mc.new (some (L,c),(p,q))=none from rfl,show mc.val (some (L,c),(p,q))=.tuple ⟨[x.v,y.v,.bool z,.int .i64 e]⟩ from by show Value.tuple ⟨[(gQ L (p,q)).1.1.v,(gQ L (p,q)).1.2.v,.bool (gQ L (p,q)).2.1,.int .i64 (gQ L (p,q)).2.2]⟩=_; rw [h]]
   exact ⟨_,rfl,.refl _⟩
  rw [show mc.ae (some (L,c),(p,q))=[.flat false n 6 g] from by rw [hn,hg]; rfl,show mc.args (some (L,c),(p,q))=[.slice (some ⟨0,0,none⟩) n c,XV.v (p,q)] from by rw [hn]; rfl,← hK]
  rw [← hn] at hlen;conv=>whnf
  refine ⟨some (L,c),[0],by rw [show aX.args (some (L,c))=[.slice (some ⟨0,0,none⟩) n c] from by rw [hn]; rfl]; rfl,⟨by show L.length≤_; omega,bc⟩,?_⟩
  rw [show aX.ae (some (L,c))=[.flat false n 6 g] from by rw [hn,hg]; rfl,show aX.val (some (L,c))=.int .i64 (bz L) from rfl,show aX.new (some (L,c))=none from rfl]
  conv=>whnf
  refine ⟨ar.aE (fun h=>h) (fun r hr=>by rw [hg]; rfl),?_⟩
  conv=>whnf
  refine ⟨_,rfl,?_⟩;obtain ⟨e,he⟩:∃ z,z=bz L:=⟨_,rfl⟩;rw [← he];conv=>whnf
  by_cases h1:e=0
  ·rw [show (e != 0)=false from by simp [h1]]
   conv=>whnf
   refine ⟨some ([p,q],2),[6],rfl,⟨by show 2≤1099511627776; decide,(fun v hv=>by rcases List.mem_cons.1 hv with rfl | hv; exact sp; rw [List.mem_singleton.1 hv]; exact sq)⟩,?_⟩
   rw [show eL.ae (some ([p,q],2))=[.flat false 2 6 (di [p,q])] from rfl,show eL.val (some ([p,q],2))=.bool (!dL [p,q]) from rfl,show eL.new (some ([p,q],2))=none from rfl]
   conv=>whnf
   refine ⟨NG [p,q],?_⟩;conv=>whnf
   refine ⟨_,rfl,?_⟩;obtain ⟨r,hr⟩:∃ z,z=dL [p,q]:=⟨_,rfl⟩;rw [← hr];conv=>whnf
   cases r with
   | true =>
    conv=>whnf
    exact fin dj dj false 1 _ (Oy fun h=>ad3 hr h.2.1 h.2.2)
   | false =>
    conv=>whnf
    have hk:bz L=0∧p.canon∧q.canon:=⟨by rw [← he]; exact h1,acm hr⟩
    have hz:=oD hk.1;obtain ⟨o,eo,po,so,qo⟩:=gI (q:=(0:Rat)) (qb0 (Nat.le_refl 1));refine ⟨(0:Int),rfl,⟨by decide,by decide⟩,?_⟩
    rw [show mo.val (0:Int)=o.v from eo]
    conv=>whnf
    obtain ⟨l,el,pl,sl,ql⟩:=gI (q:=(1:Rat)) (Go.Ae.qb1 (Nat.le_refl 1));refine ⟨(1:Int),rfl,⟨by decide,by decide⟩,?_⟩
    rw [show mo.val (1:Int)=l.v from el]
    conv=>whnf
    intro yl nu fn tm df;conv=>whnf
    refine .inl ⟨fun mm tz hz=>∃ (j:Nat) (lo:RV) (hi:RV),bB (some (.func (.yield yl) #[] #[])::some (.pointer (some ⟨9,0,none⟩))::aG 3 (some (.slice (some ⟨0,0,none⟩) n c)::some (.int .i64 n)::some (.int .i64 j)::aG 17 [])) tz∧hz=[some (.flat false n 6 g),some (.aS true 12 [XV.cells (p,q)]),some (.aS true 3 [dj.c1]),some (.aS true 3 [dj.c1]),some (.aS true 1 [[.bool false]]),some (.aS true 1 [[.int .i64 0]]),some (.aS true 6 [p.cells,q.cells]),some (.aS true 3 [lo.c1]),some (.aS true 3 [hi.c1]),some (.aS true 1 [[.slice (some ⟨0,0,none⟩) n c]]),some (.cc (qE Tryz.f21 fn tm df))]∧n - j=mm∧((j≤n∧uO (aV L) p.p q.p j=some (lo.q,hi.q))∧(lo=RV.of lo.q∧hi=RV.of hi.q)∧(lo.sz 65536∧hi.sz 65536)∧QB lo.q 65536∧QB hi.q 65536),.inr ⟨[0,1,2,3,4,5,6,7,8,9,10],[0,1,5,6,7],?_⟩,?_⟩
    ·conv=>whnf
     intro _;conv=>whnf
     refine ⟨_,0,o,l,(.aa (.aa (.sk 3 (.aa (.aa (.aa (.sk 17 .nil rfl)))) rfl))),rfl,rfl,?_⟩;exact ⟨⟨Nat.zero_le _,by rw [po,pl]; rfl⟩,⟨by rw [po]; exact (RV.nU eo).symm,by rw [pl]; exact (RV.nU el).symm⟩,⟨RV.aQ so (by decide),RV.aQ sl (by decide)⟩,qo.mono (by decide),ql.mono (by decide)⟩
    rintro mm aW _ ⟨j,lo,hi,aC,rfl,rfl,⟨⟨hj,hU⟩,⟨tq,tv⟩,⟨tw,vL⟩,AF,AG⟩⟩
    obtain ⟨az,rfl⟩:∃ az:Nat→Value,aW=.func (.yield yl) #[] #[]::.pointer (some ⟨9,0,none⟩)::zs az 2 3 (.slice (some ⟨0,0,none⟩) n c::.int .i64 n::.int .i64 j::zs az 8 17 []):=bI aC;clear aC;conv=>whnf
    refine aN (fun h3=>?_) (fun h3=>?_)
    ·have h3:j < n:=by
      have:=of_decide_eq_true h3;omega
     have e7:IntKind.i64.wrap ((j:Int)+1)=((j+1:Nat):Int):=by rw [ay (by omega) (by omega)]; rfl
     obtain ⟨a,b,ra,rb,⟨ma,mb⟩,gX,cE,_,_⟩:=tO hn h3;have sa:=bc a ma;have sb:=bc b mb;have qa:=PV.dy sa (by decide)
     have qb:=PV.dy sb (by decide)
     have cT:=ld h3 (by omega)
     obtain ⟨u,hu⟩:∃ u,u=aY n j:=⟨_,rfl⟩;rw [← hu] at cT cE rb;rw [← hg] at ra rb;conv=>whnf
     refine ⟨⟨by omega,by omega⟩,?_⟩
     simp only [toNat_cast,aB,Nat.zero_add];conv=>whnf
     refine ⟨by show j < n; omega,?_⟩
     conv=>whnf
     rw [ra];conv=>whnf
     refine .inl ⟨10,[[],[],[],[],[3],[],[5],[3,4,5,6],[2,3,4,5,6,7],[2,3,4,5,6,7,8],[0,1,2,3,4,5,6,7,8,9],[0,1,2,3,4,5,6,7,8,9,10]],by kernel_rfl,?_⟩
     conv=>whnf
     rw [show decide ((n:Int)≠0)=true from decide_eq_true (by omega)]
     conv=>whnf
     rw [cT];refine ⟨⟨by omega,by omega⟩,?_⟩
     simp only [toNat_cast,aB,Nat.zero_add];conv=>whnf
     refine ⟨by show u < n; omega,?_⟩
     conv=>whnf
     rw [rb];conv=>whnf
     refine ⟨rfl,?_⟩;conv=>whnf
     refine ⟨rfl,?_⟩;conv=>whnf
     refine ⟨rfl,?_⟩;conv=>whnf
     refine .inl ⟨12,[[],[],[],[2],[0,1,2,3],[],[],[],[7],[0,1,2,3,4,5,6,7,8],[],[],[0,1,2,3,4,5,6,7,8,9,10,11],[0,1,2,3,4,5,6,7,8,9,10,11,12]],by kernel_rfl,?_⟩
     conv=>whnf
     obtain ⟨x,ex,px,sx,qx⟩:=gI (xt qa qb qp);refine ⟨(a,b,p),rfl,⟨PV.aQ sa (by decide),PV.aQ sb (by decide),PV.aQ sp (by decide)⟩,?_⟩
     rw [show pW.val (a,b,p)=x.v from ex]
     conv=>whnf
     obtain ⟨y,ey,py,sy,qy⟩:=gI (xt qa qb qq);refine ⟨(a,b,q),rfl,⟨PV.aQ sa (by decide),PV.aQ sb (by decide),PV.aQ sq (by decide)⟩,?_⟩
     rw [show pW.val (a,b,q)=y.v from ey]
     conv=>whnf
     have ax:=Tz hU gX px py;refine .inl ⟨7,[[],[0],[0,1],[],[0,1,3],[0,1,3,4],[0,1,2,3,4],[0,1,2,3,4,5,6]],by kernel_rfl,?_⟩
     conv=>whnf
     obtain ⟨zx,ezx,pzx⟩:=eU (a8 x.q 0);refine ⟨x,rfl,RV.bV sx (by decide),?_⟩
     rw [show iC.val x=.int .i64 zx from ezx]
     conv=>whnf
     obtain ⟨zy,ezy,pzy⟩:=eU (a8 y.q 0);refine ⟨y,rfl,RV.bV sy (by decide),?_⟩
     rw [show iC.val y=.int .i64 zy from ezy]
     conv=>whnf
     have cx:zx > 0↔0 < x.q:=by rw [pzx]; exact tW
     have cy:zy > 0↔0 < y.q:=by rw [pzy]; exact tW
     by_cases hx:zx > 0
     ·rw [show decide (zx > 0)=true from decide_eq_true hx]
      have hx:=cx.1 hx;by_cases hy:zy > 0
      ·rw [show decide (zy > 0)=true from decide_eq_true hy]
       have hy:=cy.1 hy;rw [if_neg (fun e=>Rat.not_lt.2 e.1 hx),if_pos ⟨hx,hy⟩] at ax
       conv=>whnf
       refine ⟨rfl,?_⟩;conv=>whnf
       rw [e7];refine .inr ⟨[0,1,2,3,4,5,6,7,8,9,10],[0,1,5,6,7],?_⟩;conv=>whnf
       intro _;conv=>whnf
       refine ⟨_,?_,j+1,lo,hi,(.aa (.aa (.sk 3 (.aa (.aa (.aa (.sk 17 .nil rfl)))) rfl))),rfl,rfl,?_⟩
       ·omega
       ·exact ⟨⟨by omega,ax⟩,⟨tq,tv⟩,⟨tw,vL⟩,AF,AG⟩
      ·rw [show decide (zy > 0)=false from decide_eq_false hy]
       have hy:¬ 0 < y.q:=fun e=>hy (cy.2 e)
       rw [if_neg (fun e=>Rat.not_lt.2 e.1 hx),if_neg (fun e=>hy e.2),if_neg hy] at ax
       conv=>whnf
       refine .inr (.inr (.inl ⟨9,1,[[],[],[],[1,2],[0,1,2,3],[0,1,2,3,4],[0,1,2,3,4,5],[0,1,2,3,4,5],[],[0,1,2,3,4,5,6,8],[0,1,2,3,4,5,6,7,8,9]],[7],by kernel_rfl,?_⟩))
       conv=>whnf
       obtain ⟨d,ed,pd,sd,qd⟩:=gI (QB.sub qx qy);refine ⟨(x,y),rfl,⟨RV.bV sx (by decide),RV.bV sy (by decide)⟩,?_⟩
       rw [show gH.val (x,y)=d.v from ed]
       conv=>whnf
       obtain ⟨t,et,pt,st,qt⟩:=gI (QB.div qx qd (by decide))
       obtain ⟨e3,JO,pe3⟩:=eU (if d.q=0 then 10 else 0)
       refine ⟨(x,d),rfl,⟨RV.bV sx (by decide),RV.bV sd (by decide)⟩,?_⟩
       rw [show qj.val (x,d)=.tuple ⟨[t.v,.int .i64 e3]⟩ from by rw [← et,← JO]; rfl]
       conv=>whnf
       have ct:=(RV.nU et).symm;rw [← pt] at ct;rw [pd] at pt;rw [← pt] at ax;obtain ⟨z,ez,pz⟩:=eU (a8 t.q hi.q);refine ⟨(t,hi),rfl,⟨RV.bV st (by decide),RV.bV vL (by decide)⟩,?_⟩
       rw [show jG.val (t,hi)=.int .i64 z from ez]
       conv=>whnf
       have cz:z < 0↔t.q < hi.q:=by rw [pz]; exact FW
       by_cases h5:z < 0
       ·rw [show decide (z < 0)=true from decide_eq_true h5]
        conv=>whnf
        refine ⟨rfl,?_⟩;conv=>whnf
        rw [e7];refine .inr ⟨[0,1,2,3,4,5,6,7,8,9,10],[0,1,5,6,7],?_⟩;conv=>whnf
        intro _;conv=>whnf
        refine ⟨_,?_,j+1,lo,t,(.aa (.aa (.sk 3 (.aa (.aa (.aa (.sk 17 .nil rfl)))) rfl))),rfl,rfl,?_⟩
        ·omega
        ·exact ⟨⟨by omega,by rw [ax]; unfold lF; rw [if_pos (cz.1 h5)]⟩,⟨tq,ct⟩,⟨tw,RV.aQ st (by decide)⟩,AF,qt.mono (by decide)⟩
       ·rw [show decide (z < 0)=false from decide_eq_false h5]
        conv=>whnf
        refine ⟨rfl,?_⟩;conv=>whnf
        rw [e7];refine .inr ⟨[0,1,2,3,4,5,6,7,8,9,10],[0,1,5,6,7],?_⟩;conv=>whnf
        intro _;conv=>whnf
        refine ⟨_,?_,j+1,lo,hi,(.aa (.aa (.sk 3 (.aa (.aa (.aa (.sk 17 .nil rfl)))) rfl))),rfl,rfl,?_⟩
        ·omega
        ·exact ⟨⟨by omega,by rw [ax]; unfold lF; rw [if_neg (fun e=>h5 (cz.2 e))]⟩,⟨tq,tv⟩,⟨tw,vL⟩,AF,AG⟩
     ·rw [show decide (zx > 0)=false from decide_eq_false hx]
      have hx:¬ 0 < x.q:=fun e=>hx (cx.2 e)
      by_cases hy:zy > 0
      ·rw [show decide (zy > 0)=true from decide_eq_true hy]
       have hy:=cy.1 hy;rw [if_neg (fun e=>Rat.not_lt.2 e.2 hy),if_neg (fun e=>hx e.1),if_pos hy] at ax
       conv=>whnf
       refine .inr (.inr (.inl ⟨9,1,[[],[],[],[1,2],[0,1,2,3],[0,1,2,3,4],[0,1,2,3,4,5],[0,1,2,3,4,5],[],[0,1,2,3,4,5,6,8],[0,1,2,3,4,5,6,7,8,9]],[7],by kernel_rfl,?_⟩))
       conv=>whnf
       obtain ⟨d,ed,pd,sd,qd⟩:=gI (QB.sub qx qy);refine ⟨(x,y),rfl,⟨RV.bV sx (by decide),RV.bV sy (by decide)⟩,?_⟩
       rw [show gH.val (x,y)=d.v from ed]
       conv=>whnf
       obtain ⟨t,et,pt,st,qt⟩:=gI (QB.div qx qd (by decide))
       obtain ⟨e3,JO,pe3⟩:=eU (if d.q=0 then 10 else 0)
       refine ⟨(x,d),rfl,⟨RV.bV sx (by decide),RV.bV sd (by decide)⟩,?_⟩
       rw [show qj.val (x,d)=.tuple ⟨[t.v,.int .i64 e3]⟩ from by rw [← et,← JO]; rfl]
       conv=>whnf
       have ct:=(RV.nU et).symm;rw [← pt] at ct;rw [pd] at pt;rw [← pt] at ax;obtain ⟨z,ez,pz⟩:=eU (a8 t.q lo.q);refine ⟨(t,lo),rfl,⟨RV.bV st (by decide),RV.bV tw (by decide)⟩,?_⟩
       rw [show jG.val (t,lo)=.int .i64 z from ez]
       conv=>whnf
       have cz:z > 0↔lo.q < t.q:=by rw [pz]; exact tW
       by_cases h5:z > 0
       ·rw [show decide (z > 0)=true from decide_eq_true h5]
        conv=>whnf
        refine ⟨rfl,?_⟩;conv=>whnf
        rw [e7];refine .inr ⟨[0,1,2,3,4,5,6,7,8,9,10],[0,1,5,6,7],?_⟩;conv=>whnf
        intro _;conv=>whnf
        refine ⟨_,?_,j+1,t,hi,(.aa (.aa (.sk 3 (.aa (.aa (.aa (.sk 17 .nil rfl)))) rfl))),rfl,rfl,?_⟩
        ·omega
        ·exact ⟨⟨by omega,by rw [ax]; unfold lE; rw [if_pos (cz.1 h5)]⟩,⟨ct,tv⟩,⟨RV.aQ st (by decide),vL⟩,qt.mono (by decide),AG⟩
       ·rw [show decide (z > 0)=false from decide_eq_false h5]
        conv=>whnf
        refine ⟨rfl,?_⟩;conv=>whnf
        rw [e7];refine .inr ⟨[0,1,2,3,4,5,6,7,8,9,10],[0,1,5,6,7],?_⟩;conv=>whnf
        intro _;conv=>whnf
        refine ⟨_,?_,j+1,lo,hi,(.aa (.aa (.sk 3 (.aa (.aa (.aa (.sk 17 .nil rfl)))) rfl))),rfl,rfl,?_⟩
        ·omega
        ·exact ⟨⟨by omega,by rw [ax]; unfold lE; rw [if_neg (fun e=>h5 (cz.2 e))]⟩,⟨tq,tv⟩,⟨tw,vL⟩,AF,AG⟩
      ·rw [show decide (zy > 0)=false from decide_eq_false hy]
       have hy:¬ 0 < y.q:=fun e=>hy (cy.2 e)
       rw [if_pos ⟨Rat.not_lt.1 hx,Rat.not_lt.1 hy⟩] at ax;conv=>whnf
       refine ⟨rfl,?_⟩;conv=>whnf
       exact fin dj dj false 0 _ (NR hk (TA ax))
    ·have h3:j=n:=by
      have:=of_decide_eq_false h3;omega
     subst h3;have hE:=UL (a:=p.p) (b:=q.p) (show j=(aV L).length by rw [cY]; exact hn)
     rw [hU] at hE;conv=>whnf
     obtain ⟨z,ez,pz⟩:=eU (a8 lo.q hi.q);refine ⟨(lo,hi),rfl,⟨RV.bV tw (by decide),RV.bV vL (by decide)⟩,?_⟩
     rw [show jG.val (lo,hi)=.int .i64 z from ez]
     conv=>whnf
     by_cases h5:hi.q≤lo.q
     ·rw [show decide (z ≥ 0)=true from decide_eq_true (by rw [pz]; exact nD.2 h5)]
      conv=>whnf
      exact fin dj dj false 0 _ (NR hk (hE.symm.trans (V9 h5)))
     ·rw [show decide (z ≥ 0)=false from decide_eq_false (by rw [pz]; exact fun e=>h5 (nD.1 e))]
      conv=>whnf
      have gg:gQ L (p,q)=((lo,hi),true,0):=Xs hk (hE.symm.trans (Wa h5)) tq tv;refine .inr (.inl ⟨(.br 0 (.br 1 (.br 2 (.br 3 (.br 4 (.br 5 .leaf .leaf) .leaf) .leaf) .leaf) (.br 2 (.br 1 (.br 3 (.br 4 (.br 5 .leaf .leaf) .leaf) .leaf) .leaf) .leaf)) (.br 1 (.br 0 (.br 2 (.br 3 (.br 4 (.br 5 .leaf .leaf) .leaf) .leaf) .leaf) .leaf) .leaf)),by kernel_rfl,?_⟩)
      repeat' ((conv=>whnf); first | exact True.intro | refine And.intro ?_ ?_)
      all_goals conv=>whnf
      all_goals exact fin lo hi true 0 _ gg
  ·rw [show (e != 0)=true from by simp [h1]]
   conv=>whnf
   exact fin dj dj false 1 _ (Oy fun h=>h1 (by rw [he]; exact h.1))
set_option maxHeartbeats 1000000
open Go Go.Ae
open Go Go.Ae
def Eqs:Env:=En [(128,.p jG),(157,.p nH),(156,.p kZ)]
theorem ac8:EnvOk Tryz.prog Eqs:=bH ⟨Ga,Nc,Nf,trivial⟩ trivial
theorem U0:bh Tryz.prog 123 iC:=by
 refine bk ac8 aP Tryz.func123 (enters_of Tryz.func123 (by kernel_rfl) rfl) (fun _=>rfl) (fun _=>rfl) ?_
 intro (r:RV) hp;have hp:r.ok:=hp;obtain ⟨x,hx⟩:∃ x,x=a8 r.q 0:=⟨_,rfl⟩;conv=>whnf
 refine ⟨(r,dj),rfl,⟨hp,RV.bV (tX 0) (by decide)⟩,?_⟩
 rw [show jG.val (r,dj)=.int .i64 x from by rw [hx]; show Value.int .i64 (a8 r.q dj.q)=_; rw [WX]]
 conv=>whnf
 show Value.int .i64 x=Value.int .i64 (a8 r.q 0)
 rw [hx]
open Go Go.Ae
set_option maxHeartbeats 4000000
open Go Go.Ae
open Go Go.Ae
open Go Go.Ae
def Er0:Env:=En [(121,.p kC),(122,.p pT),(123,.p iC)]
theorem ac9:EnvOk Tryz.prog Er0:=bH ⟨Wv,TM,U0,trivial⟩ trivial
theorem Lx:bh Tryz.prog 77 lW:=by
 refine bk ac9 aP Tryz.func77 (enters_of Tryz.func77 (by kernel_rfl) rfl) (fun _=>rfl) (fun _=>rfl) ?_
 intro ⟨a,b,c⟩ hp;have hp:a.sz 1048576∧b.sz 1048576∧c.sz 1048576:=hp;obtain ⟨sa,sb,sc⟩:=hp;have qa:=PV.dy sa (by decide)
 have qb:=PV.dy sb (by decide)
 have qc:=PV.dy sc (by decide)
 conv=>whnf
 refine .inl ⟨5,[[],[],[0,1],[],[],[0,1,2,3,4],[0,1,2,3,4,5],[0,1,2,3,4,5,6],[0,1,2,3,4,5,6,7]],by kernel_rfl,?_⟩
 conv=>whnf
 obtain ⟨u,eu,pu,su,qu⟩:=sh (oN qb qa);refine ⟨(b,a),rfl,⟨PV.aQ sb (by decide),PV.aQ sa (by decide)⟩,?_⟩
 rw [show kC.val (b,a)=u.v from eu]
 conv=>whnf
 obtain ⟨v,ev,pv,sv,qv⟩:=sh (oN qc qa);refine ⟨(c,a),rfl,⟨PV.aQ sc (by decide),PV.aQ sa (by decide)⟩,?_⟩
 rw [show kC.val (c,a)=v.v from ev]
 conv=>whnf
 obtain ⟨w,ew,pw,sw,qw⟩:=gI (yu qu qv);refine ⟨(u,v),rfl,⟨PV.aQ su (by decide),PV.aQ sv (by decide)⟩,?_⟩
 rw [show pT.val (u,v)=w.v from ew]
 conv=>whnf
 obtain ⟨n,en,pn⟩:=eU (a8 w.q 0);refine ⟨w,rfl,RV.bV sw (by decide),?_⟩
 rw [show iC.val w=.int .i64 n from en]
 conv=>whnf
 show Value.int .i64 n=Value.int .i64 (a8 (ao a.p b.p c.p) 0)
 rw [pn,pw,pu,pv]
 rfl
def Er1:Env:=En [(68,.p jW)]
theorem ada:EnvOk Tryz.prog Er1:=bH ⟨TN,trivial⟩ trivial
theorem TR:dk Tryz.prog 61 eL:=by
 refine eI ada aP Tryz.func61 (enters_of Tryz.func61 (by kernel_rfl) rfl) ?_ ?_ ?_
 ·intro i b hb;cases i with
  | none=>simp [eL,PL.ae] at hb
  | some i=>simp [eL,PL.ae] at hb; rw [hb]; rfl
 ·intro i b hb; simp [eL] at hb
 intro i hp;have hp:i.list.length≤1099511627776∧∀ v∈i.list,v.sz 2048:=hp;obtain ⟨hlen,bc⟩:=hp;cases i with
 | none =>
  conv=>whnf
  refine .inr ⟨1,?_⟩;conv=>whnf
  exact ⟨.bool true,rfl,.refl _⟩
 | some i =>
  obtain ⟨L,c⟩:=i;have hlen:L.length≤1099511627776:=hlen;have bc:∀ v∈L,PV.sz 2048 v:=bc;obtain ⟨n,hn⟩:∃ n,n=L.length:=⟨_,rfl⟩;obtain ⟨g,hg⟩:∃ g,g=di L:=⟨_,rfl⟩;have fin:∀ z:Bool,z=!dL L→∃ v',cR (List.range 1) 3 (eL.val (some (L,c)))=some v'∧fe (.bool z) v':=fun z h=>⟨.bool z,by rw [h]; rfl,.refl _⟩
  rw [show eL.ae (some (L,c))=[.flat false n 6 g] from by rw [hn,hg]; rfl,show eL.args (some (L,c))=[.slice (some ⟨0,0,none⟩) n c] from by rw [hn]; rfl]
  rw [← hn] at hlen;conv=>whnf
  refine .inl ⟨fun mm tz hz=>∃ (i:Nat),bB (some (.slice (some ⟨0,0,none⟩) n c)::aG 2 (some (.int .i64 i)::aG 12 [])) tz∧hz=[some (.flat false n 6 g)]∧n - i=mm∧(i≤n∧uN L i),.inr ⟨[0],[0,3],?_⟩,?_⟩
  ·conv=>whnf
   intro _;conv=>whnf
   refine ⟨_,0,(.aa (.sk 2 (.aa (.sk 12 .nil rfl)) rfl)),rfl,rfl,?_⟩;exact ⟨Nat.zero_le _,KL _⟩
  rintro mm aW _ ⟨i,aC,rfl,rfl,⟨hi,hU⟩⟩
  obtain ⟨az,rfl⟩:∃ az:Nat→Value,aW=.slice (some ⟨0,0,none⟩) n c::zs az 1 2 (.int .i64 i::zs az 4 12 []):=bI aC;clear aC;conv=>whnf
  refine aN (fun h3=>?_) (fun h3=>?_)
  ·have h3:i < n:=by
    have:=of_decide_eq_true h3;omega
   have e7:IntKind.i64.wrap ((i:Int)+1)=((i+1:Nat):Int):=by rw [ay (by omega) (by omega)]; rfl
   obtain ⟨m,kO,mE,aZ⟩:=rG (l:=L) (i:=i) (by omega)
   rw [← hg] at aZ;conv=>whnf
   refine ⟨⟨by omega,by omega⟩,?_⟩
   simp only [toNat_cast,aB,Nat.zero_add];conv=>whnf
   refine ⟨by show i < n; omega,?_⟩
   conv=>whnf
   rw [aZ];conv=>whnf
   refine ⟨m,rfl,PV.aQ (bc m mE) (by decide),?_⟩
   by_cases h4:m.canon
   ·rw [show jW.val m=.int .i64 0 from congrArg (Value.int .i64) (if_pos h4)]
    conv=>whnf
    rw [e7];refine .inr ⟨[0],[0,3],?_⟩;conv=>whnf
    intro _;conv=>whnf
    refine ⟨_,?_,i+1,(.aa (.sk 2 (.aa (.sk 12 .nil rfl)) rfl)),rfl,rfl,?_⟩
    ·omega
    ·exact ⟨by omega,Lq hU kO h4⟩
   ·rw [show jW.val m=.int .i64 1 from congrArg (Value.int .i64) (if_neg h4)]
    conv=>whnf
    exact fin false (by rw [show dL L=true from List.any_eq_true.2 ⟨m,mE,decide_eq_true h4⟩]; rfl)
  ·have h3:i=n:=by
    have:=of_decide_eq_false h3;omega
   subst h3;conv=>whnf
   exact fin true (by rw [Me (by rw [← hn]; exact hU)]; rfl)
def Er2:Env:=En [(61,.q eL),(76,.p oW),(77,.p lW)]
theorem adb:EnvOk Tryz.prog Er2:=bH ⟨TR,Ww,Lx,trivial⟩ trivial
theorem TS:dk Tryz.prog 24 aX:=by
 refine eI adb aP Tryz.func24 (enters_of Tryz.func24 (by kernel_rfl) rfl) ?_ ?_ ?_
 ·intro i b hb;cases i with
  | none=>simp [aX,PL.ae] at hb
  | some i=>simp [aX,PL.ae] at hb; rw [hb]; rfl
 ·intro i b hb; simp [aX] at hb
 intro i hp;have hp:i.list.length≤1099511627776∧∀ v∈i.list,v.sz 2048:=hp;obtain ⟨hlen,bc⟩:=hp;cases i with
 | none =>
  conv=>whnf
  exact ⟨.int .i64 4,rfl,.refl _⟩
 | some i =>
  obtain ⟨L,c⟩:=i;have hlen:L.length≤1099511627776:=hlen;have bc:∀ v∈L,PV.sz 2048 v:=bc;obtain ⟨n,hn⟩:∃ n,n=L.length:=⟨_,rfl⟩;obtain ⟨g,hg⟩:∃ g,g=di L:=⟨_,rfl⟩;have fin:∀ z:Int,bz L=z→∃ v',cR (List.range 1) 3 (aX.val (some (L,c)))=some v'∧fe (.int .i64 z) v':=fun z h=>⟨.int .i64 z,by rw [← h]; rfl,.refl _⟩
  rw [show aX.ae (some (L,c))=[.flat false n 6 g] from by rw [hn,hg]; rfl,show aX.args (some (L,c))=[.slice (some ⟨0,0,none⟩) n c] from by rw [hn]; rfl]
  rw [← hn] at hlen;conv=>whnf
  by_cases h1:n < 3
  ·rw [show decide ((n:Int) < 3)=true from decide_eq_true (by omega)]
   conv=>whnf
   exact fin 4 (B7 (.inl (by omega)))
  rw [show decide ((n:Int) < 3)=false from decide_eq_false (by omega)]
  conv=>whnf
  by_cases J:64 < n
  ·rw [show decide ((n:Int) > 64)=true from decide_eq_true (by omega)]
   conv=>whnf
   exact fin 4 (B7 (.inr (by omega)))
  rw [show decide ((n:Int) > 64)=false from decide_eq_false (by omega)]
  conv=>whnf
  obtain ⟨z,hz⟩:∃ z,z=dL L:=⟨_,rfl⟩;refine ⟨some (L,c),[0],by rw [show eL.args (some (L,c))=[.slice (some ⟨0,0,none⟩) n c] from by rw [hn]; rfl]; rfl,⟨by show L.length≤_; omega,bc⟩,?_⟩
  rw [show eL.ae (some (L,c))=[.flat false n 6 g] from by rw [hn,hg]; rfl,show eL.val (some (L,c))=.bool (!z) from by rw [hz]; rfl,show eL.new (some (L,c))=none from rfl]
  conv=>whnf
  refine ⟨ar.aE (fun h=>h) (fun r hr=>by rw [hg]; rfl),?_⟩
  conv=>whnf
  refine ⟨_,rfl,?_⟩;conv=>whnf
  cases z with
  | true =>
   conv=>whnf
   exact fin 1 (NN (by omega) hz.symm)
  | false =>
   conv=>whnf
   have qM:dL L=false:=hz.symm;have h0:=rI (L:=L) (k:=0) (by omega)
   have so:=bc _ (oI (L:=L) (k:=0) (by omega))
   have po:=j4 (L:=L) (k:=0) (by omega)
   obtain ⟨o,ho⟩:∃ o,o=iY L 0:=⟨_,rfl⟩;rw [← ho] at h0 so po;rw [← hg] at h0;have qo:=PV.dy so (by decide)
   have zQ:g (Int.toNat 0)=o.cells:=h0;refine .inl ⟨fun mm tz hz=>∃ (i:Nat),bB (some (.slice (some ⟨0,0,none⟩) n c)::aG 2 (some (.int .i64 n)::some (.int .i64 ((i+1:Nat):Int))::aG 79 [])) tz∧hz=[some (.flat false n 6 g)]∧n - i=mm∧(i+1≤n∧xr (aV L) i),.inr ⟨[0],[0,3,4],?_⟩,?_⟩
   ·conv=>whnf
    intro _;conv=>whnf
    refine ⟨_,0,(.aa (.sk 2 (.aa (.aa (.sk 79 .nil rfl))) rfl)),rfl,rfl,?_⟩;exact ⟨by omega,KM _⟩
   rintro mm aW _ ⟨i,aC,rfl,rfl,⟨hi,hU⟩⟩
   obtain ⟨az,rfl⟩:∃ az:Nat→Value,aW=.slice (some ⟨0,0,none⟩) n c::zs az 1 2 (.int .i64 n::.int .i64 ((i+1:Nat):Int)::zs az 5 79 []):=bI aC;clear aC;conv=>whnf
   refine aN (fun h3=>?_) (fun h3=>?_)
   ·have h3:i+1 < n:=by
     have:=of_decide_eq_true h3;omega
    have e7:IntKind.i64.wrap (((i+1:Nat):Int)+1)=((i+1+1:Nat):Int):=by rw [ay (by omega) (by omega)]; rfl
    have ra:=rI (L:=L) (k:=i+1) (by omega)
    have sa:=bc _ (oI (L:=L) (k:=i+1) (by omega))
    have pa:=j4 (L:=L) (k:=i+1) (by omega)
    obtain ⟨a,ha⟩:∃ o,o=iY L (i+1):=⟨_,rfl⟩;rw [← ha] at ra sa pa;rw [← hg] at ra;have qa:=PV.dy sa (by decide)
    obtain ⟨k,hk⟩:∃ k,k=i+1:=⟨_,rfl⟩;rw [← hk] at ra e7 h3 ⊢;conv=>whnf
    refine .inl ⟨7,[[],[0],[0,1],[],[],[3,4],[3,4,5],[0,1,2,3,4,5,6],[0,1,2,3,4,5,6,7]],by kernel_rfl,?_⟩
    conv=>whnf
    refine ⟨⟨by omega,by omega⟩,?_⟩
    simp only [toNat_cast,aB,Nat.zero_add];conv=>whnf
    refine ⟨by show 0 < n; omega,?_⟩
    conv=>whnf
    rw [zQ];conv=>whnf
    refine ⟨⟨by omega,by omega⟩,?_⟩
    simp only [toNat_cast,aB,Nat.zero_add];conv=>whnf
    refine ⟨by show k < n; omega,?_⟩
    conv=>whnf
    rw [ra];conv=>whnf
    obtain ⟨z,ez,pz⟩:=eU (fC o.p a.p);refine ⟨(o,a),rfl,⟨PV.aQ so (by decide),PV.aQ sa (by decide)⟩,?_⟩
    rw [show oW.val (o,a)=.int .i64 z from ez]
    conv=>whnf
    rw [pa,po] at pz;by_cases h4:gk (aw (aV L) 0) (aw (aV L) (i+1))
    ·have:=yG.2 h4;rw [show decide (z ≥ 0)=false from decide_eq_false (by omega)]
     conv=>whnf
     rw [e7,hk];refine .inr ⟨[0],[0,3,4],?_⟩;conv=>whnf
     intro _;conv=>whnf
     refine ⟨_,?_,i+1,(.aa (.sk 2 (.aa (.aa (.sk 79 .nil rfl))) rfl)),rfl,rfl,?_⟩
     ·omega
     ·exact ⟨by omega,Lr hU h4⟩
    ·have:¬ fC (aw (aV L) 0) (aw (aV L) (i+1)) < 0:=fun e=>h4 (yG.1 e)
     rw [show decide (z ≥ 0)=true from decide_eq_true (by omega)]
     conv=>whnf
     exact fin 8 (NO (by omega) qM fun e=>h4 (e (i+1) (by omega) (by rw [cY]; omega)))
   ·have h3:i+1=n:=by
     have:=of_decide_eq_false h3;omega
    have nY:=Mg hU (by rw [cY]; omega)
    have xX:3≤(aV L).length:=by rw [cY]; omega
    conv=>whnf
    skip
    refine .inl ⟨fun mm tz hz=>∃ (j:Nat),bB (some (.slice (some ⟨0,0,none⟩) n c)::aG 2 (some (.int .i64 n)::aG 1 (some (.int .i64 j)::aG 78 []))) tz∧hz=[some (.flat false n 6 g)]∧n - j=mm∧(j≤n∧∀ k,k < j→¬ oO (aV L) k),.inr ⟨[0],[0,3,5],?_⟩,?_⟩
    ·conv=>whnf
     intro _;conv=>whnf
     refine ⟨_,0,(.aa (.sk 2 (.aa (.sk 1 (.aa (.sk 78 .nil rfl)) rfl)) rfl)),rfl,rfl,?_⟩;exact ⟨Nat.zero_le _,fun k hk=>absurd hk (Nat.not_lt_zero k)⟩
    rintro mm aW _ ⟨j,aC,rfl,rfl,⟨hj,hB⟩⟩
    obtain ⟨az,rfl⟩:∃ az:Nat→Value,aW=.slice (some ⟨0,0,none⟩) n c::zs az 1 2 (.int .i64 n::zs az 4 1 (.int .i64 j::zs az 6 78 [])):=bI aC;clear aC;conv=>whnf
    refine aN (fun h3=>?_) (fun h3=>?_)
    ·have h3:j < n:=by
      have:=of_decide_eq_true h3;omega
     have e7:IntKind.i64.wrap ((j:Int)+1)=((j+1:Nat):Int):=by rw [ay (by omega) (by omega)]; rfl
     obtain ⟨a,b,ra,rb,⟨ma,mb⟩,_,cE,ha,hb⟩:=tO hn h3;have sa:=bc a ma;have sb:=bc b mb;have qa:=PV.dy sa (by decide)
     have qb:=PV.dy sb (by decide)
     have P4:=cO cE;have rd:=rI (L:=L) (k:=aY n (aY n j)) (by omega)
     have sd:=bc _ (oI (L:=L) (k:=aY n (aY n j)) (by omega))
     have pd:=j4 (L:=L) (k:=aY n (aY n j)) (by omega)
     obtain ⟨d,hd⟩:∃ o,o=iY L (aY n (aY n j)):=⟨_,rfl⟩;rw [← hd] at rd sd pd;have qd:=PV.dy sd (by decide)
     have pa:a.p=aw (aV L) j:=by rw [ha]; exact j4 (by omega)
     have pb:b.p=aw (aV L) (aY n j):=by rw [hb]; exact j4 (by omega)
     have cT:=ld h3 (by omega)
     have Iw:=Z1 h3 (by omega)
     have fM:n=(aV L).length:=by rw [cY,hn]
     have zN:oO (aV L) j↔ao a.p b.p d.p≤0∨(0 < j∧j+1 < n∧ao (aw (aV L) 0) (aw (aV L) j) (aw (aV L) (j+1))≤0):=by
      unfold oO;rw [← fM,pa,pb,pd]
     obtain ⟨u,hu⟩:∃ u,u=aY n j:=⟨_,rfl⟩;rw [← hu] at cT cE rb P4 Iw rd;obtain ⟨w,hw⟩:∃ w,w=aY n u:=⟨_,rfl⟩;rw [← hw] at P4 Iw rd;rw [← hg] at ra rb rd;conv=>whnf
     refine .inl ⟨42,[[],[],[0,1],[0,1,2],[],[],[5],[],[5,6,7],[4,5,6,7,8],[4,5,6,7,8,9],[],[],[12],[],[12,13,14],[11,12,13,14,15],[11,12,13,14,15,16],[0,1,2,3,4,5,6,7,8,9,10,11,12,13,14,15,16,17],[0,1,2,3,4,5,6,7,8,9,10,11,12,13,14,15,16,17,18],[0,1,2,3,4,5,6,7,8,9,10,11,12,13,14,15,16,17,18,19],[0,1,2,3,4,5,6,7,8,9,10,11,12,13,14,15,16,17,18,19,20],[0,1,2,3,4,5,6,7,8,9,10,11,12,13,14,15,16,17,18,19,20,21],[0,1,2,3,4,5,6,7,8,9,10,11,12,13,14,15,16,17,18,19,20,21,22],[0,1,2,3,4,5,6,7,8,9,10,11,12,13,14,15,16,17,18,19,20,21,22,23],[0,1,2,3,4,5,6,7,8,9,10,11,12,13,14,15,16,17,18,19,20,21,22,23,24],[0,1,2,3,4,5,6,7,8,9,10,11,12,13,14,15,16,17,18,19,20,21,22,23],[0,1,2,3,4,5,6,7,8,9,10,11,12,13,14,15,16,17,18,19,20,21,22,23,24,25,26],[0,1,2,3,4,5,6,7,8,9,10,11,12,13,14,15,16,17,18,19,20,21,22,23,24,25,26,27],[0,1,2,3,4,5,6,7,8,9,10,11,12,13,14,15,16,17,18,19,20,21,22,23,24,25,26,27,28],[0,1,2,3,4,5,6,7,8,9,10,11,12,13,14,15,16,17,18,19,20,21,22,23,24,25,26,27,28,29],[0,1,2,3,4,5,6,7,8,9,10,11,12,13,14,15,16,17,18,19,20,21,22,23,24,25,26,27,28,29,30],[0,1,2,3,4,5,6,7,8,9,10,11,12,13,14,15,16,17,18,19,20,21,22,23,24,25,26,27,28,29,30,31],[0,1,2,3,4,5,6,7,8,9,10,11,12,13,14,15,16,17,18,19,20,21,22,23,24,25,26,27,28,29],[0,1,2,3,4,5,6,7,8,9,10,11,12,13,14,15,16,17,18,19,20,21,22,23,24,25,26,27,28,29],[0,1,2,3,4,5,6,7,8,9,10,11,12,13,14,15,16,17,18,19,20,21,22,23,24,25,26,27,28,29,33,34],[0,1,2,3,4,5,6,7,8,9,10,11,12,13,14,15,16,17,18,19,20,21,22,23,24,25,26,27,28,29,33,34,35],[0,1,2,3,4,5,6,7,8,9,10,11,12,13,14,15,16,17,18,19,20,21,22,23,24,25,26,27,28,29],[0,1,2,3,4,5,6,7,8,9,10,11,12,13,14,15,16,17,18,19,20,21,22,23,24,25,26,27,28,29],[0,1,2,3,4,5,6,7,8,9,10,11,12,13,14,15,16,17,18,19,20,21,22,23,24,25,26,27,28,29,38],[0,1,2,3,4,5,6,7,8,9,10,11,12,13,14,15,16,17,18,19,20,21,22,23,24,25,26,27,28,29,37,38,39],[0,1,2,3,4,5,6,7,8,9,10,11,12,13,14,15,16,17,18,19,20,21,22,23,24,25,26,27,28,29,37,38,39,40],[0,1,2,3,4,5,6,7,8,9,10,11,12,13,14,15,16,17,18,19,20,21,22,23,24,25,26,27,28,29,30,31,32,33,34,35,36,37,38,39,40,41],[0,1,2,3,4,5,6,7,8,9,10,11,12,13,14,15,16,17,18,19,20,21,22,23,24,25,26,27,28,29,30,31,32,33,34,35,36,37,38,39,40,41,42],[0,1,2,3,4,5,6,7,8,9,10,11,12,13,14,15,16,17,18,19,20,21,22,23,24,25,26,27,28,29,30,31,32,33,34,35,36,37,38,39,40,41,42,43],[0,1,2,3,4,5,6,7,8,9,10,11,12,13,14,15,16,17,18,19,20,21,22,23,24,25,26,27,28,29,30,31,32,33,34,35,36,37,38,39,40,41,42,43,44]],by kernel_rfl,?_⟩
     conv=>whnf
     refine ⟨⟨by omega,by omega⟩,?_⟩
     simp only [toNat_cast,aB,Nat.zero_add];conv=>whnf
     refine ⟨by show j < n; omega,?_⟩
     conv=>whnf
     rw [ra];conv=>whnf
     rw [show decide ((n:Int)≠0)=true from decide_eq_true (by omega)]
     conv=>whnf
     rw [cT];refine ⟨⟨by omega,by omega⟩,?_⟩
     simp only [toNat_cast,aB,Nat.zero_add];conv=>whnf
     refine ⟨by show u < n; omega,?_⟩
     conv=>whnf
     rw [rb];conv=>whnf
     rw [show decide ((n:Int)≠0)=true from decide_eq_true (by omega)]
     conv=>whnf
     rw [Iw];refine ⟨⟨by omega,by omega⟩,?_⟩
     simp only [toNat_cast,aB,Nat.zero_add];conv=>whnf
     refine ⟨by show w < n; omega,?_⟩
     conv=>whnf
     rw [rd];conv=>whnf
     obtain ⟨z,ez,pz⟩:=eU (a8 (ao a.p b.p d.p) 0);refine ⟨(a,b,d),rfl,⟨PV.aQ sa (by decide),PV.aQ sb (by decide),PV.aQ sd (by decide)⟩,?_⟩
     rw [show lW.val (a,b,d)=.int .i64 z from ez]
     conv=>whnf
     have cz:z≤0↔ao a.p b.p d.p≤0:=by rw [pz]; exact Gx
     by_cases h4:z≤0
     ·rw [show decide (z≤0)=true from decide_eq_true h4]
      conv=>whnf
      exact fin 15 (GA (by omega) qM nY fun e=>(yz xX nY).1 e j (by rw [cY]; omega) (zN.2 (.inl (cz.1 h4))))
     ·rw [show decide (z≤0)=false from decide_eq_false h4]
      have next:¬ oO (aV L) j→∀ k,k < j+1→¬ oO (aV L) k:=fun hb k hk=>by
       rcases Nat.lt_or_eq_of_le (Nat.le_of_lt_succ hk) with e | e
       ·exact hB k e
       ·rw [e]; exact hb
      conv=>whnf
      by_cases h5:0 < j
      ·rw [show decide ((j:Int) > 0)=true from decide_eq_true (by omega)]
       conv=>whnf
       rw [e7];by_cases h6:j+1 < n
       ·rw [show decide (((j+1:Nat):Int) < (n:Int))=true from decide_eq_true (by omega)]
        have rv:=rI (L:=L) (k:=j+1) (by omega)
        have sv:=bc _ (oI (L:=L) (k:=j+1) (by omega))
        have pv:=j4 (L:=L) (k:=j+1) (by omega)
        obtain ⟨v,hv⟩:∃ o,o=iY L (j+1):=⟨_,rfl⟩;rw [← hv] at rv sv pv;rw [← hg] at rv;have qv:=PV.dy sv (by decide)
        obtain ⟨k,hk⟩:∃ k,k=j+1:=⟨_,rfl⟩;rw [← hk] at rv;conv=>whnf
        refine ⟨⟨by omega,by omega⟩,?_⟩
        simp only [toNat_cast,aB,Nat.zero_add];conv=>whnf
        refine ⟨by show 0 < n; omega,?_⟩
        conv=>whnf
        rw [zQ];conv=>whnf
        refine ⟨⟨by omega,by omega⟩,?_⟩
        simp only [toNat_cast,aB,Nat.zero_add];conv=>whnf
        refine ⟨by show j < n; omega,?_⟩
        conv=>whnf
        rw [ra];conv=>whnf
        rw [e7,← hk];refine ⟨⟨by omega,by omega⟩,?_⟩
        simp only [toNat_cast,aB,Nat.zero_add];conv=>whnf
        refine ⟨by show k < n; omega,?_⟩
        conv=>whnf
        rw [rv];conv=>whnf
        obtain ⟨y,ey,py⟩:=eU (a8 (ao o.p a.p v.p) 0);refine ⟨(o,a,v),rfl,⟨PV.aQ so (by decide),PV.aQ sa (by decide),PV.aQ sv (by decide)⟩,?_⟩
        rw [show lW.val (o,a,v)=.int .i64 y from ey]
        conv=>whnf
        have cy:y≤0↔ao o.p a.p v.p≤0:=by rw [py]; exact Gx
        rw [pa,po,pv] at cy;by_cases h7:y≤0
        ·rw [show decide (y≤0)=true from decide_eq_true h7]
         conv=>whnf
         exact fin 15 (GA (by omega) qM nY fun e=>(yz xX nY).1 e j (by rw [cY]; omega) (zN.2 (.inr ⟨h5,h6,cy.1 h7⟩)))
        ·rw [show decide (y≤0)=false from decide_eq_false h7]
         conv=>whnf
         rw [e7];refine .inr ⟨[0],[0,3,5],?_⟩;conv=>whnf
         intro _;conv=>whnf
         refine ⟨_,?_,j+1,(.aa (.sk 2 (.aa (.sk 1 (.aa (.sk 78 .nil rfl)) rfl)) rfl)),rfl,rfl,?_⟩
         ·omega
         ·exact ⟨by omega,next fun e=>(zN.1 e).elim (fun e=>h4 (cz.2 e)) fun e=>h7 (cy.2 e.2.2)⟩
       ·rw [show decide (((j+1:Nat):Int) < (n:Int))=false from decide_eq_false (by omega)]
        conv=>whnf
        rw [e7];refine .inr ⟨[0],[0,3,5],?_⟩;conv=>whnf
        intro _;conv=>whnf
        refine ⟨_,?_,j+1,(.aa (.sk 2 (.aa (.sk 1 (.aa (.sk 78 .nil rfl)) rfl)) rfl)),rfl,rfl,?_⟩
        ·omega
        ·exact ⟨by omega,next fun e=>(zN.1 e).elim (fun e=>h4 (cz.2 e)) fun e=>h6 e.2.1⟩
      ·rw [show decide ((j:Int) > 0)=false from decide_eq_false (by omega)]
       conv=>whnf
       rw [e7];refine .inr ⟨[0],[0,3,5],?_⟩;conv=>whnf
       intro _;conv=>whnf
       refine ⟨_,?_,j+1,(.aa (.sk 2 (.aa (.sk 1 (.aa (.sk 78 .nil rfl)) rfl)) rfl)),rfl,rfl,?_⟩
       ·omega
       ·exact ⟨by omega,next fun e=>(zN.1 e).elim (fun e=>h4 (cz.2 e)) fun e=>h5 e.1⟩
    ·have h3:j=n:=by
      have:=of_decide_eq_false h3;omega
     subst h3;conv=>whnf
     exact fin 0 (MZ (by omega) qM nY ((yz xX nY).2 fun k hk=>hB k (by rw [cY] at hk; omega)))
def Er3:Env:=En [(77,.p lW)]
theorem ade:EnvOk Tryz.prog Er3:=bH ⟨Lx,trivial⟩ trivial
open Go Go.Ae
theorem OD:bh Tryz.prog 79 nV:=by
 refine bk ade aP Tryz.func79 (enters_of Tryz.func79 (by kernel_rfl) rfl) (fun _=>rfl) (fun _=>rfl) ?_
 intro ⟨⟨n1,a1,b1⟩,⟨n2,a2,b2⟩⟩ _;have An:∀ x:ByteArray,12 < x.size→decide ((x.size:Int) > 12)=true:=fun x h=>decide_eq_true (by omega)
 have small:∀ x:ByteArray,¬ 12 < x.size→decide ((x.size:Int) > 12)=false:=fun x h=>decide_eq_false (by omega)
 conv=>whnf
 by_cases h1:12 < a1.size
 ·rw [An _ h1];conv=>whnf
  exact B8 (by omega)
 rw [small _ h1];conv=>whnf
 by_cases J:12 < b1.size
 ·rw [An _ J];conv=>whnf
  exact B8 (by omega)
 rw [small _ J];conv=>whnf
 by_cases h3:12 < a2.size
 ·rw [An _ h3];conv=>whnf
  exact B8 (by omega)
 rw [small _ h3];conv=>whnf
 by_cases h4:12 < b2.size
 ·rw [An _ h4];exact B8 (by omega)
 rw [small _ h4];exact Z5 (by omega)
def Es1:Env:=En [(79,.p nV)]
theorem adf:EnvOk Tryz.prog Es1:=bH ⟨OD,trivial⟩ trivial
theorem TU:dk Tryz.prog 53 ku:=by
 refine eI adf aP Tryz.func53 (enters_of Tryz.func53 (by kernel_rfl) rfl) ?_ ?_ ?_
 ·intro i b hb;cases i with
  | none=>simp [ku,PL.ae] at hb
  | some i=>simp [ku,PL.ae] at hb; rw [hb]; rfl
 ·intro i b hb; simp [ku] at hb
 intro i hp;have hp:i.list.length≤9223372036854775807:=hp;cases i with
 | none =>
  conv=>whnf
  refine .inr ⟨1,?_⟩;conv=>whnf
  exact ⟨.bool false,rfl,.refl _⟩
 | some i =>
  obtain ⟨L,c⟩:=i;have hlen:L.length≤9223372036854775807:=hp;obtain ⟨n,hn⟩:∃ n,n=L.length:=⟨_,rfl⟩;obtain ⟨g,hg⟩:∃ g,g=di L:=⟨_,rfl⟩;have fin:∀ z:Bool,mS L=z→∃ v',cR (List.range 1) 3 (ku.val (some (L,c)))=some v'∧fe (.bool z) v':=fun z h=>⟨.bool z,by rw [← h]; rfl,.refl _⟩
  rw [show ku.ae (some (L,c))=[.flat false n 6 g] from by rw [hn,hg]; rfl,show ku.args (some (L,c))=[.slice (some ⟨0,0,none⟩) n c] from by rw [hn]; rfl]
  rw [← hn] at hlen;conv=>whnf
  by_cases J:66 < n
  ·rw [show decide ((n:Int) > 10)=true from decide_eq_true (by omega)]
   conv=>whnf
   rw [show decide ((n:Int) < 63)=false from decide_eq_false (by omega)]
   conv=>whnf
   rw [show decide ((n:Int) > 66)=true from decide_eq_true (by omega)]
   conv=>whnf
   exact fin true (Ls (.inr (by omega)))
  by_cases h1:10 < n∧n < 63
  ·rw [show decide ((n:Int) > 10)=true from decide_eq_true (by omega)]
   conv=>whnf
   rw [show decide ((n:Int) < 63)=true from decide_eq_true (by omega)]
   conv=>whnf
   exact fin true (Ls (.inl (by omega)))
  have aek:=Ty (L:=L) (by omega)
  have fin:=fun (z:Bool) (h:uu 12 L=z)=>fin z (aek.trans h)
  by_cases h3:10 < n
  ·rw [show decide ((n:Int) > 10)=true from decide_eq_true (by omega)]
   conv=>whnf
   rw [show decide ((n:Int) < 63)=false from decide_eq_false (by omega)]
   conv=>whnf
   rw [show decide ((n:Int) > 66)=false from decide_eq_false (by omega)]
   conv=>whnf
   refine .inl ⟨fun mm tz hz=>∃ (i:Nat),bB (some (.slice (some ⟨0,0,none⟩) n c)::aG 2 (some (.int .i64 i)::aG 24 [])) tz∧hz=[some (.flat false n 6 g)]∧n - i=mm∧(i≤n∧ue 12 L i),.inr ⟨[0],[0,3],?_⟩,?_⟩
   ·conv=>whnf
    intro _;conv=>whnf
    refine ⟨_,0,(.aa (.sk 2 (.aa (.sk 24 .nil rfl)) rfl)),rfl,rfl,?_⟩;exact ⟨Nat.zero_le _,J3 _ _⟩
   rintro mm aW _ ⟨i,aC,rfl,rfl,⟨hi,hU⟩⟩
   obtain ⟨az,rfl⟩:∃ az:Nat→Value,aW=.slice (some ⟨0,0,none⟩) n c::zs az 1 2 (.int .i64 i::zs az 4 24 []):=bI aC;clear aC;conv=>whnf
   refine aN (fun h3=>?_) (fun h3=>?_)
   ·have h3:i < n:=by
     have:=of_decide_eq_true h3;omega
    have e7:IntKind.i64.wrap ((i:Int)+1)=((i+1:Nat):Int):=by rw [ay (by omega) (by omega)]; rfl
    obtain ⟨m,kO,mE,aZ⟩:=rG (l:=L) (i:=i) (by omega)
    rw [← hg] at aZ;conv=>whnf
    refine ⟨⟨by omega,by omega⟩,?_⟩
    simp only [toNat_cast,aB,Nat.zero_add];conv=>whnf
    refine ⟨by show i < n; omega,?_⟩
    conv=>whnf
    rw [aZ];conv=>whnf
    refine ⟨m,rfl,trivial,?_⟩;by_cases h4:m.sz 12
    ·rw [show nV.val m=.bool false from congrArg Value.bool (decide_eq_false fun e=>e h4)]
     conv=>whnf
     rw [e7];refine .inr ⟨[0],[0,3],?_⟩;conv=>whnf
     intro _;conv=>whnf
     refine ⟨_,?_,i+1,(.aa (.sk 2 (.aa (.sk 24 .nil rfl)) rfl)),rfl,rfl,?_⟩
     ·omega
     ·exact ⟨by omega,Kj hU kO h4⟩
    ·rw [show nV.val m=.bool true from congrArg Value.bool (decide_eq_true h4)]
     conv=>whnf
     exact fin true (EA mE h4)
   ·have h3:i=n:=by
     have:=of_decide_eq_false h3;omega
    subst h3;conv=>whnf
    exact fin false (KH (by rw [← hn]; exact hU))
  ·rw [show decide ((n:Int) > 10)=false from decide_eq_false (by omega)]
   conv=>whnf
   rw [show decide ((n:Int) > 66)=false from decide_eq_false (by omega)]
   conv=>whnf
   refine .inl ⟨fun mm tz hz=>∃ (i:Nat),bB (some (.slice (some ⟨0,0,none⟩) n c)::aG 2 (some (.int .i64 i)::aG 24 [])) tz∧hz=[some (.flat false n 6 g)]∧n - i=mm∧(i≤n∧ue 12 L i),.inr ⟨[0],[0,3],?_⟩,?_⟩
   ·conv=>whnf
    intro _;conv=>whnf
    refine ⟨_,0,(.aa (.sk 2 (.aa (.sk 24 .nil rfl)) rfl)),rfl,rfl,?_⟩;exact ⟨Nat.zero_le _,J3 _ _⟩
   rintro mm aW _ ⟨i,aC,rfl,rfl,⟨hi,hU⟩⟩
   obtain ⟨az,rfl⟩:∃ az:Nat→Value,aW=.slice (some ⟨0,0,none⟩) n c::zs az 1 2 (.int .i64 i::zs az 4 24 []):=bI aC;clear aC;conv=>whnf
   refine aN (fun h3=>?_) (fun h3=>?_)
   ·have h3:i < n:=by
     have:=of_decide_eq_true h3;omega
    have e7:IntKind.i64.wrap ((i:Int)+1)=((i+1:Nat):Int):=by rw [ay (by omega) (by omega)]; rfl
    obtain ⟨m,kO,mE,aZ⟩:=rG (l:=L) (i:=i) (by omega)
    rw [← hg] at aZ;conv=>whnf
    refine ⟨⟨by omega,by omega⟩,?_⟩
    simp only [toNat_cast,aB,Nat.zero_add];conv=>whnf
    refine ⟨by show i < n; omega,?_⟩
    conv=>whnf
    rw [aZ];conv=>whnf
    refine ⟨m,rfl,trivial,?_⟩;by_cases h4:m.sz 12
    ·rw [show nV.val m=.bool false from congrArg Value.bool (decide_eq_false fun e=>e h4)]
     conv=>whnf
     rw [e7];refine .inr ⟨[0],[0,3],?_⟩;conv=>whnf
     intro _;conv=>whnf
     refine ⟨_,?_,i+1,(.aa (.sk 2 (.aa (.sk 24 .nil rfl)) rfl)),rfl,rfl,?_⟩
     ·omega
     ·exact ⟨by omega,Kj hU kO h4⟩
    ·rw [show nV.val m=.bool true from congrArg Value.bool (decide_eq_true h4)]
     conv=>whnf
     exact fin true (EA mE h4)
   ·have h3:i=n:=by
     have:=of_decide_eq_false h3;omega
    subst h3;conv=>whnf
    exact fin false (KH (by rw [← hn]; exact hU))
open Go Go.Ae
open Go Go.Ae
open Go Go.Ae
def Ea1:Env:=En [(55,.p qF)]
theorem adg:EnvOk Tryz.prog Ea1:=bH ⟨OC,trivial⟩ trivial
theorem U1:dk Tryz.prog 54 hJ:=by
 refine eI adg aP Tryz.func54 (enters_of Tryz.func54 (by kernel_rfl) rfl) ?_ ?_ ?_
 ·intro i b hb; simp [hJ] at hb; rw [hb]; rfl
 ·intro i b hb; simp [hJ] at hb; rw [← hb]; rfl
 intro (L:II) hp;have hp:(0 < L.length∧L.length≤1000000)∧∀ x∈L,x.1.natAbs < 256∧x.2.natAbs < 256:=hp;obtain ⟨⟨h0,hlen⟩,Rk⟩:=hp;obtain ⟨n,hn⟩:∃ n,n=L.length:=⟨_,rfl⟩;obtain ⟨m,hm⟩:∃ m,m=2*n:=⟨_,rfl⟩;obtain ⟨g,hg⟩:∃ g,g=m6 L:=⟨_,rfl⟩;obtain ⟨K,hK⟩:∃ K,K=iT hJ L:=⟨_,rfl⟩;rw [show hJ.ae L=[.flat false m 1 g] from by rw [hm,hn,hg]; rfl,show hJ.args L=[.slice (some ⟨0,0,none⟩) m m] from by rw [hm,hn]; rfl,← hK]
 rw [← hn] at hlen h0;conv=>whnf
 refine .inl ⟨fun mm tz hz=>∃ (j:Nat) (i:Nat) (O:List Q2) (q:Nat) (F:Nat→List Value),bB (some (.slice (some ⟨0,0,none⟩) m m)::aG 2 (some (eD 1 q)::some (.int .i64 i)::aG 21 [])) tz∧hz=[some (.flat false m 1 g)]++zG 6 F q∧n - j=mm∧((j≤n∧q=j∧i=2*j∧q=O.length)∧O=bu (L.take j)∧(∀ r,r < q→F r=bP O r)),.inr ⟨[0],[0,3,4],?_⟩,?_⟩
 ·conv=>whnf
  intro _;conv=>whnf
  refine ⟨_,0,0,[],0,fun _=>[],(.aa (.sk 2 (.aa (.aa (.sk 21 .nil rfl))) rfl)),rfl,rfl,?_⟩
  exact ⟨⟨Nat.zero_le _,rfl,rfl,rfl⟩,rfl,fun r hr=>absurd hr (Nat.not_lt_zero r)⟩
 rintro mm aW _ ⟨j,i,O,q,F,aC,rfl,rfl,⟨⟨hj,Rl,hi,hq⟩,hO,hF⟩⟩
 obtain ⟨az,rfl⟩:∃ az:Nat→Value,aW=.slice (some ⟨0,0,none⟩) m m::zs az 1 2 (eD 1 q::.int .i64 i::zs az 5 21 []):=bI aC;clear aC;obtain ⟨k,hk⟩:∃ k,k=i+1:=⟨_,rfl⟩;have e1:IntKind.i64.wrap ((i:Int)+1)=(k:Int):=by rw [ay (by omega) (by omega),hk]; rfl
 have e2:IntKind.i64.wrap ((i:Int)+2)=((i+2:Nat):Int):=by rw [ay (by omega) (by omega)]; rfl
 cases q with
 | zero =>
  obtain rfl:O=[]:=List.eq_nil_of_length_eq_zero hq.symm;conv=>whnf
  rw [e1];refine aN (fun h1=>?_) (fun h1=>?_)
  ·have h1:j < n:=by
    have:=of_decide_eq_true h1;omega
   obtain ⟨x,hx⟩:∃ x,x=rh L j:=⟨_,rfl⟩;have gB:=NS (l:=L) (j:=j) (by omega)
   rw [← hx] at gB;have ra:g i=[.int .i64 x.1]:=by rw [hg,hi]; exact M5 hx
   have rb:g k=[.int .i64 x.2]:=by rw [hk,hg,hi]; exact M6 hx
   have ax:=M7 gB.2;rw [← hO] at ax;have hs:=Rk x gB.1;conv=>whnf
   refine .inl ⟨12,[[],[],[],[1,2],[1,2,3],[],[],[6],[5,6,7],[5,6,7,8],[1,2,3,4,5,6,7,8,9],[1,2,3,4,5,6,7,8,9,10],[0,1,2,3,4,5,6,7,8,9,10,11],[0,1,2,3,4,5,6,7,8,9,10,11,12]],by kernel_rfl,?_⟩
   conv=>whnf
   refine ⟨⟨by omega,by omega⟩,?_⟩
   simp only [toNat_cast,aB,Nat.zero_add];conv=>whnf
   refine ⟨by show i < m; omega,?_⟩
   conv=>whnf
   rw [ra];conv=>whnf
   rw [e1];refine ⟨⟨by omega,by omega⟩,?_⟩
   simp only [toNat_cast,aB,Nat.zero_add];conv=>whnf
   refine ⟨by show k < m; omega,?_⟩
   conv=>whnf
   rw [rb];conv=>whnf
   obtain ⟨u,cu,eu,pu,su,qu⟩:=w8 (u0 x.1 x.2 hs.1 hs.2);refine ⟨(x.1,x.2),rfl,⟨⟨by show -9223372036854775808≤x.1; omega,by show x.1 < 9223372036854775808; omega⟩,⟨by show -9223372036854775808≤x.2; omega,by show x.2 < 9223372036854775808; omega⟩⟩,?_⟩
   rw [show qF.val (x.1,x.2)=u.v from eu]
   conv=>whnf
   refine ⟨by show (0+1)*80≤140737488355328; decide,?_⟩
   conv=>whnf
   rw [e2];refine .inr ⟨[0,13],[0,3,4],?_⟩;conv=>whnf
   intro _;conv=>whnf
   refine ⟨_,?_,j+1,i+2,[iq x],1,_,(.aa (.sk 2 (.aa (.aa (.sk 21 .nil rfl))) rfl)),rfl,rfl,?_⟩
   ·omega
   ·exact ⟨⟨by omega,by omega,by omega,rfl⟩,by rw [ax]; rfl,wF cu rfl⟩
  ·exfalso;have:=of_decide_eq_false h1;omega
 | succ q =>
  have e0:i≠0:=by omega
  conv=>whnf
  rw [e1];refine aN (fun h1=>?_) (fun h1=>?_)
  ·have h1:j < n:=by
    have:=of_decide_eq_true h1;omega
   obtain ⟨x,hx⟩:∃ x,x=rh L j:=⟨_,rfl⟩;have gB:=NS (l:=L) (j:=j) (by omega)
   rw [← hx] at gB;have ra:g i=[.int .i64 x.1]:=by rw [hg,hi]; exact M5 hx
   have rb:g k=[.int .i64 x.2]:=by rw [hk,hg,hi]; exact M6 hx
   have ax:=M7 gB.2;rw [← hO] at ax;have hs:=Rk x gB.1;conv=>whnf
   refine .inl ⟨12,[[],[],[],[1,2],[1,2,3],[],[],[6],[5,6,7],[5,6,7,8],[1,2,3,4,5,6,7,8,9],[1,2,3,4,5,6,7,8,9,10],[0,1,2,3,4,5,6,7,8,9,10,11],[0,1,2,3,4,5,6,7,8,9,10,11,12]],by kernel_rfl,?_⟩
   conv=>whnf
   refine ⟨⟨by omega,by omega⟩,?_⟩
   simp only [toNat_cast,aB,Nat.zero_add];conv=>whnf
   refine ⟨by show i < m; omega,?_⟩
   conv=>whnf
   rw [ra];conv=>whnf
   rw [e1];refine ⟨⟨by omega,by omega⟩,?_⟩
   simp only [toNat_cast,aB,Nat.zero_add];conv=>whnf
   refine ⟨by show k < m; omega,?_⟩
   conv=>whnf
   rw [rb];conv=>whnf
   obtain ⟨u,cu,eu,pu,su,qu⟩:=w8 (u0 x.1 x.2 hs.1 hs.2);refine ⟨(x.1,x.2),rfl,⟨⟨by show -9223372036854775808≤x.1; omega,by show x.1 < 9223372036854775808; omega⟩,⟨by show -9223372036854775808≤x.2; omega,by show x.2 < 9223372036854775808; omega⟩⟩,?_⟩
   rw [show qF.val (x.1,x.2)=u.v from eu]
   conv=>whnf
   refine ⟨⟨by show 1≤1; decide,rfl,by show (q+1+1)*80≤140737488355328; omega⟩,?_⟩
   conv=>whnf
   refine ⟨[0,4],?_⟩;conv=>whnf
   intro _;conv=>whnf
   rw [e2];refine .inr ⟨[0,1],[0,3,4],?_⟩;conv=>whnf
   intro _;conv=>whnf
   refine ⟨_,?_,j+1,i+2,O++[iq x],q+1+1,_,(.aa (.sk 2 (.aa (.aa (.sk 21 .nil rfl))) rfl)),rfl,rfl,?_⟩
   ·omega
   ·exact ⟨⟨by omega,by omega,by omega,by rw [List.length_append,← hq]; rfl⟩,ax.symm,rM hq hF cu rfl⟩
  ·have h1:j=n:=by
    have:=of_decide_eq_false h1;omega
   subst h1;have hE:bu L=O:=by rw [hO,hn,List.take_length]
   have JP:O.length=(bu L).length:=by rw [hE]
   conv=>whnf
   rw [hK];unfold iT;rw [show hJ.new L=some (.flat true (q+1) 6 (bP O)) from by show some (aj.flat true L.length 6 (bP (bu L)))=_; rw [← hn,hE,← Rl],show hJ.val L=.slice (some ⟨1,0,none⟩) (q+1) aO from by show Value.slice (some ⟨1,0,none⟩) L.length aO=_; rw [← hn,← Rl]]
   refine ⟨1,?_⟩;conv=>whnf
   exact ⟨⟨rfl,ar.rH (fun h=>h) hF (fun r hr=>rfl)⟩,_,rfl,.refl _⟩
open Go Go.Ae
def Edz:Env:=th [(33,.p mo)]
theorem adh:EnvOk Tryz.prog Edz:=vf ⟨yX,trivial⟩ trivial
theorem Nh:dk Tryz.prog 18 cm:=by
 refine eI adh aP Tryz.func18 (enters_of Tryz.func18 (by kernel_rfl) rfl) ?_ ?_ ?_
 ·intro ⟨i,j⟩ b hb;cases i <;> cases j <;> simp [cm,PL.ae] at hb <;> (try rcases hb with rfl | rfl) <;> (try subst hb) <;> first | rfl | skip
 ·intro i b hb; simp [cm] at hb
 intro ⟨i,j⟩ hp;have hp:i.list.length≤1099511627776∧j.list.length≤1099511627776:=hp;obtain ⟨Rm,Qx⟩:=hp;cases i with
 | none =>
  cases j with
  | none =>
   conv=>whnf
   refine .inr ⟨1,?_⟩;conv=>whnf
   exact ⟨.bool true,rfl,.refl _⟩
  | some j =>
   obtain ⟨m,c⟩:=j;obtain ⟨n,hn⟩:∃ n,n=m.length:=⟨_,rfl⟩;obtain ⟨g,hg⟩:∃ g,g=di m:=⟨_,rfl⟩;have fin:∀ b:Bool,b=decide ([]=m)→∃ v',cR (List.range 1) 3 (cm.val (none,some (m,c)))=some v'∧fe (.bool b) v':=fun b h=>⟨.bool b,by rw [h]; rfl,.refl _⟩
   rw [show cm.ae (none,some (m,c))=[.flat false n 6 g] from by rw [hn,hg]; rfl,show cm.args (none,some (m,c))=[.slice none 0 0,.slice (some ⟨0,0,none⟩) n c] from by rw [hn]; rfl]
   by_cases h0:n=0
   ·have hm:m=[]:=List.length_eq_zero_iff.1 (hn.symm.trans h0);subst h0;conv=>whnf
    refine .inr ⟨1,?_⟩;conv=>whnf
    exact fin true (by rw [hm]; rfl)
   ·conv=>whnf
    rw [show (((0:Nat):Int) != ((n:Nat):Int))=true from by simp; omega]
    conv=>whnf
    exact fin false (by cases m with | nil=>exact absurd hn h0 | cons a m=>rfl)
 | some i =>
  obtain ⟨l,c⟩:=i;obtain ⟨k,hk⟩:∃ n,n=l.length:=⟨_,rfl⟩;obtain ⟨f,hf⟩:∃ g,g=di l:=⟨_,rfl⟩;have Rm:k≤1099511627776:=by rw [hk]; exact Rm
  cases j with
  | none =>
   have fin:∀ b:Bool,b=decide (l=[])→∃ v',cR (List.range 1) 3 (cm.val (some (l,c),none))=some v'∧fe (.bool b) v':=fun b h=>⟨.bool b,by rw [h]; rfl,.refl _⟩
   rw [show cm.ae (some (l,c),none)=[.flat false k 6 f] from by rw [hk,hf]; rfl,show cm.args (some (l,c),none)=[.slice (some ⟨0,0,none⟩) k c,.slice none 0 0] from by rw [hk]; rfl]
   by_cases h0:k=0
   ·have hm:l=[]:=List.length_eq_zero_iff.1 (hk.symm.trans h0);subst h0;conv=>whnf
    refine .inr ⟨1,?_⟩;conv=>whnf
    exact fin true (by rw [hm]; rfl)
   ·conv=>whnf
    rw [show (((k:Nat):Int) != ((0:Nat):Int))=true from by simp; omega]
    conv=>whnf
    exact fin false (by cases l with | nil=>exact absurd hk h0 | cons a m=>rfl)
  | some j =>
   obtain ⟨m,d⟩:=j;obtain ⟨n,hn⟩:∃ n,n=m.length:=⟨_,rfl⟩;obtain ⟨g,hg⟩:∃ g,g=di m:=⟨_,rfl⟩;have fin:∀ b:Bool,b=decide (l=m)→∃ v',cR (List.range 2) 3 (cm.val (some (l,c),some (m,d)))=some v'∧fe (.bool b) v':=fun b h=>⟨.bool b,by rw [h]; rfl,.refl _⟩
   rw [show cm.ae (some (l,c),some (m,d))=[.flat false k 6 f,.flat false n 6 g] from by rw [hk,hf,hn,hg]; rfl,show cm.args (some (l,c),some (m,d))=[.slice (some ⟨0,0,none⟩) k c,.slice (some ⟨1,0,none⟩) n d] from by rw [hk,hn]; rfl]
   by_cases h0:k=n
   ·obtain rfl:=h0;conv=>whnf
    rw [show ((k:Int) != (k:Int))=false from by simp]
    conv=>whnf
    refine .inl ⟨fun mm tz hz=>∃ (i:Nat),bB (some (.slice (some ⟨0,0,none⟩) k c)::some (.slice (some ⟨1,0,none⟩) k d)::aG 10 (some (.int .i64 k)::some (.int .i64 i)::aG 12 [])) tz∧hz=[some (.flat false k 6 f),some (.flat false k 6 g)]∧k - i=mm∧(i≤k∧u6 l m i),.inr ⟨[0,1],[0,1,12,13],?_⟩,?_⟩
    ·conv=>whnf
     intro _;conv=>whnf
     refine ⟨_,0,(.aa (.aa (.sk 10 (.aa (.aa (.sk 12 .nil rfl))) rfl))),rfl,rfl,?_⟩;exact ⟨Nat.zero_le _,Tf _ _⟩
    rintro mm aW _ ⟨i,aC,rfl,rfl,⟨hi,hN⟩⟩
    obtain ⟨az,rfl⟩:∃ az:Nat→Value,aW=.slice (some ⟨0,0,none⟩) k c::.slice (some ⟨1,0,none⟩) k d::zs az 2 10 (.int .i64 k::.int .i64 i::zs az 14 12 []):=bI aC;clear aC;conv=>whnf
    refine aN (fun h1=>?_) (fun h1=>?_)
    ·have h1:i < k:=by
      have:=of_decide_eq_true h1;omega
     obtain ⟨p,kN,_,aZ⟩:=rG (l:=l) (i:=i) (by omega)
     obtain ⟨q,JP,_,Pa⟩:=rG (l:=m) (i:=i) (by omega)
     rw [← hf] at aZ;rw [← hg] at Pa;have e7:IntKind.i64.wrap ((i:Int)+1)=((i+1:Nat):Int):=by rw [ay (by omega) (by omega)]; rfl
     conv=>whnf
     refine .inl ⟨8,[[],[],[0,1],[0,1,2],[],[],[4,5],[4,5,6],[0,1,2,3,4,5,6,7]],by kernel_rfl,?_⟩
     conv=>whnf
     refine ⟨⟨by omega,by omega⟩,?_⟩
     simp only [toNat_cast,aB,Nat.zero_add];conv=>whnf
     refine ⟨by show i < k; omega,?_⟩
     conv=>whnf
     rw [aZ];conv=>whnf
     refine ⟨⟨by omega,by omega⟩,?_⟩
     simp only [toNat_cast,aB,Nat.zero_add];conv=>whnf
     refine ⟨by show i < k; omega,?_⟩
     conv=>whnf
     rw [Pa];conv=>whnf
     rw [Df p q];by_cases J:p=q
     ·rw [decide_eq_true J];conv=>whnf
      rw [e7];refine .inr ⟨[0,1],[0,1,12,13],?_⟩;conv=>whnf
      intro _;conv=>whnf
      refine ⟨_,?_,i+1,(.aa (.aa (.sk 10 (.aa (.aa (.sk 12 .nil rfl))) rfl))),rfl,rfl,?_⟩
      ·omega
      ·exact ⟨by omega,Ux hN kN JP J⟩
     ·rw [decide_eq_false J];conv=>whnf
      exact fin false (decide_eq_false (ach kN JP J)).symm
    ·have h1:i=k:=by
      have:=of_decide_eq_false h1;omega
     subst h1;conv=>whnf
     exact fin true (decide_eq_true (VG (by rw [← hk]; exact hN) (hk.symm.trans hn))).symm
   ·conv=>whnf
    rw [show ((k:Int) != (n:Int))=true from by simp; omega]
    conv=>whnf
    exact fin false (decide_eq_false (fun e=>h0 (by rw [hk,hn,e]))).symm
open Go Go.Ae
def Ea2:Env:=th [(54,.q hJ),(16,.q bJ),(44,.q mr),(21,.q mc),(55,.p qF),(30,.p Gv),(33,.p mo),(38,.p gH),(18,.q cm)]
theorem adi:EnvOk Tryz.prog Ea2:=vf ⟨U1,Ng,Zr,Zs,OC,UR,yX,wT,Nh,trivial⟩ trivial
theorem TW:bh Tryz.prog 13 Ok:=by
 refine bk adi aP Tryz.func13 (enters_of Tryz.func13 (by kernel_rfl) rfl) (fun _=>rfl) (fun _=>rfl) ?_
 intro _ hp;obtain ⟨cu,dp⟩:∃ cu,cu=aO:=⟨_,rfl⟩;obtain ⟨gS,vM⟩:∃ g,g=bP (bu dr):=⟨_,rfl⟩;obtain ⟨gT,JQ⟩:∃ g,g=bP (bu jv):=⟨_,rfl⟩;obtain ⟨gU,JR⟩:∃ g,g=bP (bu jR):=⟨_,rfl⟩;obtain ⟨gM,AH⟩:∃ g,g=bP (bu jw):=⟨_,rfl⟩;have fS:PL.fit (some (ai (bu dr),cu)):=G6 (by decide) (by decide)
 have fT:PL.fit (some (ai (bu jv),cu)):=G6 (by decide) (by decide)
 have fU:PL.fit (some (ai (bu jR),cu)):=G6 (by decide) (by decide)
 conv=>whnf
 refine ⟨dr,[0],rfl,⟨by decide,by decide⟩,?_⟩
 rw [show hJ.ae dr=[.flat false 8 1 (m6 dr)] from rfl,show hJ.val dr=.slice (some ⟨1,0,none⟩) 4 cu from by rw [dp]; rfl,show hJ.new dr=some (.flat true 4 6 gS) from by rw [vM]; rfl]
 conv=>whnf
 refine ⟨BL dr _ rfl,?_⟩;conv=>whnf
 refine ⟨_,rfl,?_⟩;conv=>whnf
 refine ⟨jv,[2],rfl,⟨by decide,by decide⟩,?_⟩
 rw [show hJ.ae jv=[.flat false 6 1 (m6 jv)] from rfl,show hJ.val jv=.slice (some ⟨1,0,none⟩) 3 cu from by rw [dp]; rfl,show hJ.new jv=some (.flat true 3 6 gT) from by rw [JQ]; rfl]
 conv=>whnf
 refine ⟨BL jv _ rfl,?_⟩;conv=>whnf
 refine ⟨_,rfl,?_⟩;conv=>whnf
 refine ⟨(some (ai (bu dr),cu),some (ai (bu jv),cu)),[1,3],rfl,⟨⟨fS,fT⟩,zm (HB (by decide)) (HB (by decide))⟩,?_⟩
 rw [show bJ.ae (some (ai (bu dr),cu),some (ai (bu jv),cu))=[.flat false 4 6 gS,.flat false 3 6 gT] from by rw [vM,JQ]; rfl,M8.1,M8.2,← AH,← dp]
 conv=>whnf
 refine ⟨ar.aE (fun h=>by cases h) (fun r hr=>by rw [vM]; rfl),ar.aE (fun h=>by cases h) (fun r hr=>by rw [JQ]; rfl),?_⟩
 conv=>whnf
 refine ⟨_,rfl,?_⟩;conv=>whnf
 refine ⟨jR,[5],rfl,⟨by decide,by decide⟩,?_⟩
 rw [show hJ.ae jR=[.flat false 6 1 (m6 jR)] from rfl,show hJ.val jR=.slice (some ⟨1,0,none⟩) 3 cu from by rw [dp]; rfl,show hJ.new jR=some (.flat true 3 6 gU) from by rw [JR]; rfl]
 conv=>whnf
 refine ⟨BL jR _ rfl,?_⟩;conv=>whnf
 refine ⟨_,rfl,?_⟩;conv=>whnf
 obtain ⟨sa,AE⟩:∃ u,u=cB (iq (4,0)):=⟨_,rfl⟩;obtain ⟨sb,D1⟩:∃ u,u=cB (iq (4,4)):=⟨_,rfl⟩;refine ⟨(some (ai (bu dr),cu),some (ai (bu jR),cu)),[1,6],rfl,⟨fS,fU⟩,?_⟩;rw [show mr.ae (some (ai (bu dr),cu),some (ai (bu jR),cu))=[.flat false 4 6 gS,.flat false 3 6 gU] from by rw [vM,JR]; rfl,Xv AE D1,show mr.new (some (ai (bu dr),cu),some (ai (bu jR),cu))=none from rfl]
 conv=>whnf
 refine ⟨ar.aE (fun h=>by cases h) (fun r hr=>by rw [vM]; rfl),ar.aE (fun h=>by cases h) (fun r hr=>by rw [JR]; rfl),?_⟩
 conv=>whnf
 refine ⟨_,rfl,?_⟩;conv=>whnf
 obtain ⟨p1,cp1,ep1,pp1,sp1,qp1⟩:=w8 (u0 (-2) (1) (by decide) (by decide))
 refine ⟨(((-2:Int),(1:Int)):Int × Int),rfl,⟨⟨by decide,by decide⟩,⟨by decide,by decide⟩⟩,?_⟩
 rw [show qF.val (((-2:Int),(1:Int)):Int × Int)=p1.v from ep1]
 conv=>whnf
 obtain ⟨p2,cp2,ep2,pp2,sp2,qp2⟩:=w8 (u0 (6) (1) (by decide) (by decide))
 refine ⟨(((6:Int),(1:Int)):Int × Int),rfl,⟨⟨by decide,by decide⟩,⟨by decide,by decide⟩⟩,?_⟩
 rw [show qF.val (((6:Int),(1:Int)):Int × Int)=p2.v from ep2]
 conv=>whnf
 obtain ⟨lo,tq,elo,plo,tw,AF⟩:=G1 (q:=1 / 4) (k:=1) ⟨gE (show _ < C ^ 1 by decide +kernel),gE (show _ < C ^ 1 by decide +kernel)⟩
 obtain ⟨hi,tv,ehi,phi,vL,AG⟩:=G1 (q:=3 / 4) (k:=1) ⟨gE (show _ < C ^ 1 by decide +kernel),gE (show _ < C ^ 1 by decide +kernel)⟩
 refine ⟨(some (ai (bu dr),cu),(p1,p2)),[1],rfl,⟨fS,PV.aQ sp1 (by decide),PV.aQ sp2 (by decide)⟩,?_⟩
 rw [show mc.ae (some (ai (bu dr),cu),(p1,p2))=[.flat false 4 6 gS] from by rw [vM]; rfl,Xw cp1 cp2 tq tv,show mc.new (some (ai (bu dr),cu),(p1,p2))=none from rfl]
 conv=>whnf
 refine ⟨ar.aE (fun h=>by cases h) (fun r hr=>by rw [vM]; rfl),?_⟩
 conv=>whnf
 refine ⟨_,rfl,?_⟩;conv=>whnf
 refine ⟨(1,4),rfl,⟨by show vx 1; decide,by show vx 4; decide⟩,?_⟩
 rw [show Gv.val (1,4)=.tuple ⟨[lo.v,.int .i64 0]⟩ from by show lC 1 4=_; unfold lC; rw [show Rat.divInt 1 4=1 / 4 by decide +kernel,tq]; rfl]
 conv=>whnf
 refine .inl ⟨36,[[],[0],[0,1],[0,1,2],[0,1,2,3],[0,1,2,3,4],[0,1,2,3,4,5],[0,1,2,3,4,5,6],[0,1,2,3,4,5,6,7],[0,1,2,3,4,5,6,7,8],[0,1,2,3,4,5,6,7,8,9],[0,1,2,3,4,5,6,7,8,9,10],[0,1,2,3,4,5,6,7,8,9,10],[0,1,2,3,4,5,6,7,8,9,10,12],[0,1,2,3,4,5,6,7,8,9,10,11,12,13],[0,1,2,3,4,5,6,7,8,9,10,11,12,13,14],[0,1,2,3,4,5,6,7,8,9,10,11,12,13,14,15],[0,1,2,3,4,5,6,7,8,9,10,11,12,13,14,15,16],[0,1,2,3,4,5,6,7,8,9,10,11,12,13,14,15,16],[0,1,2,3,4,5,6,7,8,9,10,11,12,13,14,15,16,18],[0,1,2,3,4,5,6,7,8,9,10,11,12,13,14,15,16,18,19],[0,1,2,3,4,5,6,7,8,9,10,11,12,13,14,15,16,17,18,19,20],[0,1,2,3,4,5,6,7,8,9,10,11,12,13,14,15,16,17,18,19,20,21],[0,1,2,3,4,5,6,7,8,9,10,11,12,13,14,15,16,17,18,19,20,21,22],[0,1,2,3,4,5,6,7,8,9,10,11,12,13,14,15,16,17,18,19,20,21,22,23],[0,1,2,3,4,5,6,7,8,9,10,11,12,13,14,15,16,17,18,19,20,21,22,23,24],[0,1,2,3,4,5,6,7,8,9,10,11,12,13,14,15,16,17,18,19,20,21,22,23,24,25],[0,1,2,3,4,5,6,7,8,9,10,11,12,13,14,15,16,17,18,19,20,21,22,23,24,25,26],[0,1,2,3,4,5,6,7,8,9,10,11,12,13,14,15,16,17,18,19,20,21,22,23,24,25,26],[0,1,2,3,4,5,6,7,8,9,10,11,12,13,14,15,16,17,18,19,20,21,22,23,24,25,26,27,28],[0,1,2,3,4,5,6,7,8,9,10,11,12,13,14,15,16,17,18,19,20,21,22,23,24,25,26,27,28,29],[0,1,2,3,4,5,6,7,8,9,10,11,12,13,14,15,16,17,18,19,20,21,22,23,24,25,26,27,28,29,30],[0,1,2,3,4,5,6,7,8,9,10,11,12,13,14,15,16,17,18,19,20,21,22,23,24,25,26,27,28,29,30,31],[0,1,2,3,4,5,6,7,8,9,10,11,12,13,14,15,16,17,18,19,20,21,22,23,24,25,26,27,28,29,30,31],[0,1,2,3,4,5,6,7,8,9,10,11,12,13,14,15,16,17,18,19,20,21,22,23,24,25,26,27,28,29,30,31],[0,1,2,3,4,5,6,7,8,9,10,11,12,13,14,15,16,17,18,19,20,21,22,23,24,25,26,27,28,29,30,31,33,34],[0,1,2,3,4,5,6,7,8,9,10,11,12,13,14,15,16,17,18,19,20,21,22,23,24,25,26,27,28,29,30,31,32,33,34,35],[0,1,2,3,4,5,6,7,8,9,10,11,12,13,14,15,16,17,18,19,20,21,22,23,24,25,26,27,28,29,30,31,32,33,34,35,36],[0,1,2,3,4,5,6,7,8,9,10,11,12,13,14,15,16,17,18,19,20,21,22,23,24,25,26,27,28,29,30,31,32,33,34,35,36,37]],by kernel_rfl,?_⟩
 conv=>whnf
 refine ⟨jw,[23],rfl,⟨by decide,by decide⟩,?_⟩
 rw [show hJ.ae jw=[.flat false 8 1 (m6 jw)] from rfl,show hJ.val jw=.slice (some ⟨1,0,none⟩) 4 cu from by rw [dp]; rfl,show hJ.new jw=some (.flat true 4 6 gM) from by rw [AH]; rfl]
 conv=>whnf
 refine ⟨BL jw _ rfl,?_⟩;conv=>whnf
 refine ⟨_,rfl,?_⟩;conv=>whnf
 refine ⟨(some (ai (bu jw),cu),some (ai (bu jw),cu)),[4,24],rfl,⟨by show 4≤1099511627776; decide,by show 4≤1099511627776; decide⟩,?_⟩
 rw [show cm.ae (some (ai (bu jw),cu),some (ai (bu jw),cu))=[.flat false 4 6 gM,.flat false 4 6 gM] from by rw [AH]; rfl,show cm.val (some (ai (bu jw),cu),some (ai (bu jw),cu))=.bool true from congrArg Value.bool (decide_eq_true rfl),show cm.new (some (ai (bu jw),cu),some (ai (bu jw),cu))=none from rfl]
 conv=>whnf
 refine ⟨ar.aE (fun h=>by cases h) (fun r hr=>by rw [AH]; rfl),ar.aE (fun h=>by cases h) (fun r hr=>by rw [AH]; rfl),?_⟩
 conv=>whnf
 refine ⟨.bool true,rfl,?_⟩;conv=>whnf
 obtain ⟨q1,cq1,eq1,pq1,sq1,qq1⟩:=w8 (u0 (4) (0) (by decide) (by decide))
 refine ⟨(((4:Int),(0:Int)):Int × Int),rfl,⟨⟨by decide,by decide⟩,⟨by decide,by decide⟩⟩,?_⟩
 rw [show qF.val (((4:Int),(0:Int)):Int × Int)=q1.v from eq1]
 conv=>whnf
 obtain ⟨q2,cq2,eq2,pq2,sq2,qq2⟩:=w8 (u0 (4) (4) (by decide) (by decide))
 refine ⟨(((4:Int),(4:Int)):Int × Int),rfl,⟨⟨by decide,by decide⟩,⟨by decide,by decide⟩⟩,?_⟩
 rw [show qF.val (((4:Int),(4:Int)):Int × Int)=q2.v from eq2]
 conv=>whnf
 obtain rfl:sa=q1:=AE.trans cq1.symm;obtain rfl:sb=q2:=D1.trans cq2.symm;rw [eqX (sa,sb)];conv=>whnf
 rw [QI lo];conv=>whnf
 obtain ⟨o,co,eo,po,so,qo⟩:=G1 (q:=((1:Int):Rat)) (QB.of_int (n:=1) (k:=1) (gE (show Int.natAbs 1 < C ^ 1 by decide)) (by decide))
 refine ⟨(1:Int),rfl,⟨by decide,by decide⟩,?_⟩
 rw [show mo.val (1:Int)=o.v from eo]
 conv=>whnf
 refine ⟨(o,lo),rfl,⟨RV.bV so (by decide),RV.bV tw (by decide)⟩,?_⟩
 rw [show gH.val (o,lo)=hi.v from by show (RV.of (o.q - lo.q)).v=_; rw [po,plo,show ((1:Int):Rat) - 1 / 4=3 / 4 by decide +kernel,tv]]
 conv=>whnf
 show Value.bool (eT _ _)=Value.bool true
 exact congrArg Value.bool (QI hi)
open Go Go.Ae
def Ee1:Env:=En [(53,.q ku),(24,.q aX)]
theorem adj:EnvOk Tryz.prog Ee1:=bH ⟨TU,TS,trivial⟩ trivial
theorem Wy:dk Tryz.prog 78 fg:=by
 refine eI adj aP Tryz.func78 (enters_of Tryz.func78 (by kernel_rfl) rfl) ?_ ?_ ?_
 ·intro i b hb;cases i <;> simp [fg,PL.ae] at hb
  rw [hb]; rfl
 ·intro i b hb; simp [fg] at hb
 intro i hp;have hp:i.list.length≤9223372036854775807:=hp;have fin:∀ (z:Bool) n,z=j6 i.list→∃ v',cR (List.range n) 3 (fg.val i)=some v'∧fe (.bool z) v':=fun z n h=>⟨.bool z,by rw [h]; rfl,.refl _⟩
 cases i with
 | none =>
  conv=>whnf
  refine ⟨none,[],rfl,hp,?_⟩;rw [show ku.ae none=[] from rfl,show ku.val none=.bool false from rfl,show ku.new none=none from rfl]
  conv=>whnf
  refine ⟨_,rfl,?_⟩;conv=>whnf
  refine ⟨none,[],rfl,⟨Nat.zero_le _,fun v hv=>nomatch hv⟩,?_⟩
  rw [show aX.ae none=[] from rfl,show aX.val none=.int .i64 4 from rfl,show aX.new none=none from rfl]
  conv=>whnf
  refine ⟨_,rfl,?_⟩;conv=>whnf
  exact fin true _ rfl
 | some i =>
  obtain ⟨A,c⟩:=i;have hp:A.length≤9223372036854775807:=hp;have fin:=fun z=>fin z 1
  have fin:∀ z:Bool,z=j6 A→∃ v',cR (List.range 1) 3 (fg.val (some (A,c)))=some v'∧fe (.bool z) v':=fin;obtain ⟨n,hn⟩:∃ n,n=A.length:=⟨_,rfl⟩;obtain ⟨g,hg⟩:∃ g,g=di A:=⟨_,rfl⟩;obtain ⟨G,hG⟩:∃ G,G=mS A:=⟨_,rfl⟩;rw [show fg.ae (some (A,c))=[.flat false n 6 g] from by rw [hn,hg]; rfl,show fg.args (some (A,c))=[.slice (some ⟨0,0,none⟩) n c] from by rw [hn]; rfl]
  conv=>whnf
  refine ⟨some (A,c),[0],by rw [show ku.args (some (A,c))=[.slice (some ⟨0,0,none⟩) n c] from by rw [hn]; rfl]; rfl,hp,?_⟩
  rw [show ku.ae (some (A,c))=[.flat false n 6 g] from by rw [hn,hg]; rfl,show ku.val (some (A,c))=.bool G from by rw [hG]; rfl,show ku.new (some (A,c))=none from rfl]
  conv=>whnf
  refine ⟨ar.aE (fun h=>h) (fun r hr=>by rw [hg]; rfl),?_⟩
  conv=>whnf
  refine ⟨_,rfl,?_⟩;conv=>whnf
  cases G with
  | true =>
   conv=>whnf
   exact fin true (Xx hG.symm).symm
  | false =>
   have hs:=Mk hG.symm;conv=>whnf
   by_cases J:10 < n
   ·rw [show decide ((n:Int) > 10)=true from decide_eq_true (by omega)]
    conv=>whnf
    exact fin true (Wc (by omega)).symm
   ·rw [show decide ((n:Int) > 10)=false from decide_eq_false (by omega)]
    conv=>whnf
    obtain ⟨e,he⟩:∃ z,z=bz A:=⟨_,rfl⟩;refine ⟨some (A,c),[0],by rw [show aX.args (some (A,c))=[.slice (some ⟨0,0,none⟩) n c] from by rw [hn]; rfl]; rfl,⟨by show A.length≤_; omega,Dh hs.2⟩,?_⟩
    rw [show aX.ae (some (A,c))=[.flat false n 6 g] from by rw [hn,hg]; rfl,show aX.val (some (A,c))=.int .i64 e from by rw [he]; rfl,show aX.new (some (A,c))=none from rfl]
    conv=>whnf
    refine ⟨ar.aE (fun h=>h) (fun r hr=>by rw [hg]; rfl),?_⟩
    conv=>whnf
    refine ⟨_,rfl,?_⟩;conv=>whnf
    by_cases h3:e=0
    ·rw [show (e != 0)=false from by simp [h3]]
     exact fin false (Xy hG.symm (by omega) (by rw [← he]; exact h3)).symm
    ·rw [show (e != 0)=true from by simp [h3]]
     exact fin true (Wd (by rw [← he]; exact h3)).symm
def Ee2:Env:=En [(79,.p nV),(80,.p jW)]
theorem adk:EnvOk Tryz.prog Ee2:=bH ⟨OD,Mu,trivial⟩ trivial
theorem TX:bh Tryz.prog 26 Di:=by
 refine bk adk aP Tryz.func26 (enters_of Tryz.func26 (by kernel_rfl) rfl) (fun _=>rfl) (fun _=>rfl) ?_
 intro ((a,b):PV) _;have fin:∀ z:Bool,(z=true↔PV.sz 12 (a,b)∧PV.canon (a,b))→Value.bool z=Di.val (a,b):=fun z h=>congrArg Value.bool (by rw [Bool.eq_iff_iff,h,decide_eq_true_eq])
 conv=>whnf
 refine ⟨((a,b):PV),rfl,trivial,?_⟩;by_cases h1:PV.sz 12 (a,b)
 ·rw [show nV.val (a,b)=.bool false from congrArg Value.bool (decide_eq_false fun h=>h h1)]
  conv=>whnf
  obtain ⟨e,he⟩:∃ e:Int,e=if PV.canon (a,b) then 0 else 1:=⟨_,rfl⟩
  refine ⟨((a,b):PV),rfl,PV.aQ h1 (by decide),?_⟩
  rw [show jW.val (a,b)=.int .i64 e from by rw [he]; rfl]
  conv=>whnf
  refine fin _ ?_;by_cases J:PV.canon (a,b)
  ·rw [he,if_pos J]; exact ⟨fun _=>⟨h1,J⟩,fun _=>rfl⟩
  ·rw [he,if_neg J]; exact ⟨(fun h=>nomatch h),fun h=>absurd h.2 J⟩
 ·rw [show nV.val (a,b)=.bool true from congrArg Value.bool (decide_eq_true h1)]
  conv=>whnf
  exact fin _ ⟨(fun h=>nomatch h),fun h=>absurd h.1 h1⟩
def Ee3:Env:=En [(19,.q kt)]
theorem adl:EnvOk Tryz.prog Ee3:=bH ⟨UX,trivial⟩ trivial
theorem St:dk Tryz.prog 27 aL:=by
 refine eI adl aP Tryz.func27 (enters_of Tryz.func27 (by kernel_rfl) rfl) ?_ ?_ ?_
 ·intro ⟨i,_⟩ b hb;cases i <;> simp [aL,PL.ae] at hb
  rw [hb]; rfl
 ·intro i b hb; simp [aL] at hb
 intro ⟨i,p⟩ hp;have hp:i.fit∧p.sz 2048:=hp;obtain ⟨⟨a,e⟩,ha⟩:∃ x,x=qI i.list p:=⟨_,rfl⟩;have fin:∀ (z:Int) n,z=nW i.list p→∃ v',cR (List.range n) 3 (aL.val (i,p))=some v'∧fe (.int .i64 z) v':=fun z n h=>⟨.int .i64 z,by rw [h]; rfl,.refl _⟩
 have h5:e≠0→(5:Int)=nW i.list p:=fun h=>by unfold nW; rw [← ha]; exact (if_pos h).symm
 have h0:e=0→a=nW i.list p:=fun h=>by unfold nW; rw [← ha]; exact (if_neg (fun e=>e h)).symm
 have hv:kt.val (i,p)=.tuple ⟨[.int .i64 a,.int .i64 e]⟩:=by show ZE.v (qI i.list p)=_; rw [← ha]; rfl
 cases i with
 | none =>
  conv=>whnf
  refine ⟨(none,p),[],rfl,hp,?_⟩;rw [show kt.ae (none,p)=[] from rfl,hv,show kt.new (none,p)=none from rfl]
  conv=>whnf
  refine ⟨_,rfl,?_⟩;conv=>whnf
  by_cases h1:e=0
  ·rw [show (e != 0)=false from by simp [h1]]
   conv=>whnf
   exact fin a _ (h0 h1)
  ·rw [show (e != 0)=true from by simp [h1]]
   conv=>whnf
   exact fin 5 _ (h5 h1)
 | some i =>
  obtain ⟨A,c⟩:=i;obtain ⟨n,hn⟩:∃ n,n=A.length:=⟨_,rfl⟩;obtain ⟨g,hg⟩:∃ g,g=di A:=⟨_,rfl⟩;rw [show aL.ae (some (A,c),p)=[.flat false n 6 g] from by rw [hn,hg]; rfl,show aL.args (some (A,c),p)=[.slice (some ⟨0,0,none⟩) n c,p.v] from by rw [hn]; rfl]
  conv=>whnf
  refine ⟨(some (A,c),p),[0],by rw [show kt.args (some (A,c),p)=[.slice (some ⟨0,0,none⟩) n c,p.v] from by rw [hn]; rfl]; rfl,hp,?_⟩
  rw [show kt.ae (some (A,c),p)=[.flat false n 6 g] from by rw [hn,hg]; rfl,hv,show kt.new (some (A,c),p)=none from rfl]
  conv=>whnf
  refine ⟨ar.aE (fun h=>h) (fun r hr=>by rw [hg]; rfl),?_⟩
  conv=>whnf
  refine ⟨_,rfl,?_⟩;conv=>whnf
  by_cases h1:e=0
  ·rw [show (e != 0)=false from by simp [h1]]
   conv=>whnf
   exact fin a _ (h0 h1)
  ·rw [show (e != 0)=true from by simp [h1]]
   conv=>whnf
   exact fin 5 _ (h5 h1)
open Go Go.Ae
def JS:Env:=En [(78,.q fg)]
theorem adm:EnvOk Tryz.prog JS:=bH ⟨Wy,trivial⟩ trivial
theorem U2:gf Tryz.prog 107 (cl JS cK Tryz.f107):=by
 exact ji adm aP Tryz.func107 (enters_of Tryz.func107 (by kernel_rfl) rfl)
def JT:Env:=En [] [(107,cl JS cK Tryz.f107)]
theorem adn:EnvOk Tryz.prog JT:=bH trivial ⟨U2,trivial⟩
theorem RY:gf Tryz.prog 52 (cl JT cK Tryz.f52):=by
 exact ji adn aP Tryz.func52 (enters_of Tryz.func52 (by kernel_rfl) rfl)
def JU:Env:=En [] [(52,cl JT cK Tryz.f52)]
theorem ado:EnvOk Tryz.prog JU:=bH trivial ⟨RY,trivial⟩
theorem Zt:gf Tryz.prog 25 (cl JU cK Tryz.f25):=by
 exact ji ado aP Tryz.func25 (enters_of Tryz.func25 (by kernel_rfl) rfl)
end Go.Proofs.YtlapbjdhekcipaaGreat
