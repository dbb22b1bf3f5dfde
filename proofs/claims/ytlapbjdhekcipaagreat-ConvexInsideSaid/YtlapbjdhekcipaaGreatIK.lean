import Derived.Test.YtlapbjdhekcipaaGreatRows
import Derived.Test.YtlapbjdhekcipaaGreatIJ
set_option linter.unusedVariables false
set_option linter.unusedSimpArgs false
set_option maxRecDepth 20000
set_option maxHeartbeats 4000000
namespace Go.Proofs.YtlapbjdhekcipaaGreat
open Go Go.Ae
def Eu5:Env:=En [(144,.q jJ)]
theorem acn:EnvOk Tryz.prog Eu5:=bC ⟨Uj,trivial⟩ trivial
theorem Rk:c7 Tryz.prog 100 ng:=by
 refine dR acn aK Tryz.func100 (enters_of Tryz.func100 (by kernel_rfl) rfl) ?_ ?_ ?_
 ·intro i b hb; simp [ng,xq] at hb; rcases hb with rfl | rfl <;> rfl
 ·intro i b hb; simp [ng,xq] at hb
 intro ⟨⟨⟨A,c⟩,⟨B,d⟩⟩,f,s⟩ hp;have hp:((f,s)=(101,true)∨(f,s)=(103,false)∨(f,s)=(105,true))∧(A.length≤1073741824∧∀ v∈A,Q2.sz 2048 v)∧B.length≤1073741824∧∀ v∈B,Q2.sz 2048 v:=hp;obtain ⟨vg,Qy,dv⟩:=hp;obtain ⟨n,hn⟩:∃ n,n=A.length:=⟨_,rfl⟩;obtain ⟨g,hg⟩:∃ g,g=bS A:=⟨_,rfl⟩;obtain ⟨m,hm⟩:∃ n,n=B.length:=⟨_,rfl⟩;obtain ⟨k,hk⟩:∃ g,g=bS B:=⟨_,rfl⟩;have fin:∀ (x:XV) (z:Bool),gq (jX s A B)=(x,z)→∃ v',cL (List.range 2) 3 (ng.val (((A,c),(B,d)),(f,s)))=some v'∧eT (.tuple ⟨[x.v,.bool z]⟩) v':=fun x z h=>⟨_,by rw [show ng.val (((A,c),(B,d)),(f,s))=.tuple ⟨[x.v,.bool z]⟩ from by show Value.tuple ⟨[(gq (jX s A B)).1.v,.bool (gq (jX s A B)).2]⟩=_; rw [h]]; rfl,.refl _⟩
 rw [show ng.aj (((A,c),(B,d)),(f,s))=[.flat false n 6 g,.flat false m 6 k] from by rw [hn,hg,hm,hk]; rfl,show ng.args (((A,c),(B,d)),(f,s))=[.slice (some ⟨0,0,none⟩) n c,.slice (some ⟨1,0,none⟩) m d,.func (.func f) #[] #[]] from by rw [hn,hm]; rfl]
 conv=>whnf
 obtain ⟨⟨x,z⟩,hx⟩:∃ x,gq (gW s A B)=x:=⟨_,rfl⟩;refine ⟨(((A,c),(B,d)),(f,s)),[0,1],by rw [show jJ.args (((A,c),(B,d)),(f,s))=[.slice (some ⟨0,0,none⟩) n c,.slice (some ⟨1,0,none⟩) m d,.func (.func f) #[] #[]] from by rw [hn,hm]; rfl]; rfl,⟨vg,Qy,dv⟩,?_⟩
 rw [show jJ.aj (((A,c),(B,d)),(f,s))=[.flat false n 6 g,.flat false m 6 k] from by rw [hn,hm,hg,hk]; rfl,show jJ.val (((A,c),(B,d)),(f,s))=.tuple ⟨[x.v,.bool z]⟩ from by show Value.tuple ⟨[(gq (gW s A B)).1.v,.bool (gq (gW s A B)).2]⟩=_; rw [hx],show jJ.new (((A,c),(B,d)),(f,s))=none from rfl]
 conv=>whnf
 refine ⟨aP.aY (fun h=>h) (fun r hr=>by rw [hg]; rfl),aP.aY (fun h=>h) (fun r hr=>by rw [hk]; rfl),?_⟩
 conv=>whnf
 refine ⟨_,rfl,?_⟩;conv=>whnf
 cases z with
 | true =>
  conv=>whnf
  exact fin x true (WH hx)
 | false =>
  conv=>whnf
  obtain ⟨⟨y,w⟩,hy⟩:∃ x,gq (gW s B A)=x:=⟨_,rfl⟩;refine ⟨(((B,d),(A,c)),(f,s)),[1,0],by rw [show jJ.args (((B,d),(A,c)),(f,s))=[.slice (some ⟨0,0,none⟩) m d,.slice (some ⟨1,0,none⟩) n c,.func (.func f) #[] #[]] from by rw [hm,hn]; rfl]; rfl,⟨vg,dv,Qy⟩,?_⟩
  rw [show jJ.aj (((B,d),(A,c)),(f,s))=[.flat false m 6 k,.flat false n 6 g] from by rw [hm,hn,hk,hg]; rfl,show jJ.val (((B,d),(A,c)),(f,s))=.tuple ⟨[y.v,.bool w]⟩ from by show Value.tuple ⟨[(gq (gW s B A)).1.v,.bool (gq (gW s B A)).2]⟩=_; rw [hy],show jJ.new (((B,d),(A,c)),(f,s))=none from rfl]
  conv=>whnf
  refine ⟨aP.aY (fun h=>h) (fun r hr=>by rw [hk]; rfl),aP.aY (fun h=>h) (fun r hr=>by rw [hg]; rfl),?_⟩
  conv=>whnf
  refine ⟨_,rfl,?_⟩;conv=>whnf
  exact fin y w ((WI hx).trans hy)
def Eu6:Env:=En [(23,.q bm),(100,.q ng)]
theorem aco:EnvOk Tryz.prog Eu6:=bC ⟨Bv,Rk,trivial⟩ trivial
theorem YM:c7 Tryz.prog 44 mf:=by
 refine dR aco aK Tryz.func44 (enters_of Tryz.func44 (by kernel_rfl) rfl) ?_ ?_ ?_
 ·intro ⟨i,k⟩ B hb;cases i <;> cases k <;> simp [Ov,mf,PL.aj] at hb
  ·rw [hb]; rfl
  ·rw [hb]; rfl
  ·rcases hb with rfl | rfl <;> rfl
 ·intro i b hb; simp [Ov,mf] at hb
 intro ⟨i,k⟩ hp;have hp:(i.list.length≤1099511627776∧∀ v∈i.list,v.sz 2048)∧k.list.length≤1099511627776∧∀ v∈k.list,v.sz 2048:=hp;obtain ⟨⟨pU,oH⟩,uy,lz⟩:=hp;cases i with
 | none =>
  cases k with
  | none =>
   conv=>whnf
   refine ⟨none,[],rfl,⟨Nat.zero_le _,fun v hv=>nomatch hv⟩,?_⟩
   rw [show bm.aj none=[] from rfl,show bm.val none=.int .i64 4 from rfl,show bm.new none=none from rfl]
   conv=>whnf
   refine ⟨_,rfl,?_⟩;conv=>whnf
   exact ⟨_,rfl,.refl _⟩
  | some k =>
   conv=>whnf
   refine ⟨none,[],rfl,⟨Nat.zero_le _,fun v hv=>nomatch hv⟩,?_⟩
   rw [show bm.aj none=[] from rfl,show bm.val none=.int .i64 4 from rfl,show bm.new none=none from rfl]
   conv=>whnf
   refine ⟨_,rfl,?_⟩;conv=>whnf
   exact ⟨_,rfl,.refl _⟩
 | some i =>
  obtain ⟨A,c⟩:=i;have pU:A.length≤1099511627776:=pU;have oH:∀ v∈A,PV.sz 2048 v:=oH;obtain ⟨na,gg⟩:∃ n,n=A.length:=⟨_,rfl⟩;obtain ⟨ga,kd⟩:∃ g,g=c6 A:=⟨_,rfl⟩;have fin:∀ (k:PL) (B:List PV) (x:XV) (e:Int) (n:Nat),k.list=B→mS A B=(x,e)→∃ v',cL (List.range n) 3 (cE.val mf (some (A,c),k))=some v'∧eT (.tuple ⟨[x.v,.int .i64 e]⟩) v':=fun k B x e n hk h=>⟨.tuple ⟨[x.v,.int .i64 e]⟩,by
   subst hk;rw [show cE.val mf (some (A,c),k)=.tuple ⟨[x.v,.int .i64 e]⟩ from by show Value.tuple ⟨[(mS A k.list).1.v,.int .i64 (mS A k.list).2]⟩=_; rw [h]]; rfl,.refl _⟩
  cases k with
  | none =>
   rw [show cE.aj mf (some (A,c),none)=[.flat false na 6 ga] from by rw [gg,kd]; rfl,show cE.args mf (some (A,c),none)=[.slice (some ⟨0,0,none⟩) na c,.slice none 0 0] from by rw [gg]; rfl]
   rw [← gg] at pU;conv=>whnf
   refine ⟨some (A,c),[0],by rw [show bm.args (some (A,c))=[.slice (some ⟨0,0,none⟩) na c] from by rw [gg]; rfl]; rfl,⟨by show A.length≤_; omega,oH⟩,?_⟩
   rw [show bm.aj (some (A,c))=[.flat false na 6 ga] from by rw [gg,kd]; rfl,show bm.val (some (A,c))=.int .i64 (bz A) from rfl,show bm.new (some (A,c))=none from rfl]
   conv=>whnf
   refine ⟨aP.aY (fun h=>h) (fun r hr=>by rw [kd]; rfl),?_⟩
   conv=>whnf
   refine ⟨_,rfl,?_⟩;obtain ⟨e,he⟩:∃ z,z=bz A:=⟨_,rfl⟩;rw [← he];conv=>whnf
   by_cases h1:e=0
   ·rw [show (e != 0)=false from by simp [h1]]
    conv=>whnf
    refine ⟨none,[],rfl,⟨Nat.zero_le _,fun v hv=>nomatch hv⟩,?_⟩
    rw [show bm.aj none=[] from rfl,show bm.val none=.int .i64 4 from rfl,show bm.new none=none from rfl]
    conv=>whnf
    refine ⟨_,rfl,?_⟩;conv=>whnf
    exact fin none [] mL 1 _ rfl (Ch fun e=>by have:=e.2; cases this)
   ·rw [show (e != 0)=true from by simp [h1]]
    conv=>whnf
    exact fin none [] mL 1 _ rfl (Ch fun e=>by have:=e.2; cases this)
  | some k =>
   obtain ⟨B,d⟩:=k;have uy:B.length≤1099511627776:=uy;have lz:∀ v∈B,PV.sz 2048 v:=lz;obtain ⟨nb,gf⟩:∃ n,n=B.length:=⟨_,rfl⟩;obtain ⟨gb,nf⟩:∃ g,g=c6 B:=⟨_,rfl⟩;rw [show cE.aj mf (some (A,c),some (B,d))=[.flat false na 6 ga,.flat false nb 6 gb] from by rw [gg,kd,gf,nf]; rfl,show cE.args mf (some (A,c),some (B,d))=[.slice (some ⟨0,0,none⟩) na c,.slice (some ⟨1,0,none⟩) nb d] from by rw [gg,gf]; rfl]
   rw [← gg] at pU;rw [← gf] at uy;have fin:=fun (x:XV) (e:Int)=>fin (some (B,d)) B x e 2 rfl
   conv=>whnf
   refine ⟨some (A,c),[0],by rw [show bm.args (some (A,c))=[.slice (some ⟨0,0,none⟩) na c] from by rw [gg]; rfl]; rfl,⟨by show A.length≤_; omega,oH⟩,?_⟩
   rw [show bm.aj (some (A,c))=[.flat false na 6 ga] from by rw [gg,kd]; rfl,show bm.val (some (A,c))=.int .i64 (bz A) from rfl,show bm.new (some (A,c))=none from rfl]
   conv=>whnf
   refine ⟨aP.aY (fun h=>h) (fun r hr=>by rw [kd]; rfl),?_⟩
   conv=>whnf
   refine ⟨_,rfl,?_⟩;obtain ⟨e,he⟩:∃ z,z=bz A:=⟨_,rfl⟩;rw [← he];conv=>whnf
   by_cases h1:e=0
   ·rw [show (e != 0)=false from by simp [h1]]
    conv=>whnf
    refine ⟨some (B,d),[1],by rw [show bm.args (some (B,d))=[.slice (some ⟨0,0,none⟩) nb d] from by rw [gf]; rfl]; rfl,⟨by show B.length≤_; omega,lz⟩,?_⟩
    rw [show bm.aj (some (B,d))=[.flat false nb 6 gb] from by rw [gf,nf]; rfl,show bm.val (some (B,d))=.int .i64 (bz B) from rfl,show bm.new (some (B,d))=none from rfl]
    conv=>whnf
    refine ⟨aP.aY (fun h=>h) (fun r hr=>by rw [nf]; rfl),?_⟩
    conv=>whnf
    refine ⟨_,rfl,?_⟩;obtain ⟨e2,cA⟩:∃ z,z=bz B:=⟨_,rfl⟩;rw [← cA];conv=>whnf
    by_cases J:e2=0
    ·rw [show (e2 != 0)=false from by simp [J]]
     have hk:bz A=0∧bz B=0:=⟨by rw [← he]; exact h1,by rw [← cA]; exact J⟩
     have hzA:=o9 hk.1;have hzB:=o9 hk.2;conv=>whnf
     obtain ⟨⟨x,z⟩,hx⟩:∃ x,gq (jX true (aU A) (aU B))=x:=⟨_,rfl⟩;refine ⟨(((aU A,c),(aU B,d)),(105,true)),[0,1],by rw [show ng.args (((aU A,c),(aU B,d)),(105,true))=[.slice (some ⟨0,0,none⟩) na c,.slice (some ⟨1,0,none⟩) nb d,.func (.func 105) #[] #[]] from by rw [gg,gf,← c4 A,← c4 B]; rfl]; rfl,⟨by simp,⟨by show (aU A).length≤_; rw [c4]; omega,BK oH (by decide)⟩,by show (aU B).length≤_; rw [c4]; omega,BK lz (by decide)⟩,?_⟩
     rw [show ng.aj (((aU A,c),(aU B,d)),(105,true))=[.flat false na 6 ga,.flat false nb 6 gb] from by rw [gg,gf,kd,nf,← c4 A,← c4 B,← FL hk.1,← FL hk.2]; rfl,show ng.val (((aU A,c),(aU B,d)),(105,true))=.tuple ⟨[x.v,.bool z]⟩ from by show Value.tuple ⟨[(gq (jX true (aU A) (aU B))).1.v,.bool (gq (jX true (aU A) (aU B))).2]⟩=_; rw [hx],show ng.new (((aU A,c),(aU B,d)),(105,true))=none from rfl]
     conv=>whnf
     refine ⟨aP.aY (fun h=>h) (fun r hr=>by rw [kd]; rfl),aP.aY (fun h=>h) (fun r hr=>by rw [nf]; rfl),?_⟩
     conv=>whnf
     refine ⟨_,rfl,?_⟩;conv=>whnf
     have hv:=WJ hk hx;cases z with
     | false =>
      conv=>whnf
      exact fin _ _ hv
     | true =>
      conv=>whnf
      exact fin _ _ hv
    ·rw [show (e2 != 0)=true from by simp [J]]
     conv=>whnf
     exact fin mL 1 (Ch fun h=>J (by rw [cA]; exact h.2))
   ·rw [show (e != 0)=true from by simp [h1]]
    conv=>whnf
    exact fin mL 1 (Ch fun h=>h1 (by rw [he]; exact h.1))
open Go Go.Ae
def Qz:Env:=En [(23,.q bm),(56,.q dU),(70,.p pE),(34,.p ic),(38,.p gx),(71,.p pR),(33,.p mc),(35,.p jw)] [(64,b9 mu cG Tryz.f64)] [(118,tN)]
theorem acp:EnvOk Tryz.prog Qz:=bC ⟨Bv,D2,L6,FP,wF,Nv,yL,Nq,trivial⟩ ⟨wj,trivial⟩
theorem aaY:gw Tryz.prog Qz:=vj ⟨vY,trivial⟩
theorem YN:c7 Tryz.prog 21 lU:=by
 refine dR acp aK Tryz.func21 (enters_of Tryz.func21 (by kernel_rfl) rfl) ?_ ?_ ?_ (hI:=aaY)
 ·intro ⟨i,_⟩ b hb;cases i with
  | none=>simp [lU,PL.aj] at hb
  | some i=>simp [lU,PL.aj] at hb; rw [hb]; rfl
 ·intro i b hb; simp [lU] at hb
 intro ⟨i,⟨p,q⟩⟩ hp;have hp:(i.list.length≤1099511627776∧∀ v∈i.list,v.sz 2048)∧p.sz 2048∧q.sz 2048:=hp;obtain ⟨⟨hlen,aT⟩,sp,sq⟩:=hp;have qp:=PV.cj sp (by decide)
 have qq:=PV.cj sq (by decide)
 cases i with
 | none =>
  conv=>whnf
  refine ⟨none,[],rfl,⟨Nat.zero_le _,fun v hv=>nomatch hv⟩,?_⟩
  rw [show bm.aj none=[] from rfl,show bm.val none=.int .i64 4 from rfl,show bm.new none=none from rfl]
  conv=>whnf
  refine ⟨_,rfl,?_⟩;conv=>whnf
  exact ⟨_,rfl,.refl _⟩
 | some i =>
  obtain ⟨L,c⟩:=i;have hlen:L.length≤1099511627776:=hlen;have aT:∀ v∈L,PV.sz 2048 v:=aT;obtain ⟨n,hn⟩:∃ n,n=L.length:=⟨_,rfl⟩;obtain ⟨g,hg⟩:∃ g,g=c6 L:=⟨_,rfl⟩;obtain ⟨K,hK⟩:∃ K,K=iF lU (some (L,c),(p,q)):=⟨_,rfl⟩;have fin:∀ (x y:RV) (z:Bool) (e:Int) (H:ay),gE L (p,q)=((x,y),z,e)→K (.tuple ⟨[x.v,y.v,.bool z,.int .i64 e]⟩) H:=fun x y z e H h=>by
   rw [hK];unfold iF;rw [show lU.new (some (L,c),(p,q))=none from rfl,show lU.val (some (L,c),(p,q))=.tuple ⟨[x.v,y.v,.bool z,.int .i64 e]⟩ from by show Value.tuple ⟨[(gE L (p,q)).1.1.v,(gE L (p,q)).1.2.v,.bool (gE L (p,q)).2.1,.int .i64 (gE L (p,q)).2.2]⟩=_; rw [h]]
   exact ⟨_,rfl,.refl _⟩
  rw [show lU.aj (some (L,c),(p,q))=[.flat false n 6 g] from by rw [hn,hg]; rfl,show lU.args (some (L,c),(p,q))=[.slice (some ⟨0,0,none⟩) n c,XV.v (p,q)] from by rw [hn]; rfl,← hK]
  rw [← hn] at hlen;conv=>whnf
  refine ⟨some (L,c),[0],by rw [show bm.args (some (L,c))=[.slice (some ⟨0,0,none⟩) n c] from by rw [hn]; rfl]; rfl,⟨by show L.length≤_; omega,aT⟩,?_⟩
  rw [show bm.aj (some (L,c))=[.flat false n 6 g] from by rw [hn,hg]; rfl,show bm.val (some (L,c))=.int .i64 (bz L) from rfl,show bm.new (some (L,c))=none from rfl]
  conv=>whnf
  refine ⟨aP.aY (fun h=>h) (fun r hr=>by rw [hg]; rfl),?_⟩
  conv=>whnf
  refine ⟨_,rfl,?_⟩;obtain ⟨e,he⟩:∃ z,z=bz L:=⟨_,rfl⟩;rw [← he];conv=>whnf
  by_cases h1:e=0
  ·rw [show (e != 0)=false from by simp [h1]]
   conv=>whnf
   refine ⟨some ([p,q],2),[6],rfl,⟨by show 2≤1099511627776; decide,(fun v hv=>by rcases List.mem_cons.1 hv with rfl | hv; exact sp; rw [List.mem_singleton.1 hv]; exact sq)⟩,?_⟩
   rw [show dU.aj (some ([p,q],2))=[.flat false 2 6 (c6 [p,q])] from rfl,show dU.val (some ([p,q],2))=.bool (!dz [p,q]) from rfl,show dU.new (some ([p,q],2))=none from rfl]
   conv=>whnf
   refine ⟨Nd [p,q],?_⟩;conv=>whnf
   refine ⟨_,rfl,?_⟩;obtain ⟨r,hr⟩:∃ z,z=dz [p,q]:=⟨_,rfl⟩;rw [← hr];conv=>whnf
   cases r with
   | true =>
    conv=>whnf
    exact fin cX cX false 1 _ (N1 fun h=>adn hr h.2.1 h.2.2)
   | false =>
    conv=>whnf
    have hk:bz L=0∧p.canon∧q.canon:=⟨by rw [← he]; exact h1,abD hr⟩
    have hz:=o9 hk.1;obtain ⟨o,eo,po,so,qo⟩:=gy (q:=(0:Rat)) (qb0 (Nat.le_refl 1));refine ⟨(0:Int),rfl,⟨by decide,by decide⟩,?_⟩
    rw [show mc.val (0:Int)=o.v from eo]
    conv=>whnf
    obtain ⟨l,el,pl,sl,ql⟩:=gy (q:=(1:Rat)) (Go.Ae.qb1 (Nat.le_refl 1));refine ⟨(1:Int),rfl,⟨by decide,by decide⟩,?_⟩
    rw [show mc.val (1:Int)=l.v from el]
    conv=>whnf
    intro yl nu fn tm df;conv=>whnf
    refine .inl ⟨fun mm tz hz=>∃ (j:Nat) (lo:RV) (hi:RV),bt (some (.func (.yield yl) #[] #[])::some (.pointer (some ⟨9,0,none⟩))::aC 3 (some (.slice (some ⟨0,0,none⟩) n c)::some (.int .i64 n)::some (.int .i64 j)::aC 17 [])) tz∧hz=[some (.flat false n 6 g),some (.aL true 12 [XV.cells (p,q)]),some (.aL true 3 [cX.c1]),some (.aL true 3 [cX.c1]),some (.aL true 1 [[.bool false]]),some (.aL true 1 [[.int .i64 0]]),some (.aL true 6 [p.cells,q.cells]),some (.aL true 3 [lo.c1]),some (.aL true 3 [hi.c1]),some (.aL true 1 [[.slice (some ⟨0,0,none⟩) n c]]),some (.bX (p5 Tryz.f21 fn tm df))]∧n - j=mm∧((j≤n∧uq (aU L) p.p q.p j=some (lo.q,hi.q))∧(lo=RV.of lo.q∧hi=RV.of hi.q)∧(lo.sz 65536∧hi.sz 65536)∧QB lo.q 65536∧QB hi.q 65536),.inr ⟨[0,1,2,3,4,5,6,7,8,9,10],[0,1,5,6,7],?_⟩,?_⟩
    ·conv=>whnf
     intro _;conv=>whnf
     refine ⟨_,0,o,l,(.aa (.aa (.sk 3 (.aa (.aa (.aa (.sk 17 .nil rfl)))) rfl))),rfl,rfl,?_⟩;exact ⟨⟨Nat.zero_le _,by rw [po,pl]; rfl⟩,⟨by rw [po]; exact (RV.iZ eo).symm,by rw [pl]; exact (RV.iZ el).symm⟩,⟨RV.aR so (by decide),RV.aR sl (by decide)⟩,qo.mono (by decide),ql.mono (by decide)⟩
    rintro mm aS _ ⟨j,lo,hi,aw,rfl,rfl,⟨⟨hj,hU⟩,⟨sU,sV⟩,⟨sW,vz⟩,Ap,Aq⟩⟩
    obtain ⟨az,rfl⟩:∃ az:Nat→Value,aS=.func (.yield yl) #[] #[]::.pointer (some ⟨9,0,none⟩)::zs az 2 3 (.slice (some ⟨0,0,none⟩) n c::.int .i64 n::.int .i64 j::zs az 8 17 []):=bF aw;clear aw;conv=>whnf
    refine aI (fun h3=>?_) (fun h3=>?_)
    ·have h3:j < n:=by
      have:=of_decide_eq_true h3;omega
     have e7:IntKind.i64.wrap ((j:Int)+1)=((j+1:Nat):Int):=by rw [ax (by omega) (by omega)]; rfl
     obtain ⟨a,b,ra,rb,⟨ma,mb⟩,fI,bZ,_,_⟩:=pf hn h3;have sa:=aT a ma;have sb:=aT b mb;have qa:=PV.cj sa (by decide)
     have qb:=PV.cj sb (by decide)
     have cg:=jS h3 (by omega)
     obtain ⟨u,hu⟩:∃ u,u=aN n j:=⟨_,rfl⟩;rw [← hu] at cg bZ rb;rw [← hg] at ra rb;conv=>whnf
     refine ⟨⟨by omega,by omega⟩,?_⟩
     simp only [toNat_cast,au,Nat.zero_add];conv=>whnf
     refine ⟨by show j < n; omega,?_⟩
     conv=>whnf
     rw [ra];conv=>whnf
     refine .inl ⟨10,[[],[],[],[],[3],[],[5],[3,4,5,6],[2,3,4,5,6,7],[2,3,4,5,6,7,8],[0,1,2,3,4,5,6,7,8,9],[0,1,2,3,4,5,6,7,8,9,10]],by kernel_rfl,?_⟩
     conv=>whnf
     rw [show decide ((n:Int)≠0)=true from decide_eq_true (by omega)]
     conv=>whnf
     rw [cg];refine ⟨⟨by omega,by omega⟩,?_⟩
     simp only [toNat_cast,au,Nat.zero_add];conv=>whnf
     refine ⟨by show u < n; omega,?_⟩
     conv=>whnf
     rw [rb];conv=>whnf
     refine ⟨rfl,?_⟩;conv=>whnf
     refine ⟨rfl,?_⟩;conv=>whnf
     refine ⟨rfl,?_⟩;conv=>whnf
     refine .inl ⟨12,[[],[],[],[2],[0,1,2,3],[],[],[],[7],[0,1,2,3,4,5,6,7,8],[],[],[0,1,2,3,4,5,6,7,8,9,10,11],[0,1,2,3,4,5,6,7,8,9,10,11,12]],by kernel_rfl,?_⟩
     conv=>whnf
     obtain ⟨x,ex,px,sx,qx⟩:=gy (xg qa qb qp);refine ⟨(a,b,p),rfl,⟨PV.aR sa (by decide),PV.aR sb (by decide),PV.aR sp (by decide)⟩,?_⟩
     rw [show pE.val (a,b,p)=x.v from ex]
     conv=>whnf
     obtain ⟨y,ey,py,sy,qy⟩:=gy (xg qa qb qq);refine ⟨(a,b,q),rfl,⟨PV.aR sa (by decide),PV.aR sb (by decide),PV.aR sq (by decide)⟩,?_⟩
     rw [show pE.val (a,b,q)=y.v from ey]
     conv=>whnf
     have aq:=SU hU fI px py;refine .inl ⟨7,[[],[0],[0,1],[],[0,1,3],[0,1,3,4],[0,1,2,3,4],[0,1,2,3,4,5,6]],by kernel_rfl,?_⟩
     conv=>whnf
     obtain ⟨zx,ezx,pzx⟩:=dT (aV x.q 0);refine ⟨x,rfl,RV.bP sx (by decide),?_⟩
     rw [show ic.val x=.int .i64 zx from ezx]
     conv=>whnf
     obtain ⟨zy,ezy,pzy⟩:=dT (aV y.q 0);refine ⟨y,rfl,RV.bP sy (by decide),?_⟩
     rw [show ic.val y=.int .i64 zy from ezy]
     conv=>whnf
     have cx:zx > 0↔0 < x.q:=by rw [pzx]; exact tx
     have cy:zy > 0↔0 < y.q:=by rw [pzy]; exact tx
     by_cases hx:zx > 0
     ·rw [show decide (zx > 0)=true from decide_eq_true hx]
      have hx:=cx.1 hx;by_cases hy:zy > 0
      ·rw [show decide (zy > 0)=true from decide_eq_true hy]
       have hy:=cy.1 hy;rw [if_neg (fun e=>Rat.not_lt.2 e.1 hx),if_pos ⟨hx,hy⟩] at aq
       conv=>whnf
       refine ⟨rfl,?_⟩;conv=>whnf
       rw [e7];refine .inr ⟨[0,1,2,3,4,5,6,7,8,9,10],[0,1,5,6,7],?_⟩;conv=>whnf
       intro _;conv=>whnf
       refine ⟨_,?_,j+1,lo,hi,(.aa (.aa (.sk 3 (.aa (.aa (.aa (.sk 17 .nil rfl)))) rfl))),rfl,rfl,?_⟩
       ·omega
       ·exact ⟨⟨by omega,aq⟩,⟨sU,sV⟩,⟨sW,vz⟩,Ap,Aq⟩
      ·rw [show decide (zy > 0)=false from decide_eq_false hy]
       have hy:¬ 0 < y.q:=fun e=>hy (cy.2 e)
       rw [if_neg (fun e=>Rat.not_lt.2 e.1 hx),if_neg (fun e=>hy e.2),if_neg hy] at aq
       conv=>whnf
       refine .inr (.inr (.inl ⟨9,1,[[],[],[],[1,2],[0,1,2,3],[0,1,2,3,4],[0,1,2,3,4,5],[0,1,2,3,4,5],[],[0,1,2,3,4,5,6,8],[0,1,2,3,4,5,6,7,8,9]],[7],by kernel_rfl,?_⟩))
       conv=>whnf
       obtain ⟨d,ed,pd,sd,qd⟩:=gy (QB.sub qx qy);refine ⟨(x,y),rfl,⟨RV.bP sx (by decide),RV.bP sy (by decide)⟩,?_⟩
       rw [show gx.val (x,y)=d.v from ed]
       conv=>whnf
       obtain ⟨t,et,pt,st,qt⟩:=gy (QB.div qx qd (by decide))
       obtain ⟨e3,Jr,pe3⟩:=dT (if d.q=0 then 10 else 0)
       refine ⟨(x,d),rfl,⟨RV.bP sx (by decide),RV.bP sd (by decide)⟩,?_⟩
       rw [show pR.val (x,d)=.tuple ⟨[t.v,.int .i64 e3]⟩ from by rw [← et,← Jr]; rfl]
       conv=>whnf
       have ct:=(RV.iZ et).symm;rw [← pt] at ct;rw [pd] at pt;rw [← pt] at aq;obtain ⟨z,ez,pz⟩:=dT (aV t.q hi.q);refine ⟨(t,hi),rfl,⟨RV.bP st (by decide),RV.bP vz (by decide)⟩,?_⟩
       rw [show jw.val (t,hi)=.int .i64 z from ez]
       conv=>whnf
       have cz:z < 0↔t.q < hi.q:=by rw [pz]; exact FD
       by_cases h5:z < 0
       ·rw [show decide (z < 0)=true from decide_eq_true h5]
        conv=>whnf
        refine ⟨rfl,?_⟩;conv=>whnf
        rw [e7];refine .inr ⟨[0,1,2,3,4,5,6,7,8,9,10],[0,1,5,6,7],?_⟩;conv=>whnf
        intro _;conv=>whnf
        refine ⟨_,?_,j+1,lo,t,(.aa (.aa (.sk 3 (.aa (.aa (.aa (.sk 17 .nil rfl)))) rfl))),rfl,rfl,?_⟩
        ·omega
        ·exact ⟨⟨by omega,by rw [aq]; unfold ll; rw [if_pos (cz.1 h5)]⟩,⟨sU,ct⟩,⟨sW,RV.aR st (by decide)⟩,Ap,qt.mono (by decide)⟩
       ·rw [show decide (z < 0)=false from decide_eq_false h5]
        conv=>whnf
        refine ⟨rfl,?_⟩;conv=>whnf
        rw [e7];refine .inr ⟨[0,1,2,3,4,5,6,7,8,9,10],[0,1,5,6,7],?_⟩;conv=>whnf
        intro _;conv=>whnf
        refine ⟨_,?_,j+1,lo,hi,(.aa (.aa (.sk 3 (.aa (.aa (.aa (.sk 17 .nil rfl)))) rfl))),rfl,rfl,?_⟩
        ·omega
        ·exact ⟨⟨by omega,by rw [aq]; unfold ll; rw [if_neg (fun e=>h5 (cz.2 e))]⟩,⟨sU,sV⟩,⟨sW,vz⟩,Ap,Aq⟩
     ·rw [show decide (zx > 0)=false from decide_eq_false hx]
      have hx:¬ 0 < x.q:=fun e=>hx (cx.2 e)
      by_cases hy:zy > 0
      ·rw [show decide (zy > 0)=true from decide_eq_true hy]
       have hy:=cy.1 hy;rw [if_neg (fun e=>Rat.not_lt.2 e.2 hy),if_neg (fun e=>hx e.1),if_pos hy] at aq
       conv=>whnf
       refine .inr (.inr (.inl ⟨9,1,[[],[],[],[1,2],[0,1,2,3],[0,1,2,3,4],[0,1,2,3,4,5],[0,1,2,3,4,5],[],[0,1,2,3,4,5,6,8],[0,1,2,3,4,5,6,7,8,9]],[7],by kernel_rfl,?_⟩))
       conv=>whnf
       obtain ⟨d,ed,pd,sd,qd⟩:=gy (QB.sub qx qy);refine ⟨(x,y),rfl,⟨RV.bP sx (by decide),RV.bP sy (by decide)⟩,?_⟩
       rw [show gx.val (x,y)=d.v from ed]
       conv=>whnf
       obtain ⟨t,et,pt,st,qt⟩:=gy (QB.div qx qd (by decide))
       obtain ⟨e3,Jr,pe3⟩:=dT (if d.q=0 then 10 else 0)
       refine ⟨(x,d),rfl,⟨RV.bP sx (by decide),RV.bP sd (by decide)⟩,?_⟩
       rw [show pR.val (x,d)=.tuple ⟨[t.v,.int .i64 e3]⟩ from by rw [← et,← Jr]; rfl]
       conv=>whnf
       have ct:=(RV.iZ et).symm;rw [← pt] at ct;rw [pd] at pt;rw [← pt] at aq;obtain ⟨z,ez,pz⟩:=dT (aV t.q lo.q);refine ⟨(t,lo),rfl,⟨RV.bP st (by decide),RV.bP sW (by decide)⟩,?_⟩
       rw [show jw.val (t,lo)=.int .i64 z from ez]
       conv=>whnf
       have cz:z > 0↔lo.q < t.q:=by rw [pz]; exact tx
       by_cases h5:z > 0
       ·rw [show decide (z > 0)=true from decide_eq_true h5]
        conv=>whnf
        refine ⟨rfl,?_⟩;conv=>whnf
        rw [e7];refine .inr ⟨[0,1,2,3,4,5,6,7,8,9,10],[0,1,5,6,7],?_⟩;conv=>whnf
        intro _;conv=>whnf
        refine ⟨_,?_,j+1,t,hi,(.aa (.aa (.sk 3 (.aa (.aa (.aa (.sk 17 .nil rfl)))) rfl))),rfl,rfl,?_⟩
        ·omega
        ·exact ⟨⟨by omega,by rw [aq]; unfold lh; rw [if_pos (cz.1 h5)]⟩,⟨ct,sV⟩,⟨RV.aR st (by decide),vz⟩,qt.mono (by decide),Aq⟩
       ·rw [show decide (z > 0)=false from decide_eq_false h5]
        conv=>whnf
        refine ⟨rfl,?_⟩;conv=>whnf
        rw [e7];refine .inr ⟨[0,1,2,3,4,5,6,7,8,9,10],[0,1,5,6,7],?_⟩;conv=>whnf
        intro _;conv=>whnf
        refine ⟨_,?_,j+1,lo,hi,(.aa (.aa (.sk 3 (.aa (.aa (.aa (.sk 17 .nil rfl)))) rfl))),rfl,rfl,?_⟩
        ·omega
        ·exact ⟨⟨by omega,by rw [aq]; unfold lh; rw [if_neg (fun e=>h5 (cz.2 e))]⟩,⟨sU,sV⟩,⟨sW,vz⟩,Ap,Aq⟩
      ·rw [show decide (zy > 0)=false from decide_eq_false hy]
       have hy:¬ 0 < y.q:=fun e=>hy (cy.2 e)
       rw [if_pos ⟨Rat.not_lt.1 hx,Rat.not_lt.1 hy⟩] at aq;conv=>whnf
       refine ⟨rfl,?_⟩;conv=>whnf
       exact fin cX cX false 0 _ (Nn hk (SV aq))
    ·have h3:j=n:=by
      have:=of_decide_eq_false h3;omega
     subst h3;have hE:=T7 (a:=p.p) (b:=q.p) (show j=(aU L).length by rw [c4]; exact hn)
     rw [hU] at hE;conv=>whnf
     obtain ⟨z,ez,pz⟩:=dT (aV lo.q hi.q);refine ⟨(lo,hi),rfl,⟨RV.bP sW (by decide),RV.bP vz (by decide)⟩,?_⟩
     rw [show jw.val (lo,hi)=.int .i64 z from ez]
     conv=>whnf
     by_cases h5:hi.q≤lo.q
     ·rw [show decide (z ≥ 0)=true from decide_eq_true (by rw [pz]; exact ob.2 h5)]
      conv=>whnf
      exact fin cX cX false 0 _ (Nn hk (hE.symm.trans (Vu h5)))
     ·rw [show decide (z ≥ 0)=false from decide_eq_false (by rw [pz]; exact fun e=>h5 (ob.1 e))]
      conv=>whnf
      have fK:gE L (p,q)=((lo,hi),true,0):=WN hk (hE.symm.trans (Vv h5)) sU sV;refine .inr (.inl ⟨(.br 0 (.br 1 (.br 2 (.br 3 (.br 4 (.br 5 .leaf .leaf) .leaf) .leaf) .leaf) (.br 2 (.br 1 (.br 3 (.br 4 (.br 5 .leaf .leaf) .leaf) .leaf) .leaf) .leaf)) (.br 1 (.br 0 (.br 2 (.br 3 (.br 4 (.br 5 .leaf .leaf) .leaf) .leaf) .leaf) .leaf) .leaf)),by kernel_rfl,?_⟩)
      repeat' ((conv=>whnf); first | exact True.intro | refine And.intro ?_ ?_)
      all_goals conv=>whnf
      all_goals exact fin lo hi true 0 _ fK
  ·rw [show (e != 0)=true from by simp [h1]]
   conv=>whnf
   exact fin cX cX false 1 _ (N1 fun h=>h1 (by rw [he]; exact h.1))
set_option maxHeartbeats 1000000
open Go Go.Ae
open Go Go.Ae
def Eqs:Env:=En [(128,.p jw),(157,.p nm),(156,.p kU)]
theorem acq:EnvOk Tryz.prog Eqs:=bC ⟨FQ,MM,MO,trivial⟩ trivial
theorem Uk:bc Tryz.prog 123 ic:=by
 refine bf acq aK Tryz.func123 (enters_of Tryz.func123 (by kernel_rfl) rfl) (fun _=>rfl) (fun _=>rfl) ?_
 intro (r:RV) hp;have hp:r.ok:=hp;obtain ⟨x,hx⟩:∃ x,x=aV r.q 0:=⟨_,rfl⟩;conv=>whnf
 refine ⟨(r,cX),rfl,⟨hp,RV.bP (tA 0) (by decide)⟩,?_⟩
 rw [show jw.val (r,cX)=.int .i64 x from by rw [hx]; show Value.int .i64 (aV r.q cX.q)=_; rw [M9]]
 conv=>whnf
 show Value.int .i64 x=Value.int .i64 (aV r.q 0)
 rw [hx]
open Go Go.Ae
set_option maxHeartbeats 4000000
open Go Go.Ae
open Go Go.Ae
open Go Go.Ae
def Er0:Env:=En [(121,.p kv),(122,.p pD),(123,.p ic)]
theorem acr:EnvOk Tryz.prog Er0:=bC ⟨VQ,S7,Uk,trivial⟩ trivial
theorem K9:bc Tryz.prog 77 kj:=by
 refine bf acr aK Tryz.func77 (enters_of Tryz.func77 (by kernel_rfl) rfl) (fun _=>rfl) (fun _=>rfl) ?_
 intro ⟨a,b,c⟩ hp;have hp:a.sz 1048576∧b.sz 1048576∧c.sz 1048576:=hp;obtain ⟨sa,sb,sc⟩:=hp;have qa:=PV.cj sa (by decide)
 have qb:=PV.cj sb (by decide)
 have qc:=PV.cj sc (by decide)
 conv=>whnf
 refine .inl ⟨5,[[],[],[0,1],[],[],[0,1,2,3,4],[0,1,2,3,4,5],[0,1,2,3,4,5,6],[0,1,2,3,4,5,6,7]],by kernel_rfl,?_⟩
 conv=>whnf
 obtain ⟨u,eu,pu,su,qu⟩:=ky (om qb qa);refine ⟨(b,a),rfl,⟨PV.aR sb (by decide),PV.aR sa (by decide)⟩,?_⟩
 rw [show kv.val (b,a)=u.v from eu]
 conv=>whnf
 obtain ⟨v,ev,pv,sv,qv⟩:=ky (om qc qa);refine ⟨(c,a),rfl,⟨PV.aR sc (by decide),PV.aR sa (by decide)⟩,?_⟩
 rw [show kv.val (c,a)=v.v from ev]
 conv=>whnf
 obtain ⟨w,ew,pw,sw,qw⟩:=gy (yg qu qv);refine ⟨(u,v),rfl,⟨PV.aR su (by decide),PV.aR sv (by decide)⟩,?_⟩
 rw [show pD.val (u,v)=w.v from ew]
 conv=>whnf
 obtain ⟨n,en,pn⟩:=dT (aV w.q 0);refine ⟨w,rfl,RV.bP sw (by decide),?_⟩
 rw [show ic.val w=.int .i64 n from en]
 conv=>whnf
 show Value.int .i64 n=Value.int .i64 (aV (ao a.p b.p c.p) 0)
 rw [pn,pw,pu,pv]
 rfl
def Er1:Env:=En [(68,.p jL)]
theorem acs:EnvOk Tryz.prog Er1:=bC ⟨S8,trivial⟩ trivial
theorem Tc:c7 Tryz.prog 61 dU:=by
 refine dR acs aK Tryz.func61 (enters_of Tryz.func61 (by kernel_rfl) rfl) ?_ ?_ ?_
 ·intro i b hb;cases i with
  | none=>simp [dU,PL.aj] at hb
  | some i=>simp [dU,PL.aj] at hb; rw [hb]; rfl
 ·intro i b hb; simp [dU] at hb
 intro i hp;have hp:i.list.length≤1099511627776∧∀ v∈i.list,v.sz 2048:=hp;obtain ⟨hlen,aT⟩:=hp;cases i with
 | none =>
  conv=>whnf
  refine .inr ⟨1,?_⟩;conv=>whnf
  exact ⟨.bool true,rfl,.refl _⟩
 | some i =>
  obtain ⟨L,c⟩:=i;have hlen:L.length≤1099511627776:=hlen;have aT:∀ v∈L,PV.sz 2048 v:=aT;obtain ⟨n,hn⟩:∃ n,n=L.length:=⟨_,rfl⟩;obtain ⟨g,hg⟩:∃ g,g=c6 L:=⟨_,rfl⟩;have fin:∀ z:Bool,z=!dz L→∃ v',cL (List.range 1) 3 (dU.val (some (L,c)))=some v'∧eT (.bool z) v':=fun z h=>⟨.bool z,by rw [h]; rfl,.refl _⟩
  rw [show dU.aj (some (L,c))=[.flat false n 6 g] from by rw [hn,hg]; rfl,show dU.args (some (L,c))=[.slice (some ⟨0,0,none⟩) n c] from by rw [hn]; rfl]
  rw [← hn] at hlen;conv=>whnf
  refine .inl ⟨fun mm tz hz=>∃ (i:Nat),bt (some (.slice (some ⟨0,0,none⟩) n c)::aC 2 (some (.int .i64 i)::aC 12 [])) tz∧hz=[some (.flat false n 6 g)]∧n - i=mm∧(i≤n∧uo L i),.inr ⟨[0],[0,3],?_⟩,?_⟩
  ·conv=>whnf
   intro _;conv=>whnf
   refine ⟨_,0,(.aa (.sk 2 (.aa (.sk 12 .nil rfl)) rfl)),rfl,rfl,?_⟩;exact ⟨Nat.zero_le _,Kn _⟩
  rintro mm aS _ ⟨i,aw,rfl,rfl,⟨hi,hU⟩⟩
  obtain ⟨az,rfl⟩:∃ az:Nat→Value,aS=.slice (some ⟨0,0,none⟩) n c::zs az 1 2 (.int .i64 i::zs az 4 12 []):=bF aw;clear aw;conv=>whnf
  refine aI (fun h3=>?_) (fun h3=>?_)
  ·have h3:i < n:=by
    have:=of_decide_eq_true h3;omega
   have e7:IntKind.i64.wrap ((i:Int)+1)=((i+1:Nat):Int):=by rw [ax (by omega) (by omega)]; rfl
   obtain ⟨m,kL,mn,aW⟩:=re (l:=L) (i:=i) (by omega)
   rw [← hg] at aW;conv=>whnf
   refine ⟨⟨by omega,by omega⟩,?_⟩
   simp only [toNat_cast,au,Nat.zero_add];conv=>whnf
   refine ⟨by show i < n; omega,?_⟩
   conv=>whnf
   rw [aW];conv=>whnf
   refine ⟨m,rfl,PV.aR (aT m mn) (by decide),?_⟩
   by_cases h4:m.canon
   ·rw [show jL.val m=.int .i64 0 from congrArg (Value.int .i64) (if_pos h4)]
    conv=>whnf
    rw [e7];refine .inr ⟨[0],[0,3],?_⟩;conv=>whnf
    intro _;conv=>whnf
    refine ⟨_,?_,i+1,(.aa (.sk 2 (.aa (.sk 12 .nil rfl)) rfl)),rfl,rfl,?_⟩
    ·omega
    ·exact ⟨by omega,K1 hU kL h4⟩
   ·rw [show jL.val m=.int .i64 1 from congrArg (Value.int .i64) (if_neg h4)]
    conv=>whnf
    exact fin false (by rw [show dz L=true from List.any_eq_true.2 ⟨m,mn,decide_eq_true h4⟩]; rfl)
  ·have h3:i=n:=by
    have:=of_decide_eq_false h3;omega
   subst h3;conv=>whnf
   exact fin true (by rw [LJ (by rw [← hn]; exact hU)]; rfl)
def Er2:Env:=En [(61,.q dU),(76,.p oz),(77,.p kj)]
theorem acu:EnvOk Tryz.prog Er2:=bC ⟨Tc,VR,K9,trivial⟩ trivial
theorem Td:c7 Tryz.prog 24 bm:=by
 refine dR acu aK Tryz.func24 (enters_of Tryz.func24 (by kernel_rfl) rfl) ?_ ?_ ?_
 ·intro i b hb;cases i with
  | none=>simp [bm,PL.aj] at hb
  | some i=>simp [bm,PL.aj] at hb; rw [hb]; rfl
 ·intro i b hb; simp [bm] at hb
 intro i hp;have hp:i.list.length≤1099511627776∧∀ v∈i.list,v.sz 2048:=hp;obtain ⟨hlen,aT⟩:=hp;cases i with
 | none =>
  conv=>whnf
  exact ⟨.int .i64 4,rfl,.refl _⟩
 | some i =>
  obtain ⟨L,c⟩:=i;have hlen:L.length≤1099511627776:=hlen;have aT:∀ v∈L,PV.sz 2048 v:=aT;obtain ⟨n,hn⟩:∃ n,n=L.length:=⟨_,rfl⟩;obtain ⟨g,hg⟩:∃ g,g=c6 L:=⟨_,rfl⟩;have fin:∀ z:Int,bz L=z→∃ v',cL (List.range 1) 3 (bm.val (some (L,c)))=some v'∧eT (.int .i64 z) v':=fun z h=>⟨.int .i64 z,by rw [← h]; rfl,.refl _⟩
  rw [show bm.aj (some (L,c))=[.flat false n 6 g] from by rw [hn,hg]; rfl,show bm.args (some (L,c))=[.slice (some ⟨0,0,none⟩) n c] from by rw [hn]; rfl]
  rw [← hn] at hlen;conv=>whnf
  by_cases h1:n < 3
  ·rw [show decide ((n:Int) < 3)=true from decide_eq_true (by omega)]
   conv=>whnf
   exact fin 4 (BL (.inl (by omega)))
  rw [show decide ((n:Int) < 3)=false from decide_eq_false (by omega)]
  conv=>whnf
  by_cases J:64 < n
  ·rw [show decide ((n:Int) > 64)=true from decide_eq_true (by omega)]
   conv=>whnf
   exact fin 4 (BL (.inr (by omega)))
  rw [show decide ((n:Int) > 64)=false from decide_eq_false (by omega)]
  conv=>whnf
  obtain ⟨z,hz⟩:∃ z,z=dz L:=⟨_,rfl⟩;refine ⟨some (L,c),[0],by rw [show dU.args (some (L,c))=[.slice (some ⟨0,0,none⟩) n c] from by rw [hn]; rfl]; rfl,⟨by show L.length≤_; omega,aT⟩,?_⟩
  rw [show dU.aj (some (L,c))=[.flat false n 6 g] from by rw [hn,hg]; rfl,show dU.val (some (L,c))=.bool (!z) from by rw [hz]; rfl,show dU.new (some (L,c))=none from rfl]
  conv=>whnf
  refine ⟨aP.aY (fun h=>h) (fun r hr=>by rw [hg]; rfl),?_⟩
  conv=>whnf
  refine ⟨_,rfl,?_⟩;conv=>whnf
  cases z with
  | true =>
   conv=>whnf
   exact fin 1 (Nj (by omega) hz.symm)
  | false =>
   conv=>whnf
   have qj:dz L=false:=hz.symm;have h0:=o8 (L:=L) (k:=0) (by omega)
   have so:=aT _ (nj (L:=L) (k:=0) (by omega))
   have po:=jz (L:=L) (k:=0) (by omega)
   obtain ⟨o,ho⟩:∃ o,o=g7 L 0:=⟨_,rfl⟩;rw [← ho] at h0 so po;rw [← hg] at h0;have qo:=PV.cj so (by decide)
   have zA:g (Int.toNat 0)=o.cells:=h0;refine .inl ⟨fun mm tz hz=>∃ (i:Nat),bt (some (.slice (some ⟨0,0,none⟩) n c)::aC 2 (some (.int .i64 n)::some (.int .i64 ((i+1:Nat):Int))::aC 79 [])) tz∧hz=[some (.flat false n 6 g)]∧n - i=mm∧(i+1≤n∧xf (aU L) i),.inr ⟨[0],[0,3,4],?_⟩,?_⟩
   ·conv=>whnf
    intro _;conv=>whnf
    refine ⟨_,0,(.aa (.sk 2 (.aa (.aa (.sk 79 .nil rfl))) rfl)),rfl,rfl,?_⟩;exact ⟨by omega,Kp _⟩
   rintro mm aS _ ⟨i,aw,rfl,rfl,⟨hi,hU⟩⟩
   obtain ⟨az,rfl⟩:∃ az:Nat→Value,aS=.slice (some ⟨0,0,none⟩) n c::zs az 1 2 (.int .i64 n::.int .i64 ((i+1:Nat):Int)::zs az 5 79 []):=bF aw;clear aw;conv=>whnf
   refine aI (fun h3=>?_) (fun h3=>?_)
   ·have h3:i+1 < n:=by
     have:=of_decide_eq_true h3;omega
    have e7:IntKind.i64.wrap (((i+1:Nat):Int)+1)=((i+1+1:Nat):Int):=by rw [ax (by omega) (by omega)]; rfl
    have ra:=o8 (L:=L) (k:=i+1) (by omega)
    have sa:=aT _ (nj (L:=L) (k:=i+1) (by omega))
    have pa:=jz (L:=L) (k:=i+1) (by omega)
    obtain ⟨a,ha⟩:∃ o,o=g7 L (i+1):=⟨_,rfl⟩;rw [← ha] at ra sa pa;rw [← hg] at ra;have qa:=PV.cj sa (by decide)
    obtain ⟨k,hk⟩:∃ k,k=i+1:=⟨_,rfl⟩;rw [← hk] at ra e7 h3 ⊢;conv=>whnf
    refine .inl ⟨7,[[],[0],[0,1],[],[],[3,4],[3,4,5],[0,1,2,3,4,5,6],[0,1,2,3,4,5,6,7]],by kernel_rfl,?_⟩
    conv=>whnf
    refine ⟨⟨by omega,by omega⟩,?_⟩
    simp only [toNat_cast,au,Nat.zero_add];conv=>whnf
    refine ⟨by show 0 < n; omega,?_⟩
    conv=>whnf
    rw [zA];conv=>whnf
    refine ⟨⟨by omega,by omega⟩,?_⟩
    simp only [toNat_cast,au,Nat.zero_add];conv=>whnf
    refine ⟨by show k < n; omega,?_⟩
    conv=>whnf
    rw [ra];conv=>whnf
    obtain ⟨z,ez,pz⟩:=dT (fk o.p a.p);refine ⟨(o,a),rfl,⟨PV.aR so (by decide),PV.aR sa (by decide)⟩,?_⟩
    rw [show oz.val (o,a)=.int .i64 z from ez]
    conv=>whnf
    rw [pa,po] at pz;by_cases h4:im (an (aU L) 0) (an (aU L) (i+1))
    ·have:=yr.2 h4;rw [show decide (z ≥ 0)=false from decide_eq_false (by omega)]
     conv=>whnf
     rw [e7,hk];refine .inr ⟨[0],[0,3,4],?_⟩;conv=>whnf
     intro _;conv=>whnf
     refine ⟨_,?_,i+1,(.aa (.sk 2 (.aa (.aa (.sk 79 .nil rfl))) rfl)),rfl,rfl,?_⟩
     ·omega
     ·exact ⟨by omega,K3 hU h4⟩
    ·have:¬ fk (an (aU L) 0) (an (aU L) (i+1)) < 0:=fun e=>h4 (yr.1 e)
     rw [show decide (z ≥ 0)=true from decide_eq_true (by omega)]
     conv=>whnf
     exact fin 8 (Nk (by omega) qj fun e=>h4 (e (i+1) (by omega) (by rw [c4]; omega)))
   ·have h3:i+1=n:=by
     have:=of_decide_eq_false h3;omega
    have nI:=LK hU (by rw [c4]; omega)
    have xK:3≤(aU L).length:=by rw [c4]; omega
    conv=>whnf
    skip
    refine .inl ⟨fun mm tz hz=>∃ (j:Nat),bt (some (.slice (some ⟨0,0,none⟩) n c)::aC 2 (some (.int .i64 n)::aC 1 (some (.int .i64 j)::aC 78 []))) tz∧hz=[some (.flat false n 6 g)]∧n - j=mm∧(j≤n∧∀ k,k < j→¬ oq (aU L) k),.inr ⟨[0],[0,3,5],?_⟩,?_⟩
    ·conv=>whnf
     intro _;conv=>whnf
     refine ⟨_,0,(.aa (.sk 2 (.aa (.sk 1 (.aa (.sk 78 .nil rfl)) rfl)) rfl)),rfl,rfl,?_⟩;exact ⟨Nat.zero_le _,fun k hk=>absurd hk (Nat.not_lt_zero k)⟩
    rintro mm aS _ ⟨j,aw,rfl,rfl,⟨hj,hB⟩⟩
    obtain ⟨az,rfl⟩:∃ az:Nat→Value,aS=.slice (some ⟨0,0,none⟩) n c::zs az 1 2 (.int .i64 n::zs az 4 1 (.int .i64 j::zs az 6 78 [])):=bF aw;clear aw;conv=>whnf
    refine aI (fun h3=>?_) (fun h3=>?_)
    ·have h3:j < n:=by
      have:=of_decide_eq_true h3;omega
     have e7:IntKind.i64.wrap ((j:Int)+1)=((j+1:Nat):Int):=by rw [ax (by omega) (by omega)]; rfl
     obtain ⟨a,b,ra,rb,⟨ma,mb⟩,_,bZ,ha,hb⟩:=pf hn h3;have sa:=aT a ma;have sb:=aT b mb;have qa:=PV.cj sa (by decide)
     have qb:=PV.cj sb (by decide)
     have zv:=ck bZ;have rd:=o8 (L:=L) (k:=aN n (aN n j)) (by omega)
     have sd:=aT _ (nj (L:=L) (k:=aN n (aN n j)) (by omega))
     have pd:=jz (L:=L) (k:=aN n (aN n j)) (by omega)
     obtain ⟨d,hd⟩:∃ o,o=g7 L (aN n (aN n j)):=⟨_,rfl⟩;rw [← hd] at rd sd pd;have qd:=PV.cj sd (by decide)
     have pa:a.p=an (aU L) j:=by rw [ha]; exact jz (by omega)
     have pb:b.p=an (aU L) (aN n j):=by rw [hb]; exact jz (by omega)
     have cg:=jS h3 (by omega)
     have xu:=NV h3 (by omega)
     have eO:n=(aU L).length:=by rw [c4,hn]
     have zw:oq (aU L) j↔ao a.p b.p d.p≤0∨(0 < j∧j+1 < n∧ao (an (aU L) 0) (an (aU L) j) (an (aU L) (j+1))≤0):=by
      unfold oq;rw [← eO,pa,pb,pd]
     obtain ⟨u,hu⟩:∃ u,u=aN n j:=⟨_,rfl⟩;rw [← hu] at cg bZ rb zv xu rd;obtain ⟨w,hw⟩:∃ w,w=aN n u:=⟨_,rfl⟩;rw [← hw] at zv xu rd;rw [← hg] at ra rb rd;conv=>whnf
     refine .inl ⟨42,[[],[],[0,1],[0,1,2],[],[],[5],[],[5,6,7],[4,5,6,7,8],[4,5,6,7,8,9],[],[],[12],[],[12,13,14],[11,12,13,14,15],[11,12,13,14,15,16],[0,1,2,3,4,5,6,7,8,9,10,11,12,13,14,15,16,17],[0,1,2,3,4,5,6,7,8,9,10,11,12,13,14,15,16,17,18],[0,1,2,3,4,5,6,7,8,9,10,11,12,13,14,15,16,17,18,19],[0,1,2,3,4,5,6,7,8,9,10,11,12,13,14,15,16,17,18,19,20],[0,1,2,3,4,5,6,7,8,9,10,11,12,13,14,15,16,17,18,19,20,21],[0,1,2,3,4,5,6,7,8,9,10,11,12,13,14,15,16,17,18,19,20,21,22],[0,1,2,3,4,5,6,7,8,9,10,11,12,13,14,15,16,17,18,19,20,21,22,23],[0,1,2,3,4,5,6,7,8,9,10,11,12,13,14,15,16,17,18,19,20,21,22,23,24],[0,1,2,3,4,5,6,7,8,9,10,11,12,13,14,15,16,17,18,19,20,21,22,23],[0,1,2,3,4,5,6,7,8,9,10,11,12,13,14,15,16,17,18,19,20,21,22,23,24,25,26],[0,1,2,3,4,5,6,7,8,9,10,11,12,13,14,15,16,17,18,19,20,21,22,23,24,25,26,27],[0,1,2,3,4,5,6,7,8,9,10,11,12,13,14,15,16,17,18,19,20,21,22,23,24,25,26,27,28],[0,1,2,3,4,5,6,7,8,9,10,11,12,13,14,15,16,17,18,19,20,21,22,23,24,25,26,27,28,29],[0,1,2,3,4,5,6,7,8,9,10,11,12,13,14,15,16,17,18,19,20,21,22,23,24,25,26,27,28,29,30],[0,1,2,3,4,5,6,7,8,9,10,11,12,13,14,15,16,17,18,19,20,21,22,23,24,25,26,27,28,29,30,31],[0,1,2,3,4,5,6,7,8,9,10,11,12,13,14,15,16,17,18,19,20,21,22,23,24,25,26,27,28,29],[0,1,2,3,4,5,6,7,8,9,10,11,12,13,14,15,16,17,18,19,20,21,22,23,24,25,26,27,28,29],[0,1,2,3,4,5,6,7,8,9,10,11,12,13,14,15,16,17,18,19,20,21,22,23,24,25,26,27,28,29,33,34],[0,1,2,3,4,5,6,7,8,9,10,11,12,13,14,15,16,17,18,19,20,21,22,23,24,25,26,27,28,29,33,34,35],[0,1,2,3,4,5,6,7,8,9,10,11,12,13,14,15,16,17,18,19,20,21,22,23,24,25,26,27,28,29],[0,1,2,3,4,5,6,7,8,9,10,11,12,13,14,15,16,17,18,19,20,21,22,23,24,25,26,27,28,29],[0,1,2,3,4,5,6,7,8,9,10,11,12,13,14,15,16,17,18,19,20,21,22,23,24,25,26,27,28,29,38],[0,1,2,3,4,5,6,7,8,9,10,11,12,13,14,15,16,17,18,19,20,21,22,23,24,25,26,27,28,29,37,38,39],[0,1,2,3,4,5,6,7,8,9,10,11,12,13,14,15,16,17,18,19,20,21,22,23,24,25,26,27,28,29,37,38,39,40],[0,1,2,3,4,5,6,7,8,9,10,11,12,13,14,15,16,17,18,19,20,21,22,23,24,25,26,27,28,29,30,31,32,33,34,35,36,37,38,39,40,41],[0,1,2,3,4,5,6,7,8,9,10,11,12,13,14,15,16,17,18,19,20,21,22,23,24,25,26,27,28,29,30,31,32,33,34,35,36,37,38,39,40,41,42],[0,1,2,3,4,5,6,7,8,9,10,11,12,13,14,15,16,17,18,19,20,21,22,23,24,25,26,27,28,29,30,31,32,33,34,35,36,37,38,39,40,41,42,43],[0,1,2,3,4,5,6,7,8,9,10,11,12,13,14,15,16,17,18,19,20,21,22,23,24,25,26,27,28,29,30,31,32,33,34,35,36,37,38,39,40,41,42,43,44]],by kernel_rfl,?_⟩
     conv=>whnf
     refine ⟨⟨by omega,by omega⟩,?_⟩
     simp only [toNat_cast,au,Nat.zero_add];conv=>whnf
     refine ⟨by show j < n; omega,?_⟩
     conv=>whnf
     rw [ra];conv=>whnf
     rw [show decide ((n:Int)≠0)=true from decide_eq_true (by omega)]
     conv=>whnf
     rw [cg];refine ⟨⟨by omega,by omega⟩,?_⟩
     simp only [toNat_cast,au,Nat.zero_add];conv=>whnf
     refine ⟨by show u < n; omega,?_⟩
     conv=>whnf
     rw [rb];conv=>whnf
     rw [show decide ((n:Int)≠0)=true from decide_eq_true (by omega)]
     conv=>whnf
     rw [xu];refine ⟨⟨by omega,by omega⟩,?_⟩
     simp only [toNat_cast,au,Nat.zero_add];conv=>whnf
     refine ⟨by show w < n; omega,?_⟩
     conv=>whnf
     rw [rd];conv=>whnf
     obtain ⟨z,ez,pz⟩:=dT (aV (ao a.p b.p d.p) 0);refine ⟨(a,b,d),rfl,⟨PV.aR sa (by decide),PV.aR sb (by decide),PV.aR sd (by decide)⟩,?_⟩
     rw [show kj.val (a,b,d)=.int .i64 z from ez]
     conv=>whnf
     have cz:z≤0↔ao a.p b.p d.p≤0:=by rw [pz]; exact Gd
     by_cases h4:z≤0
     ·rw [show decide (z≤0)=true from decide_eq_true h4]
      conv=>whnf
      exact fin 15 (Gh (by omega) qj nI fun e=>(yk xK nI).1 e j (by rw [c4]; omega) (zw.2 (.inl (cz.1 h4))))
     ·rw [show decide (z≤0)=false from decide_eq_false h4]
      have next:¬ oq (aU L) j→∀ k,k < j+1→¬ oq (aU L) k:=fun hb k hk=>by
       rcases Nat.lt_or_eq_of_le (Nat.le_of_lt_succ hk) with e | e
       ·exact hB k e
       ·rw [e]; exact hb
      conv=>whnf
      by_cases h5:0 < j
      ·rw [show decide ((j:Int) > 0)=true from decide_eq_true (by omega)]
       conv=>whnf
       rw [e7];by_cases h6:j+1 < n
       ·rw [show decide (((j+1:Nat):Int) < (n:Int))=true from decide_eq_true (by omega)]
        have rv:=o8 (L:=L) (k:=j+1) (by omega)
        have sv:=aT _ (nj (L:=L) (k:=j+1) (by omega))
        have pv:=jz (L:=L) (k:=j+1) (by omega)
        obtain ⟨v,hv⟩:∃ o,o=g7 L (j+1):=⟨_,rfl⟩;rw [← hv] at rv sv pv;rw [← hg] at rv;have qv:=PV.cj sv (by decide)
        obtain ⟨k,hk⟩:∃ k,k=j+1:=⟨_,rfl⟩;rw [← hk] at rv;conv=>whnf
        refine ⟨⟨by omega,by omega⟩,?_⟩
        simp only [toNat_cast,au,Nat.zero_add];conv=>whnf
        refine ⟨by show 0 < n; omega,?_⟩
        conv=>whnf
        rw [zA];conv=>whnf
        refine ⟨⟨by omega,by omega⟩,?_⟩
        simp only [toNat_cast,au,Nat.zero_add];conv=>whnf
        refine ⟨by show j < n; omega,?_⟩
        conv=>whnf
        rw [ra];conv=>whnf
        rw [e7,← hk];refine ⟨⟨by omega,by omega⟩,?_⟩
        simp only [toNat_cast,au,Nat.zero_add];conv=>whnf
        refine ⟨by show k < n; omega,?_⟩
        conv=>whnf
        rw [rv];conv=>whnf
        obtain ⟨y,ey,py⟩:=dT (aV (ao o.p a.p v.p) 0);refine ⟨(o,a,v),rfl,⟨PV.aR so (by decide),PV.aR sa (by decide),PV.aR sv (by decide)⟩,?_⟩
        rw [show kj.val (o,a,v)=.int .i64 y from ey]
        conv=>whnf
        have cy:y≤0↔ao o.p a.p v.p≤0:=by rw [py]; exact Gd
        rw [pa,po,pv] at cy;by_cases h7:y≤0
        ·rw [show decide (y≤0)=true from decide_eq_true h7]
         conv=>whnf
         exact fin 15 (Gh (by omega) qj nI fun e=>(yk xK nI).1 e j (by rw [c4]; omega) (zw.2 (.inr ⟨h5,h6,cy.1 h7⟩)))
        ·rw [show decide (y≤0)=false from decide_eq_false h7]
         conv=>whnf
         rw [e7];refine .inr ⟨[0],[0,3,5],?_⟩;conv=>whnf
         intro _;conv=>whnf
         refine ⟨_,?_,j+1,(.aa (.sk 2 (.aa (.sk 1 (.aa (.sk 78 .nil rfl)) rfl)) rfl)),rfl,rfl,?_⟩
         ·omega
         ·exact ⟨by omega,next fun e=>(zw.1 e).elim (fun e=>h4 (cz.2 e)) fun e=>h7 (cy.2 e.2.2)⟩
       ·rw [show decide (((j+1:Nat):Int) < (n:Int))=false from decide_eq_false (by omega)]
        conv=>whnf
        rw [e7];refine .inr ⟨[0],[0,3,5],?_⟩;conv=>whnf
        intro _;conv=>whnf
        refine ⟨_,?_,j+1,(.aa (.sk 2 (.aa (.sk 1 (.aa (.sk 78 .nil rfl)) rfl)) rfl)),rfl,rfl,?_⟩
        ·omega
        ·exact ⟨by omega,next fun e=>(zw.1 e).elim (fun e=>h4 (cz.2 e)) fun e=>h6 e.2.1⟩
      ·rw [show decide ((j:Int) > 0)=false from decide_eq_false (by omega)]
       conv=>whnf
       rw [e7];refine .inr ⟨[0],[0,3,5],?_⟩;conv=>whnf
       intro _;conv=>whnf
       refine ⟨_,?_,j+1,(.aa (.sk 2 (.aa (.sk 1 (.aa (.sk 78 .nil rfl)) rfl)) rfl)),rfl,rfl,?_⟩
       ·omega
       ·exact ⟨by omega,next fun e=>(zw.1 e).elim (fun e=>h4 (cz.2 e)) fun e=>h5 e.1⟩
    ·have h3:j=n:=by
      have:=of_decide_eq_false h3;omega
     subst h3;conv=>whnf
     exact fin 0 (My (by omega) qj nI ((yk xK nI).2 fun k hk=>hB k (by rw [c4] at hk; omega)))
def Er3:Env:=En [(77,.p kj)]
theorem acv:EnvOk Tryz.prog Er3:=bC ⟨K9,trivial⟩ trivial
open Go Go.Ae
theorem N5:bc Tryz.prog 79 nG:=by
 refine bf acv aK Tryz.func79 (enters_of Tryz.func79 (by kernel_rfl) rfl) (fun _=>rfl) (fun _=>rfl) ?_
 intro ⟨⟨n1,a1,b1⟩,⟨n2,a2,b2⟩⟩ _;have z6:∀ x:ByteArray,12 < x.size→decide ((x.size:Int) > 12)=true:=fun x h=>decide_eq_true (by omega)
 have small:∀ x:ByteArray,¬ 12 < x.size→decide ((x.size:Int) > 12)=false:=fun x h=>decide_eq_false (by omega)
 conv=>whnf
 by_cases h1:12 < a1.size
 ·rw [z6 _ h1];conv=>whnf
  exact BM (by omega)
 rw [small _ h1];conv=>whnf
 by_cases J:12 < b1.size
 ·rw [z6 _ J];conv=>whnf
  exact BM (by omega)
 rw [small _ J];conv=>whnf
 by_cases h3:12 < a2.size
 ·rw [z6 _ h3];conv=>whnf
  exact BM (by omega)
 rw [small _ h3];conv=>whnf
 by_cases h4:12 < b2.size
 ·rw [z6 _ h4];exact BM (by omega)
 rw [small _ h4];exact Zp (by omega)
def Es1:Env:=En [(79,.p nG)]
theorem acw:EnvOk Tryz.prog Es1:=bC ⟨N5,trivial⟩ trivial
theorem Te:c7 Tryz.prog 53 km:=by
 refine dR acw aK Tryz.func53 (enters_of Tryz.func53 (by kernel_rfl) rfl) ?_ ?_ ?_
 ·intro i b hb;cases i with
  | none=>simp [km,PL.aj] at hb
  | some i=>simp [km,PL.aj] at hb; rw [hb]; rfl
 ·intro i b hb; simp [km] at hb
 intro i hp;have hp:i.list.length≤9223372036854775807:=hp;cases i with
 | none =>
  conv=>whnf
  refine .inr ⟨1,?_⟩;conv=>whnf
  exact ⟨.bool false,rfl,.refl _⟩
 | some i =>
  obtain ⟨L,c⟩:=i;have hlen:L.length≤9223372036854775807:=hp;obtain ⟨n,hn⟩:∃ n,n=L.length:=⟨_,rfl⟩;obtain ⟨g,hg⟩:∃ g,g=c6 L:=⟨_,rfl⟩;have fin:∀ z:Bool,mE L=z→∃ v',cL (List.range 1) 3 (km.val (some (L,c)))=some v'∧eT (.bool z) v':=fun z h=>⟨.bool z,by rw [← h]; rfl,.refl _⟩
  rw [show km.aj (some (L,c))=[.flat false n 6 g] from by rw [hn,hg]; rfl,show km.args (some (L,c))=[.slice (some ⟨0,0,none⟩) n c] from by rw [hn]; rfl]
  rw [← hn] at hlen;conv=>whnf
  by_cases J:66 < n
  ·rw [show decide ((n:Int) > 10)=true from decide_eq_true (by omega)]
   conv=>whnf
   rw [show decide ((n:Int) < 63)=false from decide_eq_false (by omega)]
   conv=>whnf
   rw [show decide ((n:Int) > 66)=true from decide_eq_true (by omega)]
   conv=>whnf
   exact fin true (K4 (.inr (by omega)))
  by_cases h1:10 < n∧n < 63
  ·rw [show decide ((n:Int) > 10)=true from decide_eq_true (by omega)]
   conv=>whnf
   rw [show decide ((n:Int) < 63)=true from decide_eq_true (by omega)]
   conv=>whnf
   exact fin true (K4 (.inl (by omega)))
  have adE:=SS (L:=L) (by omega)
  have fin:=fun (z:Bool) (h:tV 12 L=z)=>fin z (adE.trans h)
  by_cases h3:10 < n
  ·rw [show decide ((n:Int) > 10)=true from decide_eq_true (by omega)]
   conv=>whnf
   rw [show decide ((n:Int) < 63)=false from decide_eq_false (by omega)]
   conv=>whnf
   rw [show decide ((n:Int) > 66)=false from decide_eq_false (by omega)]
   conv=>whnf
   refine .inl ⟨fun mm tz hz=>∃ (i:Nat),bt (some (.slice (some ⟨0,0,none⟩) n c)::aC 2 (some (.int .i64 i)::aC 24 [])) tz∧hz=[some (.flat false n 6 g)]∧n - i=mm∧(i≤n∧tJ 12 L i),.inr ⟨[0],[0,3],?_⟩,?_⟩
   ·conv=>whnf
    intro _;conv=>whnf
    refine ⟨_,0,(.aa (.sk 2 (.aa (.sk 24 .nil rfl)) rfl)),rfl,rfl,?_⟩;exact ⟨Nat.zero_le _,JJ _ _⟩
   rintro mm aS _ ⟨i,aw,rfl,rfl,⟨hi,hU⟩⟩
   obtain ⟨az,rfl⟩:∃ az:Nat→Value,aS=.slice (some ⟨0,0,none⟩) n c::zs az 1 2 (.int .i64 i::zs az 4 24 []):=bF aw;clear aw;conv=>whnf
   refine aI (fun h3=>?_) (fun h3=>?_)
   ·have h3:i < n:=by
     have:=of_decide_eq_true h3;omega
    have e7:IntKind.i64.wrap ((i:Int)+1)=((i+1:Nat):Int):=by rw [ax (by omega) (by omega)]; rfl
    obtain ⟨m,kL,mn,aW⟩:=re (l:=L) (i:=i) (by omega)
    rw [← hg] at aW;conv=>whnf
    refine ⟨⟨by omega,by omega⟩,?_⟩
    simp only [toNat_cast,au,Nat.zero_add];conv=>whnf
    refine ⟨by show i < n; omega,?_⟩
    conv=>whnf
    rw [aW];conv=>whnf
    refine ⟨m,rfl,trivial,?_⟩;by_cases h4:m.sz 12
    ·rw [show nG.val m=.bool false from congrArg Value.bool (decide_eq_false fun e=>e h4)]
     conv=>whnf
     rw [e7];refine .inr ⟨[0],[0,3],?_⟩;conv=>whnf
     intro _;conv=>whnf
     refine ⟨_,?_,i+1,(.aa (.sk 2 (.aa (.sk 24 .nil rfl)) rfl)),rfl,rfl,?_⟩
     ·omega
     ·exact ⟨by omega,JZ hU kL h4⟩
    ·rw [show nG.val m=.bool true from congrArg Value.bool (decide_eq_true h4)]
     conv=>whnf
     exact fin true (D8 mn h4)
   ·have h3:i=n:=by
     have:=of_decide_eq_false h3;omega
    subst h3;conv=>whnf
    exact fin false (Kk (by rw [← hn]; exact hU))
  ·rw [show decide ((n:Int) > 10)=false from decide_eq_false (by omega)]
   conv=>whnf
   rw [show decide ((n:Int) > 66)=false from decide_eq_false (by omega)]
   conv=>whnf
   refine .inl ⟨fun mm tz hz=>∃ (i:Nat),bt (some (.slice (some ⟨0,0,none⟩) n c)::aC 2 (some (.int .i64 i)::aC 24 [])) tz∧hz=[some (.flat false n 6 g)]∧n - i=mm∧(i≤n∧tJ 12 L i),.inr ⟨[0],[0,3],?_⟩,?_⟩
   ·conv=>whnf
    intro _;conv=>whnf
    refine ⟨_,0,(.aa (.sk 2 (.aa (.sk 24 .nil rfl)) rfl)),rfl,rfl,?_⟩;exact ⟨Nat.zero_le _,JJ _ _⟩
   rintro mm aS _ ⟨i,aw,rfl,rfl,⟨hi,hU⟩⟩
   obtain ⟨az,rfl⟩:∃ az:Nat→Value,aS=.slice (some ⟨0,0,none⟩) n c::zs az 1 2 (.int .i64 i::zs az 4 24 []):=bF aw;clear aw;conv=>whnf
   refine aI (fun h3=>?_) (fun h3=>?_)
   ·have h3:i < n:=by
     have:=of_decide_eq_true h3;omega
    have e7:IntKind.i64.wrap ((i:Int)+1)=((i+1:Nat):Int):=by rw [ax (by omega) (by omega)]; rfl
    obtain ⟨m,kL,mn,aW⟩:=re (l:=L) (i:=i) (by omega)
    rw [← hg] at aW;conv=>whnf
    refine ⟨⟨by omega,by omega⟩,?_⟩
    simp only [toNat_cast,au,Nat.zero_add];conv=>whnf
    refine ⟨by show i < n; omega,?_⟩
    conv=>whnf
    rw [aW];conv=>whnf
    refine ⟨m,rfl,trivial,?_⟩;by_cases h4:m.sz 12
    ·rw [show nG.val m=.bool false from congrArg Value.bool (decide_eq_false fun e=>e h4)]
     conv=>whnf
     rw [e7];refine .inr ⟨[0],[0,3],?_⟩;conv=>whnf
     intro _;conv=>whnf
     refine ⟨_,?_,i+1,(.aa (.sk 2 (.aa (.sk 24 .nil rfl)) rfl)),rfl,rfl,?_⟩
     ·omega
     ·exact ⟨by omega,JZ hU kL h4⟩
    ·rw [show nG.val m=.bool true from congrArg Value.bool (decide_eq_true h4)]
     conv=>whnf
     exact fin true (D8 mn h4)
   ·have h3:i=n:=by
     have:=of_decide_eq_false h3;omega
    subst h3;conv=>whnf
    exact fin false (Kk (by rw [← hn]; exact hU))
open Go Go.Ae
open Go Go.Ae
open Go Go.Ae
def Ea1:Env:=En [(55,.p p6)]
theorem acx:EnvOk Tryz.prog Ea1:=bC ⟨N3,trivial⟩ trivial
theorem Ul:c7 Tryz.prog 54 gP:=by
 refine dR acx aK Tryz.func54 (enters_of Tryz.func54 (by kernel_rfl) rfl) ?_ ?_ ?_
 ·intro i b hb; simp [gP] at hb; rw [hb]; rfl
 ·intro i b hb; simp [gP] at hb; rw [← hb]; rfl
 intro (L:II) hp;have hp:(0 < L.length∧L.length≤1000000)∧∀ x∈L,x.1.natAbs < 256∧x.2.natAbs < 256:=hp;obtain ⟨⟨h0,hlen⟩,QA⟩:=hp;obtain ⟨n,hn⟩:∃ n,n=L.length:=⟨_,rfl⟩;obtain ⟨m,hm⟩:∃ m,m=2*n:=⟨_,rfl⟩;obtain ⟨g,hg⟩:∃ g,g=mO L:=⟨_,rfl⟩;obtain ⟨K,hK⟩:∃ K,K=iF gP L:=⟨_,rfl⟩;rw [show gP.aj L=[.flat false m 1 g] from by rw [hm,hn,hg]; rfl,show gP.args L=[.slice (some ⟨0,0,none⟩) m m] from by rw [hm,hn]; rfl,← hK]
 rw [← hn] at hlen h0;conv=>whnf
 refine .inl ⟨fun mm tz hz=>∃ (j:Nat) (i:Nat) (O:List Q2) (q:Nat) (F:Nat→List Value),bt (some (.slice (some ⟨0,0,none⟩) m m)::aC 2 (some (ef 1 q)::some (.int .i64 i)::aC 21 [])) tz∧hz=[some (.flat false m 1 g)]++zj 6 F q∧n - j=mm∧((j≤n∧q=j∧i=2*j∧q=O.length)∧O=bn (L.take j)∧(∀ r,r < q→F r=bS O r)),.inr ⟨[0],[0,3,4],?_⟩,?_⟩
 ·conv=>whnf
  intro _;conv=>whnf
  refine ⟨_,0,0,[],0,fun _=>[],(.aa (.sk 2 (.aa (.aa (.sk 21 .nil rfl))) rfl)),rfl,rfl,?_⟩
  exact ⟨⟨Nat.zero_le _,rfl,rfl,rfl⟩,rfl,fun r hr=>absurd hr (Nat.not_lt_zero r)⟩
 rintro mm aS _ ⟨j,i,O,q,F,aw,rfl,rfl,⟨⟨hj,QC,hi,hq⟩,hO,hF⟩⟩
 obtain ⟨az,rfl⟩:∃ az:Nat→Value,aS=.slice (some ⟨0,0,none⟩) m m::zs az 1 2 (ef 1 q::.int .i64 i::zs az 5 21 []):=bF aw;clear aw;obtain ⟨k,hk⟩:∃ k,k=i+1:=⟨_,rfl⟩;have e1:IntKind.i64.wrap ((i:Int)+1)=(k:Int):=by rw [ax (by omega) (by omega),hk]; rfl
 have e2:IntKind.i64.wrap ((i:Int)+2)=((i+2:Nat):Int):=by rw [ax (by omega) (by omega)]; rfl
 cases q with
 | zero =>
  obtain rfl:O=[]:=List.eq_nil_of_length_eq_zero hq.symm;conv=>whnf
  rw [e1];refine aI (fun h1=>?_) (fun h1=>?_)
  ·have h1:j < n:=by
    have:=of_decide_eq_true h1;omega
   obtain ⟨x,hx⟩:∃ x,x=qP L j:=⟨_,rfl⟩;have gp:=No (l:=L) (j:=j) (by omega)
   rw [← hx] at gp;have ra:g i=[.int .i64 x.1]:=by rw [hg,hi]; exact ME hx
   have rb:g k=[.int .i64 x.2]:=by rw [hk,hg,hi]; exact MF hx
   have aq:=MG gp.2;rw [← hO] at aq;have hs:=QA x gp.1;conv=>whnf
   refine .inl ⟨12,[[],[],[],[1,2],[1,2,3],[],[],[6],[5,6,7],[5,6,7,8],[1,2,3,4,5,6,7,8,9],[1,2,3,4,5,6,7,8,9,10],[0,1,2,3,4,5,6,7,8,9,10,11],[0,1,2,3,4,5,6,7,8,9,10,11,12]],by kernel_rfl,?_⟩
   conv=>whnf
   refine ⟨⟨by omega,by omega⟩,?_⟩
   simp only [toNat_cast,au,Nat.zero_add];conv=>whnf
   refine ⟨by show i < m; omega,?_⟩
   conv=>whnf
   rw [ra];conv=>whnf
   rw [e1];refine ⟨⟨by omega,by omega⟩,?_⟩
   simp only [toNat_cast,au,Nat.zero_add];conv=>whnf
   refine ⟨by show k < m; omega,?_⟩
   conv=>whnf
   rw [rb];conv=>whnf
   obtain ⟨u,cu,eu,pu,su,qu⟩:=wN (uG x.1 x.2 hs.1 hs.2);refine ⟨(x.1,x.2),rfl,⟨⟨by show -9223372036854775808≤x.1; omega,by show x.1 < 9223372036854775808; omega⟩,⟨by show -9223372036854775808≤x.2; omega,by show x.2 < 9223372036854775808; omega⟩⟩,?_⟩
   rw [show p6.val (x.1,x.2)=u.v from eu]
   conv=>whnf
   refine ⟨by show (0+1)*80≤140737488355328; decide,?_⟩
   conv=>whnf
   rw [e2];refine .inr ⟨[0,13],[0,3,4],?_⟩;conv=>whnf
   intro _;conv=>whnf
   refine ⟨_,?_,j+1,i+2,[iq x],1,_,(.aa (.sk 2 (.aa (.aa (.sk 21 .nil rfl))) rfl)),rfl,rfl,?_⟩
   ·omega
   ·exact ⟨⟨by omega,by omega,by omega,rfl⟩,by rw [aq]; rfl,wh cu rfl⟩
  ·exfalso;have:=of_decide_eq_false h1;omega
 | succ q =>
  have e0:i≠0:=by omega
  conv=>whnf
  rw [e1];refine aI (fun h1=>?_) (fun h1=>?_)
  ·have h1:j < n:=by
    have:=of_decide_eq_true h1;omega
   obtain ⟨x,hx⟩:∃ x,x=qP L j:=⟨_,rfl⟩;have gp:=No (l:=L) (j:=j) (by omega)
   rw [← hx] at gp;have ra:g i=[.int .i64 x.1]:=by rw [hg,hi]; exact ME hx
   have rb:g k=[.int .i64 x.2]:=by rw [hk,hg,hi]; exact MF hx
   have aq:=MG gp.2;rw [← hO] at aq;have hs:=QA x gp.1;conv=>whnf
   refine .inl ⟨12,[[],[],[],[1,2],[1,2,3],[],[],[6],[5,6,7],[5,6,7,8],[1,2,3,4,5,6,7,8,9],[1,2,3,4,5,6,7,8,9,10],[0,1,2,3,4,5,6,7,8,9,10,11],[0,1,2,3,4,5,6,7,8,9,10,11,12]],by kernel_rfl,?_⟩
   conv=>whnf
   refine ⟨⟨by omega,by omega⟩,?_⟩
   simp only [toNat_cast,au,Nat.zero_add];conv=>whnf
   refine ⟨by show i < m; omega,?_⟩
   conv=>whnf
   rw [ra];conv=>whnf
   rw [e1];refine ⟨⟨by omega,by omega⟩,?_⟩
   simp only [toNat_cast,au,Nat.zero_add];conv=>whnf
   refine ⟨by show k < m; omega,?_⟩
   conv=>whnf
   rw [rb];conv=>whnf
   obtain ⟨u,cu,eu,pu,su,qu⟩:=wN (uG x.1 x.2 hs.1 hs.2);refine ⟨(x.1,x.2),rfl,⟨⟨by show -9223372036854775808≤x.1; omega,by show x.1 < 9223372036854775808; omega⟩,⟨by show -9223372036854775808≤x.2; omega,by show x.2 < 9223372036854775808; omega⟩⟩,?_⟩
   rw [show p6.val (x.1,x.2)=u.v from eu]
   conv=>whnf
   refine ⟨⟨by show 1≤1; decide,rfl,by show (q+1+1)*80≤140737488355328; omega⟩,?_⟩
   conv=>whnf
   refine ⟨[0,4],?_⟩;conv=>whnf
   intro _;conv=>whnf
   rw [e2];refine .inr ⟨[0,1],[0,3,4],?_⟩;conv=>whnf
   intro _;conv=>whnf
   refine ⟨_,?_,j+1,i+2,O++[iq x],q+1+1,_,(.aa (.sk 2 (.aa (.aa (.sk 21 .nil rfl))) rfl)),rfl,rfl,?_⟩
   ·omega
   ·exact ⟨⟨by omega,by omega,by omega,by rw [List.length_append,← hq]; rfl⟩,aq.symm,rl hq hF cu rfl⟩
  ·have h1:j=n:=by
    have:=of_decide_eq_false h1;omega
   subst h1;have hE:bn L=O:=by rw [hO,hn,List.take_length]
   have Js:O.length=(bn L).length:=by rw [hE]
   conv=>whnf
   rw [hK];unfold iF;rw [show gP.new L=some (.flat true (q+1) 6 (bS O)) from by show some (ah.flat true L.length 6 (bS (bn L)))=_; rw [← hn,hE,← QC],show gP.val L=.slice (some ⟨1,0,none⟩) (q+1) aJ from by show Value.slice (some ⟨1,0,none⟩) L.length aJ=_; rw [← hn,← QC]]
   refine ⟨1,?_⟩;conv=>whnf
   exact ⟨⟨rfl,aP.rf (fun h=>h) hF (fun r hr=>rfl)⟩,_,rfl,.refl _⟩
open Go Go.Ae
def Edz:Env:=sR [(33,.p mc)]
theorem acy:EnvOk Tryz.prog Edz:=uP ⟨yL,trivial⟩ trivial
theorem VU:c7 Tryz.prog 18 jR:=by
 refine dR acy aK Tryz.func18 (enters_of Tryz.func18 (by kernel_rfl) rfl) ?_ ?_ ?_
 ·intro ⟨i,j⟩ b hb;cases i <;> cases j <;> simp [jR,PL.aj] at hb <;> (try rcases hb with rfl | rfl) <;> (try subst hb) <;> first | rfl | skip
 ·intro i b hb; simp [jR] at hb
 intro ⟨i,j⟩ hp;have hp:i.list.length≤1099511627776∧j.list.length≤1099511627776:=hp;obtain ⟨QD,PU⟩:=hp;cases i with
 | none =>
  cases j with
  | none =>
   conv=>whnf
   refine .inr ⟨1,?_⟩;conv=>whnf
   exact ⟨.bool true,rfl,.refl _⟩
  | some j =>
   obtain ⟨m,c⟩:=j;obtain ⟨n,hn⟩:∃ n,n=m.length:=⟨_,rfl⟩;obtain ⟨g,hg⟩:∃ g,g=c6 m:=⟨_,rfl⟩;have fin:∀ b:Bool,b=decide ([]=m)→∃ v',cL (List.range 1) 3 (jR.val (none,some (m,c)))=some v'∧eT (.bool b) v':=fun b h=>⟨.bool b,by rw [h]; rfl,.refl _⟩
   rw [show jR.aj (none,some (m,c))=[.flat false n 6 g] from by rw [hn,hg]; rfl,show jR.args (none,some (m,c))=[.slice none 0 0,.slice (some ⟨0,0,none⟩) n c] from by rw [hn]; rfl]
   by_cases h0:n=0
   ·have hm:m=[]:=List.length_eq_zero_iff.1 (hn.symm.trans h0);subst h0;conv=>whnf
    refine .inr ⟨1,?_⟩;conv=>whnf
    exact fin true (by rw [hm]; rfl)
   ·conv=>whnf
    rw [show (((0:Nat):Int) != ((n:Nat):Int))=true from by simp; omega]
    conv=>whnf
    exact fin false (by cases m with | nil=>exact absurd hn h0 | cons a m=>rfl)
 | some i =>
  obtain ⟨l,c⟩:=i;obtain ⟨k,hk⟩:∃ n,n=l.length:=⟨_,rfl⟩;obtain ⟨f,hf⟩:∃ g,g=c6 l:=⟨_,rfl⟩;have QD:k≤1099511627776:=by rw [hk]; exact QD
  cases j with
  | none =>
   have fin:∀ b:Bool,b=decide (l=[])→∃ v',cL (List.range 1) 3 (jR.val (some (l,c),none))=some v'∧eT (.bool b) v':=fun b h=>⟨.bool b,by rw [h]; rfl,.refl _⟩
   rw [show jR.aj (some (l,c),none)=[.flat false k 6 f] from by rw [hk,hf]; rfl,show jR.args (some (l,c),none)=[.slice (some ⟨0,0,none⟩) k c,.slice none 0 0] from by rw [hk]; rfl]
   by_cases h0:k=0
   ·have hm:l=[]:=List.length_eq_zero_iff.1 (hk.symm.trans h0);subst h0;conv=>whnf
    refine .inr ⟨1,?_⟩;conv=>whnf
    exact fin true (by rw [hm]; rfl)
   ·conv=>whnf
    rw [show (((k:Nat):Int) != ((0:Nat):Int))=true from by simp; omega]
    conv=>whnf
    exact fin false (by cases l with | nil=>exact absurd hk h0 | cons a m=>rfl)
  | some j =>
   obtain ⟨m,d⟩:=j;obtain ⟨n,hn⟩:∃ n,n=m.length:=⟨_,rfl⟩;obtain ⟨g,hg⟩:∃ g,g=c6 m:=⟨_,rfl⟩;have fin:∀ b:Bool,b=decide (l=m)→∃ v',cL (List.range 2) 3 (jR.val (some (l,c),some (m,d)))=some v'∧eT (.bool b) v':=fun b h=>⟨.bool b,by rw [h]; rfl,.refl _⟩
   rw [show jR.aj (some (l,c),some (m,d))=[.flat false k 6 f,.flat false n 6 g] from by rw [hk,hf,hn,hg]; rfl,show jR.args (some (l,c),some (m,d))=[.slice (some ⟨0,0,none⟩) k c,.slice (some ⟨1,0,none⟩) n d] from by rw [hk,hn]; rfl]
   by_cases h0:k=n
   ·obtain rfl:=h0;conv=>whnf
    rw [show ((k:Int) != (k:Int))=false from by simp]
    conv=>whnf
    refine .inl ⟨fun mm tz hz=>∃ (i:Nat),bt (some (.slice (some ⟨0,0,none⟩) k c)::some (.slice (some ⟨1,0,none⟩) k d)::aC 10 (some (.int .i64 k)::some (.int .i64 i)::aC 12 [])) tz∧hz=[some (.flat false k 6 f),some (.flat false k 6 g)]∧k - i=mm∧(i≤k∧uH l m i),.inr ⟨[0,1],[0,1,12,13],?_⟩,?_⟩
    ·conv=>whnf
     intro _;conv=>whnf
     refine ⟨_,0,(.aa (.aa (.sk 10 (.aa (.aa (.sk 12 .nil rfl))) rfl))),rfl,rfl,?_⟩;exact ⟨Nat.zero_le _,Sy _ _⟩
    rintro mm aS _ ⟨i,aw,rfl,rfl,⟨hi,hN⟩⟩
    obtain ⟨az,rfl⟩:∃ az:Nat→Value,aS=.slice (some ⟨0,0,none⟩) k c::.slice (some ⟨1,0,none⟩) k d::zs az 2 10 (.int .i64 k::.int .i64 i::zs az 14 12 []):=bF aw;clear aw;conv=>whnf
    refine aI (fun h1=>?_) (fun h1=>?_)
    ·have h1:i < k:=by
      have:=of_decide_eq_true h1;omega
     obtain ⟨p,kK,_,aW⟩:=re (l:=l) (i:=i) (by omega)
     obtain ⟨q,Js,_,OE⟩:=re (l:=m) (i:=i) (by omega)
     rw [← hf] at aW;rw [← hg] at OE;have e7:IntKind.i64.wrap ((i:Int)+1)=((i+1:Nat):Int):=by rw [ax (by omega) (by omega)]; rfl
     conv=>whnf
     refine .inl ⟨8,[[],[],[0,1],[0,1,2],[],[],[4,5],[4,5,6],[0,1,2,3,4,5,6,7]],by kernel_rfl,?_⟩
     conv=>whnf
     refine ⟨⟨by omega,by omega⟩,?_⟩
     simp only [toNat_cast,au,Nat.zero_add];conv=>whnf
     refine ⟨by show i < k; omega,?_⟩
     conv=>whnf
     rw [aW];conv=>whnf
     refine ⟨⟨by omega,by omega⟩,?_⟩
     simp only [toNat_cast,au,Nat.zero_add];conv=>whnf
     refine ⟨by show i < k; omega,?_⟩
     conv=>whnf
     rw [OE];conv=>whnf
     rw [C0 p q];by_cases J:p=q
     ·rw [decide_eq_true J];conv=>whnf
      rw [e7];refine .inr ⟨[0,1],[0,1,12,13],?_⟩;conv=>whnf
      intro _;conv=>whnf
      refine ⟨_,?_,i+1,(.aa (.aa (.sk 10 (.aa (.aa (.sk 12 .nil rfl))) rfl))),rfl,rfl,?_⟩
      ·omega
      ·exact ⟨by omega,TR hN kK Js J⟩
     ·rw [decide_eq_false J];conv=>whnf
      exact fin false (decide_eq_false (abz kK Js J)).symm
    ·have h1:i=k:=by
      have:=of_decide_eq_false h1;omega
     subst h1;conv=>whnf
     exact fin true (decide_eq_true (U3 (by rw [← hk]; exact hN) (hk.symm.trans hn))).symm
   ·conv=>whnf
    rw [show ((k:Int) != (n:Int))=true from by simp; omega]
    conv=>whnf
    exact fin false (decide_eq_false (fun e=>h0 (by rw [hk,hn,e]))).symm
open Go Go.Ae
def Ea2:Env:=sR [(54,.q gP),(16,.q iT),(44,.q mf),(21,.q lU),(55,.p p6),(30,.p tI),(33,.p mc),(38,.p gx),(18,.q jR)]
theorem acz:EnvOk Tryz.prog Ea2:=uP ⟨Ul,VT,YM,YN,N3,Fi,yL,wF,VU,trivial⟩ trivial
theorem Tf:bc Tryz.prog 13 NP:=by
 refine bf acz aK Tryz.func13 (enters_of Tryz.func13 (by kernel_rfl) rfl) (fun _=>rfl) (fun _=>rfl) ?_
 intro _ hp;obtain ⟨cu,fm⟩:∃ cu,cu=aJ:=⟨_,rfl⟩;obtain ⟨gS,vA⟩:∃ g,g=bS (bn dc):=⟨_,rfl⟩;obtain ⟨gT,Jt⟩:∃ g,g=bS (bn jh):=⟨_,rfl⟩;obtain ⟨gU,Ju⟩:∃ g,g=bS (bn jI):=⟨_,rfl⟩;obtain ⟨gM,Ar⟩:∃ g,g=bS (bn ji):=⟨_,rfl⟩;have fS:PL.fit (some (bE (bn dc),cu)):=GJ (by decide) (by decide)
 have fT:PL.fit (some (bE (bn jh),cu)):=GJ (by decide) (by decide)
 have fU:PL.fit (some (bE (bn jI),cu)):=GJ (by decide) (by decide)
 conv=>whnf
 refine ⟨dc,[0],rfl,⟨by decide,by decide⟩,?_⟩
 rw [show gP.aj dc=[.flat false 8 1 (mO dc)] from rfl,show gP.val dc=.slice (some ⟨1,0,none⟩) 4 cu from by rw [fm]; rfl,show gP.new dc=some (.flat true 4 6 gS) from by rw [vA]; rfl]
 conv=>whnf
 refine ⟨Bt dc _ rfl,?_⟩;conv=>whnf
 refine ⟨_,rfl,?_⟩;conv=>whnf
 refine ⟨jh,[2],rfl,⟨by decide,by decide⟩,?_⟩
 rw [show gP.aj jh=[.flat false 6 1 (mO jh)] from rfl,show gP.val jh=.slice (some ⟨1,0,none⟩) 3 cu from by rw [fm]; rfl,show gP.new jh=some (.flat true 3 6 gT) from by rw [Jt]; rfl]
 conv=>whnf
 refine ⟨Bt jh _ rfl,?_⟩;conv=>whnf
 refine ⟨_,rfl,?_⟩;conv=>whnf
 refine ⟨(some (bE (bn dc),cu),some (bE (bn jh),cu)),[1,3],rfl,⟨⟨fS,fT⟩,abE (He (by decide)) (He (by decide))⟩,?_⟩
 rw [show iT.aj (some (bE (bn dc),cu),some (bE (bn jh),cu))=[.flat false 4 6 gS,.flat false 3 6 gT] from by rw [vA,Jt]; rfl,MH.1,MH.2,← Ar,← fm]
 conv=>whnf
 refine ⟨aP.aY (fun h=>by cases h) (fun r hr=>by rw [vA]; rfl),aP.aY (fun h=>by cases h) (fun r hr=>by rw [Jt]; rfl),?_⟩
 conv=>whnf
 refine ⟨_,rfl,?_⟩;conv=>whnf
 refine ⟨jI,[5],rfl,⟨by decide,by decide⟩,?_⟩
 rw [show gP.aj jI=[.flat false 6 1 (mO jI)] from rfl,show gP.val jI=.slice (some ⟨1,0,none⟩) 3 cu from by rw [fm]; rfl,show gP.new jI=some (.flat true 3 6 gU) from by rw [Ju]; rfl]
 conv=>whnf
 refine ⟨Bt jI _ rfl,?_⟩;conv=>whnf
 refine ⟨_,rfl,?_⟩;conv=>whnf
 obtain ⟨sa,Ao⟩:∃ u,u=bW (iq (4,0)):=⟨_,rfl⟩;obtain ⟨sb,DL⟩:∃ u,u=bW (iq (4,4)):=⟨_,rfl⟩;refine ⟨(some (bE (bn dc),cu),some (bE (bn jI),cu)),[1,6],rfl,⟨fS,fU⟩,?_⟩;rw [show mf.aj (some (bE (bn dc),cu),some (bE (bn jI),cu))=[.flat false 4 6 gS,.flat false 3 6 gU] from by rw [vA,Ju]; rfl,WR Ao DL,show mf.new (some (bE (bn dc),cu),some (bE (bn jI),cu))=none from rfl]
 conv=>whnf
 refine ⟨aP.aY (fun h=>by cases h) (fun r hr=>by rw [vA]; rfl),aP.aY (fun h=>by cases h) (fun r hr=>by rw [Ju]; rfl),?_⟩
 conv=>whnf
 refine ⟨_,rfl,?_⟩;conv=>whnf
 obtain ⟨p1,cp1,ep1,pp1,sp1,qp1⟩:=wN (uG (-2) (1) (by decide) (by decide))
 refine ⟨(((-2:Int),(1:Int)):Int × Int),rfl,⟨⟨by decide,by decide⟩,⟨by decide,by decide⟩⟩,?_⟩
 rw [show p6.val (((-2:Int),(1:Int)):Int × Int)=p1.v from ep1]
 conv=>whnf
 obtain ⟨p2,cp2,ep2,pp2,sp2,qp2⟩:=wN (uG (6) (1) (by decide) (by decide))
 refine ⟨(((6:Int),(1:Int)):Int × Int),rfl,⟨⟨by decide,by decide⟩,⟨by decide,by decide⟩⟩,?_⟩
 rw [show p6.val (((6:Int),(1:Int)):Int × Int)=p2.v from ep2]
 conv=>whnf
 obtain ⟨lo,sU,elo,plo,sW,Ap⟩:=yI (q:=1 / 4) (k:=1) ⟨fh (show _ < C ^ 1 by decide +kernel),fh (show _ < C ^ 1 by decide +kernel)⟩
 obtain ⟨hi,sV,ehi,phi,vz,Aq⟩:=yI (q:=3 / 4) (k:=1) ⟨fh (show _ < C ^ 1 by decide +kernel),fh (show _ < C ^ 1 by decide +kernel)⟩
 refine ⟨(some (bE (bn dc),cu),(p1,p2)),[1],rfl,⟨fS,PV.aR sp1 (by decide),PV.aR sp2 (by decide)⟩,?_⟩
 rw [show lU.aj (some (bE (bn dc),cu),(p1,p2))=[.flat false 4 6 gS] from by rw [vA]; rfl,WS cp1 cp2 sU sV,show lU.new (some (bE (bn dc),cu),(p1,p2))=none from rfl]
 conv=>whnf
 refine ⟨aP.aY (fun h=>by cases h) (fun r hr=>by rw [vA]; rfl),?_⟩
 conv=>whnf
 refine ⟨_,rfl,?_⟩;conv=>whnf
 refine ⟨(1,4),rfl,⟨by show oS 1; decide,by show oS 4; decide⟩,?_⟩
 rw [show tI.val (1,4)=.tuple ⟨[lo.v,.int .i64 0]⟩ from by show iH 1 4=_; unfold iH; rw [show Rat.divInt 1 4=1 / 4 by decide +kernel,sU]; rfl]
 conv=>whnf
 refine .inl ⟨36,[[],[0],[0,1],[0,1,2],[0,1,2,3],[0,1,2,3,4],[0,1,2,3,4,5],[0,1,2,3,4,5,6],[0,1,2,3,4,5,6,7],[0,1,2,3,4,5,6,7,8],[0,1,2,3,4,5,6,7,8,9],[0,1,2,3,4,5,6,7,8,9,10],[0,1,2,3,4,5,6,7,8,9,10],[0,1,2,3,4,5,6,7,8,9,10,12],[0,1,2,3,4,5,6,7,8,9,10,11,12,13],[0,1,2,3,4,5,6,7,8,9,10,11,12,13,14],[0,1,2,3,4,5,6,7,8,9,10,11,12,13,14,15],[0,1,2,3,4,5,6,7,8,9,10,11,12,13,14,15,16],[0,1,2,3,4,5,6,7,8,9,10,11,12,13,14,15,16],[0,1,2,3,4,5,6,7,8,9,10,11,12,13,14,15,16,18],[0,1,2,3,4,5,6,7,8,9,10,11,12,13,14,15,16,18,19],[0,1,2,3,4,5,6,7,8,9,10,11,12,13,14,15,16,17,18,19,20],[0,1,2,3,4,5,6,7,8,9,10,11,12,13,14,15,16,17,18,19,20,21],[0,1,2,3,4,5,6,7,8,9,10,11,12,13,14,15,16,17,18,19,20,21,22],[0,1,2,3,4,5,6,7,8,9,10,11,12,13,14,15,16,17,18,19,20,21,22,23],[0,1,2,3,4,5,6,7,8,9,10,11,12,13,14,15,16,17,18,19,20,21,22,23,24],[0,1,2,3,4,5,6,7,8,9,10,11,12,13,14,15,16,17,18,19,20,21,22,23,24,25],[0,1,2,3,4,5,6,7,8,9,10,11,12,13,14,15,16,17,18,19,20,21,22,23,24,25,26],[0,1,2,3,4,5,6,7,8,9,10,11,12,13,14,15,16,17,18,19,20,21,22,23,24,25,26],[0,1,2,3,4,5,6,7,8,9,10,11,12,13,14,15,16,17,18,19,20,21,22,23,24,25,26,27,28],[0,1,2,3,4,5,6,7,8,9,10,11,12,13,14,15,16,17,18,19,20,21,22,23,24,25,26,27,28,29],[0,1,2,3,4,5,6,7,8,9,10,11,12,13,14,15,16,17,18,19,20,21,22,23,24,25,26,27,28,29,30],[0,1,2,3,4,5,6,7,8,9,10,11,12,13,14,15,16,17,18,19,20,21,22,23,24,25,26,27,28,29,30,31],[0,1,2,3,4,5,6,7,8,9,10,11,12,13,14,15,16,17,18,19,20,21,22,23,24,25,26,27,28,29,30,31],[0,1,2,3,4,5,6,7,8,9,10,11,12,13,14,15,16,17,18,19,20,21,22,23,24,25,26,27,28,29,30,31],[0,1,2,3,4,5,6,7,8,9,10,11,12,13,14,15,16,17,18,19,20,21,22,23,24,25,26,27,28,29,30,31,33,34],[0,1,2,3,4,5,6,7,8,9,10,11,12,13,14,15,16,17,18,19,20,21,22,23,24,25,26,27,28,29,30,31,32,33,34,35],[0,1,2,3,4,5,6,7,8,9,10,11,12,13,14,15,16,17,18,19,20,21,22,23,24,25,26,27,28,29,30,31,32,33,34,35,36],[0,1,2,3,4,5,6,7,8,9,10,11,12,13,14,15,16,17,18,19,20,21,22,23,24,25,26,27,28,29,30,31,32,33,34,35,36,37]],by kernel_rfl,?_⟩
 conv=>whnf
 refine ⟨ji,[23],rfl,⟨by decide,by decide⟩,?_⟩
 rw [show gP.aj ji=[.flat false 8 1 (mO ji)] from rfl,show gP.val ji=.slice (some ⟨1,0,none⟩) 4 cu from by rw [fm]; rfl,show gP.new ji=some (.flat true 4 6 gM) from by rw [Ar]; rfl]
 conv=>whnf
 refine ⟨Bt ji _ rfl,?_⟩;conv=>whnf
 refine ⟨_,rfl,?_⟩;conv=>whnf
 refine ⟨(some (bE (bn ji),cu),some (bE (bn ji),cu)),[4,24],rfl,⟨by show 4≤1099511627776; decide,by show 4≤1099511627776; decide⟩,?_⟩
 rw [show jR.aj (some (bE (bn ji),cu),some (bE (bn ji),cu))=[.flat false 4 6 gM,.flat false 4 6 gM] from by rw [Ar]; rfl,show jR.val (some (bE (bn ji),cu),some (bE (bn ji),cu))=.bool true from congrArg Value.bool (decide_eq_true rfl),show jR.new (some (bE (bn ji),cu),some (bE (bn ji),cu))=none from rfl]
 conv=>whnf
 refine ⟨aP.aY (fun h=>by cases h) (fun r hr=>by rw [Ar]; rfl),aP.aY (fun h=>by cases h) (fun r hr=>by rw [Ar]; rfl),?_⟩
 conv=>whnf
 refine ⟨.bool true,rfl,?_⟩;conv=>whnf
 obtain ⟨q1,cq1,eq1,pq1,sq1,qq1⟩:=wN (uG (4) (0) (by decide) (by decide))
 refine ⟨(((4:Int),(0:Int)):Int × Int),rfl,⟨⟨by decide,by decide⟩,⟨by decide,by decide⟩⟩,?_⟩
 rw [show p6.val (((4:Int),(0:Int)):Int × Int)=q1.v from eq1]
 conv=>whnf
 obtain ⟨q2,cq2,eq2,pq2,sq2,qq2⟩:=wN (uG (4) (4) (by decide) (by decide))
 refine ⟨(((4:Int),(4:Int)):Int × Int),rfl,⟨⟨by decide,by decide⟩,⟨by decide,by decide⟩⟩,?_⟩
 rw [show p6.val (((4:Int),(4:Int)):Int × Int)=q2.v from eq2]
 conv=>whnf
 obtain rfl:sa=q1:=Ao.trans cq1.symm;obtain rfl:sb=q2:=DL.trans cq2.symm;rw [eqX (sa,sb)];conv=>whnf
 rw [P4 lo];conv=>whnf
 obtain ⟨o,co,eo,po,so,qo⟩:=yI (q:=((1:Int):Rat)) (QB.of_int (n:=1) (k:=1) (fh (show Int.natAbs 1 < C ^ 1 by decide)) (by decide))
 refine ⟨(1:Int),rfl,⟨by decide,by decide⟩,?_⟩
 rw [show mc.val (1:Int)=o.v from eo]
 conv=>whnf
 refine ⟨(o,lo),rfl,⟨RV.bP so (by decide),RV.bP sW (by decide)⟩,?_⟩
 rw [show gx.val (o,lo)=hi.v from by show (RV.of (o.q - lo.q)).v=_; rw [po,plo,show ((1:Int):Rat) - 1 / 4=3 / 4 by decide +kernel,sV]]
 conv=>whnf
 show Value.bool (dZ _ _)=Value.bool true
 exact congrArg Value.bool (P4 hi)
open Go Go.Ae
def Ee1:Env:=En [(53,.q km),(24,.q bm)]
theorem acA:EnvOk Tryz.prog Ee1:=bC ⟨Te,Td,trivial⟩ trivial
theorem VV:c7 Tryz.prog 78 kq:=by
 refine dR acA aK Tryz.func78 (enters_of Tryz.func78 (by kernel_rfl) rfl) ?_ ?_ ?_
 ·intro i b hb;cases i <;> simp [kq,PL.aj] at hb
  rw [hb]; rfl
 ·intro i b hb; simp [kq] at hb
 intro i hp;have hp:i.list.length≤9223372036854775807:=hp;have fin:∀ (z:Bool) n,z=kX i.list→∃ v',cL (List.range n) 3 (kq.val i)=some v'∧eT (.bool z) v':=fun z n h=>⟨.bool z,by rw [h]; rfl,.refl _⟩
 cases i with
 | none =>
  conv=>whnf
  refine ⟨none,[],rfl,hp,?_⟩;rw [show km.aj none=[] from rfl,show km.val none=.bool false from rfl,show km.new none=none from rfl]
  conv=>whnf
  refine ⟨_,rfl,?_⟩;conv=>whnf
  refine ⟨none,[],rfl,⟨Nat.zero_le _,fun v hv=>nomatch hv⟩,?_⟩
  rw [show bm.aj none=[] from rfl,show bm.val none=.int .i64 4 from rfl,show bm.new none=none from rfl]
  conv=>whnf
  refine ⟨_,rfl,?_⟩;conv=>whnf
  exact fin true _ rfl
 | some i =>
  obtain ⟨A,c⟩:=i;have hp:A.length≤9223372036854775807:=hp;have fin:=fun z=>fin z 1
  have fin:∀ z:Bool,z=kX A→∃ v',cL (List.range 1) 3 (kq.val (some (A,c)))=some v'∧eT (.bool z) v':=fin;obtain ⟨n,hn⟩:∃ n,n=A.length:=⟨_,rfl⟩;obtain ⟨g,hg⟩:∃ g,g=c6 A:=⟨_,rfl⟩;obtain ⟨G,hG⟩:∃ G,G=mE A:=⟨_,rfl⟩;rw [show kq.aj (some (A,c))=[.flat false n 6 g] from by rw [hn,hg]; rfl,show kq.args (some (A,c))=[.slice (some ⟨0,0,none⟩) n c] from by rw [hn]; rfl]
  conv=>whnf
  refine ⟨some (A,c),[0],by rw [show km.args (some (A,c))=[.slice (some ⟨0,0,none⟩) n c] from by rw [hn]; rfl]; rfl,hp,?_⟩
  rw [show km.aj (some (A,c))=[.flat false n 6 g] from by rw [hn,hg]; rfl,show km.val (some (A,c))=.bool G from by rw [hG]; rfl,show km.new (some (A,c))=none from rfl]
  conv=>whnf
  refine ⟨aP.aY (fun h=>h) (fun r hr=>by rw [hg]; rfl),?_⟩
  conv=>whnf
  refine ⟨_,rfl,?_⟩;conv=>whnf
  cases G with
  | true =>
   conv=>whnf
   exact fin true (WU hG.symm).symm
  | false =>
   have hs:=LP hG.symm;conv=>whnf
   by_cases J:10 < n
   ·rw [show decide ((n:Int) > 10)=true from decide_eq_true (by omega)]
    conv=>whnf
    exact fin true (Vy (by omega)).symm
   ·rw [show decide ((n:Int) > 10)=false from decide_eq_false (by omega)]
    conv=>whnf
    obtain ⟨e,he⟩:∃ z,z=bz A:=⟨_,rfl⟩;refine ⟨some (A,c),[0],by rw [show bm.args (some (A,c))=[.slice (some ⟨0,0,none⟩) n c] from by rw [hn]; rfl]; rfl,⟨by show A.length≤_; omega,qi hs.2⟩,?_⟩
    rw [show bm.aj (some (A,c))=[.flat false n 6 g] from by rw [hn,hg]; rfl,show bm.val (some (A,c))=.int .i64 e from by rw [he]; rfl,show bm.new (some (A,c))=none from rfl]
    conv=>whnf
    refine ⟨aP.aY (fun h=>h) (fun r hr=>by rw [hg]; rfl),?_⟩
    conv=>whnf
    refine ⟨_,rfl,?_⟩;conv=>whnf
    by_cases h3:e=0
    ·rw [show (e != 0)=false from by simp [h3]]
     exact fin false (WV hG.symm (by omega) (by rw [← he]; exact h3)).symm
    ·rw [show (e != 0)=true from by simp [h3]]
     exact fin true (Vz (by rw [← he]; exact h3)).symm
def Ee2:Env:=En [(79,.p nG),(80,.p jL)]
theorem acB:EnvOk Tryz.prog Ee2:=bC ⟨N5,L5,trivial⟩ trivial
theorem Tg:bc Tryz.prog 26 zn:=by
 refine bf acB aK Tryz.func26 (enters_of Tryz.func26 (by kernel_rfl) rfl) (fun _=>rfl) (fun _=>rfl) ?_
 intro ((a,b):PV) _;have fin:∀ z:Bool,(z=true↔PV.sz 12 (a,b)∧PV.canon (a,b))→Value.bool z=zn.val (a,b):=fun z h=>congrArg Value.bool (by rw [Bool.eq_iff_iff,h,decide_eq_true_eq])
 conv=>whnf
 refine ⟨((a,b):PV),rfl,trivial,?_⟩;by_cases h1:PV.sz 12 (a,b)
 ·rw [show nG.val (a,b)=.bool false from congrArg Value.bool (decide_eq_false fun h=>h h1)]
  conv=>whnf
  obtain ⟨e,he⟩:∃ e:Int,e=if PV.canon (a,b) then 0 else 1:=⟨_,rfl⟩
  refine ⟨((a,b):PV),rfl,PV.aR h1 (by decide),?_⟩
  rw [show jL.val (a,b)=.int .i64 e from by rw [he]; rfl]
  conv=>whnf
  refine fin _ ?_;by_cases J:PV.canon (a,b)
  ·rw [he,if_pos J]; exact ⟨fun _=>⟨h1,J⟩,fun _=>rfl⟩
  ·rw [he,if_neg J]; exact ⟨(fun h=>nomatch h),fun h=>absurd h.2 J⟩
 ·rw [show nG.val (a,b)=.bool true from congrArg Value.bool (decide_eq_true h1)]
  conv=>whnf
  exact fin _ ⟨(fun h=>nomatch h),fun h=>absurd h.1 h1⟩
def Ee3:Env:=En [(19,.q kh)]
theorem acC:EnvOk Tryz.prog Ee3:=bC ⟨Uh,trivial⟩ trivial
theorem RN:c7 Tryz.prog 27 dt:=by
 refine dR acC aK Tryz.func27 (enters_of Tryz.func27 (by kernel_rfl) rfl) ?_ ?_ ?_
 ·intro ⟨i,_⟩ b hb;cases i <;> simp [dt,PL.aj] at hb
  rw [hb]; rfl
 ·intro i b hb; simp [dt] at hb
 intro ⟨i,p⟩ hp;have hp:i.fit∧p.sz 2048:=hp;obtain ⟨⟨a,e⟩,ha⟩:∃ x,x=p9 i.list p:=⟨_,rfl⟩;have fin:∀ (z:Int) n,z=jY i.list p→∃ v',cL (List.range n) 3 (dt.val (i,p))=some v'∧eT (.int .i64 z) v':=fun z n h=>⟨.int .i64 z,by rw [h]; rfl,.refl _⟩
 have h5:e≠0→(5:Int)=jY i.list p:=fun h=>by unfold jY; rw [← ha]; exact (if_pos h).symm
 have h0:e=0→a=jY i.list p:=fun h=>by unfold jY; rw [← ha]; exact (if_neg (fun e=>e h)).symm
 have hv:kh.val (i,p)=.tuple ⟨[.int .i64 a,.int .i64 e]⟩:=by show ZE.v (p9 i.list p)=_; rw [← ha]; rfl
 cases i with
 | none =>
  conv=>whnf
  refine ⟨(none,p),[],rfl,hp,?_⟩;rw [show kh.aj (none,p)=[] from rfl,hv,show kh.new (none,p)=none from rfl]
  conv=>whnf
  refine ⟨_,rfl,?_⟩;conv=>whnf
  by_cases h1:e=0
  ·rw [show (e != 0)=false from by simp [h1]]
   conv=>whnf
   exact fin a _ (h0 h1)
  ·rw [show (e != 0)=true from by simp [h1]]
   conv=>whnf
   exact fin 5 _ (h5 h1)
 | some i =>
  obtain ⟨A,c⟩:=i;obtain ⟨n,hn⟩:∃ n,n=A.length:=⟨_,rfl⟩;obtain ⟨g,hg⟩:∃ g,g=c6 A:=⟨_,rfl⟩;rw [show dt.aj (some (A,c),p)=[.flat false n 6 g] from by rw [hn,hg]; rfl,show dt.args (some (A,c),p)=[.slice (some ⟨0,0,none⟩) n c,p.v] from by rw [hn]; rfl]
  conv=>whnf
  refine ⟨(some (A,c),p),[0],by rw [show kh.args (some (A,c),p)=[.slice (some ⟨0,0,none⟩) n c,p.v] from by rw [hn]; rfl]; rfl,hp,?_⟩
  rw [show kh.aj (some (A,c),p)=[.flat false n 6 g] from by rw [hn,hg]; rfl,hv,show kh.new (some (A,c),p)=none from rfl]
  conv=>whnf
  refine ⟨aP.aY (fun h=>h) (fun r hr=>by rw [hg]; rfl),?_⟩
  conv=>whnf
  refine ⟨_,rfl,?_⟩;conv=>whnf
  by_cases h1:e=0
  ·rw [show (e != 0)=false from by simp [h1]]
   conv=>whnf
   exact fin a _ (h0 h1)
  ·rw [show (e != 0)=true from by simp [h1]]
   conv=>whnf
   exact fin 5 _ (h5 h1)
def Ee4:Env:=En [(30,.p tI),(39,.p r4)]
theorem acD:EnvOk Tryz.prog Ee4:=bC ⟨Fi,N4,trivial⟩ trivial
theorem Um:bc Tryz.prog 28 xr:=by
 refine bf acD aK Tryz.func28 (enters_of Tryz.func28 (by kernel_rfl) rfl) (fun _=>rfl) (fun _=>rfl) ?_
 intro ⟨a,b⟩ hp;have hp:a.sz 512∧b.sz 512:=hp;obtain ⟨sa,sb⟩:=hp;have qa:=PV.cj sa (by decide)
 have qb:=PV.cj sb (by decide)
 conv=>whnf
 obtain ⟨h,ch,eh,ph,sh,qh⟩:=yI (q:=1 / 2) (k:=1) ⟨fh (show _ < C ^ 1 by decide +kernel),fh (show _ < C ^ 1 by decide +kernel)⟩
 refine ⟨(1,2),rfl,⟨by show oS 1; decide,by show oS 2; decide⟩,?_⟩
 rw [show tI.val (1,2)=.tuple ⟨[h.v,.int .i64 0]⟩ from by show iH 1 2=_; unfold iH; rw [show Rat.divInt 1 2=1 / 2 by decide +kernel,ch]; rfl]
 conv=>whnf
 obtain ⟨w,ew,pw,sw,qw⟩:=ky (um qa qb qh);refine ⟨((a,b),h),rfl,⟨⟨PV.aR sa (by decide),PV.aR sb (by decide)⟩,RV.aR sh (by decide)⟩,?_⟩
 rw [show r4.val ((a,b),h)=w.v from ew]
 conv=>whnf
 have e:w=bW (atR a.p b.p ur):=by rw [(PV.iZ ew).symm,ph]; rfl
 rw [show xr.val (a,b)=w.v from by rw [e]; rfl]
 rfl
open Go Go.Ae
def Jv:Env:=En [(78,.q kq)]
theorem acE:EnvOk Tryz.prog Jv:=bC ⟨VV,trivial⟩ trivial
theorem Un:fJ Tryz.prog 107 (b9 Jv cG Tryz.f107):=by
 exact iU acE aK Tryz.func107 (enters_of Tryz.func107 (by kernel_rfl) rfl)
def Jw:Env:=En [] [(107,b9 Jv cG Tryz.f107)]
theorem acF:EnvOk Tryz.prog Jw:=bC trivial ⟨Un,trivial⟩
theorem Rl:fJ Tryz.prog 52 (b9 Jw cG Tryz.f52):=by
 exact iU acF aK Tryz.func52 (enters_of Tryz.func52 (by kernel_rfl) rfl)
def Jx:Env:=En [] [(52,b9 Jw cG Tryz.f52)]
theorem acG:EnvOk Tryz.prog Jx:=bC trivial ⟨Rl,trivial⟩
theorem YO:fJ Tryz.prog 25 (b9 Jx cG Tryz.f25):=by
 exact iU acG aK Tryz.func25 (enters_of Tryz.func25 (by kernel_rfl) rfl)
def Ee8:Env:=sR [(13,.p NP),(26,.p zn),(27,.q dt),(28,.p xr),(29,.p xc),(31,.p yq),(30,.p tI),(32,.p kj)] [(25,b9 Jx cG Tryz.f25)]
theorem acH:EnvOk Tryz.prog Ee8:=uP ⟨Tf,Tg,RN,Um,Ns,LZ,Fi,Be,trivial⟩ ⟨YO,trivial⟩
theorem aaZ:c7 Tryz.prog 5 uM:=by
 refine dR acH aK Tryz.func5 (enters_of Tryz.func5 (by kernel_rfl) rfl) ?_ ?_ ?_
 ·intro ⟨i,_⟩ b hb;cases i <;> simp [uM,PL.aj] at hb
  rw [hb]; rfl
 ·intro i b hb; simp [uM] at hb
 intro ⟨i,p,q⟩ hp;have sN:i.list.length*80≤140737488351232:=hp;have fin:∀ n,∃ v',cL (List.range n) 3 (uM.val (i,p,q))=some v'∧eT (.bool true) v':=fun n=>⟨.bool true,rfl,.refl _⟩
 cases i with
 | none =>
  conv=>whnf
  refine .inr ⟨2,?_⟩;conv=>whnf
  refine ⟨⟨by decide,by decide⟩,?_⟩
  conv=>whnf
  refine ⟨none,[],rfl,by show 0≤9223372036854775807; decide,?_⟩
  rw [show kq.aj none=[] from rfl,show kq.val none=.bool true from rfl,show kq.new none=none from rfl]
  conv=>whnf
  refine ⟨_,rfl,?_⟩;conv=>whnf
  conv=>whnf
  refine ⟨(),rfl,trivial,?_⟩;conv=>whnf
  exact fin _
 | some i =>
  obtain ⟨A,c⟩:=i;have sN:A.length*80≤140737488351232:=sN;obtain ⟨n,hn⟩:∃ n,n=A.length:=⟨_,rfl⟩;obtain ⟨g,hg⟩:∃ g,g=c6 A:=⟨_,rfl⟩;obtain ⟨G,hG⟩:∃ G,G=kX A:=⟨_,rfl⟩;rw [show uM.aj (some (A,c),p,q)=[.flat false n 6 g] from by rw [hn,hg]; rfl,show uM.args (some (A,c),p,q)=[.slice (some ⟨0,0,none⟩) n c,p.v,q.v] from by rw [hn]; rfl]
  conv=>whnf
  refine .inr ⟨2,?_⟩;conv=>whnf
  refine ⟨⟨by decide,by decide⟩,?_⟩
  conv=>whnf
  refine ⟨some (A,c),[0],by rw [show kq.args (some (A,c))=[.slice (some ⟨0,0,none⟩) n c] from by rw [hn]; rfl]; rfl,by show A.length≤9223372036854775807; omega,?_⟩
  rw [show kq.aj (some (A,c))=[.flat false n 6 g] from by rw [hn,hg]; rfl,show kq.val (some (A,c))=.bool G from by rw [hG]; rfl,show kq.new (some (A,c))=none from rfl]
  conv=>whnf
  refine ⟨aP.aY (fun h=>h) (fun r hr=>by rw [hg]; rfl),?_⟩
  conv=>whnf
  refine ⟨_,rfl,?_⟩;conv=>whnf
  cases G with
  | true =>
   conv=>whnf
   conv=>whnf
   refine ⟨(),rfl,trivial,?_⟩;conv=>whnf
   exact fin _
  | false =>
   obtain ⟨adZ,aT,HY⟩:=WT hG.symm;have hz:=o9 HY;conv=>whnf
   obtain ⟨x,hx⟩:∃ x,x=decide (PV.sz 12 p∧p.canon):=⟨_,rfl⟩;refine ⟨p,rfl,trivial,?_⟩;rw [show zn.val p=.bool x from by rw [hx]; rfl]
   conv=>whnf
   cases x with
   | false =>
    conv=>whnf
    conv=>whnf
    refine ⟨(),rfl,trivial,?_⟩;conv=>whnf
    exact fin _
   | true =>
    obtain ⟨sp,cp⟩:=of_decide_eq_true hx.symm;conv=>whnf
    obtain ⟨y,hy⟩:∃ x,x=decide (PV.sz 12 q∧q.canon):=⟨_,rfl⟩;refine ⟨q,rfl,trivial,?_⟩;rw [show zn.val q=.bool y from by rw [hy]; rfl]
    conv=>whnf
    cases y with
    | false =>
     conv=>whnf
     conv=>whnf
     refine ⟨(),rfl,trivial,?_⟩;conv=>whnf
     exact fin _
    | true =>
     obtain ⟨sq,cq⟩:=of_decide_eq_true hy.symm;obtain ⟨Q,hQ⟩:∃ Q,Q=aU A:=⟨_,rfl⟩;have Jy:Q.length=n:=by rw [hQ,c4,hn]
     have hR:Ring Q:=by rw [hQ]; exact hz.2.2.1
     have n3:3≤n∧n≤10:=by omega
     have pv:∀ v∈A,v=bW v.p:=fun v hv=>x7 (MC HY) hv
     have iw:∀ v:PV,v.canon→jY A v=eK Q v.p:=fun v hv=>by rw [hQ]; exact WW HY hv
     have HZ:∀ k,k < n→(g7 A k).p=an Q k:=fun k hk=>by rw [hQ]; exact jz (by omega)
     have adF:∀ v∈A,v.p∈Q:=fun v hv=>by rw [hQ]; exact List.mem_map_of_mem hv
     have BS:∀ m:PV,∀ x:Q2,bW x=m→m.canon:=fun m x h=>by rw [← h]; exact x8 x
     conv=>whnf
     refine .inl ⟨fun mm tz hz=>∃ (j:Nat) (S:PV),bt (some (.slice (some ⟨0,0,none⟩) n c)::aC 3 (some (.pointer (some ⟨1,0,none⟩))::some (.pointer (some ⟨2,0,none⟩))::aC 1 (some (.pointer (some ⟨3,0,none⟩))::aC 26 (some (.slice (some ⟨0,0,none⟩) n c)::some (.int .i64 n)::some (.int .i64 j)::aC 117 [])))) tz∧hz=[some (.flat false n 6 g),some (.aL true 6 [p.cells]),some (.aL true 6 [q.cells]),some (.aL true 6 [S.cells])]∧n - j=mm∧(j≤n∧S.p=uL (Q.take j)∧S.sz (16*j+1)),.inr ⟨[0,1,2,4],[0,4,5,7,34,35,36],?_⟩,?_⟩
     ·conv=>whnf
      intro _;conv=>whnf
      refine ⟨_,0,xe,(.aa (.sk 3 (.aa (.aa (.sk 1 (.aa (.sk 26 (.aa (.aa (.aa (.sk 117 .nil rfl)))) rfl)) rfl))) rfl)),rfl,rfl,?_⟩;exact ⟨Nat.zero_le _,Wq,Mp _⟩
     rintro mm aS _ ⟨j,S,aw,rfl,rfl,⟨hj,hS,As⟩⟩
     obtain ⟨az,rfl⟩:∃ az:Nat→Value,aS=.slice (some ⟨0,0,none⟩) n c::zs az 1 3 (.pointer (some ⟨1,0,none⟩)::.pointer (some ⟨2,0,none⟩)::zs az 6 1 (.pointer (some ⟨3,0,none⟩)::zs az 8 26 (.slice (some ⟨0,0,none⟩) n c::.int .i64 n::.int .i64 j::zs az 37 117 []))):=bF aw;clear aw;conv=>whnf
     refine aI (fun h3=>?_) (fun h3=>?_)
     ·have h3:j < n:=by
       have:=of_decide_eq_true h3;omega
      have e7:IntKind.i64.wrap ((j:Int)+1)=((j+1:Nat):Int):=by rw [ax (by omega) (by omega)]; rfl
      obtain ⟨a,b,ra,rb,⟨ma,mb⟩,fI,bZ,ea,eb⟩:=pf hn h3;have cg:=jS h3 (by omega)
      have xu:=NV h3 (by omega)
      have zv:=ck (n:=n) (k:=aN n j) bZ;obtain ⟨d,hd⟩:∃ d,d=g7 A (aN n (aN n j)):=⟨_,rfl⟩;have rd:c6 A (aN n (aN n j))=d.cells:=by rw [hd]; exact o8 (by omega)
      have md:d∈A:=by rw [hd]; exact nj (by omega)
      have pa:a.p=an Q j:=by rw [ea]; exact HZ j h3
      have pb:b.p=an Q (aN n j):=by rw [eb]; exact HZ _ bZ
      have pd:d.p=an Q (aN n (aN n j)):=by rw [hd]; exact HZ _ zv
      have sa:=aT a ma;have sb:=aT b mb;have sd:=aT d md;have qa:=PV.cj sa (by decide)
      have qb:=PV.cj sb (by decide)
      have qd:=PV.cj sd (by decide)
      have ca:a.canon:=by rw [pv a ma]; exact x8 _
      obtain ⟨u,hu⟩:∃ u,u=aN n j:=⟨_,rfl⟩;obtain ⟨u2,oQ⟩:∃ u,u=aN n (aN n j):=⟨_,rfl⟩;rw [← oQ] at xu zv rd;rw [← hu] at cg bZ rb;rw [← hg] at ra rb rd;have z1:jY A a=0:=by rw [iw a ca]; exact T9 hR (adF a ma)
      conv=>whnf
      refine ⟨⟨by omega,by omega⟩,?_⟩
      simp only [toNat_cast,au,Nat.zero_add];conv=>whnf
      refine ⟨by show j < n; omega,?_⟩
      conv=>whnf
      rw [ra];conv=>whnf
      refine .inl ⟨31,[[],[],[0,1],[0,1,2],[0,1,2,3],[0,1,2,3,4],[0,1,2,3,4],[0,1,2,3,4],[0,1,2,3,4],[0,1,2,3,4,8],[0,1,2,3,4],[0,1,2,3,4,10],[0,1,2,3,4,8,9,10,11],[0,1,2,3,4,7,8,9,10,11,12],[0,1,2,3,4,7,8,9,10,11,12,13],[0,1,2,3,4,6,7,8,9,10,11,12,13,14],[0,1,2,3,4,5,6,7,8,9,10,11,12,13,14,15],[0,1,2,3,4,5,6,7,8,9,10,11,12,13,14,15,16],[0,1,2,3,4,5,6,7,8,9,10,11,12,13,14,15,16,17],[0,1,2,3,4,5,6,7,8,9,10,11,12,13,14,15,16,17,18],[0,1,2,3,4,5,6,7,8,9,10,11,12,13,14,15,16,17,18,19],[0,1,2,3,4,5,6,7,8,9,10,11,12,13,14,15,16,17,18,19],[0,1,2,3,4,5,6,7,8,9,10,11,12,13,14,15,16,17,18,19],[0,1,2,3,4,5,6,7,8,9,10,11,12,13,14,15,16,17,18,19],[0,1,2,3,4,5,6,7,8,9,10,11,12,13,14,15,16,17,18,19,23],[0,1,2,3,4,5,6,7,8,9,10,11,12,13,14,15,16,17,18,19],[0,1,2,3,4,5,6,7,8,9,10,11,12,13,14,15,16,17,18,19,25],[0,1,2,3,4,5,6,7,8,9,10,11,12,13,14,15,16,17,18,19,23,24,25,26],[0,1,2,3,4,5,6,7,8,9,10,11,12,13,14,15,16,17,18,19,22,23,24,25,26,27],[0,1,2,3,4,5,6,7,8,9,10,11,12,13,14,15,16,17,18,19,22,23,24,25,26,27,28],[0,1,2,3,4,5,6,7,8,9,10,11,12,13,14,15,16,17,18,19,21,22,23,24,25,26,27,28,29],[0,1,2,3,4,5,6,7,8,9,10,11,12,13,14,15,16,17,18,19,20,21,22,23,24,25,26,27,28,29,30],[0,1,2,3,4,5,6,7,8,9,10,11,12,13,14,15,16,17,18,19,20,21,22,23,24,25,26,27,28,29,30,31],[0,1,2,3,4,5,6,7,8,9,10,11,12,13,14,15,16,17,18,19,20,21,22,23,24,25,26,27,28,29,30,31,32],[0,1,2,3,4,5,6,7,8,9,10,11,12,13,14,15,16,17,18,19,20,21,22,23,24,25,26,27,28,29,30,31,32,33],[0,1,2,3,4,5,6,7,8,9,10,11,12,13,14,15,16,17,18,19,20,21,22,23,24,25,26,27,28,29,30,31,32,33,34],[0,1,2,3,4,5,6,7,8,9,10,11,12,13,14,15,16,17,18,19,20,21,22,23,24,25,26,27,28,29,30,31,32,33,34,35],[0,1,2,3,4,5,6,7,8,9,10,11,12,13,14,15,16,17,18,19,20,21,22,23,24,25,26,27,28,29,30,31,32,33,34,35,36],[0,1,2,3,4,5,6,7,8,9,10,11,12,13,14,15,16,17,18,19,20,21,22,23,24,25,26,27,28,29,30,31,32,33,34,35,36,37]],by kernel_rfl,?_⟩
      conv=>whnf
      refine ⟨(some (A,c),a),[0],by rw [show dt.args (some (A,c),a)=[.slice (some ⟨0,0,none⟩) n c,a.v] from by rw [hn]; rfl]; rfl,⟨⟨by show A.length≤_; omega,qi aT⟩,PV.aR sa (by decide)⟩,?_⟩
      rw [show dt.aj (some (A,c),a)=[.flat false n 6 g] from by rw [hn,hg]; rfl,show dt.val (some (A,c),a)=.int .i64 0 from congrArg (Value.int .i64) z1,show dt.new (some (A,c),a)=none from rfl]
      conv=>whnf
      refine ⟨aP.aY (fun h=>h) (fun r hr=>by rw [hg]; rfl),?_⟩
      conv=>whnf
      refine ⟨_,rfl,?_⟩;conv=>whnf
      rw [show decide ((n:Int)≠0)=true from decide_eq_true (by omega)]
      conv=>whnf
      rw [cg];refine ⟨⟨by omega,by omega⟩,?_⟩
      simp only [toNat_cast,au,Nat.zero_add];conv=>whnf
      refine ⟨by show u < n; omega,?_⟩
      conv=>whnf
      rw [rb];conv=>whnf
      obtain ⟨m,em,pm,sm,qm⟩:=ky (GK qa qb);refine ⟨(a,b),rfl,⟨PV.aR sa (by decide),PV.aR sb (by decide)⟩,?_⟩
      rw [show xr.val (a,b)=m.v from em]
      conv=>whnf
      have z2:jY A m=0:=by
       rw [iw m (BS m _ (PV.iZ em)),pm,pa,pb,← Jy];exact Ua hR (by omega) (by have:=wE; grind) (by have:=wE; grind)
      refine ⟨(some (A,c),m),[0],by rw [show dt.args (some (A,c),m)=[.slice (some ⟨0,0,none⟩) n c,m.v] from by rw [hn]; rfl]; rfl,⟨⟨by show A.length≤_; omega,qi aT⟩,PV.aR sm (by decide)⟩,?_⟩
      rw [show dt.aj (some (A,c),m)=[.flat false n 6 g] from by rw [hn,hg]; rfl,show dt.val (some (A,c),m)=.int .i64 0 from congrArg (Value.int .i64) z2,show dt.new (some (A,c),m)=none from rfl]
      conv=>whnf
      refine ⟨aP.aY (fun h=>h) (fun r hr=>by rw [hg]; rfl),?_⟩
      conv=>whnf
      refine ⟨_,rfl,?_⟩;conv=>whnf
      rw [show decide ((n:Int)≠0)=true from decide_eq_true (by omega)]
      conv=>whnf
      rw [xu];refine ⟨⟨by omega,by omega⟩,?_⟩
      simp only [toNat_cast,au,Nat.zero_add];conv=>whnf
      refine ⟨by show u2 < n; omega,?_⟩
      conv=>whnf
      rw [rd];conv=>whnf
      obtain ⟨w,ew,pw,sw,qw⟩:=ky (GK qa qd);refine ⟨(a,d),rfl,⟨PV.aR sa (by decide),PV.aR sd (by decide)⟩,?_⟩
      rw [show xr.val (a,d)=w.v from ew]
      conv=>whnf
      obtain ⟨z3,QE⟩:∃ z,z=jY A w:=⟨_,rfl⟩;refine ⟨(some (A,c),w),[0],by rw [show dt.args (some (A,c),w)=[.slice (some ⟨0,0,none⟩) n c,w.v] from by rw [hn]; rfl]; rfl,⟨⟨by show A.length≤_; omega,qi aT⟩,PV.aR sw (by decide)⟩,?_⟩
      rw [show dt.aj (some (A,c),w)=[.flat false n 6 g] from by rw [hn,hg]; rfl,show dt.val (some (A,c),w)=.int .i64 z3 from congrArg (Value.int .i64) QE.symm,show dt.new (some (A,c),w)=none from rfl]
      conv=>whnf
      refine ⟨aP.aY (fun h=>h) (fun r hr=>by rw [hg]; rfl),?_⟩
      conv=>whnf
      refine ⟨_,rfl,?_⟩;conv=>whnf
      by_cases h9:z3=1
      ·rw [show (z3 != 1)=false from by simp [h9]]
       conv=>whnf
       have sS:S.sz 200:=PV.aR As (by omega)
       have Jz:=PV.cj As (by omega)
       have qS:=PV.cj sS (by decide)
       obtain ⟨S2,At,JA,sS2,qS2⟩:=ky (Cg qS qa);refine ⟨(S,a),rfl,⟨PV.aR sS (by decide),PV.aR sa (by decide)⟩,?_⟩
       rw [show xc.val (S,a)=S2.v from At]
       conv=>whnf
       have cS:S2=bW (oE S.p a.p):=(PV.iZ At).symm;rw [e7];refine .inr ⟨[0,1,2,3],[0,4,5,7,34,35,36],?_⟩;conv=>whnf
       intro _;conv=>whnf
       refine ⟨_,?_,j+1,S2,(.aa (.sk 3 (.aa (.aa (.sk 1 (.aa (.sk 26 (.aa (.aa (.aa (.sk 117 .nil rfl)))) rfl)) rfl))) rfl)),rfl,rfl,?_⟩
       ·omega
       ·exact ⟨by omega,by rw [JA,hS,pa,MJ (gk (by omega))],by rw [cS]; exact rE (Cg Jz qa) (by omega)⟩
      ·rw [show (z3 != 1)=true from by simp [h9]]
       conv=>whnf
       have h8:¬ 3 < n:=fun h8=>h9 (by
        rw [QE,iw w (BS w _ (PV.iZ ew)),pw,pa,pd,← Jy];exact SW hR (by omega) (by omega) wE.1 wE.2)
       rw [show decide ((n:Int) > 3)=false from decide_eq_false (by omega)]
       conv=>whnf
       have sS:S.sz 200:=PV.aR As (by omega)
       have Jz:=PV.cj As (by omega)
       have qS:=PV.cj sS (by decide)
       obtain ⟨S2,At,JA,sS2,qS2⟩:=ky (Cg qS qa);refine ⟨(S,a),rfl,⟨PV.aR sS (by decide),PV.aR sa (by decide)⟩,?_⟩
       rw [show xc.val (S,a)=S2.v from At]
       conv=>whnf
       have cS:S2=bW (oE S.p a.p):=(PV.iZ At).symm;rw [e7];refine .inr ⟨[0,1,2,3],[0,4,5,7,34,35,36],?_⟩;conv=>whnf
       intro _;conv=>whnf
       refine ⟨_,?_,j+1,S2,(.aa (.sk 3 (.aa (.aa (.sk 1 (.aa (.sk 26 (.aa (.aa (.aa (.sk 117 .nil rfl)))) rfl)) rfl))) rfl)),rfl,rfl,?_⟩
       ·omega
       ·exact ⟨by omega,by rw [JA,hS,pa,MJ (gk (by omega))],by rw [cS]; exact rE (Cg Jz qa) (by omega)⟩
     ·have h3:n=j:=by
       have:=of_decide_eq_false h3;omega
      subst h3;have sS:S.sz 200:=PV.aR As (by omega)
      have qS:=PV.cj sS (by decide)
      conv=>whnf
      obtain ⟨r,cr,er,pr,sr,qr⟩:=yI (q:=1 / (n:Rat)) (VA (n:=n) (by omega) (by omega))
      refine ⟨(1,(n:Int)),rfl,⟨by show oS 1; decide,⟨by omega,by omega⟩⟩,?_⟩
      rw [show tI.val (1,(n:Int))=.tuple ⟨[r.v,.int .i64 0]⟩ from by show iH 1 (n:Int)=_; rw [WY (by omega),cr]; rfl]
      conv=>whnf
      obtain ⟨m,em,pm,sm,qm⟩:=ky (U2 qS qr);refine ⟨(S,r),rfl,⟨PV.aR sS (by decide),RV.aR sr (by decide)⟩,?_⟩
      rw [show yq.val (S,r)=m.v from em]
      conv=>whnf
      have z1:jY A m=1:=by
       rw [iw m (BS m _ (PV.iZ em)),pm,pr,hS,← Jy,List.take_length];exact RM hR
      refine ⟨(some (A,c),m),[0],by rw [show dt.args (some (A,c),m)=[.slice (some ⟨0,0,none⟩) n c,m.v] from by rw [hn]; rfl]; rfl,⟨⟨by show A.length≤_; omega,qi aT⟩,PV.aR sm (by decide)⟩,?_⟩
      rw [show dt.aj (some (A,c),m)=[.flat false n 6 g] from by rw [hn,hg]; rfl,show dt.val (some (A,c),m)=.int .i64 1 from congrArg (Value.int .i64) z1,show dt.new (some (A,c),m)=none from rfl]
      conv=>whnf
      refine ⟨aP.aY (fun h=>h) (fun r hr=>by rw [hg]; rfl),?_⟩
      conv=>whnf
      refine ⟨_,rfl,?_⟩;conv=>whnf
      refine .inl ⟨fun mm tz hz=>∃ (k:Nat) (o:Int),bt (some (.slice (some ⟨0,0,none⟩) n c)::aC 3 (some (.pointer (some ⟨1,0,none⟩))::some (.pointer (some ⟨2,0,none⟩))::aC 6 (some (.int .i64 o)::aC 83 (some (.slice (some ⟨0,0,none⟩) n c)::some (.int .i64 n)::some (.int .i64 k)::aC 55 [])))) tz∧hz=[some (.flat false n 6 g),some (.aL true 6 [p.cells]),some (.aL true 6 [q.cells])]∧n - k=mm∧(k≤n∧o=rI Q p.p k),.inr ⟨[0,1,2],[0,4,5,12,96,97,98],?_⟩,?_⟩
      ·conv=>whnf
       intro _;conv=>whnf
       refine ⟨_,0,1,(.aa (.sk 3 (.aa (.aa (.sk 6 (.aa (.sk 83 (.aa (.aa (.aa (.sk 55 .nil rfl)))) rfl)) rfl))) rfl)),rfl,rfl,?_⟩;exact ⟨Nat.zero_le _,rfl⟩
      rintro mm aS _ ⟨k,o,aw,rfl,rfl,⟨hk,ho⟩⟩
      obtain ⟨az,rfl⟩:∃ az:Nat→Value,aS=.slice (some ⟨0,0,none⟩) n c::zs az 1 3 (.pointer (some ⟨1,0,none⟩)::.pointer (some ⟨2,0,none⟩)::zs az 6 6 (.int .i64 o::zs az 13 83 (.slice (some ⟨0,0,none⟩) n c::.int .i64 n::.int .i64 k::zs az 99 55 []))):=bF aw;clear aw;conv=>whnf
      refine aI (fun h3=>?_) (fun h3=>?_)
      ·have h3:k < n:=by
        have:=of_decide_eq_true h3;omega
       have e7:IntKind.i64.wrap ((k:Int)+1)=((k+1:Nat):Int):=by rw [ax (by omega) (by omega)]; rfl
       obtain ⟨a,b,ra,rb,⟨ma,mb⟩,fI,bZ,_,_⟩:=pf hn h3;have sa:=aT a ma;have sb:=aT b mb;have qa:=PV.cj sa (by decide)
       have qb:=PV.cj sb (by decide)
       have cg:=jS h3 (by omega)
       obtain ⟨u,hu⟩:∃ u,u=aN n k:=⟨_,rfl⟩;rw [← hu] at cg bZ rb;rw [← hg] at ra rb;rw [← hQ] at fI;have aq:=Ko (p:=p.p) fI;rw [← ho] at aq;conv=>whnf
       refine ⟨⟨by omega,by omega⟩,?_⟩
       simp only [toNat_cast,au,Nat.zero_add];conv=>whnf
       refine ⟨by show k < n; omega,?_⟩
       conv=>whnf
       rw [ra];conv=>whnf
       refine .inl ⟨12,[[],[],[],[],[3],[],[5],[3,4,5,6],[2,3,4,5,6,7],[2,3,4,5,6,7,8],[],[1,2,3,4,5,6,7,8,9,10],[0,1,2,3,4,5,6,7,8,9,10,11],[0,1,2,3,4,5,6,7,8,9,10,11,12]],by kernel_rfl,?_⟩
       conv=>whnf
       rw [show decide ((n:Int)≠0)=true from decide_eq_true (by omega)]
       conv=>whnf
       rw [cg];refine ⟨⟨by omega,by omega⟩,?_⟩
       simp only [toNat_cast,au,Nat.zero_add];conv=>whnf
       refine ⟨by show u < n; omega,?_⟩
       conv=>whnf
       rw [rb];conv=>whnf
       obtain ⟨z,ez,pz⟩:=dT (aV (ao a.p b.p p.p) 0);refine ⟨(a,b,p),rfl,⟨PV.aR sa (by decide),PV.aR sb (by decide),PV.aR sp (by decide)⟩,?_⟩
       rw [show kj.val (a,b,p)=.int .i64 z from ez]
       conv=>whnf
       rw [← pz] at aq;rw [e7];refine .inr ⟨[0,1,2],[0,4,5,12,96,97,98],?_⟩;conv=>whnf
       intro _;conv=>whnf
       refine ⟨_,?_,k+1,if z < o then z else o,(.aa (.sk 3 (.aa (.aa (.sk 6 (.aa (.sk 83 (.aa (.aa (.aa (.sk 55 .nil rfl)))) rfl)) rfl))) rfl)),rfl,rfl,?_⟩
       ·omega
       ·exact ⟨by omega,aq.symm⟩
      ·have h3:n=k:=by
        have:=of_decide_eq_false h3;omega
       subst h3;conv=>whnf
       refine .inl ⟨10,[[],[],[0,1],[],[],[0,1,2,3,4],[],[],[],[0,1,2,3,4,5,7,8],[0,1,2,3,4,5,6,7,8,9],[0,1,2,3,4,5,6,7,8,9,10],[0,1,2,3,4,5,6,7,8,9,10,11],[0,1,2,3,4,5,6,7,8,9,10,11,12]],by kernel_rfl,?_⟩
       conv=>whnf
       obtain ⟨y,hy⟩:∃ z,z=eK Q q.p:=⟨_,rfl⟩;have kJ:o=eK Q p.p:=by rw [ho,hQ,hn]; exact K2
       have zp:jY A p=o:=by rw [iw p cp,kJ]
       have zq:jY A q=y:=by rw [iw q cq,hy]
       have rp:=AZ Q p.p;have rq:=AZ Q q.p;rw [← kJ] at rp;rw [← hy] at rq;have qp:=PV.cj sp (by decide)
       have qq:=PV.cj sq (by decide)
       refine ⟨(some (A,c),p),[0],by rw [show dt.args (some (A,c),p)=[.slice (some ⟨0,0,none⟩) n c,p.v] from by rw [hn]; rfl]; rfl,⟨⟨by show A.length≤_; omega,qi aT⟩,PV.aR sp (by decide)⟩,?_⟩
       rw [show dt.aj (some (A,c),p)=[.flat false n 6 g] from by rw [hn,hg]; rfl,show dt.val (some (A,c),p)=.int .i64 o from congrArg (Value.int .i64) zp,show dt.new (some (A,c),p)=none from rfl]
       conv=>whnf
       refine ⟨aP.aY (fun h=>h) (fun r hr=>by rw [hg]; rfl),?_⟩
       conv=>whnf
       refine ⟨_,rfl,?_⟩;conv=>whnf
       refine ⟨(some (A,c),q),[0],by rw [show dt.args (some (A,c),q)=[.slice (some ⟨0,0,none⟩) n c,q.v] from by rw [hn]; rfl]; rfl,⟨⟨by show A.length≤_; omega,qi aT⟩,PV.aR sq (by decide)⟩,?_⟩
       rw [show dt.aj (some (A,c),q)=[.flat false n 6 g] from by rw [hn,hg]; rfl,show dt.val (some (A,c),q)=.int .i64 y from congrArg (Value.int .i64) zq,show dt.new (some (A,c),q)=none from rfl]
       conv=>whnf
       refine ⟨aP.aY (fun h=>h) (fun r hr=>by rw [hg]; rfl),?_⟩
       conv=>whnf
       refine ⟨_,rfl,?_⟩;conv=>whnf
       obtain ⟨w,ew,pw,sw,qw⟩:=ky (GK qp qq);refine ⟨(p,q),rfl,⟨PV.aR sp (by decide),PV.aR sq (by decide)⟩,?_⟩
       rw [show xr.val (p,q)=w.v from ew]
       conv=>whnf
       obtain ⟨x,hx⟩:∃ z,z=jY A w:=⟨_,rfl⟩;have lH:=Vx (Q:=Q) (p:=p.p) (q:=q.p) wE.1 wE.2;rw [← pw,← iw w (BS w _ (PV.iZ ew)),← hx,← kJ,← hy] at lH;refine ⟨(some (A,c),w),[0],by rw [show dt.args (some (A,c),w)=[.slice (some ⟨0,0,none⟩) n c,w.v] from by rw [hn]; rfl]; rfl,⟨⟨by show A.length≤_; omega,qi aT⟩,PV.aR sw (by decide)⟩,?_⟩
       rw [show dt.aj (some (A,c),w)=[.flat false n 6 g] from by rw [hn,hg]; rfl,show dt.val (some (A,c),w)=.int .i64 x from congrArg (Value.int .i64) hx.symm,show dt.new (some (A,c),w)=none from rfl]
       conv=>whnf
       refine ⟨aP.aY (fun h=>h) (fun r hr=>by rw [hg]; rfl),?_⟩
       conv=>whnf
       refine ⟨_,rfl,?_⟩;conv=>whnf
       rw [show (o == o)=true from by simp]
       conv=>whnf
       rw [show IntKind.i64.wrap (o+y)=o+y from ax (by omega) (by omega)]
       by_cases hs:o+y < 2
       ·rw [decide_eq_true hs];conv=>whnf
        by_cases hm:(if y < o then y else o) < 0
        ·rw [decide_eq_true hm];conv=>whnf
         refine ⟨(),rfl,trivial,?_⟩;conv=>whnf
         exact fin _
        ·rw [decide_eq_false hm];have dg:0≤o∧0≤y:=by
          by_cases h:y < o
          ·rw [if_pos h] at hm; omega
          ·rw [if_neg h] at hm; omega
         conv=>whnf
         rw [decide_eq_true (show x ≥ 0 from lH.2 dg.1 dg.2)]
         conv=>whnf
         refine ⟨(),rfl,trivial,?_⟩;conv=>whnf
         exact fin _
       ·rw [decide_eq_false hs];conv=>whnf
        rw [show (x == 1)=true from by rw [lH.1 (by omega) (by omega)]; rfl]
        conv=>whnf
        by_cases hm:(if y < o then y else o) < 0
        ·rw [decide_eq_true hm];conv=>whnf
         refine ⟨(),rfl,trivial,?_⟩;conv=>whnf
         exact fin _
        ·rw [decide_eq_false hm];have dg:0≤o∧0≤y:=by
          by_cases h:y < o
          ·rw [if_pos h] at hm; omega
          ·rw [if_neg h] at hm; omega
         conv=>whnf
         rw [decide_eq_true (show x ≥ 0 from lH.2 dg.1 dg.2)]
         conv=>whnf
         refine ⟨(),rfl,trivial,?_⟩;conv=>whnf
         exact fin _
open Go Go.Ae Go.ChangeShapes Go.WideShapes Go.ChangeAt Go.RowKit
theorem own:ownKnob Tryz.prog.godebug=none:=by kernel_rfl
theorem laidOut:laidOutB Tryz.prog=true:=by kernel_rfl
set_option maxRecDepth 100000 in
theorem adG:C3 Tryz.prog 24 26 4 9 :=
 ⟨⟨_,_,_,Tryz.underlying24,⟨rfl,rfl⟩,⟨rfl,rfl⟩,rfl,rfl⟩,⟨_,_,Tryz.underlying26,⟨rfl,rfl⟩,rfl,rfl⟩,Tryz.underlying4,Tryz.underlying9,by kernel_rfl,by kernel_rfl,by kernel_rfl,by kernel_rfl⟩
def zP:Value:=.agg #[.bool false,.string ⟨#[]⟩,.string ⟨#[]⟩,.bool false,.string ⟨#[]⟩,.string ⟨#[]⟩]
set_option maxRecDepth 100000 in
theorem La {w:World} {r:Reach} {base:Nat} {v:Value} (h:Value.okWide Tryz.prog w r base 26 v):∃ p:PV,v=p.v :=
 WZ Tryz.underlying26 (b:=4) (s:=9) (by kernel_rfl) (by kernel_rfl) Tryz.underlying4 Tryz.underlying9 h
set_option maxRecDepth 100000 in
theorem QF (os:Os) (started:os.Started) (H:Type) (enc:TypeId × Value→H) :
  ReturnsInHanded {} Tryz.checked os 5 .any (Rows.convexInsideSpec.pre6 enc Tryz.prog Tryz.f5 Rows.convexInsideRow.domain false) (Rows.convexInsideSpec.post enc Tryz.prog Tryz.f5 false true false false):=by
 refine returnsInHanded_of_change_sized (C:=Tryz.checked) own started (by kernel_rfl) Tryz.func5
  (ChangeSpec.witness6 (enc:=enc) (C:=Tryz.checked) false ⟨#[],#[.slice none 0 0,zP,zP],[]⟩ 8 (by kernel_rfl) (by kernel_rfl) (by kernel_rfl) (by kernel_rfl)) ?_
 intro W base args ds gs before OF hW ad0 oI _;have xt:∀ (j:Nat) t v,Tryz.f5.params[j]?=some t→args[j]?=some v→Value.okWide Tryz.prog W .any base t v:=OF;have hW':=hW;obtain ⟨p,q,xF,hV,rfl,ID,kI⟩:=hW;have hA:DataW.TrodAll enc Tryz.prog W 0 (fun _=>true) true Tryz.f5.params.toList args.toList ds p:=xF
 have hz:(DataW.weightsEach Tryz.prog (Tryz.f5.params.toList++Rows.convexInsideSpec.plain.varTypes Tryz.prog) (ds++gs)).all (·≤reachBytes)=true:=oI;rw [Tryz.params5] at hA xt hz;obtain ⟨v0,vs0,d0,ds0,p0,q0,nt,rfl,rfl,h0,r0⟩:=trodAll_cons hA;obtain ⟨v1,vs1,d1,ds1,p1,q1,rfl,rfl,rfl,h1,r1⟩:=trodAll_cons r0;obtain ⟨v2,vs2,d2,ds2,p2,q2,rfl,rfl,rfl,J,r2⟩:=trodAll_cons r1;obtain ⟨rfl,rfl,rfl⟩:=trodAll_nil r2;obtain rfl:args=#[v0,v1,v2]:=by cases args; simp_all
 obtain ⟨rfl,rfl⟩:=trodVars_none hV;obtain ⟨a0,bg,i0,z0,hv0,IL,adH⟩:=Ri adG Tryz.underlying22 (xt 0 22 v0 rfl rfl) h0;have z0:=z0 80 reachBytes (fun elems spare e=>sized_slice (e:=26) hz (j:=0) (t:=22) rfl (by rw [e]; rfl) Tryz.underlying22)
 obtain ⟨a1,rfl⟩:=La (xt 1 26 v1 rfl rfl);obtain ⟨a2,rfl⟩:=La (xt 2 26 v2 rfl rfl);have lt0:∀ x∈p0,x.block < W.heap.size:=by obtain ⟨m,hm⟩:=h0; exact DataW.trod_lt m _ _ _ hm
 have lt1:∀ x∈p1,x.block < W.heap.size:=by obtain ⟨m,hm⟩:=h1; exact DataW.trod_lt m _ _ _ hm
 have lt2:∀ x∈p2,x.block < W.heap.size:=by obtain ⟨m,hm⟩:=J; exact DataW.trod_lt m _ _ _ hm
 clear xF OF;have aa0:a9 bg (uM.args (((a0,(a1,a2)):PL × mi))) [v0,a1.v,a2.v]:=.cons hv0 (.cons ((xQ (v:=PV.v a1) rfl).1 bg) (.cons ((xQ (v:=PV.v a2) rfl).1 bg) (.nil bg)));refine (QX aaZ (i:=((a0,(a1,a2)):PL × mi)) (z0) aa0 IL adH (b:=true) rfl).mono fun e W' ⟨he,DM⟩=>?_
 subst he;exact ⟨_,rfl,_,_,_,[],_,[],hW',trodAll_mk1 (shut_bool Tryz.underlying4 _),(trodAll_cons_mk (Below.trod laidOut (by kernel_rfl) (of_decide_eq_true (by kernel_rfl)) h0 DM lt0) (trodAll_cons_mk (Below.trod laidOut (by kernel_rfl) (of_decide_eq_true (by kernel_rfl)) h1 DM lt1) (trodAll_cons_mk (Below.trod laidOut (by kernel_rfl) (of_decide_eq_true (by kernel_rfl)) J DM lt2) trodAll_mk0))),rfl,DM.frame _,fun h=>by cases h⟩
theorem QG:Rows.convexInsideRow.holds Tryz.pinned (OpenSpec.ofChange Rows.convexInsideSpec) :=
 OpenClaim.holds_of_wide 5 Tryz.f5 rfl rfl rfl rfl rfl rfl rfl ⟨rfl,rfl,rfl,rfl,rfl⟩ rfl rfl rfl rfl rfl (by kernel_rfl) Tryz.func5 (by kernel_rfl)
  (of_decide_eq_true (by kernel_rfl)) (by unfold Func.isWrapper; first | (rw [if_pos (by decide +kernel)]; kernel_rfl) | (rw [if_neg (by decide +kernel)]; exact ⟨rfl,rfl⟩))
  (fun os started H enc _=>QF os started H enc)
theorem convexInside_proved:Rows.ConvexInsideSaid:=QG
end Go.Proofs.YtlapbjdhekcipaaGreat
