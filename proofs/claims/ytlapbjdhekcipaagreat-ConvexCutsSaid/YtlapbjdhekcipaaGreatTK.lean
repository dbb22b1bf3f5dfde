import Derived.Test.YtlapbjdhekcipaaGreatTJ
set_option linter.unusedVariables false
set_option linter.unusedSimpArgs false
set_option maxRecDepth 20000
set_option maxHeartbeats 4000000
namespace Go.Proofs.YtlapbjdhekcipaaGreat
open Go Go.Ae
def Eu5:Env:=En [(144,.q ki)]
theorem adt:EnvOk Tryz.prog Eu5:=bI ⟨Vn,trivial⟩ trivial
theorem Sl:dj Tryz.prog 100 n4:=by
 refine dC adt aL Tryz.func100 (enters_of Tryz.func100 (by kernel_rfl) rfl) ?_ ?_ ?_
 ·intro i b hb; simp [n4,xP] at hb; rcases hb with rfl | rfl <;> rfl
 ·intro i b hb; simp [n4,xP] at hb
 intro ⟨⟨⟨A,c⟩,⟨B,d⟩⟩,f,s⟩ hp;have hp:((f,s)=(101,true)∨(f,s)=(103,false)∨(f,s)=(105,true))∧(A.length≤1073741824∧∀ v∈A,Q2.sz 2048 v)∧B.length≤1073741824∧∀ v∈B,Q2.sz 2048 v:=hp;obtain ⟨vK,Rw,dW⟩:=hp;obtain ⟨n,hn⟩:∃ n,n=A.length:=⟨_,rfl⟩;obtain ⟨g,hg⟩:∃ g,g=aX A:=⟨_,rfl⟩;obtain ⟨m,hm⟩:∃ n,n=B.length:=⟨_,rfl⟩;obtain ⟨k,hk⟩:∃ g,g=aX B:=⟨_,rfl⟩;have fin:∀ (x:XV) (z:Bool),gZ (kC s A B)=(x,z)→∃ v',dn (List.range 2) 3 (n4.val (((A,c),(B,d)),(f,s)))=some v'∧gd (.tuple ⟨[x.v,.bool z]⟩) v':=fun x z h=>⟨_,by rw [show n4.val (((A,c),(B,d)),(f,s))=.tuple ⟨[x.v,.bool z]⟩ from by show Value.tuple ⟨[(gZ (kC s A B)).1.v,.bool (gZ (kC s A B)).2]⟩=_; rw [h]]; rfl,.refl _⟩
 rw [show n4.ae (((A,c),(B,d)),(f,s))=[.flat false n 6 g,.flat false m 6 k] from by rw [hn,hg,hm,hk]; rfl,show n4.args (((A,c),(B,d)),(f,s))=[.slice (some ⟨0,0,none⟩) n c,.slice (some ⟨1,0,none⟩) m d,.func (.func f) #[] #[]] from by rw [hn,hm]; rfl]
 conv=>whnf
 obtain ⟨⟨x,z⟩,hx⟩:∃ x,gZ (iG s A B)=x:=⟨_,rfl⟩;refine ⟨(((A,c),(B,d)),(f,s)),[0,1],by rw [show ki.args (((A,c),(B,d)),(f,s))=[.slice (some ⟨0,0,none⟩) n c,.slice (some ⟨1,0,none⟩) m d,.func (.func f) #[] #[]] from by rw [hn,hm]; rfl]; rfl,⟨vK,Rw,dW⟩,?_⟩
 rw [show ki.ae (((A,c),(B,d)),(f,s))=[.flat false n 6 g,.flat false m 6 k] from by rw [hn,hm,hg,hk]; rfl,show ki.val (((A,c),(B,d)),(f,s))=.tuple ⟨[x.v,.bool z]⟩ from by show Value.tuple ⟨[(gZ (iG s A B)).1.v,.bool (gZ (iG s A B)).2]⟩=_; rw [hx],show ki.new (((A,c),(B,d)),(f,s))=none from rfl]
 conv=>whnf
 refine ⟨aq.aO (fun h=>h) (fun r hr=>by rw [hg]; rfl),aq.aO (fun h=>h) (fun r hr=>by rw [hk]; rfl),?_⟩
 conv=>whnf
 refine ⟨_,rfl,?_⟩;conv=>whnf
 cases z with
 | true =>
  conv=>whnf
  exact fin x true (XM hx)
 | false =>
  conv=>whnf
  obtain ⟨⟨y,w⟩,hy⟩:∃ x,gZ (iG s B A)=x:=⟨_,rfl⟩;refine ⟨(((B,d),(A,c)),(f,s)),[1,0],by rw [show ki.args (((B,d),(A,c)),(f,s))=[.slice (some ⟨0,0,none⟩) m d,.slice (some ⟨1,0,none⟩) n c,.func (.func f) #[] #[]] from by rw [hm,hn]; rfl]; rfl,⟨vK,dW,Rw⟩,?_⟩
  rw [show ki.ae (((B,d),(A,c)),(f,s))=[.flat false m 6 k,.flat false n 6 g] from by rw [hm,hn,hk,hg]; rfl,show ki.val (((B,d),(A,c)),(f,s))=.tuple ⟨[y.v,.bool w]⟩ from by show Value.tuple ⟨[(gZ (iG s B A)).1.v,.bool (gZ (iG s B A)).2]⟩=_; rw [hy],show ki.new (((B,d),(A,c)),(f,s))=none from rfl]
  conv=>whnf
  refine ⟨aq.aO (fun h=>h) (fun r hr=>by rw [hk]; rfl),aq.aO (fun h=>h) (fun r hr=>by rw [hg]; rfl),?_⟩
  conv=>whnf
  refine ⟨_,rfl,?_⟩;conv=>whnf
  exact fin y w ((XN hx).trans hy)
def Eu6:Env:=En [(23,.q bk),(100,.q n4)]
theorem adu:EnvOk Tryz.prog Eu6:=bI ⟨B0,Sl,trivial⟩ trivial
theorem ZJ:dj Tryz.prog 44 mS:=by
 refine dC adu aL Tryz.func44 (enters_of Tryz.func44 (by kernel_rfl) rfl) ?_ ?_ ?_
 ·intro ⟨i,k⟩ B hb;cases i <;> cases k <;> simp [Ph,mS,PL.ae] at hb
  ·rw [hb]; rfl
  ·rw [hb]; rfl
  ·rcases hb with rfl | rfl <;> rfl
 ·intro i b hb; simp [Ph,mS] at hb
 intro ⟨i,k⟩ hp;have hp:(i.list.length≤1099511627776∧∀ v∈i.list,v.sz 2048)∧k.list.length≤1099511627776∧∀ v∈k.list,v.sz 2048:=hp;obtain ⟨⟨lX,lz⟩,og,jF⟩:=hp;cases i with
 | none =>
  cases k with
  | none =>
   conv=>whnf
   refine ⟨none,[],rfl,⟨Nat.zero_le _,fun v hv=>nomatch hv⟩,?_⟩
   rw [show bk.ae none=[] from rfl,show bk.val none=.int .i64 4 from rfl,show bk.new none=none from rfl]
   conv=>whnf
   refine ⟨_,rfl,?_⟩;conv=>whnf
   exact ⟨_,rfl,.refl _⟩
  | some k =>
   conv=>whnf
   refine ⟨none,[],rfl,⟨Nat.zero_le _,fun v hv=>nomatch hv⟩,?_⟩
   rw [show bk.ae none=[] from rfl,show bk.val none=.int .i64 4 from rfl,show bk.new none=none from rfl]
   conv=>whnf
   refine ⟨_,rfl,?_⟩;conv=>whnf
   exact ⟨_,rfl,.refl _⟩
 | some i =>
  obtain ⟨A,c⟩:=i;have lX:A.length≤1099511627776:=lX;have lz:∀ v∈A,PV.sz 2048 v:=lz;obtain ⟨na,a8⟩:∃ n,n=A.length:=⟨_,rfl⟩;obtain ⟨ga,bw⟩:∃ g,g=bF A:=⟨_,rfl⟩;have fin:∀ (k:PL) (B:List PV) (x:XV) (e:Int) (n:Nat),k.list=B→nN A B=(x,e)→∃ v',dn (List.range n) 3 (ax.val mS (some (A,c),k))=some v'∧gd (.tuple ⟨[x.v,.int .i64 e]⟩) v':=fun k B x e n hk h=>⟨.tuple ⟨[x.v,.int .i64 e]⟩,by
   subst hk;rw [show ax.val mS (some (A,c),k)=.tuple ⟨[x.v,.int .i64 e]⟩ from by show Value.tuple ⟨[(nN A k.list).1.v,.int .i64 (nN A k.list).2]⟩=_; rw [h]]; rfl,.refl _⟩
  cases k with
  | none =>
   rw [show ax.ae mS (some (A,c),none)=[.flat false na 6 ga] from by rw [a8,bw]; rfl,show ax.args mS (some (A,c),none)=[.slice (some ⟨0,0,none⟩) na c,.slice none 0 0] from by rw [a8]; rfl]
   rw [← a8] at lX;conv=>whnf
   refine ⟨some (A,c),[0],by rw [show bk.args (some (A,c))=[.slice (some ⟨0,0,none⟩) na c] from by rw [a8]; rfl]; rfl,⟨by show A.length≤_; omega,lz⟩,?_⟩
   rw [show bk.ae (some (A,c))=[.flat false na 6 ga] from by rw [a8,bw]; rfl,show bk.val (some (A,c))=.int .i64 (bt A) from rfl,show bk.new (some (A,c))=none from rfl]
   conv=>whnf
   refine ⟨aq.aO (fun h=>h) (fun r hr=>by rw [bw]; rfl),?_⟩
   conv=>whnf
   refine ⟨_,rfl,?_⟩;obtain ⟨e,he⟩:∃ z,z=bt A:=⟨_,rfl⟩;rw [← he];conv=>whnf
   by_cases h1:e=0
   ·rw [show (e != 0)=false from by simp [h1]]
    conv=>whnf
    refine ⟨none,[],rfl,⟨Nat.zero_le _,fun v hv=>nomatch hv⟩,?_⟩
    rw [show bk.ae none=[] from rfl,show bk.val none=.int .i64 4 from rfl,show bk.new none=none from rfl]
    conv=>whnf
    refine ⟨_,rfl,?_⟩;conv=>whnf
    exact fin none [] nG 1 _ rfl (CL fun e=>by have:=e.2; cases this)
   ·rw [show (e != 0)=true from by simp [h1]]
    conv=>whnf
    exact fin none [] nG 1 _ rfl (CL fun e=>by have:=e.2; cases this)
  | some k =>
   obtain ⟨B,d⟩:=k;have og:B.length≤1099511627776:=og;have jF:∀ v∈B,PV.sz 2048 v:=jF;obtain ⟨nb,bJ⟩:∃ n,n=B.length:=⟨_,rfl⟩;obtain ⟨gb,cD⟩:∃ g,g=bF B:=⟨_,rfl⟩;rw [show ax.ae mS (some (A,c),some (B,d))=[.flat false na 6 ga,.flat false nb 6 gb] from by rw [a8,bw,bJ,cD]; rfl,show ax.args mS (some (A,c),some (B,d))=[.slice (some ⟨0,0,none⟩) na c,.slice (some ⟨1,0,none⟩) nb d] from by rw [a8,bJ]; rfl]
   rw [← a8] at lX;rw [← bJ] at og;have fin:=fun (x:XV) (e:Int)=>fin (some (B,d)) B x e 2 rfl
   conv=>whnf
   refine ⟨some (A,c),[0],by rw [show bk.args (some (A,c))=[.slice (some ⟨0,0,none⟩) na c] from by rw [a8]; rfl]; rfl,⟨by show A.length≤_; omega,lz⟩,?_⟩
   rw [show bk.ae (some (A,c))=[.flat false na 6 ga] from by rw [a8,bw]; rfl,show bk.val (some (A,c))=.int .i64 (bt A) from rfl,show bk.new (some (A,c))=none from rfl]
   conv=>whnf
   refine ⟨aq.aO (fun h=>h) (fun r hr=>by rw [bw]; rfl),?_⟩
   conv=>whnf
   refine ⟨_,rfl,?_⟩;obtain ⟨e,he⟩:∃ z,z=bt A:=⟨_,rfl⟩;rw [← he];conv=>whnf
   by_cases h1:e=0
   ·rw [show (e != 0)=false from by simp [h1]]
    conv=>whnf
    refine ⟨some (B,d),[1],by rw [show bk.args (some (B,d))=[.slice (some ⟨0,0,none⟩) nb d] from by rw [bJ]; rfl]; rfl,⟨by show B.length≤_; omega,jF⟩,?_⟩
    rw [show bk.ae (some (B,d))=[.flat false nb 6 gb] from by rw [bJ,cD]; rfl,show bk.val (some (B,d))=.int .i64 (bt B) from rfl,show bk.new (some (B,d))=none from rfl]
    conv=>whnf
    refine ⟨aq.aO (fun h=>h) (fun r hr=>by rw [cD]; rfl),?_⟩
    conv=>whnf
    refine ⟨_,rfl,?_⟩;obtain ⟨e2,cH⟩:∃ z,z=bt B:=⟨_,rfl⟩;rw [← cH];conv=>whnf
    by_cases J:e2=0
    ·rw [show (e2 != 0)=false from by simp [J]]
     have hk:bt A=0∧bt B=0:=⟨by rw [← he]; exact h1,by rw [← cH]; exact J⟩
     have J0:=nj hk.1;have Ru:=nj hk.2;conv=>whnf
     obtain ⟨⟨x,z⟩,hx⟩:∃ x,gZ (kC true (aG A) (aG B))=x:=⟨_,rfl⟩;refine ⟨(((aG A,c),(aG B,d)),(105,true)),[0,1],by rw [show n4.args (((aG A,c),(aG B,d)),(105,true))=[.slice (some ⟨0,0,none⟩) na c,.slice (some ⟨1,0,none⟩) nb d,.func (.func 105) #[] #[]] from by rw [a8,bJ,← cE A,← cE B]; rfl]; rfl,⟨by simp,⟨by show (aG A).length≤_; rw [cE]; omega,uu lz (by decide)⟩,by show (aG B).length≤_; rw [cE]; omega,uu jF (by decide)⟩,?_⟩
     rw [show n4.ae (((aG A,c),(aG B,d)),(105,true))=[.flat false na 6 ga,.flat false nb 6 gb] from by rw [a8,bJ,bw,cD,← cE A,← cE B,← wK hk.1,← wK hk.2]; rfl,show n4.val (((aG A,c),(aG B,d)),(105,true))=.tuple ⟨[x.v,.bool z]⟩ from by show Value.tuple ⟨[(gZ (kC true (aG A) (aG B))).1.v,.bool (gZ (kC true (aG A) (aG B))).2]⟩=_; rw [hx],show n4.new (((aG A,c),(aG B,d)),(105,true))=none from rfl]
     conv=>whnf
     refine ⟨aq.aO (fun h=>h) (fun r hr=>by rw [bw]; rfl),aq.aO (fun h=>h) (fun r hr=>by rw [cD]; rfl),?_⟩
     conv=>whnf
     refine ⟨_,rfl,?_⟩;conv=>whnf
     have hv:=XO hk hx;cases z with
     | false =>
      conv=>whnf
      exact fin _ _ hv
     | true =>
      conv=>whnf
      exact fin _ _ hv
    ·rw [show (e2 != 0)=true from by simp [J]]
     conv=>whnf
     exact fin nG 1 (CL fun h=>J (by rw [cH]; exact h.2))
   ·rw [show (e != 0)=true from by simp [h1]]
    conv=>whnf
    exact fin nG 1 (CL fun h=>h1 (by rw [he]; exact h.1))
open Go Go.Ae
def Rx:Env:=En [(23,.q bk),(56,.q dN),(70,.p qe),(34,.p dT),(38,.p eU),(71,.p lT),(33,.p lh),(35,.p jB)] [(64,cC mr cO Tryz.f64)] [(118,wX)]
theorem adv:EnvOk Tryz.prog Rx:=bI ⟨B0,EF,MN,Gf,wW,Oi,zk,Of,trivial⟩ ⟨yQ,trivial⟩
theorem abY:iD Tryz.prog Rx:=x6 ⟨yB,trivial⟩
theorem ZK:dj Tryz.prog 21 mG:=by
 refine dC adv aL Tryz.func21 (enters_of Tryz.func21 (by kernel_rfl) rfl) ?_ ?_ ?_ (hI:=abY)
 ·intro ⟨i,_⟩ b hb;cases i with
  | none=>simp [mG,PL.ae] at hb
  | some i=>simp [mG,PL.ae] at hb; rw [hb]; rfl
 ·intro i b hb; simp [mG] at hb
 intro ⟨i,⟨p,q⟩⟩ hp;have hp:(i.list.length≤1099511627776∧∀ v∈i.list,v.sz 2048)∧p.sz 2048∧q.sz 2048:=hp;obtain ⟨⟨hlen,aY⟩,sp,sq⟩:=hp;have qp:=PV.cM sp (by decide)
 have qq:=PV.cM sq (by decide)
 cases i with
 | none =>
  conv=>whnf
  refine ⟨none,[],rfl,⟨Nat.zero_le _,fun v hv=>nomatch hv⟩,?_⟩
  rw [show bk.ae none=[] from rfl,show bk.val none=.int .i64 4 from rfl,show bk.new none=none from rfl]
  conv=>whnf
  refine ⟨_,rfl,?_⟩;conv=>whnf
  exact ⟨_,rfl,.refl _⟩
 | some i =>
  obtain ⟨L,c⟩:=i;have hlen:L.length≤1099511627776:=hlen;have aY:∀ v∈L,PV.sz 2048 v:=aY;obtain ⟨n,hn⟩:∃ n,n=L.length:=⟨_,rfl⟩;obtain ⟨g,hg⟩:∃ g,g=bF L:=⟨_,rfl⟩;obtain ⟨K,hK⟩:∃ K,K=db mG (some (L,c),(p,q)):=⟨_,rfl⟩;have fin:∀ (x y:RV) (z:Bool) (e:Int) (H:aA),ik L (p,q)=((x,y),z,e)→K (.tuple ⟨[x.v,y.v,.bool z,.int .i64 e]⟩) H:=fun x y z e H h=>by
   rw [hK];unfold db;rw [show mG.new (some (L,c),(p,q))=none from rfl,show mG.val (some (L,c),(p,q))=.tuple ⟨[x.v,y.v,.bool z,.int .i64 e]⟩ from by show Value.tuple ⟨[(ik L (p,q)).1.1.v,(ik L (p,q)).1.2.v,.bool (ik L (p,q)).2.1,.int .i64 (ik L (p,q)).2.2]⟩=_; rw [h]]
   exact ⟨_,rfl,.refl _⟩
  rw [show mG.ae (some (L,c),(p,q))=[.flat false n 6 g] from by rw [hn,hg]; rfl,show mG.args (some (L,c),(p,q))=[.slice (some ⟨0,0,none⟩) n c,XV.v (p,q)] from by rw [hn]; rfl,← hK]
  rw [← hn] at hlen;conv=>whnf
  refine ⟨some (L,c),[0],by rw [show bk.args (some (L,c))=[.slice (some ⟨0,0,none⟩) n c] from by rw [hn]; rfl]; rfl,⟨by show L.length≤_; omega,aY⟩,?_⟩
  rw [show bk.ae (some (L,c))=[.flat false n 6 g] from by rw [hn,hg]; rfl,show bk.val (some (L,c))=.int .i64 (bt L) from rfl,show bk.new (some (L,c))=none from rfl]
  conv=>whnf
  refine ⟨aq.aO (fun h=>h) (fun r hr=>by rw [hg]; rfl),?_⟩
  conv=>whnf
  refine ⟨_,rfl,?_⟩;obtain ⟨e,he⟩:∃ z,z=bt L:=⟨_,rfl⟩;rw [← he];conv=>whnf
  by_cases h1:e=0
  ·rw [show (e != 0)=false from by simp [h1]]
   conv=>whnf
   refine ⟨some ([p,q],2),[6],rfl,⟨by show 2≤1099511627776; decide,(fun v hv=>by rcases List.mem_cons.1 hv with rfl | hv; exact sp; rw [List.mem_singleton.1 hv]; exact sq)⟩,?_⟩
   rw [show dN.ae (some ([p,q],2))=[.flat false 2 6 (bF [p,q])] from rfl,show dN.val (some ([p,q],2))=.bool (!fa [p,q]) from rfl,show dN.new (some ([p,q],2))=none from rfl]
   conv=>whnf
   refine ⟨uq [p,q],?_⟩;conv=>whnf
   refine ⟨_,rfl,?_⟩;obtain ⟨r,hr⟩:∃ z,z=fa [p,q]:=⟨_,rfl⟩;rw [← hr];conv=>whnf
   cases r with
   | true =>
    conv=>whnf
    exact fin dc dc false 1 _ (OP fun h=>IC hr h.2.1 h.2.2)
   | false =>
    conv=>whnf
    have hk:bt L=0∧p.canon∧q.canon:=⟨by rw [← he]; exact h1,HQ hr⟩
    have hz:=nj hk.1;obtain ⟨o,eo,po,so,qo⟩:=di (q:=(0:Rat)) (qb0 (Nat.le_refl 1));refine ⟨(0:Int),rfl,⟨by decide,by decide⟩,?_⟩
    rw [show lh.val (0:Int)=o.v from eo]
    conv=>whnf
    obtain ⟨l,el,pl,sl,ql⟩:=di (q:=(1:Rat)) (Go.Ae.qb1 (Nat.le_refl 1));refine ⟨(1:Int),rfl,⟨by decide,by decide⟩,?_⟩
    rw [show lh.val (1:Int)=l.v from el]
    conv=>whnf
    intro yl nu fn tm df;conv=>whnf
    refine .inl ⟨fun mm tz hz=>∃ (j:Nat) (lo:RV) (hi:RV),bC (some (.func (.yield yl) #[] #[])::some (.pointer (some ⟨9,0,none⟩))::aD 3 (some (.slice (some ⟨0,0,none⟩) n c)::some (.int .i64 n)::some (.int .i64 j)::aD 17 [])) tz∧hz=[some (.flat false n 6 g),some (.aR true 12 [XV.cells (p,q)]),some (.aR true 3 [dc.c1]),some (.aR true 3 [dc.c1]),some (.aR true 1 [[.bool false]]),some (.aR true 1 [[.int .i64 0]]),some (.aR true 6 [p.cells,q.cells]),some (.aR true 3 [lo.c1]),some (.aR true 3 [hi.c1]),some (.aR true 1 [[.slice (some ⟨0,0,none⟩) n c]]),some (.cB (sY Tryz.f21 fn tm df))]∧n - j=mm∧((j≤n∧uY (aG L) p.p q.p j=some (lo.q,hi.q))∧(lo=RV.of lo.q∧hi=RV.of hi.q)∧(lo.sz 65536∧hi.sz 65536)∧QB lo.q 65536∧QB hi.q 65536),.inr ⟨[0,1,2,3,4,5,6,7,8,9,10],[0,1,5,6,7],?_⟩,?_⟩
    ·conv=>whnf
     intro _;conv=>whnf
     refine ⟨_,0,o,l,(.aa (.aa (.sk 3 (.aa (.aa (.aa (.sk 17 .nil rfl)))) rfl))),rfl,rfl,?_⟩;exact ⟨⟨Nat.zero_le _,by rw [po,pl]; rfl⟩,⟨by rw [po]; exact (RV.iF eo).symm,by rw [pl]; exact (RV.iF el).symm⟩,⟨RV.aP so (by decide),RV.aP sl (by decide)⟩,qo.mono (by decide),ql.mono (by decide)⟩
    rintro mm aT _ ⟨j,lo,hi,aw,rfl,rfl,⟨⟨hj,hU⟩,⟨tG,tH⟩,⟨tI,vT⟩,AT,AU⟩⟩
    obtain ⟨az,rfl⟩:∃ az:Nat→Value,aT=.func (.yield yl) #[] #[]::.pointer (some ⟨9,0,none⟩)::zs az 2 3 (.slice (some ⟨0,0,none⟩) n c::.int .i64 n::.int .i64 j::zs az 8 17 []):=bL aw;clear aw;conv=>whnf
    refine aI (fun h3=>?_) (fun h3=>?_)
    ·have h3:j < n:=by
      have:=of_decide_eq_true h3;omega
     have e7:IntKind.i64.wrap ((j:Int)+1)=((j+1:Nat):Int):=by rw [ay (by omega) (by omega)]; rfl
     obtain ⟨a,b,ra,rb,⟨ma,mb⟩,eH,b8,_,_⟩:=pY hn h3;have sa:=aY a ma;have sb:=aY b mb;have qa:=PV.cM sa (by decide)
     have qb:=PV.cM sb (by decide)
     have b6:=jm h3 (by omega)
     obtain ⟨u,hu⟩:∃ u,u=aZ n j:=⟨_,rfl⟩;rw [← hu] at b6 b8 rb;rw [← hg] at ra rb;conv=>whnf
     refine ⟨⟨by omega,by omega⟩,?_⟩
     simp only [toNat_cast,ar,Nat.zero_add];conv=>whnf
     refine ⟨by show j < n; omega,?_⟩
     conv=>whnf
     rw [ra];conv=>whnf
     refine .inl ⟨10,[[],[],[],[],[3],[],[5],[3,4,5,6],[2,3,4,5,6,7],[2,3,4,5,6,7,8],[0,1,2,3,4,5,6,7,8,9],[0,1,2,3,4,5,6,7,8,9,10]],by kernel_rfl,?_⟩
     conv=>whnf
     rw [show decide ((n:Int)≠0)=true from decide_eq_true (by omega)]
     conv=>whnf
     rw [b6];refine ⟨⟨by omega,by omega⟩,?_⟩
     simp only [toNat_cast,ar,Nat.zero_add];conv=>whnf
     refine ⟨by show u < n; omega,?_⟩
     conv=>whnf
     rw [rb];conv=>whnf
     refine ⟨rfl,?_⟩;conv=>whnf
     refine ⟨rfl,?_⟩;conv=>whnf
     refine ⟨rfl,?_⟩;conv=>whnf
     refine .inl ⟨12,[[],[],[],[2],[0,1,2,3],[],[],[],[7],[0,1,2,3,4,5,6,7,8],[],[],[0,1,2,3,4,5,6,7,8,9,10,11],[0,1,2,3,4,5,6,7,8,9,10,11,12]],by kernel_rfl,?_⟩
     conv=>whnf
     obtain ⟨x,ex,px,sx,qx⟩:=di (xD qa qb qp);refine ⟨(a,b,p),rfl,⟨PV.aP sa (by decide),PV.aP sb (by decide),PV.aP sp (by decide)⟩,?_⟩
     rw [show qe.val (a,b,p)=x.v from ex]
     conv=>whnf
     obtain ⟨y,ey,py,sy,qy⟩:=di (xD qa qb qq);refine ⟨(a,b,q),rfl,⟨PV.aP sa (by decide),PV.aP sb (by decide),PV.aP sq (by decide)⟩,?_⟩
     rw [show qe.val (a,b,q)=y.v from ey]
     conv=>whnf
     have an:=T2 hU eH px py;refine .inl ⟨7,[[],[0],[0,1],[],[0,1,3],[0,1,3,4],[0,1,2,3,4],[0,1,2,3,4,5,6]],by kernel_rfl,?_⟩
     conv=>whnf
     obtain ⟨zx,ezx,pzx⟩:=cZ (aW x.q 0);refine ⟨x,rfl,RV.bo sx (by decide),?_⟩
     rw [show dT.val x=.int .i64 zx from ezx]
     conv=>whnf
     obtain ⟨zy,ezy,pzy⟩:=cZ (aW y.q 0);refine ⟨y,rfl,RV.bo sy (by decide),?_⟩
     rw [show dT.val y=.int .i64 zy from ezy]
     conv=>whnf
     have cx:zx > 0↔0 < x.q:=by rw [pzx]; exact rV
     have cy:zy > 0↔0 < y.q:=by rw [pzy]; exact rV
     by_cases hx:zx > 0
     ·rw [show decide (zx > 0)=true from decide_eq_true hx]
      have hx:=cx.1 hx;by_cases hy:zy > 0
      ·rw [show decide (zy > 0)=true from decide_eq_true hy]
       have hy:=cy.1 hy;rw [if_neg (fun e=>Rat.not_lt.2 e.1 hx),if_pos ⟨hx,hy⟩] at an
       conv=>whnf
       refine ⟨rfl,?_⟩;conv=>whnf
       rw [e7];refine .inr ⟨[0,1,2,3,4,5,6,7,8,9,10],[0,1,5,6,7],?_⟩;conv=>whnf
       intro _;conv=>whnf
       refine ⟨_,?_,j+1,lo,hi,(.aa (.aa (.sk 3 (.aa (.aa (.aa (.sk 17 .nil rfl)))) rfl))),rfl,rfl,?_⟩
       ·omega
       ·exact ⟨⟨by omega,an⟩,⟨tG,tH⟩,⟨tI,vT⟩,AT,AU⟩
      ·rw [show decide (zy > 0)=false from decide_eq_false hy]
       have hy:¬ 0 < y.q:=fun e=>hy (cy.2 e)
       rw [if_neg (fun e=>Rat.not_lt.2 e.1 hx),if_neg (fun e=>hy e.2),if_neg hy] at an
       conv=>whnf
       refine .inr (.inr (.inl ⟨9,1,[[],[],[],[1,2],[0,1,2,3],[0,1,2,3,4],[0,1,2,3,4,5],[0,1,2,3,4,5],[],[0,1,2,3,4,5,6,8],[0,1,2,3,4,5,6,7,8,9]],[7],by kernel_rfl,?_⟩))
       conv=>whnf
       obtain ⟨d,ed,pd,sd,qd⟩:=di (QB.sub qx qy);refine ⟨(x,y),rfl,⟨RV.bo sx (by decide),RV.bo sy (by decide)⟩,?_⟩
       rw [show eU.val (x,y)=d.v from ed]
       conv=>whnf
       obtain ⟨t,et,pt,st,qt⟩:=di (QB.div qx qd (by decide))
       obtain ⟨e3,J7,pe3⟩:=cZ (if d.q=0 then 10 else 0)
       refine ⟨(x,d),rfl,⟨RV.bo sx (by decide),RV.bo sd (by decide)⟩,?_⟩
       rw [show lT.val (x,d)=.tuple ⟨[t.v,.int .i64 e3]⟩ from by rw [← et,← J7]; rfl]
       conv=>whnf
       have ct:=(RV.iF et).symm;rw [← pt] at ct;rw [pd] at pt;rw [← pt] at an;obtain ⟨z,ez,pz⟩:=cZ (aW t.q hi.q);refine ⟨(t,hi),rfl,⟨RV.bo st (by decide),RV.bo vT (by decide)⟩,?_⟩
       rw [show jB.val (t,hi)=.int .i64 z from ez]
       conv=>whnf
       have cz:z < 0↔t.q < hi.q:=by rw [pz]; exact F4
       by_cases h5:z < 0
       ·rw [show decide (z < 0)=true from decide_eq_true h5]
        conv=>whnf
        refine ⟨rfl,?_⟩;conv=>whnf
        rw [e7];refine .inr ⟨[0,1,2,3,4,5,6,7,8,9,10],[0,1,5,6,7],?_⟩;conv=>whnf
        intro _;conv=>whnf
        refine ⟨_,?_,j+1,lo,t,(.aa (.aa (.sk 3 (.aa (.aa (.aa (.sk 17 .nil rfl)))) rfl))),rfl,rfl,?_⟩
        ·omega
        ·exact ⟨⟨by omega,by rw [an]; unfold mg; rw [if_pos (cz.1 h5)]⟩,⟨tG,ct⟩,⟨tI,RV.aP st (by decide)⟩,AT,qt.mono (by decide)⟩
       ·rw [show decide (z < 0)=false from decide_eq_false h5]
        conv=>whnf
        refine ⟨rfl,?_⟩;conv=>whnf
        rw [e7];refine .inr ⟨[0,1,2,3,4,5,6,7,8,9,10],[0,1,5,6,7],?_⟩;conv=>whnf
        intro _;conv=>whnf
        refine ⟨_,?_,j+1,lo,hi,(.aa (.aa (.sk 3 (.aa (.aa (.aa (.sk 17 .nil rfl)))) rfl))),rfl,rfl,?_⟩
        ·omega
        ·exact ⟨⟨by omega,by rw [an]; unfold mg; rw [if_neg (fun e=>h5 (cz.2 e))]⟩,⟨tG,tH⟩,⟨tI,vT⟩,AT,AU⟩
     ·rw [show decide (zx > 0)=false from decide_eq_false hx]
      have hx:¬ 0 < x.q:=fun e=>hx (cx.2 e)
      by_cases hy:zy > 0
      ·rw [show decide (zy > 0)=true from decide_eq_true hy]
       have hy:=cy.1 hy;rw [if_neg (fun e=>Rat.not_lt.2 e.2 hy),if_neg (fun e=>hx e.1),if_pos hy] at an
       conv=>whnf
       refine .inr (.inr (.inl ⟨9,1,[[],[],[],[1,2],[0,1,2,3],[0,1,2,3,4],[0,1,2,3,4,5],[0,1,2,3,4,5],[],[0,1,2,3,4,5,6,8],[0,1,2,3,4,5,6,7,8,9]],[7],by kernel_rfl,?_⟩))
       conv=>whnf
       obtain ⟨d,ed,pd,sd,qd⟩:=di (QB.sub qx qy);refine ⟨(x,y),rfl,⟨RV.bo sx (by decide),RV.bo sy (by decide)⟩,?_⟩
       rw [show eU.val (x,y)=d.v from ed]
       conv=>whnf
       obtain ⟨t,et,pt,st,qt⟩:=di (QB.div qx qd (by decide))
       obtain ⟨e3,J7,pe3⟩:=cZ (if d.q=0 then 10 else 0)
       refine ⟨(x,d),rfl,⟨RV.bo sx (by decide),RV.bo sd (by decide)⟩,?_⟩
       rw [show lT.val (x,d)=.tuple ⟨[t.v,.int .i64 e3]⟩ from by rw [← et,← J7]; rfl]
       conv=>whnf
       have ct:=(RV.iF et).symm;rw [← pt] at ct;rw [pd] at pt;rw [← pt] at an;obtain ⟨z,ez,pz⟩:=cZ (aW t.q lo.q);refine ⟨(t,lo),rfl,⟨RV.bo st (by decide),RV.bo tI (by decide)⟩,?_⟩
       rw [show jB.val (t,lo)=.int .i64 z from ez]
       conv=>whnf
       have cz:z > 0↔lo.q < t.q:=by rw [pz]; exact rV
       by_cases h5:z > 0
       ·rw [show decide (z > 0)=true from decide_eq_true h5]
        conv=>whnf
        refine ⟨rfl,?_⟩;conv=>whnf
        rw [e7];refine .inr ⟨[0,1,2,3,4,5,6,7,8,9,10],[0,1,5,6,7],?_⟩;conv=>whnf
        intro _;conv=>whnf
        refine ⟨_,?_,j+1,t,hi,(.aa (.aa (.sk 3 (.aa (.aa (.aa (.sk 17 .nil rfl)))) rfl))),rfl,rfl,?_⟩
        ·omega
        ·exact ⟨⟨by omega,by rw [an]; unfold mf; rw [if_pos (cz.1 h5)]⟩,⟨ct,tH⟩,⟨RV.aP st (by decide),vT⟩,qt.mono (by decide),AU⟩
       ·rw [show decide (z > 0)=false from decide_eq_false h5]
        conv=>whnf
        refine ⟨rfl,?_⟩;conv=>whnf
        rw [e7];refine .inr ⟨[0,1,2,3,4,5,6,7,8,9,10],[0,1,5,6,7],?_⟩;conv=>whnf
        intro _;conv=>whnf
        refine ⟨_,?_,j+1,lo,hi,(.aa (.aa (.sk 3 (.aa (.aa (.aa (.sk 17 .nil rfl)))) rfl))),rfl,rfl,?_⟩
        ·omega
        ·exact ⟨⟨by omega,by rw [an]; unfold mf; rw [if_neg (fun e=>h5 (cz.2 e))]⟩,⟨tG,tH⟩,⟨tI,vT⟩,AT,AU⟩
      ·rw [show decide (zy > 0)=false from decide_eq_false hy]
       have hy:¬ 0 < y.q:=fun e=>hy (cy.2 e)
       rw [if_pos ⟨Rat.not_lt.1 hx,Rat.not_lt.1 hy⟩] at an;conv=>whnf
       refine ⟨rfl,?_⟩;conv=>whnf
       exact fin dc dc false 0 _ (N8 hk (T3 an))
    ·have h3:j=n:=by
      have:=of_decide_eq_false h3;omega
     subst h3;have hE:=Va (a:=p.p) (b:=q.p) (show j=(aG L).length by rw [cE]; exact hn)
     rw [hU] at hE;conv=>whnf
     obtain ⟨z,ez,pz⟩:=cZ (aW lo.q hi.q);refine ⟨(lo,hi),rfl,⟨RV.bo tI (by decide),RV.bo vT (by decide)⟩,?_⟩
     rw [show jB.val (lo,hi)=.int .i64 z from ez]
     conv=>whnf
     by_cases h5:hi.q≤lo.q
     ·rw [show decide (z ≥ 0)=true from decide_eq_true (by rw [pz]; exact si.2 h5)]
      conv=>whnf
      exact fin dc dc false 0 _ (N8 hk (hE.symm.trans (Wz h5)))
     ·rw [show decide (z ≥ 0)=false from decide_eq_false (by rw [pz]; exact fun e=>h5 (si.1 e))]
      conv=>whnf
      have fH:ik L (p,q)=((lo,hi),true,0):=XT hk (hE.symm.trans (WA h5)) tG tH;refine .inr (.inl ⟨(.br 0 (.br 1 (.br 2 (.br 3 (.br 4 (.br 5 .leaf .leaf) .leaf) .leaf) .leaf) (.br 2 (.br 1 (.br 3 (.br 4 (.br 5 .leaf .leaf) .leaf) .leaf) .leaf) .leaf)) (.br 1 (.br 0 (.br 2 (.br 3 (.br 4 (.br 5 .leaf .leaf) .leaf) .leaf) .leaf) .leaf) .leaf)),by kernel_rfl,?_⟩)
      repeat' ((conv=>whnf); first | exact True.intro | refine And.intro ?_ ?_)
      all_goals conv=>whnf
      all_goals exact fin lo hi true 0 _ fH
  ·rw [show (e != 0)=true from by simp [h1]]
   conv=>whnf
   exact fin dc dc false 1 _ (OP fun h=>h1 (by rw [he]; exact h.1))
set_option maxHeartbeats 1000000
open Go Go.Ae
open Go Go.Ae
def Eqs:Env:=En [(128,.p jB),(157,.p nv),(156,.p hJ)]
theorem Pt:EnvOk Tryz.prog Eqs:=bI ⟨Gh,Nx,yN,trivial⟩ trivial
theorem wx:bc Tryz.prog 123 dT:=by
 refine bh Pt aL Tryz.func123 (enters_of Tryz.func123 (by kernel_rfl) rfl) (fun _=>rfl) (fun _=>rfl) ?_
 intro (r:RV) hp;have hp:r.ok:=hp;obtain ⟨x,hx⟩:∃ x,x=aW r.q 0:=⟨_,rfl⟩;conv=>whnf
 refine ⟨(r,dc),rfl,⟨hp,RV.bo (rW 0) (by decide)⟩,?_⟩
 rw [show jB.val (r,dc)=.int .i64 x from by rw [hx]; show Value.int .i64 (aW r.q dc.q)=_; rw [NV]]
 conv=>whnf
 show Value.int .i64 x=Value.int .i64 (aW r.q 0)
 rw [hx]
theorem Ol:bc Tryz.prog 124 lT:=by
 refine bh Pt aL Tryz.func124 (enters_of Tryz.func124 (by kernel_rfl) rfl) (fun _=>rfl) (fun _=>rfl) ?_
 intro ⟨a,b⟩ hp;have hp:a.ok∧b.ok:=hp;obtain ⟨B,hB⟩:∃ B,B=decide (b.n < 0):=⟨_,rfl⟩;obtain ⟨N,hN⟩:∃ N,N=b.n.natAbs:=⟨_,rfl⟩;obtain ⟨D,hD⟩:∃ D,D=b.d:=⟨_,rfl⟩;obtain ⟨w,hw⟩:∃ w,w=a.q / b.q:=⟨_,rfl⟩;obtain ⟨e,he⟩:∃ e:Int,e=if b.q=0 then 10 else 0:=⟨_,rfl⟩
 have fH:lT.val (a,b)=.tuple ⟨[(RV.of w).v,.int .i64 e]⟩:=by rw [hw,he]; rfl
 have hv:nv.val b=.tuple ⟨[.agg ⟨[.bool B,.string (nb N)]⟩,.agg ⟨[.bool false,.string (nb D)]⟩]⟩:=by
  show Value.tuple ⟨[aH b.n,aH ((b.d:Nat):Int)]⟩=_
  rw [hB,hN,hD,tP (n:=((b.d:Nat):Int)) (by omega),Int.natAbs_natCast]; rfl
 have hi:zW b=(B,nb D,nb N):=by rw [hB,hD,hN]; rfl
 have hz:=LA b;have xV:=aao hp.2;obtain ⟨nd,kc⟩:∃ nd,nd=nb D:=⟨_,rfl⟩;obtain ⟨nn,fh⟩:∃ nn,nn=nb N:=⟨_,rfl⟩;rw [← kc,← fh] at hv;conv=>whnf
 refine ⟨b,rfl,hp.2,?_⟩;rw [hv];conv=>whnf
 by_cases h0:N=0
 ·have iu:b.q=0:=hz.2 (by omega)
  rw [show (nn.toList == (⟨#[]⟩:ByteArray).toList)=true from by
   have:=ud h0;rw [← fh] at this
   simpa using this]
  conv=>whnf
  rw [fH,he,if_pos iu,hw,iu,show a.q / 0=0 from by rw [Rat.div_def]; simp]
  show Value.tuple ⟨[dc.v,.int .i64 10]⟩=Value.tuple ⟨[bN 0,.int .i64 10]⟩
  rw [aeq]
 ·rw [show (nn.toList == (⟨#[]⟩:ByteArray).toList)=false from by
   have:=uj h0;rw [← fh] at this
   simpa using this]
  have Ry:b.n≠0:=by omega
  rw [hi,← kc,← fh] at xV;conv=>whnf
  refine ⟨(a,(B,nd,nn)),rfl,⟨hp.1,xV⟩,?_⟩;rw [show hJ.val (a,(B,nd,nn))=(RV.of w).v from by
   show bN (a.q*RV.q (B,nd,nn))=bN w
   rw [kc,fh,← hi,acK b Ry,hw,Rat.div_def]]
  conv=>whnf
  rw [fH,he,if_neg (fun h=>Ry (hz.1 h))]
  rfl
open Go Go.Ae
def aeG:Env:=En [(146,.p eU),(169,.p jA),(156,.p hJ),(123,.p dT),(124,.p lT),(120,.p lh),(153,.p qz),(121,.p ia),(171,.p sh),(76,.p kv)]
theorem abZ:EnvOk Tryz.prog aeG:=bI ⟨yO,Gg,yN,wx,Ol,GV,BI,yP,Fb,BZ,trivial⟩ trivial
theorem LS:bc Tryz.prog 147 yU:=by
 refine bh abZ aL Tryz.func147 (enters_of Tryz.func147 (by kernel_rfl) rfl) (fun _=>rfl) (fun _=>rfl) ?_
 intro ⟨l,p⟩ hp;have hp:l.sz 67108864∧p.sz 67108864:=hp;obtain ⟨sl,sp⟩:=hp;have ql:=R3.JD sl (by decide)
 have qp:=PV.cM sp (by decide)
 obtain ⟨a,b,r⟩:=l;obtain ⟨x,y⟩:=p;have sa:=sl.1;have sb:=sl.2.1;have sr:=sl.2.2;have sx:=sp.1;have sy:=sp.2;have qa:QB a.q _:=ql.1;have qb:QB b.q _:=ql.2.1;have qr:QB r.q _:=ql.2.2;have qx:QB x.q _:=qp.1;have qy:QB y.q _:=qp.2;conv=>whnf
 refine .inl ⟨9,[[],[0],[],[2],[0,1,2,3],[],[5],[],[7],[0,1,2,3,4,5,6,7,8],[0,1,2,3,4,5,6,7,8,9],[0,1,2,3,4,5,6,7,8,9,10]],by kernel_rfl,?_⟩
 conv=>whnf
 obtain ⟨m,em,pm,sm,qm⟩:=di (QB.mul qa qx);refine ⟨(a,x),rfl,⟨RV.bo sa (by decide),RV.bo sx (by decide)⟩,?_⟩
 rw [show hJ.val (a,x)=m.v from em]
 conv=>whnf
 obtain ⟨n,en,pn,sn,qn⟩:=di (QB.mul qb qy);refine ⟨(b,y),rfl,⟨RV.bo sb (by decide),RV.bo sy (by decide)⟩,?_⟩
 rw [show hJ.val (b,y)=n.v from en]
 conv=>whnf
 obtain ⟨s,es,ps,ss,qs⟩:=di (QB.add qm qn);refine ⟨(m,n),rfl,⟨RV.bo sm (by decide),RV.bo sn (by decide)⟩,?_⟩
 rw [show jA.val (m,n)=s.v from es]
 conv=>whnf
 show s.v=(RV.of (vj (n3 (R3.q (a,b,r))) (PV.p (x,y)))).v
 rw [(RV.iF es).symm,pm,pn]
 rfl
def aeH:Env:=En [(147,.p yU),(146,.p eU),(156,.p hJ),(123,.p dT),(124,.p lT)]
theorem OU:EnvOk Tryz.prog aeH:=bI ⟨LS,yO,yN,wx,Ol,trivial⟩ trivial
theorem MO:bc Tryz.prog 150 yV:=by
 refine bh OU aL Tryz.func150 (enters_of Tryz.func150 (by kernel_rfl) rfl) (fun _=>rfl) (fun _=>rfl) ?_
 intro ⟨l,p⟩ hp;have hp:l.sz 1048576∧p.sz 1048576:=hp;obtain ⟨sl,sp⟩:=hp;have ql:=R3.JD sl (by decide)
 have qp:=PV.cM sp (by decide)
 conv=>whnf
 refine .inl ⟨5,[[],[],[0,1],[],[3],[0,1,2,3,4],[0,1,2,3,4,5]],by kernel_rfl,?_⟩
 conv=>whnf
 obtain ⟨m,em,pm,sm,qm⟩:=di (Hg (CJ ql) qp);refine ⟨(l,p),rfl,⟨R3.aP sl (by decide),PV.aP sp (by decide)⟩,?_⟩
 rw [show yU.val (l,p)=m.v from em]
 conv=>whnf
 obtain ⟨a,b,r⟩:=l;have sr:=sl.2.2;have qr:QB r.q _:=ql.2.2;obtain ⟨s,es,ps,ss,qs⟩:=di (QB.sub qm qr);refine ⟨(m,r),rfl,⟨RV.bo sm (by decide),RV.bo sr (by decide)⟩,?_⟩
 rw [show eU.val (m,r)=s.v from es]
 conv=>whnf
 show s.v=(RV.of (bg (R3.q (a,b,r)) p.p)).v
 rw [(RV.iF es).symm,pm]
 rfl
theorem Nz:bc Tryz.prog 152 uG:=by
 refine bh OU aL Tryz.func152 (enters_of Tryz.func152 (by kernel_rfl) rfl) (fun _=>rfl) (fun _=>rfl) ?_
 intro ⟨a,b⟩ hp;have hp:a.ok∧b.ok:=hp;obtain ⟨ha,hb⟩:=hp;have sa:a.sz 8589934592:=ha;have sb:b.sz 8589934592:=hb;have qa:=RV.fM sa (by decide)
 have qb:=RV.fM sb (by decide)
 conv=>whnf
 obtain ⟨s,es,ps,ss,qs⟩:=di (QB.div qa qb (by decide))
 obtain ⟨e,ee,pe⟩:=cZ (if b.q=0 then 10 else 0)
 refine ⟨(a,b),rfl,⟨RV.bo sa (by decide),RV.bo sb (by decide)⟩,?_⟩
 rw [show lT.val (a,b)=.tuple ⟨[s.v,.int .i64 e]⟩ from by rw [← es,← ee]; rfl]
 conv=>whnf
 show s.v=(RV.of (a.q / b.q)).v
 rw [(RV.iF es).symm]
def aeI:Env:=En [(147,.p yU),(150,.p yV),(152,.p uG),(146,.p eU),(156,.p hJ),(123,.p dT),(120,.p lh),(153,.p qz),(121,.p ia),(171,.p sh),(76,.p kv)]
theorem ab0:EnvOk Tryz.prog aeI:=bI ⟨LS,MO,Nz,yO,yN,wx,GV,BI,yP,Fb,BZ,trivial⟩ trivial
theorem SR:bc Tryz.prog 115 BU:=by
 refine bh ab0 aL Tryz.func115 (enters_of Tryz.func115 (by kernel_rfl) rfl) (fun _=>rfl) (fun _=>rfl) ?_
 intro ⟨p,q⟩ hp;have hp:p.sz 1048576∧q.sz 1048576:=hp;obtain ⟨sp,sq⟩:=hp;have qp:=PV.cM sp (by decide)
 have qq:=PV.cM sq (by decide)
 have fin:∀ (x:R3) (z:Int),pD p.p q.p=(x,z)→Value.tuple ⟨[x.v,.int .i64 z]⟩=BU.val (p,q):=fun x z h=>by
  show _=LE.v (pD p.p q.p)
  rw [h]; rfl
 conv=>whnf
 obtain ⟨m,em,pm⟩:=cZ (dV p.p q.p);refine ⟨(p,q),rfl,⟨PV.aP sp (by decide),PV.aP sq (by decide)⟩,?_⟩
 rw [show kv.val (p,q)=.int .i64 m from em]
 conv=>whnf
 refine aI (fun h=>?_) (fun h=>?_)
 ·have h:m=0:=by simpa using h
  conv=>whnf
  exact fin uW 12 (if_pos (by rw [← pm]; exact h))
 ·have h:m≠0:=by intro e; subst e; simp at h
  obtain ⟨p1,p2⟩:=p;have Ed:=sp.1;have Ee:=sp.2;have J8:QB p1.q _:=qp.1;have J9:QB p2.q _:=qp.2;obtain ⟨q1,q2⟩:=q;have Rz:=sq.1;have RA:=sq.2;have RB:QB q1.q _:=qq.1;have RC:QB q2.q _:=qq.2;conv=>whnf
  refine .inl ⟨12,[[],[0],[],[2],[0,1,2,3],[],[5],[],[7],[0,1,2,3,4,5,6,7,8],[0,1,2,3,4,5,6,7,8,9],[],[0,1,2,3,4,5,6,7,8,9,10,11]],by kernel_rfl,?_⟩
  conv=>whnf
  obtain ⟨a,ea,pa,sa,qa⟩:=di (QB.sub J9 RC);refine ⟨(p2,q2),rfl,⟨RV.bo Ee (by decide),RV.bo RA (by decide)⟩,?_⟩
  rw [show eU.val (p2,q2)=a.v from ea]
  conv=>whnf
  obtain ⟨b,eb,pb,sb,qb⟩:=di (QB.sub RB J8);refine ⟨(q1,p1),rfl,⟨RV.bo Rz (by decide),RV.bo Ed (by decide)⟩,?_⟩
  rw [show eU.val (q1,p1)=b.v from eb]
  conv=>whnf
  obtain ⟨o,ho⟩:∃ o,o=dc:=⟨_,rfl⟩;have so:o.sz 1:=by rw [ho]; exact rW 1
  have qo:QB o.q 1:=by rw [ho]; exact wJ
  have mW:R3.v (a,b,o)=.agg ⟨[.bool a.1,.string a.2.1,.string a.2.2,.bool b.1,.string b.2.1,.string b.2.2,.bool false,.string ⟨#[]⟩,.string ⟨#[]⟩]⟩:=by rw [ho]; rfl
  rw [← mW];obtain ⟨c,ec,pc,sc,qc⟩:=di (Hg (CJ (aeh qa qb qo)) (mkQ J8 J9));refine ⟨((a,b,o),(p1,p2)),rfl,⟨R3.aP (mkL sa sb so) (by decide),PV.aP (mkP Ed Ee) (by decide)⟩,?_⟩
  rw [show yU.val ((a,b,o),(p1,p2))=c.v from ec]
  conv=>whnf
  have ha:=(RV.iF ea).symm;have hb:=(RV.iF eb).symm;have hc:=(RV.iF ec).symm;refine fin (a,b,c) 0 ?_;unfold pD;rw [if_neg (by rw [← pm]; exact h),hc,ha,hb]
  unfold vj n3 R3.q
  dsimp only
  rw [RV.fw,RV.fw]
  rfl
set_option maxHeartbeats 4000000
open Go Go.Ae
def aeJ:Env:=En [(150,.p yV),(152,.p uG),(146,.p eU),(123,.p dT),(151,.p nL)]
theorem ab1:EnvOk Tryz.prog aeJ:=bI ⟨MO,Nz,yO,wx,Zz,trivial⟩ trivial
theorem ZL:dj Tryz.prog 117 nH:=by
 refine dC ab1 aL Tryz.func117 (enters_of Tryz.func117 (by kernel_rfl) rfl) ?_ ?_ ?_
 ·intro i B hb; simp [nH] at hb; rw [hb]; rfl
 ·intro i B hb; simp [nH] at hb; rw [← hb]; rfl
 intro ⟨⟨L,c⟩,m⟩ hp;have hp:L.length≤274877906944∧(∀ v∈L,v.sz 262144)∧m.sz 1048576:=hp;obtain ⟨hlen,aY,sm⟩:=hp;have qm:=R3.JD sm (by decide)
 obtain ⟨n,hn⟩:∃ n,n=L.length:=⟨_,rfl⟩;obtain ⟨g,hg⟩:∃ g,g=bF L:=⟨_,rfl⟩;rw [show nH.ae ((L,c),m)=[.flat false n 6 g] from by rw [hn,hg]; rfl,show nH.args ((L,c),m)=[.slice (some ⟨0,0,none⟩) n c,m.v] from by rw [hn]; rfl]
 rw [← hn] at hlen;conv=>whnf
 refine .inl ⟨fun mm tz hz=>∃ (j:Nat) (O:List PV) (q:Nat) (F:Nat→List Value),bC (some (.slice (some ⟨0,0,none⟩) n c)::aD 2 (some (.pointer (some ⟨1,0,none⟩))::aD 1 (some (.slice (some ⟨2,0,none⟩) q (qK q))::some (.int .i64 j)::aD 54 []))) tz∧hz=[some (.flat false n 6 g),some (.aR true 9 [m.cells]),some (.flat true q 6 F)]∧n - j=mm∧((j≤n∧q=O.length)∧O=((bf L).take j).flatMap (qJ m.q)∧(∀ r,r < q→F r=bF O r)),.inr ⟨[0,1,2],[0,3,5,6],?_⟩,?_⟩
 ·conv=>whnf
  intro _;conv=>whnf
  refine ⟨_,0,[],0,fun _=>[],(.aa (.sk 2 (.aa (.sk 1 (.aa (.aa (.sk 54 .nil rfl))) rfl)) rfl)),rfl,rfl,?_⟩
  exact ⟨⟨Nat.zero_le _,rfl⟩,rfl,fun r hr=>absurd hr (Nat.not_lt_zero r)⟩
 rintro mm aT _ ⟨j,O,q,F,aw,rfl,rfl,⟨⟨hj,hq⟩,hO,hF⟩⟩
 obtain ⟨az,rfl⟩:∃ az:Nat→Value,aT=.slice (some ⟨0,0,none⟩) n c::zs az 1 2 (.pointer (some ⟨1,0,none⟩)::zs az 4 1 (.slice (some ⟨2,0,none⟩) q (qK q)::.int .i64 j::zs az 7 54 [])):=bL aw;clear aw;conv=>whnf
 refine aI (fun h1=>?_) (fun h1=>?_)
 ·have h1:j < n:=by
   have:=of_decide_eq_true h1;omega
  have e7:IntKind.i64.wrap ((j:Int)+1)=((j+1:Nat):Int):=by rw [ay (by omega) (by omega)]; rfl
  have jr:=Xz m.q L j;rw [← hO,← hq,← hn] at jr;have ra:=ni (L:=L) (k:=j) (by omega)
  have rb:=ni (L:=L) (k:=aZ n j) (by rw [hn]; exact cJ (by omega))
  have eH:(bf L)[j]?=some (gg L j,gg L (aZ n j)):=oV (yH (by omega)) (by rw [← hn]; exact yH (by rw [← hn]; exact cJ h1))
  have sa:=aY _ (lO (L:=L) (k:=j) (by omega))
  have sb:=aY _ (lO (L:=L) (k:=aZ n j) (by rw [← hn]; exact cJ h1))
  obtain ⟨a,ha⟩:∃ a,a=gg L j:=⟨_,rfl⟩;obtain ⟨b,hb⟩:∃ a,a=gg L (aZ n j):=⟨_,rfl⟩;have b6:=jm h1 (by omega)
  have b8:=cJ h1;rw [← ha] at eH sa ra;rw [← hb] at eH sb rb;clear ha hb;have qa:=PV.cM sa (by decide)
  have qb:=PV.cM sb (by decide)
  obtain ⟨u,hu⟩:∃ u,u=aZ n j:=⟨_,rfl⟩;rw [← hu] at b6 b8 rb;rw [← hg] at ra rb;conv=>whnf
  refine .inr (.inr (.inl ⟨14,1,[[],[],[0,1],[0,1,2],[],[],[5],[],[7],[5,6,7,8],[4,5,6,7,8,9],[4,5,6,7,8,9,10],[],[],[0,1,2,3,12,13],[0,1,2,3,4,5,6,7,8,9,10,11,12,13,14]],[4,5,6,7,8,9,10,11],by kernel_rfl,?_⟩))
  conv=>whnf
  refine ⟨⟨by omega,by omega⟩,?_⟩
  simp only [toNat_cast,ar,Nat.zero_add];conv=>whnf
  refine ⟨by show j < n; omega,?_⟩
  conv=>whnf
  rw [ra];conv=>whnf
  rw [show decide ((n:Int)≠0)=true from decide_eq_true (by omega)]
  conv=>whnf
  rw [b6];refine ⟨⟨by omega,by omega⟩,?_⟩
  simp only [toNat_cast,ar,Nat.zero_add];conv=>whnf
  refine ⟨by show u < n; omega,?_⟩
  conv=>whnf
  rw [rb];conv=>whnf
  refine ⟨rfl,?_⟩;conv=>whnf
  refine .inl ⟨8,[[],[],[0,1],[],[],[0,1,2,3,4],[],[],[0,1,2,3,4,5,6,7],[0,1,2,3,4,5,6,7,8]],by kernel_rfl,?_⟩
  conv=>whnf
  obtain ⟨x,ex,px,sx,qx⟩:=di (CI qm qa);refine ⟨(m,a),rfl,⟨R3.aP sm (by decide),PV.aP sa (by decide)⟩,?_⟩
  rw [show yV.val (m,a)=x.v from ex]
  conv=>whnf
  obtain ⟨y,ey,py,sy,qy⟩:=di (CI qm qb);refine ⟨(m,b),rfl,⟨R3.aP sm (by decide),PV.aP sb (by decide)⟩,?_⟩
  rw [show yV.val (m,b)=y.v from ey]
  conv=>whnf
  obtain ⟨z,ez,pz⟩:=cZ (aW x.q 0);refine ⟨x,rfl,RV.bo sx (by decide),?_⟩
  rw [show dT.val x=.int .i64 z from ez]
  conv=>whnf
  have hz:=ng x.q 0;rw [← pz] at hz;have an:=(BF (f:=qJ m.q) eH).trans (congrArg (_++·) (U2 px py rfl));rw [← hO,← pz] at an;cases q with
  | zero =>
   obtain rfl:O=[]:=List.eq_nil_of_length_eq_zero hq.symm;by_cases h8:z ≥ 0
   ·rw [show decide (z ≥ 0)=true from decide_eq_true h8]
    rw [if_pos h8] at an;conv=>whnf
    refine ⟨⟨Nat.le_refl _,by show (0+1)*80≤140737488355328; decide⟩,?_⟩
    conv=>whnf
    refine .inl ⟨3,[[],[0],[],[0,1,2],[0,1,2,3],[0,1,2,3,4]],by kernel_rfl,?_⟩
    conv=>whnf
    obtain ⟨z3,lF,lG⟩:=cZ (aW x.q 0);refine ⟨x,rfl,RV.bo sx (by decide),?_⟩
    rw [show dT.val x=.int .i64 z3 from lF]
    conv=>whnf
    obtain ⟨z2,lH,g8⟩:=cZ (aW y.q 0);refine ⟨y,rfl,RV.bo sy (by decide),?_⟩
    rw [show dT.val y=.int .i64 z2 from lH]
    conv=>whnf
    have gI:=ng y.q 0;rw [← g8] at gI;obtain rfl:z3=z:=lG.trans pz.symm;rw [show IntKind.i64.wrap (z3*z2)=z3*z2 from by rcases hz with rfl | rfl | rfl <;> rcases gI with rfl | rfl | rfl <;> rfl]
    rw [← g8] at an;by_cases h9:z3*z2 < 0
    ·rw [show decide (z3*z2 < 0)=true from decide_eq_true h9]
     rw [if_pos h9] at an;conv=>whnf
     refine .inl ⟨10,[[],[],[],[],[],[],[4,5],[3,4,5,6],[1,2,3,4,5,6,7],[1,2,3,4,5,6,7,8],[0,1,2,3,4,5,6,7,8,9],[0,1,2,3,4,5,6,7,8,9,10]],by kernel_rfl,?_⟩
     conv=>whnf
     obtain ⟨d2,gJ,lI,lJ,lK⟩:=di (QB.sub qx qy);refine ⟨(x,y),rfl,⟨RV.bo sx (by decide),RV.bo sy (by decide)⟩,?_⟩
     rw [show eU.val (x,y)=d2.v from gJ]
     conv=>whnf
     obtain ⟨t,et,pt,st,qt⟩:=di (QB.div qx lK (by decide))
     refine ⟨(x,d2),rfl,⟨RV.bo sx (by decide),RV.bo lJ (by decide)⟩,?_⟩
     rw [show uG.val (x,d2)=t.v from et]
     conv=>whnf
     obtain ⟨w,ew,pw,sw,qw⟩:=lV (qI qa qb qt);refine ⟨((a,b),t),rfl,⟨⟨PV.aP sa (by decide),PV.aP sb (by decide)⟩,RV.aP st (by decide)⟩,?_⟩
     rw [show nL.val ((a,b),t)=w.v from ew]
     conv=>whnf
     have pw:=(PV.iF ew).symm;rw [pt,lI] at pw;refine ⟨⟨by show 1≤26; decide,rfl,by show (1+1)*80≤140737488355328; decide⟩,?_⟩
     conv=>whnf
     refine ⟨[0,3,6],?_⟩;conv=>whnf
     intro _;conv=>whnf
     rw [e7];refine .inr ⟨[0,1,26],[0,3,5,6],?_⟩;conv=>whnf
     intro _;conv=>whnf
     refine ⟨_,?_,j+1,[a]++[w],1+1,_,(.aa (.sk 2 (.aa (.sk 1 (.aa (.aa (.sk 54 .nil rfl))) rfl)) rfl)),rfl,rfl,?_⟩
     ·omega
     ·exact ⟨⟨by omega,rfl⟩,by rw [an,pw]; rfl,yI (O:=[a]) rfl (Gc rfl) rfl⟩
    ·rw [show decide (z3*z2 < 0)=false from decide_eq_false h9]
     rw [if_neg h9] at an;conv=>whnf
     rw [e7];refine .inr ⟨[0,1,26],[0,3,5,6],?_⟩;conv=>whnf
     intro _;conv=>whnf
     refine ⟨_,?_,j+1,[a],1,_,(.aa (.sk 2 (.aa (.sk 1 (.aa (.aa (.sk 54 .nil rfl))) rfl)) rfl)),rfl,rfl,?_⟩
     ·omega
     ·exact ⟨⟨by omega,rfl⟩,by rw [an]; rfl,Gc rfl⟩
   ·rw [show decide (z ≥ 0)=false from decide_eq_false h8]
    rw [if_neg h8] at an;conv=>whnf
    refine .inl ⟨3,[[],[0],[],[0,1,2],[0,1,2,3],[0,1,2,3,4]],by kernel_rfl,?_⟩
    conv=>whnf
    obtain ⟨z3,lF,lG⟩:=cZ (aW x.q 0);refine ⟨x,rfl,RV.bo sx (by decide),?_⟩
    rw [show dT.val x=.int .i64 z3 from lF]
    conv=>whnf
    obtain ⟨z2,lH,g8⟩:=cZ (aW y.q 0);refine ⟨y,rfl,RV.bo sy (by decide),?_⟩
    rw [show dT.val y=.int .i64 z2 from lH]
    conv=>whnf
    have gI:=ng y.q 0;rw [← g8] at gI;obtain rfl:z3=z:=lG.trans pz.symm;rw [show IntKind.i64.wrap (z3*z2)=z3*z2 from by rcases hz with rfl | rfl | rfl <;> rcases gI with rfl | rfl | rfl <;> rfl]
    rw [← g8] at an;by_cases h9:z3*z2 < 0
    ·rw [show decide (z3*z2 < 0)=true from decide_eq_true h9]
     rw [if_pos h9] at an;conv=>whnf
     refine .inl ⟨10,[[],[],[],[],[],[],[4,5],[3,4,5,6],[1,2,3,4,5,6,7],[1,2,3,4,5,6,7,8],[0,1,2,3,4,5,6,7,8,9],[0,1,2,3,4,5,6,7,8,9,10]],by kernel_rfl,?_⟩
     conv=>whnf
     obtain ⟨d2,gJ,lI,lJ,lK⟩:=di (QB.sub qx qy);refine ⟨(x,y),rfl,⟨RV.bo sx (by decide),RV.bo sy (by decide)⟩,?_⟩
     rw [show eU.val (x,y)=d2.v from gJ]
     conv=>whnf
     obtain ⟨t,et,pt,st,qt⟩:=di (QB.div qx lK (by decide))
     refine ⟨(x,d2),rfl,⟨RV.bo sx (by decide),RV.bo lJ (by decide)⟩,?_⟩
     rw [show uG.val (x,d2)=t.v from et]
     conv=>whnf
     obtain ⟨w,ew,pw,sw,qw⟩:=lV (qI qa qb qt);refine ⟨((a,b),t),rfl,⟨⟨PV.aP sa (by decide),PV.aP sb (by decide)⟩,RV.aP st (by decide)⟩,?_⟩
     rw [show nL.val ((a,b),t)=w.v from ew]
     conv=>whnf
     have pw:=(PV.iF ew).symm;rw [pt,lI] at pw;refine ⟨⟨Nat.le_refl _,by show (0+1)*80≤140737488355328; decide⟩,?_⟩
     conv=>whnf
     rw [e7];refine .inr ⟨[0,1,38],[0,3,5,6],?_⟩;conv=>whnf
     intro _;conv=>whnf
     refine ⟨_,?_,j+1,[w],1,_,(.aa (.sk 2 (.aa (.sk 1 (.aa (.aa (.sk 54 .nil rfl))) rfl)) rfl)),rfl,rfl,?_⟩
     ·omega
     ·exact ⟨⟨by omega,rfl⟩,by rw [an,pw]; rfl,Gc rfl⟩
    ·rw [show decide (z3*z2 < 0)=false from decide_eq_false h9]
     rw [if_neg h9] at an;conv=>whnf
     rw [e7];refine .inr ⟨[0,1,2],[0,3,5,6],?_⟩;conv=>whnf
     intro _;conv=>whnf
     refine ⟨_,?_,j+1,[],0,F,(.aa (.sk 2 (.aa (.sk 1 (.aa (.aa (.sk 54 .nil rfl))) rfl)) rfl)),rfl,rfl,?_⟩
     ·omega
     ·exact ⟨⟨by omega,rfl⟩,by rw [an]; rfl,hF⟩
  | succ q =>
   by_cases h8:z ≥ 0
   ·rw [show decide (z ≥ 0)=true from decide_eq_true h8]
    rw [if_pos h8] at an;conv=>whnf
    refine ⟨⟨by show 1≤2; decide,rfl,by show (q+1+1)*80≤140737488355328; omega⟩,?_⟩
    conv=>whnf
    refine ⟨[0,3,6,7,8,9,10],?_⟩;conv=>whnf
    intro _;conv=>whnf
    refine .inl ⟨3,[[],[0],[],[0,1,2],[0,1,2,3],[0,1,2,3,4]],by kernel_rfl,?_⟩
    conv=>whnf
    obtain ⟨z3,lF,lG⟩:=cZ (aW x.q 0);refine ⟨x,rfl,RV.bo sx (by decide),?_⟩
    rw [show dT.val x=.int .i64 z3 from lF]
    conv=>whnf
    obtain ⟨z2,lH,g8⟩:=cZ (aW y.q 0);refine ⟨y,rfl,RV.bo sy (by decide),?_⟩
    rw [show dT.val y=.int .i64 z2 from lH]
    conv=>whnf
    have gI:=ng y.q 0;rw [← g8] at gI;obtain rfl:z3=z:=lG.trans pz.symm;rw [show IntKind.i64.wrap (z3*z2)=z3*z2 from by rcases hz with rfl | rfl | rfl <;> rcases gI with rfl | rfl | rfl <;> rfl]
    rw [← g8] at an;by_cases h9:z3*z2 < 0
    ·rw [show decide (z3*z2 < 0)=true from decide_eq_true h9]
     rw [if_pos h9] at an;conv=>whnf
     refine .inl ⟨10,[[],[],[],[],[],[],[4,5],[3,4,5,6],[1,2,3,4,5,6,7],[1,2,3,4,5,6,7,8],[0,1,2,3,4,5,6,7,8,9],[0,1,2,3,4,5,6,7,8,9,10]],by kernel_rfl,?_⟩
     conv=>whnf
     obtain ⟨d2,gJ,lI,lJ,lK⟩:=di (QB.sub qx qy);refine ⟨(x,y),rfl,⟨RV.bo sx (by decide),RV.bo sy (by decide)⟩,?_⟩
     rw [show eU.val (x,y)=d2.v from gJ]
     conv=>whnf
     obtain ⟨t,et,pt,st,qt⟩:=di (QB.div qx lK (by decide))
     refine ⟨(x,d2),rfl,⟨RV.bo sx (by decide),RV.bo lJ (by decide)⟩,?_⟩
     rw [show uG.val (x,d2)=t.v from et]
     conv=>whnf
     obtain ⟨w,ew,pw,sw,qw⟩:=lV (qI qa qb qt);refine ⟨((a,b),t),rfl,⟨⟨PV.aP sa (by decide),PV.aP sb (by decide)⟩,RV.aP st (by decide)⟩,?_⟩
     rw [show nL.val ((a,b),t)=w.v from ew]
     conv=>whnf
     have pw:=(PV.iF ew).symm;rw [pt,lI] at pw;refine ⟨⟨by show 1≤2; decide,rfl,by show (q+1+1+1)*80≤140737488355328; omega⟩,?_⟩
     conv=>whnf
     refine ⟨[0,3,6],?_⟩;conv=>whnf
     intro _;conv=>whnf
     rw [e7];refine .inr ⟨[0,1,2],[0,3,5,6],?_⟩;conv=>whnf
     intro _;conv=>whnf
     refine ⟨_,?_,j+1,(O++[a])++[w],q+1+1+1,_,(.aa (.sk 2 (.aa (.sk 1 (.aa (.aa (.sk 54 .nil rfl))) rfl)) rfl)),rfl,rfl,?_⟩
     ·omega
     ·exact ⟨⟨by omega,by rw [List.length_append,List.length_append,← hq]; rfl⟩,by rw [an,pw]; simp,yI (O:=O++[a]) (by rw [List.length_append,← hq]; rfl) (yI hq hF rfl) rfl⟩
    ·rw [show decide (z3*z2 < 0)=false from decide_eq_false h9]
     rw [if_neg h9] at an;conv=>whnf
     rw [e7];refine .inr ⟨[0,1,2],[0,3,5,6],?_⟩;conv=>whnf
     intro _;conv=>whnf
     refine ⟨_,?_,j+1,O++[a],q+1+1,_,(.aa (.sk 2 (.aa (.sk 1 (.aa (.aa (.sk 54 .nil rfl))) rfl)) rfl)),rfl,rfl,?_⟩
     ·omega
     ·exact ⟨⟨by omega,by rw [List.length_append,← hq]; rfl⟩,by rw [an]; simp,yI hq hF rfl⟩
   ·rw [show decide (z ≥ 0)=false from decide_eq_false h8]
    rw [if_neg h8] at an;conv=>whnf
    refine .inl ⟨3,[[],[0],[],[0,1,2],[0,1,2,3],[0,1,2,3,4]],by kernel_rfl,?_⟩
    conv=>whnf
    obtain ⟨z3,lF,lG⟩:=cZ (aW x.q 0);refine ⟨x,rfl,RV.bo sx (by decide),?_⟩
    rw [show dT.val x=.int .i64 z3 from lF]
    conv=>whnf
    obtain ⟨z2,lH,g8⟩:=cZ (aW y.q 0);refine ⟨y,rfl,RV.bo sy (by decide),?_⟩
    rw [show dT.val y=.int .i64 z2 from lH]
    conv=>whnf
    have gI:=ng y.q 0;rw [← g8] at gI;obtain rfl:z3=z:=lG.trans pz.symm;rw [show IntKind.i64.wrap (z3*z2)=z3*z2 from by rcases hz with rfl | rfl | rfl <;> rcases gI with rfl | rfl | rfl <;> rfl]
    rw [← g8] at an;by_cases h9:z3*z2 < 0
    ·rw [show decide (z3*z2 < 0)=true from decide_eq_true h9]
     rw [if_pos h9] at an;conv=>whnf
     refine .inl ⟨10,[[],[],[],[],[],[],[4,5],[3,4,5,6],[1,2,3,4,5,6,7],[1,2,3,4,5,6,7,8],[0,1,2,3,4,5,6,7,8,9],[0,1,2,3,4,5,6,7,8,9,10]],by kernel_rfl,?_⟩
     conv=>whnf
     obtain ⟨d2,gJ,lI,lJ,lK⟩:=di (QB.sub qx qy);refine ⟨(x,y),rfl,⟨RV.bo sx (by decide),RV.bo sy (by decide)⟩,?_⟩
     rw [show eU.val (x,y)=d2.v from gJ]
     conv=>whnf
     obtain ⟨t,et,pt,st,qt⟩:=di (QB.div qx lK (by decide))
     refine ⟨(x,d2),rfl,⟨RV.bo sx (by decide),RV.bo lJ (by decide)⟩,?_⟩
     rw [show uG.val (x,d2)=t.v from et]
     conv=>whnf
     obtain ⟨w,ew,pw,sw,qw⟩:=lV (qI qa qb qt);refine ⟨((a,b),t),rfl,⟨⟨PV.aP sa (by decide),PV.aP sb (by decide)⟩,RV.aP st (by decide)⟩,?_⟩
     rw [show nL.val ((a,b),t)=w.v from ew]
     conv=>whnf
     have pw:=(PV.iF ew).symm;rw [pt,lI] at pw;refine ⟨⟨by show 1≤2; decide,rfl,by show (q+1+1)*80≤140737488355328; omega⟩,?_⟩
     conv=>whnf
     refine ⟨[0,3,6],?_⟩;conv=>whnf
     intro _;conv=>whnf
     rw [e7];refine .inr ⟨[0,1,2],[0,3,5,6],?_⟩;conv=>whnf
     intro _;conv=>whnf
     refine ⟨_,?_,j+1,O++[w],q+1+1,_,(.aa (.sk 2 (.aa (.sk 1 (.aa (.aa (.sk 54 .nil rfl))) rfl)) rfl)),rfl,rfl,?_⟩
     ·omega
     ·exact ⟨⟨by omega,by rw [List.length_append,← hq]; rfl⟩,by rw [an,pw]; simp,yI hq hF rfl⟩
    ·rw [show decide (z3*z2 < 0)=false from decide_eq_false h9]
     rw [if_neg h9] at an;conv=>whnf
     rw [e7];refine .inr ⟨[0,1,2],[0,3,5,6],?_⟩;conv=>whnf
     intro _;conv=>whnf
     refine ⟨_,?_,j+1,O,q+1,F,(.aa (.sk 2 (.aa (.sk 1 (.aa (.aa (.sk 54 .nil rfl))) rfl)) rfl)),rfl,rfl,?_⟩
     ·omega
     ·exact ⟨⟨by omega,hq⟩,by rw [an]; simp,hF⟩
 ·have h1:j=n:=by
   have:=of_decide_eq_false h1;omega
  subst h1;have q8:mQ m.q L=O:=by rw [hO,hn,← kP L,List.take_length]; rfl
  unfold db;rw [show nH.new ((L,c),m)=some (.flat true q 6 (bF O)) from by rw [← q8,show q=(mQ m.q L).length from by rw [q8]; exact hq]; rfl,show nH.val ((L,c),m)=.slice (some ⟨1,0,none⟩) q ao from by rw [show q=(mQ m.q L).length from by rw [q8]; exact hq]; rfl]
  conv=>whnf
  refine ⟨2,?_⟩;conv=>whnf
  refine ⟨⟨rfl,aq.dz (fun h=>h) hF (fun r hr=>rfl)⟩,_,rfl,?_⟩
  exact .cap _ _ _ rfl
open Go Go.Ae
def aeK:Env:=En [(121,.p ia),(122,.p n8),(123,.p dT)]
theorem ab2:EnvOk Tryz.prog aeK:=bI ⟨yP,LP,wx,trivial⟩ trivial
theorem WY:bc Tryz.prog 149 Hk:=by
 refine bh ab2 aL Tryz.func149 (enters_of Tryz.func149 (by kernel_rfl) rfl) (fun _=>rfl) (fun _=>rfl) ?_
 intro ⟨a,b,c⟩ hp;have hp:a.sz 262144∧b.sz 262144∧c.sz 262144:=hp;obtain ⟨sa,sb,sc⟩:=hp;have qa:=PV.cM sa (by decide)
 have qb:=PV.cM sb (by decide)
 have qc:=PV.cM sc (by decide)
 conv=>whnf
 refine .inl ⟨5,[[],[],[0,1],[],[],[0,1,2,3,4],[0,1,2,3,4,5],[0,1,2,3,4,5,6],[0,1,2,3,4,5,6,7]],by kernel_rfl,?_⟩
 conv=>whnf
 obtain ⟨u,eu,pu,su,qu⟩:=lV (nw qb qa);refine ⟨(b,a),rfl,⟨PV.aP sb (by decide),PV.aP sa (by decide)⟩,?_⟩
 rw [show ia.val (b,a)=u.v from eu]
 conv=>whnf
 obtain ⟨v,ev,pv,sv,qv⟩:=lV (nw qc qa);refine ⟨(c,a),rfl,⟨PV.aP sc (by decide),PV.aP sa (by decide)⟩,?_⟩
 rw [show ia.val (c,a)=v.v from ev]
 conv=>whnf
 obtain ⟨w,ew,pw,sw,qw⟩:=di (wI qu qv);refine ⟨(u,v),rfl,⟨PV.aP su (by decide),PV.aP sv (by decide)⟩,?_⟩
 rw [show n8.val (u,v)=w.v from ew]
 conv=>whnf
 obtain ⟨z,ez,pz⟩:=cZ (aW w.q 0);refine ⟨w,rfl,RV.bo sw (by decide),?_⟩
 rw [show dT.val w=.int .i64 z from ez]
 conv=>whnf
 show Value.int .i64 z=.int .i64 (aW (aB a.p b.p c.p) 0)
 rw [pz,pw,pu,pv]
 rfl
def aeL:Env:=En [(76,.p kv),(148,.p Hf),(149,.p Hk)]
theorem ab3:EnvOk Tryz.prog aeL:=bI ⟨BZ,Vi,WY,trivial⟩ trivial
theorem WZ:dj Tryz.prog 116 ny:=by
 refine dC ab3 aL Tryz.func116 (enters_of Tryz.func116 (by kernel_rfl) rfl) ?_ ?_ ?_
 ·intro i B hb; simp [ny] at hb; rw [hb]; rfl
 ·intro i B hb; simp [ny] at hb; rw [← hb]; rfl
 intro ⟨L,c⟩ hp;have hp:L.length≤549755813888∧∀ v∈L,v.sz 262144:=hp;obtain ⟨hlen,aY⟩:=hp;obtain ⟨n,hn⟩:∃ n,n=L.length:=⟨_,rfl⟩;obtain ⟨g,hg⟩:∃ g,g=bF L:=⟨_,rfl⟩;have aeM:=uu aY (by decide)
 rw [show ny.ae (L,c)=[.flat false n 6 g] from by rw [hn,hg]; rfl,show ny.args (L,c)=[.slice (some ⟨0,0,none⟩) n c] from by rw [hn]; rfl]
 rw [← hn] at hlen;conv=>whnf
 refine .inl ⟨fun mm tz hz=>∃ (j:Nat) (O:List Q2) (q:Nat) (F:Nat→List Value),bC (some (.slice (some ⟨0,0,none⟩) n c)::aD 2 (some (.slice (some ⟨1,0,none⟩) q (qK q))::some (.int .i64 j)::aD 101 [])) tz∧hz=[some (.flat false n 6 g),some (.flat true q 6 F)]∧n - j=mm∧((j≤n∧q=O.length)∧O=((bf (aG L)).take j).flatMap kX∧(∀ r,r < q→F r=aX O r)),.inr ⟨[0,1],[0,3,4],?_⟩,?_⟩
 ·conv=>whnf
  intro _;conv=>whnf
  refine ⟨_,0,[],0,fun _=>[],(.aa (.sk 2 (.aa (.aa (.sk 101 .nil rfl))) rfl)),rfl,rfl,?_⟩
  exact ⟨⟨Nat.zero_le _,rfl⟩,rfl,fun r hr=>absurd hr (Nat.not_lt_zero r)⟩
 rintro mm aT _ ⟨j,O,q,F,aw,rfl,rfl,⟨⟨hj,hq⟩,hO,hF⟩⟩
 obtain ⟨az,rfl⟩:∃ az:Nat→Value,aT=.slice (some ⟨0,0,none⟩) n c::zs az 1 2 (.slice (some ⟨1,0,none⟩) q (qK q)::.int .i64 j::zs az 5 101 []):=bL aw;clear aw;conv=>whnf
 refine aI (fun h1=>?_) (fun h1=>?_)
 ·have h1:j < n:=by
   have:=of_decide_eq_true h1;omega
  have e7:IntKind.i64.wrap ((j:Int)+1)=((j+1:Nat):Int):=by rw [ay (by omega) (by omega)]; rfl
  have jr:=N1 (aG L) j;rw [← hO,← hq,cE,← hn] at jr;have ra:=ni (L:=L) (k:=j) (by omega)
  have rb:=ni (L:=L) (k:=aZ n j) (by rw [hn]; exact cJ (by omega))
  have eH:(bf (aG L))[j]?=some ((gg L j).p,(gg L (aZ n j)).p):=by
   rw [jC (by omega),jC (by rw [← hn]; exact cJ h1)]
   exact oV (gN (by rw [cE]; omega)) (by rw [cE,← hn]; exact gN (by rw [cE,← hn]; exact cJ h1))
  have sa:=aY _ (lO (L:=L) (k:=j) (by omega))
  have sb:=aY _ (lO (L:=L) (k:=aZ n j) (by rw [← hn]; exact cJ h1))
  obtain ⟨a,ha⟩:∃ a,a=gg L j:=⟨_,rfl⟩;obtain ⟨b,hb⟩:∃ a,a=gg L (aZ n j):=⟨_,rfl⟩;have b6:=jm h1 (by omega)
  have b8:=cJ h1;rw [← ha] at eH sa ra;rw [← hb] at eH sb rb;clear ha hb;have qa:=PV.cM sa (by decide)
  have qb:=PV.cM sb (by decide)
  obtain ⟨u,hu⟩:∃ u,u=aZ n j:=⟨_,rfl⟩;rw [← hu] at b6 b8 rb;rw [← hg] at ra rb;conv=>whnf
  refine .inl ⟨12,[[],[],[0,1],[0,1,2],[],[],[5],[],[7],[5,6,7,8],[4,5,6,7,8,9],[4,5,6,7,8,9,10],[0,1,2,3,4,5,6,7,8,9,10,11],[0,1,2,3,4,5,6,7,8,9,10,11,12]],by kernel_rfl,?_⟩
  conv=>whnf
  refine ⟨⟨by omega,by omega⟩,?_⟩
  simp only [toNat_cast,ar,Nat.zero_add];conv=>whnf
  refine ⟨by show j < n; omega,?_⟩
  conv=>whnf
  rw [ra];conv=>whnf
  rw [show decide ((n:Int)≠0)=true from decide_eq_true (by omega)]
  conv=>whnf
  rw [b6];refine ⟨⟨by omega,by omega⟩,?_⟩
  simp only [toNat_cast,ar,Nat.zero_add];conv=>whnf
  refine ⟨by show u < n; omega,?_⟩
  conv=>whnf
  rw [rb];conv=>whnf
  obtain ⟨z,ez,pz⟩:=cZ (dV a.p b.p);refine ⟨(a,b),rfl,⟨PV.aP sa (by decide),PV.aP sb (by decide)⟩,?_⟩
  rw [show kv.val (a,b)=.int .i64 z from ez]
  conv=>whnf
  have an:=(BF (f:=kX) eH).trans (congrArg (_++·) (Wn pz));rw [← hO] at an;by_cases h8:z=0
  ·rw [show (z != 0)=false from by simp [h8]]
   rw [if_neg (fun e=>e h8)] at an
   conv=>whnf
   rw [e7];refine .inr ⟨[0,1],[0,3,4],?_⟩;conv=>whnf
   intro _;conv=>whnf
   refine ⟨_,?_,j+1,O,q,F,(.aa (.sk 2 (.aa (.aa (.sk 101 .nil rfl))) rfl)),rfl,rfl,?_⟩
   ·omega
   ·exact ⟨⟨by omega,hq⟩,by rw [an]; simp,hF⟩
  ·rw [show (z != 0)=true from by simp [h8]]
   rw [if_pos h8] at an;conv=>whnf
   refine ⟨⟨by omega,by omega⟩,?_⟩
   simp only [toNat_cast,ar,Nat.zero_add];conv=>whnf
   refine ⟨by show j < n; omega,?_⟩
   conv=>whnf
   rw [ra];conv=>whnf
   obtain ⟨x,hx⟩:∃ x,x=cA a.p:=⟨_,rfl⟩;refine ⟨a,rfl,PV.aP sa (by decide),?_⟩
   rw [show Hf.val a=x.v from by rw [hx]; rfl]
   conv=>whnf
   cases q with
   | zero =>
    obtain rfl:O=[]:=List.eq_nil_of_length_eq_zero hq.symm;conv=>whnf
    refine ⟨⟨Nat.le_refl _,by show (0+1)*80≤140737488355328; decide⟩,?_⟩
    conv=>whnf
    rw [e7];refine .inr ⟨[0,15],[0,3,4],?_⟩;conv=>whnf
    intro _;conv=>whnf
    refine ⟨_,?_,j+1,[a.p],1,_,(.aa (.sk 2 (.aa (.aa (.sk 101 .nil rfl))) rfl)),rfl,rfl,?_⟩
    ·omega
    ·exact ⟨⟨by omega,rfl⟩,by rw [an]; rfl,rY hx rfl⟩
   | succ q =>
    conv=>whnf
    refine ⟨⟨by show 1≤1; decide,rfl,by show (q+1+1)*80≤140737488355328; omega⟩,?_⟩
    conv=>whnf
    refine ⟨[0,4],?_⟩;conv=>whnf
    intro _;conv=>whnf
    rw [e7];refine .inr ⟨[0,1],[0,3,4],?_⟩;conv=>whnf
    intro _;conv=>whnf
    refine ⟨_,?_,j+1,O++[a.p],q+1+1,_,(.aa (.sk 2 (.aa (.aa (.sk 101 .nil rfl))) rfl)),rfl,rfl,?_⟩
    ·omega
    ·exact ⟨⟨by omega,by rw [List.length_append,← hq]; rfl⟩,by rw [an],oW hq hF hx rfl⟩
 ·have h1:j=n:=by
   have:=of_decide_eq_false h1;omega
  subst h1;have hD:O=gC (aG L):=by rw [hO,hn,← cE L,← kP (aG L),List.take_length]; rfl
  have Em:∀ v∈O,Q2.sz 262144 v:=fun v hv=>aeM v ((tM _).subset (by rw [← hD]; exact hv))
  have D5:q≤j:=by
   have:=(tM (aG L)).length_le;rw [← hD,cE] at this;omega
  clear hO;conv=>whnf
  skip
  refine .inl ⟨fun mm tz hz=>∃ (i:Nat) (C:List Q2) (e:Nat) (E:Nat→List Value),bC (aD 3 (some (.slice (some ⟨1,0,none⟩) q (qK q))::aD 1 (some (.slice (some ⟨2,0,none⟩) e (qK e))::some (.int .i64 q)::some (.int .i64 i)::aD 98 []))) tz∧hz=[some (.flat false j 6 g),some (.flat true q 6 F),some (.flat true e 6 E)]∧q - i=mm∧((i≤q∧e=C.length)∧C=(List.range i).flatMap (kY O)∧(∀ r,r < e→E r=aX C r)),.inr ⟨[0,1,2],[3,5,6,7],?_⟩,?_⟩
  ·conv=>whnf
   intro _;conv=>whnf
   refine ⟨_,0,[],0,fun _=>[],(.sk 3 (.aa (.sk 1 (.aa (.aa (.aa (.sk 98 .nil rfl)))) rfl)) rfl),rfl,rfl,?_⟩
   exact ⟨⟨Nat.zero_le _,rfl⟩,rfl,fun r hr=>absurd hr (Nat.not_lt_zero r)⟩
  rintro mm aT _ ⟨i,C,e,E,aw,rfl,rfl,⟨⟨hi,he⟩,hC,hE⟩⟩
  obtain ⟨az,rfl⟩:∃ az:Nat→Value,aT=zs az 0 3 (.slice (some ⟨1,0,none⟩) q (qK q)::zs az 4 1 (.slice (some ⟨2,0,none⟩) e (qK e)::.int .i64 q::.int .i64 i::zs az 8 98 [])):=bL aw;clear aw;conv=>whnf
  refine aI (fun h1=>?_) (fun h1=>?_)
  ·have h1:i < q:=by
    have:=of_decide_eq_true h1;omega
   have e7:IntKind.i64.wrap ((i:Int)+1)=((i+1:Nat):Int):=by rw [ay (by omega) (by omega)]; rfl
   have jr:=GN O i;rw [← hC,← he] at jr;have ke:dZ q i < q:=jT h1;have b8:=cJ h1;obtain ⟨a,ca,ra,pa,sa,qa⟩:=gi (L:=O) (k:=dZ q i) (by omega) Em
   obtain ⟨b,cb,rb,pb,sb,qb⟩:=gi (L:=O) (k:=i) (by omega) Em
   obtain ⟨d,cd,rd,pd,sd,qd⟩:=gi (L:=O) (k:=aZ q i) (by omega) Em
   rw [← hF _ (by omega)] at ra rb rd
   have kg:=zG h1 (by omega)
   have b6:=jm h1 (by omega)
   have an:(List.range (i+1)).flatMap (kY O)=C++kY O i:=by rw [List.range_succ,List.flatMap_append,← hC]; simp
   have hcf:∀ z:Int,z=aW (aB a.p b.p d.p) 0→kY O i=if z≠0 then [b.p] else []:=fun z hz=>Nf (by rw [← hq]; exact pa) pb (by rw [← hq]; exact pd) hz
   obtain ⟨u,hu⟩:∃ u,u=dZ q i:=⟨_,rfl⟩;obtain ⟨w,hw⟩:∃ u,u=aZ q i:=⟨_,rfl⟩;rw [← hu] at kg ke ra;rw [← hw] at b6 b8 rd;conv=>whnf
   refine .inl ⟨20,[[],[],[],[1,2],[1,2,3],[],[1,2,3,4,5],[0,1,2,3,4,5,6],[0,1,2,3,4,5,6,7],[],[],[9,10],[9,10,11],[],[],[14],[],[14,15,16],[13,14,15,16,17],[13,14,15,16,17,18],[0,1,2,3,4,5,6,7,8,9,10,11,12,13,14,15,16,17,18,19],[0,1,2,3,4,5,6,7,8,9,10,11,12,13,14,15,16,17,18,19,20]],by kernel_rfl,?_⟩
   conv=>whnf
   rw [show decide ((q:Int)≠0)=true from decide_eq_true (by omega)]
   conv=>whnf
   rw [kg];refine ⟨⟨by omega,by omega⟩,?_⟩
   simp only [toNat_cast,ar,Nat.zero_add];conv=>whnf
   refine ⟨by show u < q; omega,?_⟩
   conv=>whnf
   rw [ra];conv=>whnf
   refine ⟨⟨by omega,by omega⟩,?_⟩
   simp only [toNat_cast,ar,Nat.zero_add];conv=>whnf
   refine ⟨by show i < q; omega,?_⟩
   conv=>whnf
   rw [rb];conv=>whnf
   rw [show decide ((q:Int)≠0)=true from decide_eq_true (by omega)]
   conv=>whnf
   rw [b6];refine ⟨⟨by omega,by omega⟩,?_⟩
   simp only [toNat_cast,ar,Nat.zero_add];conv=>whnf
   refine ⟨by show w < q; omega,?_⟩
   conv=>whnf
   rw [rd];conv=>whnf
   obtain ⟨z,ez,pz⟩:=cZ (aW (aB a.p b.p d.p) 0);refine ⟨(a,b,d),rfl,⟨PV.aP sa (by decide),PV.aP sb (by decide),PV.aP sd (by decide)⟩,?_⟩
   rw [show Hk.val (a,b,d)=.int .i64 z from ez]
   conv=>whnf
   have AV:=hcf z pz;by_cases h8:z=0
   ·rw [show (z != 0)=false from by simp [h8]]
    rw [if_neg (fun e=>e h8)] at AV
    conv=>whnf
    rw [e7];refine .inr ⟨[0,1,2],[3,5,6,7],?_⟩;conv=>whnf
    intro _;conv=>whnf
    refine ⟨_,?_,i+1,C,e,E,(.sk 3 (.aa (.sk 1 (.aa (.aa (.aa (.sk 98 .nil rfl)))) rfl)) rfl),rfl,rfl,?_⟩
    ·omega
    ·exact ⟨⟨by omega,he⟩,by rw [an,AV]; simp,hE⟩
   ·rw [show (z != 0)=true from by simp [h8]]
    rw [if_pos h8] at AV;conv=>whnf
    refine ⟨⟨by omega,by omega⟩,?_⟩
    simp only [toNat_cast,ar,Nat.zero_add];conv=>whnf
    refine ⟨by show i < q; omega,?_⟩
    conv=>whnf
    rw [rb];conv=>whnf
    cases e with
    | zero =>
     obtain rfl:C=[]:=List.eq_nil_of_length_eq_zero he.symm;conv=>whnf
     refine ⟨⟨Nat.le_refl _,by show (0+1)*80≤140737488355328; decide⟩,?_⟩
     conv=>whnf
     rw [e7];refine .inr ⟨[0,1,24],[3,5,6,7],?_⟩;conv=>whnf
     intro _;conv=>whnf
     refine ⟨_,?_,i+1,[b.p],1,_,(.sk 3 (.aa (.sk 1 (.aa (.aa (.aa (.sk 98 .nil rfl)))) rfl)) rfl),rfl,rfl,?_⟩
     ·omega
     ·exact ⟨⟨by omega,rfl⟩,by rw [an,AV]; rfl,rY (by rw [pb]; exact cb) rfl⟩
    | succ e =>
     conv=>whnf
     refine ⟨⟨by show 1≤2; decide,rfl,by show (e+1+1)*80≤140737488355328; omega⟩,?_⟩
     conv=>whnf
     refine ⟨[3,6,7],?_⟩;conv=>whnf
     intro _;conv=>whnf
     rw [e7];refine .inr ⟨[0,1,2],[3,5,6,7],?_⟩;conv=>whnf
     intro _;conv=>whnf
     refine ⟨_,?_,i+1,C++[b.p],e+1+1,_,(.sk 3 (.aa (.sk 1 (.aa (.aa (.aa (.sk 98 .nil rfl)))) rfl)) rfl),rfl,rfl,?_⟩
     ·omega
     ·exact ⟨⟨by omega,by rw [List.length_append,← he]; rfl⟩,by rw [an,AV],oW he hE (by rw [pb]; exact cb) rfl⟩
  ·have h1:i=q:=by
    have:=of_decide_eq_false h1;omega
   subst h1;have RD:C=js O:=by rw [hC,hq]; rfl
   have fF:e≤i:=by have:=GN O i; rw [← hC,← he] at this; exact this
   clear hC;have hR:cV (aG L)=if C.length < 3 then [] else fc C:=by unfold cV; rw [← hD,← RD]
   conv=>whnf
   by_cases h3:e < 3
   ·rw [show decide ((e:Int) < 3)=true from decide_eq_true (by omega)]
    rw [if_pos (by omega)] at hR
    conv=>whnf
    rw [show ny.val (L,c)=.slice (some ⟨1,0,none⟩) 0 ao from by show Value.slice _ (cV (aG L)).length _=_; rw [hR]; rfl]
    refine ⟨3,?_⟩;conv=>whnf
    refine ⟨⟨rfl,?_⟩,_,rfl,.cap _ _ _ rfl⟩;show aq (.flat true (cV (aG L)).length 6 (aX (cV (aG L)))) _
    rw [hR];exact aq.dz (fun h=>h) (fun r hr=>absurd hr (Nat.not_lt_zero r)) (fun r hr=>rfl)
   ·rw [show decide ((e:Int) < 3)=false from decide_eq_false (by omega)]
    rw [if_neg (by omega)] at hR
    have fG:qK e=ao:=by
     cases e with
     | zero=>omega
     | succ e=>rfl
    rw [fG];obtain ⟨cu,cL⟩:∃ c,c=ao:=⟨_,rfl⟩;rw [← cL];have RE:∀ v∈C,Q2.sz 262144 v:=fun v hv=>Em v ((yj _).subset (by rw [← RD]; exact hv))
    conv=>whnf
    skip
    refine .inl ⟨fun mm tz hz=>∃ (k:Nat) (m:Nat),bC (aD 5 (some (.slice (some ⟨2,0,none⟩) e cu)::aD 2 (some (.int .i64 m)::some (.int .i64 k)::aD 96 []))) tz∧hz=[some (.flat false j 6 g),some (.flat true i 6 F),some (.flat true e 6 E)]∧e - k=mm∧((k≤e∧1≤k)∧m=jv C k),.inr ⟨[0,1,2],[5,8,9],?_⟩,?_⟩
    ·conv=>whnf
     intro _;conv=>whnf
     refine ⟨_,1,0,(.sk 5 (.aa (.sk 2 (.aa (.aa (.sk 96 .nil rfl))) rfl)) rfl),rfl,rfl,?_⟩;exact ⟨⟨by omega,Nat.le_refl _⟩,(U3 C).symm⟩
    rintro mm aT _ ⟨k,m,aw,rfl,rfl,⟨⟨hk,pL⟩,hm⟩⟩
    obtain ⟨az,rfl⟩:∃ az:Nat→Value,aT=zs az 0 5 (.slice (some ⟨2,0,none⟩) e cu::zs az 6 2 (.int .i64 m::.int .i64 k::zs az 10 96 [])):=bL aw;clear aw;have kN:m < e:=by rw [hm,he]; exact (ED C k (by omega)).1 (by omega)
    conv=>whnf
    refine aI (fun h1=>?_) (fun h1=>?_)
    ·have h1:k < e:=by
      have:=of_decide_eq_true h1;omega
     have e7:IntKind.i64.wrap ((k:Int)+1)=((k+1:Nat):Int):=by rw [ay (by omega) (by omega)]; rfl
     obtain ⟨a,ca,ra,pa,sa,qa⟩:=gi (L:=C) (k:=k) (by omega) RE
     obtain ⟨b,cb,rb,pb,sb,qb⟩:=gi (L:=C) (k:=m) (by omega) RE
     rw [← hE _ (by omega)] at ra rb
     conv=>whnf
     refine .inl ⟨8,[[],[],[0,1],[0,1,2],[],[],[4,5],[4,5,6],[0,1,2,3,4,5,6,7],[0,1,2,3,4,5,6,7,8]],by kernel_rfl,?_⟩
     conv=>whnf
     refine ⟨⟨by omega,by omega⟩,?_⟩
     simp only [toNat_cast,ar,Nat.zero_add];conv=>whnf
     refine ⟨by show k < e; omega,?_⟩
     conv=>whnf
     rw [ra];conv=>whnf
     refine ⟨⟨by omega,by omega⟩,?_⟩
     simp only [toNat_cast,ar,Nat.zero_add];conv=>whnf
     refine ⟨by show m < e; omega,?_⟩
     conv=>whnf
     rw [rb];conv=>whnf
     obtain ⟨z,ez,pz⟩:=cZ (dV a.p b.p);refine ⟨(a,b),rfl,⟨PV.aP sa (by decide),PV.aP sb (by decide)⟩,?_⟩
     rw [show kv.val (a,b)=.int .i64 z from ez]
     conv=>whnf
     have jr:jv C (k+1)=if z < 0 then k else m:=by
      show (if dV (aF C k) (aF C (jv C k)) < 0 then k else jv C k)=_
      rw [← hm,← pa,← pb,← pz]
     by_cases h8:z < 0
     ·rw [show decide (z < 0)=true from decide_eq_true h8]
      rw [if_pos h8] at jr;conv=>whnf
      rw [e7];refine .inr ⟨[0,1,2],[5,8,9],?_⟩;conv=>whnf
      intro _;conv=>whnf
      refine ⟨_,?_,k+1,k,(.sk 5 (.aa (.sk 2 (.aa (.aa (.sk 96 .nil rfl))) rfl)) rfl),rfl,rfl,?_⟩
      ·omega
      ·exact ⟨⟨by omega,by omega⟩,jr.symm⟩
     ·rw [show decide (z < 0)=false from decide_eq_false h8]
      rw [if_neg h8] at jr;conv=>whnf
      rw [e7];refine .inr ⟨[0,1,2],[5,8,9],?_⟩;conv=>whnf
      intro _;conv=>whnf
      refine ⟨_,?_,k+1,m,(.sk 5 (.aa (.sk 2 (.aa (.aa (.sk 96 .nil rfl))) rfl)) rfl),rfl,rfl,?_⟩
      ·omega
      ·exact ⟨⟨by omega,by omega⟩,jr.symm⟩
    ·have h1:k=e:=by
      have:=of_decide_eq_false h1;omega
     subst h1;conv=>whnf
     refine .inr (.inr (.inr ⟨10,[[],[],[],[1,2],[0,1,2,3],[],[],[5,6],[1,2,3,4,5,6,7],[1,2,3,5,6,7,8]],by kernel_rfl,?_⟩))
     conv=>whnf
     refine ⟨⟨by omega,by omega,by omega⟩,?_⟩
     rw [show Int.toNat (k:Int) - Int.toNat (m:Int)=k - m from rfl,show Int.toNat (m:Int)=m from rfl,ar,Nat.zero_add]
     conv=>whnf
     refine ⟨by omega,?_⟩
     conv=>whnf
     obtain ⟨a,ha⟩:∃ a,a=k - m:=⟨_,rfl⟩;rw [← ha];rw [show (Src.fl a fun j=>E (dR (0+m) j)).m=a from rfl]
     refine ⟨⟨rfl,by show (0+a)*80≤140737488355328; omega⟩,?_⟩
     conv=>whnf
     refine ⟨by kernel_rfl,?_⟩
     conv=>whnf
     refine ⟨⟨by omega,by omega,by omega⟩,?_⟩
     rw [show Int.toNat (m:Int) - Int.toNat 0=m from rfl,show dR 0 (Int.toNat 0)=0 from rfl]
     conv=>whnf
     refine ⟨by omega,?_⟩
     conv=>whnf
     rw [show (Src.fl m fun j=>E (dR 0 j)).m=m from rfl]
     refine ⟨⟨rfl,by show (0+a+m)*80≤140737488355328; omega⟩,?_⟩
     conv=>whnf
     refine ⟨by kernel_rfl,?_⟩
     conv=>whnf
     rw [show 0+a+m=k from by omega]
     have RF:(cV (aG L)).length=k:=by rw [hR,yi]; omega
     rw [show ny.val (L,c)=.slice (some ⟨1,0,none⟩) k ao from by show Value.slice _ (cV (aG L)).length _=_; rw [RF]]
     refine ⟨11,?_⟩;conv=>whnf
     refine ⟨⟨rfl,?_⟩,_,rfl,.refl _⟩;show aq (.flat true (cV (aG L)).length 6 (aX (cV (aG L)))) _
     rw [RF,hR];refine aq.dz (fun h=>h) (fun r hr=>?_) (fun r hr=>rfl)
     rw [U4 (n:=k) hE he ha (by omega) r hr]
     show aX _ r=aX (C.drop (jv C C.length)++C.take (jv C C.length)) r
     rw [← he,← hm]
open Go Go.Ae
def Er0:Env:=En [(121,.p ia),(122,.p n8),(123,.p dT)]
theorem adw:EnvOk Tryz.prog Er0:=bI ⟨yP,LP,wx,trivial⟩ trivial
theorem LU:bc Tryz.prog 77 np:=by
 refine bh adw aL Tryz.func77 (enters_of Tryz.func77 (by kernel_rfl) rfl) (fun _=>rfl) (fun _=>rfl) ?_
 intro ⟨a,b,c⟩ hp;have hp:a.sz 1048576∧b.sz 1048576∧c.sz 1048576:=hp;obtain ⟨sa,sb,sc⟩:=hp;have qa:=PV.cM sa (by decide)
 have qb:=PV.cM sb (by decide)
 have qc:=PV.cM sc (by decide)
 conv=>whnf
 refine .inl ⟨5,[[],[],[0,1],[],[],[0,1,2,3,4],[0,1,2,3,4,5],[0,1,2,3,4,5,6],[0,1,2,3,4,5,6,7]],by kernel_rfl,?_⟩
 conv=>whnf
 obtain ⟨u,eu,pu,su,qu⟩:=lV (nw qb qa);refine ⟨(b,a),rfl,⟨PV.aP sb (by decide),PV.aP sa (by decide)⟩,?_⟩
 rw [show ia.val (b,a)=u.v from eu]
 conv=>whnf
 obtain ⟨v,ev,pv,sv,qv⟩:=lV (nw qc qa);refine ⟨(c,a),rfl,⟨PV.aP sc (by decide),PV.aP sa (by decide)⟩,?_⟩
 rw [show ia.val (c,a)=v.v from ev]
 conv=>whnf
 obtain ⟨w,ew,pw,sw,qw⟩:=di (wI qu qv);refine ⟨(u,v),rfl,⟨PV.aP su (by decide),PV.aP sv (by decide)⟩,?_⟩
 rw [show n8.val (u,v)=w.v from ew]
 conv=>whnf
 obtain ⟨n,en,pn⟩:=cZ (aW w.q 0);refine ⟨w,rfl,RV.bo sw (by decide),?_⟩
 rw [show dT.val w=.int .i64 n from en]
 conv=>whnf
 show Value.int .i64 n=Value.int .i64 (aW (aB a.p b.p c.p) 0)
 rw [pn,pw,pu,pv]
 rfl
def Er1:Env:=En [(68,.p kR)]
theorem adx:EnvOk Tryz.prog Er1:=bI ⟨LQ,trivial⟩ trivial
theorem LW:dj Tryz.prog 61 dN:=by
 refine dC adx aL Tryz.func61 (enters_of Tryz.func61 (by kernel_rfl) rfl) ?_ ?_ ?_
 ·intro i b hb;cases i with
  | none=>simp [dN,PL.ae] at hb
  | some i=>simp [dN,PL.ae] at hb; rw [hb]; rfl
 ·intro i b hb; simp [dN] at hb
 intro i hp;have hp:i.list.length≤1099511627776∧∀ v∈i.list,v.sz 2048:=hp;obtain ⟨hlen,aY⟩:=hp;cases i with
 | none =>
  conv=>whnf
  refine .inr ⟨1,?_⟩;conv=>whnf
  exact ⟨.bool true,rfl,.refl _⟩
 | some i =>
  obtain ⟨L,c⟩:=i;have hlen:L.length≤1099511627776:=hlen;have aY:∀ v∈L,PV.sz 2048 v:=aY;obtain ⟨n,hn⟩:∃ n,n=L.length:=⟨_,rfl⟩;obtain ⟨g,hg⟩:∃ g,g=bF L:=⟨_,rfl⟩;have fin:∀ z:Bool,z=!fa L→∃ v',dn (List.range 1) 3 (dN.val (some (L,c)))=some v'∧gd (.bool z) v':=fun z h=>⟨.bool z,by rw [h]; rfl,.refl _⟩
  rw [show dN.ae (some (L,c))=[.flat false n 6 g] from by rw [hn,hg]; rfl,show dN.args (some (L,c))=[.slice (some ⟨0,0,none⟩) n c] from by rw [hn]; rfl]
  rw [← hn] at hlen;conv=>whnf
  refine .inl ⟨fun mm tz hz=>∃ (i:Nat),bC (some (.slice (some ⟨0,0,none⟩) n c)::aD 2 (some (.int .i64 i)::aD 12 [])) tz∧hz=[some (.flat false n 6 g)]∧n - i=mm∧(i≤n∧uX L i),.inr ⟨[0],[0,3],?_⟩,?_⟩
  ·conv=>whnf
   intro _;conv=>whnf
   refine ⟨_,0,(.aa (.sk 2 (.aa (.sk 12 .nil rfl)) rfl)),rfl,rfl,?_⟩;exact ⟨Nat.zero_le _,K4 _⟩
  rintro mm aT _ ⟨i,aw,rfl,rfl,⟨hi,hU⟩⟩
  obtain ⟨az,rfl⟩:∃ az:Nat→Value,aT=.slice (some ⟨0,0,none⟩) n c::zs az 1 2 (.int .i64 i::zs az 4 12 []):=bL aw;clear aw;conv=>whnf
  refine aI (fun h3=>?_) (fun h3=>?_)
  ·have h3:i < n:=by
    have:=of_decide_eq_true h3;omega
   have e7:IntKind.i64.wrap ((i:Int)+1)=((i+1:Nat):Int):=by rw [ay (by omega) (by omega)]; rfl
   obtain ⟨m,kN,m5,bd⟩:=rR (l:=L) (i:=i) (by omega)
   rw [← hg] at bd;conv=>whnf
   refine ⟨⟨by omega,by omega⟩,?_⟩
   simp only [toNat_cast,ar,Nat.zero_add];conv=>whnf
   refine ⟨by show i < n; omega,?_⟩
   conv=>whnf
   rw [bd];conv=>whnf
   refine ⟨m,rfl,PV.aP (aY m m5) (by decide),?_⟩
   by_cases h4:m.canon
   ·rw [show kR.val m=.int .i64 0 from congrArg (Value.int .i64) (if_pos h4)]
    conv=>whnf
    rw [e7];refine .inr ⟨[0],[0,3],?_⟩;conv=>whnf
    intro _;conv=>whnf
    refine ⟨_,?_,i+1,(.aa (.sk 2 (.aa (.sk 12 .nil rfl)) rfl)),rfl,rfl,?_⟩
    ·omega
    ·exact ⟨by omega,LI hU kN h4⟩
   ·rw [show kR.val m=.int .i64 1 from congrArg (Value.int .i64) (if_neg h4)]
    conv=>whnf
    exact fin false (by rw [show fa L=true from List.any_eq_true.2 ⟨m,m5,decide_eq_true h4⟩]; rfl)
  ·have h3:i=n:=by
    have:=of_decide_eq_false h3;omega
   subst h3;conv=>whnf
   exact fin true (by rw [MA (by rw [← hn]; exact hU)]; rfl)
def Er2:Env:=En [(61,.q dN),(76,.p kv),(77,.p np)]
theorem ady:EnvOk Tryz.prog Er2:=bI ⟨LW,BZ,LU,trivial⟩ trivial
theorem LX:dj Tryz.prog 24 bk:=by
 refine dC ady aL Tryz.func24 (enters_of Tryz.func24 (by kernel_rfl) rfl) ?_ ?_ ?_
 ·intro i b hb;cases i with
  | none=>simp [bk,PL.ae] at hb
  | some i=>simp [bk,PL.ae] at hb; rw [hb]; rfl
 ·intro i b hb; simp [bk] at hb
 intro i hp;have hp:i.list.length≤1099511627776∧∀ v∈i.list,v.sz 2048:=hp;obtain ⟨hlen,aY⟩:=hp;cases i with
 | none =>
  conv=>whnf
  exact ⟨.int .i64 4,rfl,.refl _⟩
 | some i =>
  obtain ⟨L,c⟩:=i;have hlen:L.length≤1099511627776:=hlen;have aY:∀ v∈L,PV.sz 2048 v:=aY;obtain ⟨n,hn⟩:∃ n,n=L.length:=⟨_,rfl⟩;obtain ⟨g,hg⟩:∃ g,g=bF L:=⟨_,rfl⟩;have fin:∀ z:Int,bt L=z→∃ v',dn (List.range 1) 3 (bk.val (some (L,c)))=some v'∧gd (.int .i64 z) v':=fun z h=>⟨.int .i64 z,by rw [← h]; rfl,.refl _⟩
  rw [show bk.ae (some (L,c))=[.flat false n 6 g] from by rw [hn,hg]; rfl,show bk.args (some (L,c))=[.slice (some ⟨0,0,none⟩) n c] from by rw [hn]; rfl]
  rw [← hn] at hlen;conv=>whnf
  by_cases h1:n < 3
  ·rw [show decide ((n:Int) < 3)=true from decide_eq_true (by omega)]
   conv=>whnf
   exact fin 4 (Ci (.inl (by omega)))
  rw [show decide ((n:Int) < 3)=false from decide_eq_false (by omega)]
  conv=>whnf
  by_cases J:64 < n
  ·rw [show decide ((n:Int) > 64)=true from decide_eq_true (by omega)]
   conv=>whnf
   exact fin 4 (Ci (.inr (by omega)))
  rw [show decide ((n:Int) > 64)=false from decide_eq_false (by omega)]
  conv=>whnf
  obtain ⟨z,hz⟩:∃ z,z=fa L:=⟨_,rfl⟩;refine ⟨some (L,c),[0],by rw [show dN.args (some (L,c))=[.slice (some ⟨0,0,none⟩) n c] from by rw [hn]; rfl]; rfl,⟨by show L.length≤_; omega,aY⟩,?_⟩
  rw [show dN.ae (some (L,c))=[.flat false n 6 g] from by rw [hn,hg]; rfl,show dN.val (some (L,c))=.bool (!z) from by rw [hz]; rfl,show dN.new (some (L,c))=none from rfl]
  conv=>whnf
  refine ⟨aq.aO (fun h=>h) (fun r hr=>by rw [hg]; rfl),?_⟩
  conv=>whnf
  refine ⟨_,rfl,?_⟩;conv=>whnf
  cases z with
  | true =>
   conv=>whnf
   exact fin 1 (N4 (by omega) hz.symm)
  | false =>
   conv=>whnf
   have q7:fa L=false:=hz.symm;have h0:=ni (L:=L) (k:=0) (by omega)
   have so:=aY _ (lO (L:=L) (k:=0) (by omega))
   have po:=jC (L:=L) (k:=0) (by omega)
   obtain ⟨o,ho⟩:∃ o,o=gg L 0:=⟨_,rfl⟩;rw [← ho] at h0 so po;rw [← hg] at h0;have qo:=PV.cM so (by decide)
   have z7:g (Int.toNat 0)=o.cells:=h0;refine .inl ⟨fun mm tz hz=>∃ (i:Nat),bC (some (.slice (some ⟨0,0,none⟩) n c)::aD 2 (some (.int .i64 n)::some (.int .i64 ((i+1:Nat):Int))::aD 79 [])) tz∧hz=[some (.flat false n 6 g)]∧n - i=mm∧(i+1≤n∧xC (aG L) i),.inr ⟨[0],[0,3,4],?_⟩,?_⟩
   ·conv=>whnf
    intro _;conv=>whnf
    refine ⟨_,0,(.aa (.sk 2 (.aa (.aa (.sk 79 .nil rfl))) rfl)),rfl,rfl,?_⟩;exact ⟨by omega,K5 _⟩
   rintro mm aT _ ⟨i,aw,rfl,rfl,⟨hi,hU⟩⟩
   obtain ⟨az,rfl⟩:∃ az:Nat→Value,aT=.slice (some ⟨0,0,none⟩) n c::zs az 1 2 (.int .i64 n::.int .i64 ((i+1:Nat):Int)::zs az 5 79 []):=bL aw;clear aw;conv=>whnf
   refine aI (fun h3=>?_) (fun h3=>?_)
   ·have h3:i+1 < n:=by
     have:=of_decide_eq_true h3;omega
    have e7:IntKind.i64.wrap (((i+1:Nat):Int)+1)=((i+1+1:Nat):Int):=by rw [ay (by omega) (by omega)]; rfl
    have ra:=ni (L:=L) (k:=i+1) (by omega)
    have sa:=aY _ (lO (L:=L) (k:=i+1) (by omega))
    have pa:=jC (L:=L) (k:=i+1) (by omega)
    obtain ⟨a,ha⟩:∃ o,o=gg L (i+1):=⟨_,rfl⟩;rw [← ha] at ra sa pa;rw [← hg] at ra;have qa:=PV.cM sa (by decide)
    obtain ⟨k,hk⟩:∃ k,k=i+1:=⟨_,rfl⟩;rw [← hk] at ra e7 h3 ⊢;conv=>whnf
    refine .inl ⟨7,[[],[0],[0,1],[],[],[3,4],[3,4,5],[0,1,2,3,4,5,6],[0,1,2,3,4,5,6,7]],by kernel_rfl,?_⟩
    conv=>whnf
    refine ⟨⟨by omega,by omega⟩,?_⟩
    simp only [toNat_cast,ar,Nat.zero_add];conv=>whnf
    refine ⟨by show 0 < n; omega,?_⟩
    conv=>whnf
    rw [z7];conv=>whnf
    refine ⟨⟨by omega,by omega⟩,?_⟩
    simp only [toNat_cast,ar,Nat.zero_add];conv=>whnf
    refine ⟨by show k < n; omega,?_⟩
    conv=>whnf
    rw [ra];conv=>whnf
    obtain ⟨z,ez,pz⟩:=cZ (dV o.p a.p);refine ⟨(o,a),rfl,⟨PV.aP so (by decide),PV.aP sa (by decide)⟩,?_⟩
    rw [show kv.val (o,a)=.int .i64 z from ez]
    conv=>whnf
    rw [pa,po] at pz;by_cases h4:iY (aF (aG L) 0) (aF (aG L) (i+1))
    ·have:=yW.2 h4;rw [show decide (z ≥ 0)=false from decide_eq_false (by omega)]
     conv=>whnf
     rw [e7,hk];refine .inr ⟨[0],[0,3,4],?_⟩;conv=>whnf
     intro _;conv=>whnf
     refine ⟨_,?_,i+1,(.aa (.sk 2 (.aa (.aa (.sk 79 .nil rfl))) rfl)),rfl,rfl,?_⟩
     ·omega
     ·exact ⟨by omega,LJ hU h4⟩
    ·have:¬ dV (aF (aG L) 0) (aF (aG L) (i+1)) < 0:=fun e=>h4 (yW.1 e)
     rw [show decide (z ≥ 0)=true from decide_eq_true (by omega)]
     conv=>whnf
     exact fin 8 (N5 (by omega) q7 fun e=>h4 (e (i+1) (by omega) (by rw [cE]; omega)))
   ·have h3:i+1=n:=by
     have:=of_decide_eq_false h3;omega
    have ot:=MC hU (by rw [cE]; omega)
    have yc:3≤(aG L).length:=by rw [cE]; omega
    conv=>whnf
    skip
    refine .inl ⟨fun mm tz hz=>∃ (j:Nat),bC (some (.slice (some ⟨0,0,none⟩) n c)::aD 2 (some (.int .i64 n)::aD 1 (some (.int .i64 j)::aD 78 []))) tz∧hz=[some (.flat false n 6 g)]∧n - j=mm∧(j≤n∧∀ k,k < j→¬ o9 (aG L) k),.inr ⟨[0],[0,3,5],?_⟩,?_⟩
    ·conv=>whnf
     intro _;conv=>whnf
     refine ⟨_,0,(.aa (.sk 2 (.aa (.sk 1 (.aa (.sk 78 .nil rfl)) rfl)) rfl)),rfl,rfl,?_⟩;exact ⟨Nat.zero_le _,fun k hk=>absurd hk (Nat.not_lt_zero k)⟩
    rintro mm aT _ ⟨j,aw,rfl,rfl,⟨hj,hB⟩⟩
    obtain ⟨az,rfl⟩:∃ az:Nat→Value,aT=.slice (some ⟨0,0,none⟩) n c::zs az 1 2 (.int .i64 n::zs az 4 1 (.int .i64 j::zs az 6 78 [])):=bL aw;clear aw;conv=>whnf
    refine aI (fun h3=>?_) (fun h3=>?_)
    ·have h3:j < n:=by
      have:=of_decide_eq_true h3;omega
     have e7:IntKind.i64.wrap ((j:Int)+1)=((j+1:Nat):Int):=by rw [ay (by omega) (by omega)]; rfl
     obtain ⟨a,b,ra,rb,⟨ma,mb⟩,_,b8,ha,hb⟩:=pY hn h3;have sa:=aY a ma;have sb:=aY b mb;have qa:=PV.cM sa (by decide)
     have qb:=PV.cM sb (by decide)
     have Qn:=cJ b8;have rd:=ni (L:=L) (k:=aZ n (aZ n j)) (by omega)
     have sd:=aY _ (lO (L:=L) (k:=aZ n (aZ n j)) (by omega))
     have pd:=jC (L:=L) (k:=aZ n (aZ n j)) (by omega)
     obtain ⟨d,hd⟩:∃ o,o=gg L (aZ n (aZ n j)):=⟨_,rfl⟩;rw [← hd] at rd sd pd;have qd:=PV.cM sd (by decide)
     have pa:a.p=aF (aG L) j:=by rw [ha]; exact jC (by omega)
     have pb:b.p=aF (aG L) (aZ n j):=by rw [hb]; exact jC (by omega)
     have b6:=jm h3 (by omega)
     have IP:=aaj h3 (by omega)
     have fh:n=(aG L).length:=by rw [cE,hn]
     have z5:o9 (aG L) j↔aB a.p b.p d.p≤0∨(0 < j∧j+1 < n∧aB (aF (aG L) 0) (aF (aG L) j) (aF (aG L) (j+1))≤0):=by
      unfold o9;rw [← fh,pa,pb,pd]
     obtain ⟨u,hu⟩:∃ u,u=aZ n j:=⟨_,rfl⟩;rw [← hu] at b6 b8 rb Qn IP rd;obtain ⟨w,hw⟩:∃ w,w=aZ n u:=⟨_,rfl⟩;rw [← hw] at Qn IP rd;rw [← hg] at ra rb rd;conv=>whnf
     refine .inl ⟨42,[[],[],[0,1],[0,1,2],[],[],[5],[],[5,6,7],[4,5,6,7,8],[4,5,6,7,8,9],[],[],[12],[],[12,13,14],[11,12,13,14,15],[11,12,13,14,15,16],[0,1,2,3,4,5,6,7,8,9,10,11,12,13,14,15,16,17],[0,1,2,3,4,5,6,7,8,9,10,11,12,13,14,15,16,17,18],[0,1,2,3,4,5,6,7,8,9,10,11,12,13,14,15,16,17,18,19],[0,1,2,3,4,5,6,7,8,9,10,11,12,13,14,15,16,17,18,19,20],[0,1,2,3,4,5,6,7,8,9,10,11,12,13,14,15,16,17,18,19,20,21],[0,1,2,3,4,5,6,7,8,9,10,11,12,13,14,15,16,17,18,19,20,21,22],[0,1,2,3,4,5,6,7,8,9,10,11,12,13,14,15,16,17,18,19,20,21,22,23],[0,1,2,3,4,5,6,7,8,9,10,11,12,13,14,15,16,17,18,19,20,21,22,23,24],[0,1,2,3,4,5,6,7,8,9,10,11,12,13,14,15,16,17,18,19,20,21,22,23],[0,1,2,3,4,5,6,7,8,9,10,11,12,13,14,15,16,17,18,19,20,21,22,23,24,25,26],[0,1,2,3,4,5,6,7,8,9,10,11,12,13,14,15,16,17,18,19,20,21,22,23,24,25,26,27],[0,1,2,3,4,5,6,7,8,9,10,11,12,13,14,15,16,17,18,19,20,21,22,23,24,25,26,27,28],[0,1,2,3,4,5,6,7,8,9,10,11,12,13,14,15,16,17,18,19,20,21,22,23,24,25,26,27,28,29],[0,1,2,3,4,5,6,7,8,9,10,11,12,13,14,15,16,17,18,19,20,21,22,23,24,25,26,27,28,29,30],[0,1,2,3,4,5,6,7,8,9,10,11,12,13,14,15,16,17,18,19,20,21,22,23,24,25,26,27,28,29,30,31],[0,1,2,3,4,5,6,7,8,9,10,11,12,13,14,15,16,17,18,19,20,21,22,23,24,25,26,27,28,29],[0,1,2,3,4,5,6,7,8,9,10,11,12,13,14,15,16,17,18,19,20,21,22,23,24,25,26,27,28,29],[0,1,2,3,4,5,6,7,8,9,10,11,12,13,14,15,16,17,18,19,20,21,22,23,24,25,26,27,28,29,33,34],[0,1,2,3,4,5,6,7,8,9,10,11,12,13,14,15,16,17,18,19,20,21,22,23,24,25,26,27,28,29,33,34,35],[0,1,2,3,4,5,6,7,8,9,10,11,12,13,14,15,16,17,18,19,20,21,22,23,24,25,26,27,28,29],[0,1,2,3,4,5,6,7,8,9,10,11,12,13,14,15,16,17,18,19,20,21,22,23,24,25,26,27,28,29],[0,1,2,3,4,5,6,7,8,9,10,11,12,13,14,15,16,17,18,19,20,21,22,23,24,25,26,27,28,29,38],[0,1,2,3,4,5,6,7,8,9,10,11,12,13,14,15,16,17,18,19,20,21,22,23,24,25,26,27,28,29,37,38,39],[0,1,2,3,4,5,6,7,8,9,10,11,12,13,14,15,16,17,18,19,20,21,22,23,24,25,26,27,28,29,37,38,39,40],[0,1,2,3,4,5,6,7,8,9,10,11,12,13,14,15,16,17,18,19,20,21,22,23,24,25,26,27,28,29,30,31,32,33,34,35,36,37,38,39,40,41],[0,1,2,3,4,5,6,7,8,9,10,11,12,13,14,15,16,17,18,19,20,21,22,23,24,25,26,27,28,29,30,31,32,33,34,35,36,37,38,39,40,41,42],[0,1,2,3,4,5,6,7,8,9,10,11,12,13,14,15,16,17,18,19,20,21,22,23,24,25,26,27,28,29,30,31,32,33,34,35,36,37,38,39,40,41,42,43],[0,1,2,3,4,5,6,7,8,9,10,11,12,13,14,15,16,17,18,19,20,21,22,23,24,25,26,27,28,29,30,31,32,33,34,35,36,37,38,39,40,41,42,43,44]],by kernel_rfl,?_⟩
     conv=>whnf
     refine ⟨⟨by omega,by omega⟩,?_⟩
     simp only [toNat_cast,ar,Nat.zero_add];conv=>whnf
     refine ⟨by show j < n; omega,?_⟩
     conv=>whnf
     rw [ra];conv=>whnf
     rw [show decide ((n:Int)≠0)=true from decide_eq_true (by omega)]
     conv=>whnf
     rw [b6];refine ⟨⟨by omega,by omega⟩,?_⟩
     simp only [toNat_cast,ar,Nat.zero_add];conv=>whnf
     refine ⟨by show u < n; omega,?_⟩
     conv=>whnf
     rw [rb];conv=>whnf
     rw [show decide ((n:Int)≠0)=true from decide_eq_true (by omega)]
     conv=>whnf
     rw [IP];refine ⟨⟨by omega,by omega⟩,?_⟩
     simp only [toNat_cast,ar,Nat.zero_add];conv=>whnf
     refine ⟨by show w < n; omega,?_⟩
     conv=>whnf
     rw [rd];conv=>whnf
     obtain ⟨z,ez,pz⟩:=cZ (aW (aB a.p b.p d.p) 0);refine ⟨(a,b,d),rfl,⟨PV.aP sa (by decide),PV.aP sb (by decide),PV.aP sd (by decide)⟩,?_⟩
     rw [show np.val (a,b,d)=.int .i64 z from ez]
     conv=>whnf
     have cz:z≤0↔aB a.p b.p d.p≤0:=by rw [pz]; exact GI
     by_cases h4:z≤0
     ·rw [show decide (z≤0)=true from decide_eq_true h4]
      conv=>whnf
      exact fin 15 (GO (by omega) q7 ot fun e=>(yJ yc ot).1 e j (by rw [cE]; omega) (z5.2 (.inl (cz.1 h4))))
     ·rw [show decide (z≤0)=false from decide_eq_false h4]
      have next:¬ o9 (aG L) j→∀ k,k < j+1→¬ o9 (aG L) k:=fun hb k hk=>by
       rcases Nat.lt_or_eq_of_le (Nat.le_of_lt_succ hk) with e | e
       ·exact hB k e
       ·rw [e]; exact hb
      conv=>whnf
      by_cases h5:0 < j
      ·rw [show decide ((j:Int) > 0)=true from decide_eq_true (by omega)]
       conv=>whnf
       rw [e7];by_cases h6:j+1 < n
       ·rw [show decide (((j+1:Nat):Int) < (n:Int))=true from decide_eq_true (by omega)]
        have rv:=ni (L:=L) (k:=j+1) (by omega)
        have sv:=aY _ (lO (L:=L) (k:=j+1) (by omega))
        have pv:=jC (L:=L) (k:=j+1) (by omega)
        obtain ⟨v,hv⟩:∃ o,o=gg L (j+1):=⟨_,rfl⟩;rw [← hv] at rv sv pv;rw [← hg] at rv;have qv:=PV.cM sv (by decide)
        obtain ⟨k,hk⟩:∃ k,k=j+1:=⟨_,rfl⟩;rw [← hk] at rv;conv=>whnf
        refine ⟨⟨by omega,by omega⟩,?_⟩
        simp only [toNat_cast,ar,Nat.zero_add];conv=>whnf
        refine ⟨by show 0 < n; omega,?_⟩
        conv=>whnf
        rw [z7];conv=>whnf
        refine ⟨⟨by omega,by omega⟩,?_⟩
        simp only [toNat_cast,ar,Nat.zero_add];conv=>whnf
        refine ⟨by show j < n; omega,?_⟩
        conv=>whnf
        rw [ra];conv=>whnf
        rw [e7,← hk];refine ⟨⟨by omega,by omega⟩,?_⟩
        simp only [toNat_cast,ar,Nat.zero_add];conv=>whnf
        refine ⟨by show k < n; omega,?_⟩
        conv=>whnf
        rw [rv];conv=>whnf
        obtain ⟨y,ey,py⟩:=cZ (aW (aB o.p a.p v.p) 0);refine ⟨(o,a,v),rfl,⟨PV.aP so (by decide),PV.aP sa (by decide),PV.aP sv (by decide)⟩,?_⟩
        rw [show np.val (o,a,v)=.int .i64 y from ey]
        conv=>whnf
        have cy:y≤0↔aB o.p a.p v.p≤0:=by rw [py]; exact GI
        rw [pa,po,pv] at cy;by_cases h7:y≤0
        ·rw [show decide (y≤0)=true from decide_eq_true h7]
         conv=>whnf
         exact fin 15 (GO (by omega) q7 ot fun e=>(yJ yc ot).1 e j (by rw [cE]; omega) (z5.2 (.inr ⟨h5,h6,cy.1 h7⟩)))
        ·rw [show decide (y≤0)=false from decide_eq_false h7]
         conv=>whnf
         rw [e7];refine .inr ⟨[0],[0,3,5],?_⟩;conv=>whnf
         intro _;conv=>whnf
         refine ⟨_,?_,j+1,(.aa (.sk 2 (.aa (.sk 1 (.aa (.sk 78 .nil rfl)) rfl)) rfl)),rfl,rfl,?_⟩
         ·omega
         ·exact ⟨by omega,next fun e=>(z5.1 e).elim (fun e=>h4 (cz.2 e)) fun e=>h7 (cy.2 e.2.2)⟩
       ·rw [show decide (((j+1:Nat):Int) < (n:Int))=false from decide_eq_false (by omega)]
        conv=>whnf
        rw [e7];refine .inr ⟨[0],[0,3,5],?_⟩;conv=>whnf
        intro _;conv=>whnf
        refine ⟨_,?_,j+1,(.aa (.sk 2 (.aa (.sk 1 (.aa (.sk 78 .nil rfl)) rfl)) rfl)),rfl,rfl,?_⟩
        ·omega
        ·exact ⟨by omega,next fun e=>(z5.1 e).elim (fun e=>h4 (cz.2 e)) fun e=>h6 e.2.1⟩
      ·rw [show decide ((j:Int) > 0)=false from decide_eq_false (by omega)]
       conv=>whnf
       rw [e7];refine .inr ⟨[0],[0,3,5],?_⟩;conv=>whnf
       intro _;conv=>whnf
       refine ⟨_,?_,j+1,(.aa (.sk 2 (.aa (.sk 1 (.aa (.sk 78 .nil rfl)) rfl)) rfl)),rfl,rfl,?_⟩
       ·omega
       ·exact ⟨by omega,next fun e=>(z5.1 e).elim (fun e=>h4 (cz.2 e)) fun e=>h5 e.1⟩
    ·have h3:j=n:=by
      have:=of_decide_eq_false h3;omega
     subst h3;conv=>whnf
     exact fin 0 (Nj (by omega) q7 ot ((yJ yc ot).2 fun k hk=>hB k (by rw [cE] at hk; omega)))
def Er3:Env:=En [(77,.p np)]
theorem Pu:EnvOk Tryz.prog Er3:=bI ⟨LU,trivial⟩ trivial
theorem Vo:dj Tryz.prog 69 sF:=by
 refine dC Pu aL Tryz.func69 (enters_of Tryz.func69 (by kernel_rfl) rfl) ?_ ?_ ?_
 ·intro ⟨i,_⟩ b hb;cases i with
  | none=>simp [sF,PL.ae] at hb
  | some i=>simp [sF,PL.ae] at hb; rw [hb]; rfl
 ·intro i b hb; simp [sF] at hb
 intro ⟨i,p⟩ hp;have hp:(i.list.length≤1099511627776∧∀ v∈i.list,v.sz 2048)∧p.sz 2048:=hp;obtain ⟨⟨hlen,aY⟩,sp⟩:=hp;have qp:=PV.cM sp (by decide)
 cases i with
 | none =>
  conv=>whnf
  refine .inr ⟨1,?_⟩;conv=>whnf
  exact ⟨.int .i64 1,rfl,.refl _⟩
 | some i =>
  obtain ⟨L,c⟩:=i;have hlen:L.length≤1099511627776:=hlen;have aY:∀ v∈L,PV.sz 2048 v:=aY;obtain ⟨n,hn⟩:∃ n,n=L.length:=⟨_,rfl⟩;obtain ⟨g,hg⟩:∃ g,g=bF L:=⟨_,rfl⟩;have fin:∀ z:Int,z=HP (aG L) p.p→∃ v',dn (List.range 1) 3 (sF.val (some (L,c),p))=some v'∧gd (.int .i64 z) v':=fun z h=>⟨.int .i64 z,by rw [h]; rfl,.refl _⟩
  rw [show sF.ae (some (L,c),p)=[.flat false n 6 g] from by rw [hn,hg]; rfl,show sF.args (some (L,c),p)=[.slice (some ⟨0,0,none⟩) n c,p.v] from by rw [hn]; rfl]
  rw [← hn] at hlen;conv=>whnf
  refine .inl ⟨fun mm tz hz=>∃ (j:Nat) (o:Int),bC (some (.slice (some ⟨0,0,none⟩) n c)::aD 2 (some (.pointer (some ⟨1,0,none⟩))::aD 1 (some (.int .i64 o)::some (.int .i64 j)::aD 23 []))) tz∧hz=[some (.flat false n 6 g),some (.aR true 6 [p.cells])]∧n - j=mm∧(j≤n∧o=uH (aG L) p.p j),.inr ⟨[0,1],[0,3,5,6],?_⟩,?_⟩
  ·conv=>whnf
   intro _;conv=>whnf
   refine ⟨_,0,1,(.aa (.sk 2 (.aa (.sk 1 (.aa (.aa (.sk 23 .nil rfl))) rfl)) rfl)),rfl,rfl,?_⟩;exact ⟨Nat.zero_le _,rfl⟩
  rintro mm aT _ ⟨j,o,aw,rfl,rfl,⟨hj,ho⟩⟩
  obtain ⟨az,rfl⟩:∃ az:Nat→Value,aT=.slice (some ⟨0,0,none⟩) n c::zs az 1 2 (.pointer (some ⟨1,0,none⟩)::zs az 4 1 (.int .i64 o::.int .i64 j::zs az 7 23 [])):=bL aw;clear aw;conv=>whnf
  refine aI (fun h3=>?_) (fun h3=>?_)
  ·have h3:j < n:=by
    have:=of_decide_eq_true h3;omega
   have e7:IntKind.i64.wrap ((j:Int)+1)=((j+1:Nat):Int):=by rw [ay (by omega) (by omega)]; rfl
   obtain ⟨a,b,ra,rb,⟨ma,mb⟩,eH,b8,_,_⟩:=pY hn h3;have sa:=aY a ma;have sb:=aY b mb;have qa:=PV.cM sa (by decide)
   have qb:=PV.cM sb (by decide)
   have b6:=jm h3 (by omega)
   obtain ⟨u,hu⟩:∃ u,u=aZ n j:=⟨_,rfl⟩;rw [← hu] at b6 b8 rb;rw [← hg] at ra rb;have an:=SQ (p:=p.p) eH;rw [← ho] at an;conv=>whnf
   refine .inl ⟨15,[[],[],[],[1,2],[1,2,3],[],[],[6],[],[8],[6,7,8,9],[5,6,7,8,9,10],[5,6,7,8,9,10,11],[],[1,2,3,4,5,6,7,8,9,10,11,12,13],[0,1,2,3,4,5,6,7,8,9,10,11,12,13,14],[0,1,2,3,4,5,6,7,8,9,10,11,12,13,14,15]],by kernel_rfl,?_⟩
   conv=>whnf
   refine ⟨⟨by omega,by omega⟩,?_⟩
   simp only [toNat_cast,ar,Nat.zero_add];conv=>whnf
   refine ⟨by show j < n; omega,?_⟩
   conv=>whnf
   rw [ra];conv=>whnf
   rw [show decide ((n:Int)≠0)=true from decide_eq_true (by omega)]
   conv=>whnf
   rw [b6];refine ⟨⟨by omega,by omega⟩,?_⟩
   simp only [toNat_cast,ar,Nat.zero_add];conv=>whnf
   refine ⟨by show u < n; omega,?_⟩
   conv=>whnf
   rw [rb];conv=>whnf
   obtain ⟨z,ez,pz⟩:=cZ (aW (aB a.p b.p p.p) 0);refine ⟨(a,b,p),rfl,⟨PV.aP sa (by decide),PV.aP sb (by decide),PV.aP sp (by decide)⟩,?_⟩
   rw [show np.val (a,b,p)=.int .i64 z from ez]
   conv=>whnf
   rw [← pz] at an;rw [e7];refine .inr ⟨[0,1],[0,3,5,6],?_⟩;conv=>whnf
   intro _;conv=>whnf
   refine ⟨_,?_,j+1,if z < o then z else o,(.aa (.sk 2 (.aa (.sk 1 (.aa (.aa (.sk 23 .nil rfl))) rfl)) rfl)),rfl,rfl,?_⟩
   ·omega
   ·exact ⟨by omega,an.symm⟩
  ·have h3:j=n:=by
    have:=of_decide_eq_false h3;omega
   subst h3;conv=>whnf
   exact fin o (ho.trans (by rw [hn]; exact TY))
open Go Go.Ae
theorem ab4:bc Tryz.prog 79 s9:=by
 refine bh Pu aL Tryz.func79 (enters_of Tryz.func79 (by kernel_rfl) rfl) (fun _=>rfl) (fun _=>rfl) ?_
 intro ⟨⟨n1,a1,b1⟩,⟨n2,a2,b2⟩⟩ _;have Ay:∀ x:ByteArray,12 < x.size→decide ((x.size:Int) > 12)=true:=fun x h=>decide_eq_true (by omega)
 have small:∀ x:ByteArray,¬ 12 < x.size→decide ((x.size:Int) > 12)=false:=fun x h=>decide_eq_false (by omega)
 conv=>whnf
 by_cases h1:12 < a1.size
 ·rw [Ay _ h1];conv=>whnf
  exact Ck (by omega)
 rw [small _ h1];conv=>whnf
 by_cases J:12 < b1.size
 ·rw [Ay _ J];conv=>whnf
  exact Ck (by omega)
 rw [small _ J];conv=>whnf
 by_cases h3:12 < a2.size
 ·rw [Ay _ h3];conv=>whnf
  exact Ck (by omega)
 rw [small _ h3];conv=>whnf
 by_cases h4:12 < b2.size
 ·rw [Ay _ h4];exact Ck (by omega)
 rw [small _ h4];exact aan (by omega)
def Es1:Env:=En [(79,.p s9)]
theorem adz:EnvOk Tryz.prog Es1:=bI ⟨ab4,trivial⟩ trivial
theorem Ue:dj Tryz.prog 53 cf:=by
 refine dC adz aL Tryz.func53 (enters_of Tryz.func53 (by kernel_rfl) rfl) ?_ ?_ ?_
 ·intro i b hb;cases i with
  | none=>simp [cf,PL.ae] at hb
  | some i=>simp [cf,PL.ae] at hb; rw [hb]; rfl
 ·intro i b hb; simp [cf] at hb
 intro i hp;have hp:i.list.length≤9223372036854775807:=hp;cases i with
 | none =>
  conv=>whnf
  refine .inr ⟨1,?_⟩;conv=>whnf
  exact ⟨.bool false,rfl,.refl _⟩
 | some i =>
  obtain ⟨L,c⟩:=i;have hlen:L.length≤9223372036854775807:=hp;obtain ⟨n,hn⟩:∃ n,n=L.length:=⟨_,rfl⟩;obtain ⟨g,hg⟩:∃ g,g=bF L:=⟨_,rfl⟩;have fin:∀ z:Bool,gW L=z→∃ v',dn (List.range 1) 3 (cf.val (some (L,c)))=some v'∧gd (.bool z) v':=fun z h=>⟨.bool z,by rw [← h]; rfl,.refl _⟩
  rw [show cf.ae (some (L,c))=[.flat false n 6 g] from by rw [hn,hg]; rfl,show cf.args (some (L,c))=[.slice (some ⟨0,0,none⟩) n c] from by rw [hn]; rfl]
  rw [← hn] at hlen;conv=>whnf
  by_cases J:66 < n
  ·rw [show decide ((n:Int) > 10)=true from decide_eq_true (by omega)]
   conv=>whnf
   rw [show decide ((n:Int) < 63)=false from decide_eq_false (by omega)]
   conv=>whnf
   rw [show decide ((n:Int) > 66)=true from decide_eq_true (by omega)]
   conv=>whnf
   exact fin true (LK (.inr (by omega)))
  by_cases h1:10 < n∧n < 63
  ·rw [show decide ((n:Int) > 10)=true from decide_eq_true (by omega)]
   conv=>whnf
   rw [show decide ((n:Int) < 63)=true from decide_eq_true (by omega)]
   conv=>whnf
   exact fin true (LK (.inl (by omega)))
  have aeN:=T1 (L:=L) (by omega)
  have fin:=fun (z:Bool) (h:uF 12 L=z)=>fin z (aeN.trans h)
  by_cases h3:10 < n
  ·rw [show decide ((n:Int) > 10)=true from decide_eq_true (by omega)]
   conv=>whnf
   rw [show decide ((n:Int) < 63)=false from decide_eq_false (by omega)]
   conv=>whnf
   rw [show decide ((n:Int) > 66)=false from decide_eq_false (by omega)]
   conv=>whnf
   refine .inl ⟨fun mm tz hz=>∃ (i:Nat),bC (some (.slice (some ⟨0,0,none⟩) n c)::aD 2 (some (.int .i64 i)::aD 24 [])) tz∧hz=[some (.flat false n 6 g)]∧n - i=mm∧(i≤n∧uo 12 L i),.inr ⟨[0],[0,3],?_⟩,?_⟩
   ·conv=>whnf
    intro _;conv=>whnf
    refine ⟨_,0,(.aa (.sk 2 (.aa (.sk 24 .nil rfl)) rfl)),rfl,rfl,?_⟩;exact ⟨Nat.zero_le _,Kq _ _⟩
   rintro mm aT _ ⟨i,aw,rfl,rfl,⟨hi,hU⟩⟩
   obtain ⟨az,rfl⟩:∃ az:Nat→Value,aT=.slice (some ⟨0,0,none⟩) n c::zs az 1 2 (.int .i64 i::zs az 4 24 []):=bL aw;clear aw;conv=>whnf
   refine aI (fun h3=>?_) (fun h3=>?_)
   ·have h3:i < n:=by
     have:=of_decide_eq_true h3;omega
    have e7:IntKind.i64.wrap ((i:Int)+1)=((i+1:Nat):Int):=by rw [ay (by omega) (by omega)]; rfl
    obtain ⟨m,kN,m5,bd⟩:=rR (l:=L) (i:=i) (by omega)
    rw [← hg] at bd;conv=>whnf
    refine ⟨⟨by omega,by omega⟩,?_⟩
    simp only [toNat_cast,ar,Nat.zero_add];conv=>whnf
    refine ⟨by show i < n; omega,?_⟩
    conv=>whnf
    rw [bd];conv=>whnf
    refine ⟨m,rfl,trivial,?_⟩;by_cases h4:m.sz 12
    ·rw [show s9.val m=.bool false from congrArg Value.bool (decide_eq_false fun e=>e h4)]
     conv=>whnf
     rw [e7];refine .inr ⟨[0],[0,3],?_⟩;conv=>whnf
     intro _;conv=>whnf
     refine ⟨_,?_,i+1,(.aa (.sk 2 (.aa (.sk 24 .nil rfl)) rfl)),rfl,rfl,?_⟩
     ·omega
     ·exact ⟨by omega,KG hU kN h4⟩
    ·rw [show s9.val m=.bool true from congrArg Value.bool (decide_eq_true h4)]
     conv=>whnf
     exact fin true (EM m5 h4)
   ·have h3:i=n:=by
     have:=of_decide_eq_false h3;omega
    subst h3;conv=>whnf
    exact fin false (K1 (by rw [← hn]; exact hU))
  ·rw [show decide ((n:Int) > 10)=false from decide_eq_false (by omega)]
   conv=>whnf
   rw [show decide ((n:Int) > 66)=false from decide_eq_false (by omega)]
   conv=>whnf
   refine .inl ⟨fun mm tz hz=>∃ (i:Nat),bC (some (.slice (some ⟨0,0,none⟩) n c)::aD 2 (some (.int .i64 i)::aD 24 [])) tz∧hz=[some (.flat false n 6 g)]∧n - i=mm∧(i≤n∧uo 12 L i),.inr ⟨[0],[0,3],?_⟩,?_⟩
   ·conv=>whnf
    intro _;conv=>whnf
    refine ⟨_,0,(.aa (.sk 2 (.aa (.sk 24 .nil rfl)) rfl)),rfl,rfl,?_⟩;exact ⟨Nat.zero_le _,Kq _ _⟩
   rintro mm aT _ ⟨i,aw,rfl,rfl,⟨hi,hU⟩⟩
   obtain ⟨az,rfl⟩:∃ az:Nat→Value,aT=.slice (some ⟨0,0,none⟩) n c::zs az 1 2 (.int .i64 i::zs az 4 24 []):=bL aw;clear aw;conv=>whnf
   refine aI (fun h3=>?_) (fun h3=>?_)
   ·have h3:i < n:=by
     have:=of_decide_eq_true h3;omega
    have e7:IntKind.i64.wrap ((i:Int)+1)=((i+1:Nat):Int):=by rw [ay (by omega) (by omega)]; rfl
    obtain ⟨m,kN,m5,bd⟩:=rR (l:=L) (i:=i) (by omega)
    rw [← hg] at bd;conv=>whnf
    refine ⟨⟨by omega,by omega⟩,?_⟩
    simp only [toNat_cast,ar,Nat.zero_add];conv=>whnf
    refine ⟨by show i < n; omega,?_⟩
    conv=>whnf
    rw [bd];conv=>whnf
    refine ⟨m,rfl,trivial,?_⟩;by_cases h4:m.sz 12
    ·rw [show s9.val m=.bool false from congrArg Value.bool (decide_eq_false fun e=>e h4)]
     conv=>whnf
     rw [e7];refine .inr ⟨[0],[0,3],?_⟩;conv=>whnf
     intro _;conv=>whnf
     refine ⟨_,?_,i+1,(.aa (.sk 2 (.aa (.sk 24 .nil rfl)) rfl)),rfl,rfl,?_⟩
     ·omega
     ·exact ⟨by omega,KG hU kN h4⟩
    ·rw [show s9.val m=.bool true from congrArg Value.bool (decide_eq_true h4)]
     conv=>whnf
     exact fin true (EM m5 h4)
   ·have h3:i=n:=by
     have:=of_decide_eq_false h3;omega
    subst h3;conv=>whnf
    exact fin false (K1 (by rw [← hn]; exact hU))
def Es2:Env:=En [(24,.q bk),(68,.p kR),(69,.q sF)]
theorem adA:EnvOk Tryz.prog Es2:=bI ⟨LX,LQ,Vo,trivial⟩ trivial
theorem W0:dj Tryz.prog 65 g9:=by
 refine dC adA aL Tryz.func65 (enters_of Tryz.func65 (by kernel_rfl) rfl) ?_ ?_ ?_
 ·intro ⟨i,k⟩ B hb;cases i <;> cases k <;> simp [g9,PL.ae] at hb
  ·rw [hb]; rfl
  ·rw [hb]; rfl
  ·rcases hb with rfl | rfl <;> rfl
 ·intro i b hb; simp [g9] at hb
 intro ⟨i,k⟩ hp;have hp:(i.list.length≤1099511627776∧∀ v∈i.list,v.sz 2048)∧k.list.length≤1099511627776∧∀ v∈k.list,v.sz 2048:=hp;obtain ⟨⟨lX,lz⟩,og,jF⟩:=hp;cases i with
 | none =>
  cases k with
  | none =>
   conv=>whnf
   refine ⟨none,[],rfl,⟨Nat.zero_le _,fun v hv=>nomatch hv⟩,?_⟩
   rw [show bk.ae none=[] from rfl,show bk.val none=.int .i64 4 from rfl,show bk.new none=none from rfl]
   conv=>whnf
   refine ⟨_,rfl,?_⟩;conv=>whnf
   exact ⟨_,rfl,.refl _⟩
  | some k =>
   conv=>whnf
   refine ⟨none,[],rfl,⟨Nat.zero_le _,fun v hv=>nomatch hv⟩,?_⟩
   rw [show bk.ae none=[] from rfl,show bk.val none=.int .i64 4 from rfl,show bk.new none=none from rfl]
   conv=>whnf
   refine ⟨_,rfl,?_⟩;conv=>whnf
   exact ⟨.bool false,congrArg (fun z=>some (Value.bool z)) (decide_eq_false fun e=>by have:=e.1; cases this),.refl _⟩
 | some i =>
  obtain ⟨A,c⟩:=i;have lX:A.length≤1099511627776:=lX;have lz:∀ v∈A,PV.sz 2048 v:=lz;obtain ⟨na,a8⟩:∃ n,n=A.length:=⟨_,rfl⟩;obtain ⟨ga,bw⟩:∃ g,g=bF A:=⟨_,rfl⟩;have fin:∀ (k:PL) (B:List PV) (z:Bool) (n:Nat),k.list=B→z=decide (bt A=0∧bt B=0)→∃ v',dn (List.range n) 3 (g9.val (some (A,c),k))=some v'∧gd (.bool z) v':=fun k B z n hk h=>⟨.bool z,by
   subst hk;rw [h]; rfl,.refl _⟩
  cases k with
  | none =>
   rw [show g9.ae (some (A,c),none)=[.flat false na 6 ga] from by rw [a8,bw]; rfl,show g9.args (some (A,c),none)=[.slice (some ⟨0,0,none⟩) na c,.slice none 0 0] from by rw [a8]; rfl]
   rw [← a8] at lX;conv=>whnf
   refine ⟨some (A,c),[0],by rw [show bk.args (some (A,c))=[.slice (some ⟨0,0,none⟩) na c] from by rw [a8]; rfl]; rfl,⟨by show A.length≤_; omega,lz⟩,?_⟩
   rw [show bk.ae (some (A,c))=[.flat false na 6 ga] from by rw [a8,bw]; rfl,show bk.val (some (A,c))=.int .i64 (bt A) from rfl,show bk.new (some (A,c))=none from rfl]
   conv=>whnf
   refine ⟨aq.aO (fun h=>h) (fun r hr=>by rw [bw]; rfl),?_⟩
   conv=>whnf
   refine ⟨_,rfl,?_⟩;obtain ⟨e,he⟩:∃ z,z=bt A:=⟨_,rfl⟩;rw [← he];conv=>whnf
   by_cases h1:e=0
   ·rw [show (e == 0)=true from by simp [h1]]
    conv=>whnf
    refine ⟨none,[],rfl,⟨Nat.zero_le _,fun v hv=>nomatch hv⟩,?_⟩
    rw [show bk.ae none=[] from rfl,show bk.val none=.int .i64 4 from rfl,show bk.new none=none from rfl]
    conv=>whnf
    refine ⟨_,rfl,?_⟩;conv=>whnf
    exact fin none [] false 1 rfl (decide_eq_false fun e=>by have:=e.2; cases this).symm
   ·rw [show (e == 0)=false from by simp [h1]]
    conv=>whnf
    exact fin none [] false 1 rfl (decide_eq_false fun e=>by have:=e.2; cases this).symm
  | some k =>
   obtain ⟨B,d⟩:=k;have og:B.length≤1099511627776:=og;have jF:∀ v∈B,PV.sz 2048 v:=jF;obtain ⟨nb,bJ⟩:∃ n,n=B.length:=⟨_,rfl⟩;obtain ⟨gb,cD⟩:∃ g,g=bF B:=⟨_,rfl⟩;rw [show g9.ae (some (A,c),some (B,d))=[.flat false na 6 ga,.flat false nb 6 gb] from by rw [a8,bw,bJ,cD]; rfl,show g9.args (some (A,c),some (B,d))=[.slice (some ⟨0,0,none⟩) na c,.slice (some ⟨1,0,none⟩) nb d] from by rw [a8,bJ]; rfl]
   rw [← a8] at lX;rw [← bJ] at og;have fin:=fun (z:Bool)=>fin (some (B,d)) B z 2 rfl
   conv=>whnf
   refine ⟨some (A,c),[0],by rw [show bk.args (some (A,c))=[.slice (some ⟨0,0,none⟩) na c] from by rw [a8]; rfl]; rfl,⟨by show A.length≤_; omega,lz⟩,?_⟩
   rw [show bk.ae (some (A,c))=[.flat false na 6 ga] from by rw [a8,bw]; rfl,show bk.val (some (A,c))=.int .i64 (bt A) from rfl,show bk.new (some (A,c))=none from rfl]
   conv=>whnf
   refine ⟨aq.aO (fun h=>h) (fun r hr=>by rw [bw]; rfl),?_⟩
   conv=>whnf
   refine ⟨_,rfl,?_⟩;obtain ⟨e,he⟩:∃ z,z=bt A:=⟨_,rfl⟩;rw [← he];conv=>whnf
   by_cases h1:e=0
   ·rw [show (e == 0)=true from by simp [h1]]
    conv=>whnf
    refine ⟨some (B,d),[1],by rw [show bk.args (some (B,d))=[.slice (some ⟨0,0,none⟩) nb d] from by rw [bJ]; rfl]; rfl,⟨by show B.length≤_; omega,jF⟩,?_⟩
    rw [show bk.ae (some (B,d))=[.flat false nb 6 gb] from by rw [bJ,cD]; rfl,show bk.val (some (B,d))=.int .i64 (bt B) from rfl,show bk.new (some (B,d))=none from rfl]
    conv=>whnf
    refine ⟨aq.aO (fun h=>h) (fun r hr=>by rw [cD]; rfl),?_⟩
    conv=>whnf
    refine ⟨_,rfl,?_⟩;obtain ⟨e2,cH⟩:∃ z,z=bt B:=⟨_,rfl⟩;rw [← cH];conv=>whnf
    refine fin _ ?_;rw [← he,← cH];by_cases J:e2=0
    ·rw [show (e2 == 0)=true from by simp [J],decide_eq_true ⟨h1,J⟩]; rfl
    ·rw [show (e2 == 0)=false from by simp [J],decide_eq_false fun e=>J e.2]; rfl
   ·rw [show (e == 0)=false from by simp [h1]]
    conv=>whnf
    exact fin false (decide_eq_false fun h=>h1 (by rw [he]; exact h.1)).symm
open Go Go.Ae
open Go Go.Ae
open Go Go.Ae
def Ea1:Env:=En [(55,.p qT)]
theorem adB:EnvOk Tryz.prog Ea1:=bI ⟨OS,trivial⟩ trivial
theorem Vp:dj Tryz.prog 54 iC:=by
 refine dC adB aL Tryz.func54 (enters_of Tryz.func54 (by kernel_rfl) rfl) ?_ ?_ ?_
 ·intro i b hb; simp [iC] at hb; rw [hb]; rfl
 ·intro i b hb; simp [iC] at hb; rw [← hb]; rfl
 intro (L:II) hp;have hp:(0 < L.length∧L.length≤1000000)∧∀ x∈L,x.1.natAbs < 256∧x.2.natAbs < 256:=hp;obtain ⟨⟨h0,hlen⟩,RG⟩:=hp;obtain ⟨n,hn⟩:∃ n,n=L.length:=⟨_,rfl⟩;obtain ⟨m,hm⟩:∃ m,m=2*n:=⟨_,rfl⟩;obtain ⟨g,hg⟩:∃ g,g=nI L:=⟨_,rfl⟩;obtain ⟨K,hK⟩:∃ K,K=db iC L:=⟨_,rfl⟩;rw [show iC.ae L=[.flat false m 1 g] from by rw [hm,hn,hg]; rfl,show iC.args L=[.slice (some ⟨0,0,none⟩) m m] from by rw [hm,hn]; rfl,← hK]
 rw [← hn] at hlen h0;conv=>whnf
 refine .inl ⟨fun mm tz hz=>∃ (j:Nat) (i:Nat) (O:List Q2) (q:Nat) (F:Nat→List Value),bC (some (.slice (some ⟨0,0,none⟩) m m)::aD 2 (some (dw 1 q)::some (.int .i64 i)::aD 21 [])) tz∧hz=[some (.flat false m 1 g)]++zT 6 F q∧n - j=mm∧((j≤n∧q=j∧i=2*j∧q=O.length)∧O=bB (L.take j)∧(∀ r,r < q→F r=aX O r)),.inr ⟨[0],[0,3,4],?_⟩,?_⟩
 ·conv=>whnf
  intro _;conv=>whnf
  refine ⟨_,0,0,[],0,fun _=>[],(.aa (.sk 2 (.aa (.aa (.sk 21 .nil rfl))) rfl)),rfl,rfl,?_⟩
  exact ⟨⟨Nat.zero_le _,rfl,rfl,rfl⟩,rfl,fun r hr=>absurd hr (Nat.not_lt_zero r)⟩
 rintro mm aT _ ⟨j,i,O,q,F,aw,rfl,rfl,⟨⟨hj,RH,hi,hq⟩,hO,hF⟩⟩
 obtain ⟨az,rfl⟩:∃ az:Nat→Value,aT=.slice (some ⟨0,0,none⟩) m m::zs az 1 2 (dw 1 q::.int .i64 i::zs az 5 21 []):=bL aw;clear aw;obtain ⟨k,hk⟩:∃ k,k=i+1:=⟨_,rfl⟩;have e1:IntKind.i64.wrap ((i:Int)+1)=(k:Int):=by rw [ay (by omega) (by omega),hk]; rfl
 have e2:IntKind.i64.wrap ((i:Int)+2)=((i+2:Nat):Int):=by rw [ay (by omega) (by omega)]; rfl
 cases q with
 | zero =>
  obtain rfl:O=[]:=List.eq_nil_of_length_eq_zero hq.symm;conv=>whnf
  rw [e1];refine aI (fun h1=>?_) (fun h1=>?_)
  ·have h1:j < n:=by
    have:=of_decide_eq_true h1;omega
   obtain ⟨x,hx⟩:∃ x,x=rD L j:=⟨_,rfl⟩;have gY:=N9 (l:=L) (j:=j) (by omega)
   rw [← hx] at gY;have ra:g i=[.int .i64 x.1]:=by rw [hg,hi]; exact Np hx
   have rb:g k=[.int .i64 x.2]:=by rw [hk,hg,hi]; exact Nq hx
   have an:=Nr gY.2;rw [← hO] at an;have hs:=RG x gY.1;conv=>whnf
   refine .inl ⟨12,[[],[],[],[1,2],[1,2,3],[],[],[6],[5,6,7],[5,6,7,8],[1,2,3,4,5,6,7,8,9],[1,2,3,4,5,6,7,8,9,10],[0,1,2,3,4,5,6,7,8,9,10,11],[0,1,2,3,4,5,6,7,8,9,10,11,12]],by kernel_rfl,?_⟩
   conv=>whnf
   refine ⟨⟨by omega,by omega⟩,?_⟩
   simp only [toNat_cast,ar,Nat.zero_add];conv=>whnf
   refine ⟨by show i < m; omega,?_⟩
   conv=>whnf
   rw [ra];conv=>whnf
   rw [e1];refine ⟨⟨by omega,by omega⟩,?_⟩
   simp only [toNat_cast,ar,Nat.zero_add];conv=>whnf
   refine ⟨by show k < m; omega,?_⟩
   conv=>whnf
   rw [rb];conv=>whnf
   obtain ⟨u,cu,eu,pu,su,qu⟩:=xe (vk x.1 x.2 hs.1 hs.2);refine ⟨(x.1,x.2),rfl,⟨⟨by show -9223372036854775808≤x.1; omega,by show x.1 < 9223372036854775808; omega⟩,⟨by show -9223372036854775808≤x.2; omega,by show x.2 < 9223372036854775808; omega⟩⟩,?_⟩
   rw [show qT.val (x.1,x.2)=u.v from eu]
   conv=>whnf
   refine ⟨by show (0+1)*80≤140737488355328; decide,?_⟩
   conv=>whnf
   rw [e2];refine .inr ⟨[0,13],[0,3,4],?_⟩;conv=>whnf
   intro _;conv=>whnf
   refine ⟨_,?_,j+1,i+2,[iq x],1,_,(.aa (.sk 2 (.aa (.aa (.sk 21 .nil rfl))) rfl)),rfl,rfl,?_⟩
   ·omega
   ·exact ⟨⟨by omega,by omega,by omega,rfl⟩,by rw [an]; rfl,rY cu rfl⟩
  ·exfalso;have:=of_decide_eq_false h1;omega
 | succ q =>
  have e0:i≠0:=by omega
  conv=>whnf
  rw [e1];refine aI (fun h1=>?_) (fun h1=>?_)
  ·have h1:j < n:=by
    have:=of_decide_eq_true h1;omega
   obtain ⟨x,hx⟩:∃ x,x=rD L j:=⟨_,rfl⟩;have gY:=N9 (l:=L) (j:=j) (by omega)
   rw [← hx] at gY;have ra:g i=[.int .i64 x.1]:=by rw [hg,hi]; exact Np hx
   have rb:g k=[.int .i64 x.2]:=by rw [hk,hg,hi]; exact Nq hx
   have an:=Nr gY.2;rw [← hO] at an;have hs:=RG x gY.1;conv=>whnf
   refine .inl ⟨12,[[],[],[],[1,2],[1,2,3],[],[],[6],[5,6,7],[5,6,7,8],[1,2,3,4,5,6,7,8,9],[1,2,3,4,5,6,7,8,9,10],[0,1,2,3,4,5,6,7,8,9,10,11],[0,1,2,3,4,5,6,7,8,9,10,11,12]],by kernel_rfl,?_⟩
   conv=>whnf
   refine ⟨⟨by omega,by omega⟩,?_⟩
   simp only [toNat_cast,ar,Nat.zero_add];conv=>whnf
   refine ⟨by show i < m; omega,?_⟩
   conv=>whnf
   rw [ra];conv=>whnf
   rw [e1];refine ⟨⟨by omega,by omega⟩,?_⟩
   simp only [toNat_cast,ar,Nat.zero_add];conv=>whnf
   refine ⟨by show k < m; omega,?_⟩
   conv=>whnf
   rw [rb];conv=>whnf
   obtain ⟨u,cu,eu,pu,su,qu⟩:=xe (vk x.1 x.2 hs.1 hs.2);refine ⟨(x.1,x.2),rfl,⟨⟨by show -9223372036854775808≤x.1; omega,by show x.1 < 9223372036854775808; omega⟩,⟨by show -9223372036854775808≤x.2; omega,by show x.2 < 9223372036854775808; omega⟩⟩,?_⟩
   rw [show qT.val (x.1,x.2)=u.v from eu]
   conv=>whnf
   refine ⟨⟨by show 1≤1; decide,rfl,by show (q+1+1)*80≤140737488355328; omega⟩,?_⟩
   conv=>whnf
   refine ⟨[0,4],?_⟩;conv=>whnf
   intro _;conv=>whnf
   rw [e2];refine .inr ⟨[0,1],[0,3,4],?_⟩;conv=>whnf
   intro _;conv=>whnf
   refine ⟨_,?_,j+1,i+2,O++[iq x],q+1+1,_,(.aa (.sk 2 (.aa (.aa (.sk 21 .nil rfl))) rfl)),rfl,rfl,?_⟩
   ·omega
   ·exact ⟨⟨by omega,by omega,by omega,by rw [List.length_append,← hq]; rfl⟩,an.symm,oW hq hF cu rfl⟩
  ·have h1:j=n:=by
    have:=of_decide_eq_false h1;omega
   subst h1;have hE:bB L=O:=by rw [hO,hn,List.take_length]
   have Ka:O.length=(bB L).length:=by rw [hE]
   conv=>whnf
   rw [hK];unfold db;rw [show iC.new L=some (.flat true (q+1) 6 (aX O)) from by show some (ai.flat true L.length 6 (aX (bB L)))=_; rw [← hn,hE,← RH],show iC.val L=.slice (some ⟨1,0,none⟩) (q+1) ao from by show Value.slice (some ⟨1,0,none⟩) L.length ao=_; rw [← hn,← RH]]
   refine ⟨1,?_⟩;conv=>whnf
   exact ⟨⟨rfl,aq.dz (fun h=>h) hF (fun r hr=>rfl)⟩,_,rfl,.refl _⟩
end Go.Proofs.YtlapbjdhekcipaaGreat
