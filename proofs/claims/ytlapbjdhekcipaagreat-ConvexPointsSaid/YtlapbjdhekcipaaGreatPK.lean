import Derived.Test.YtlapbjdhekcipaaGreatPJ
set_option linter.unusedVariables false
set_option linter.unusedSimpArgs false
/- Contracts of convex: Overlap, Touch and Separator. -/
set_option maxRecDepth 20000
set_option maxHeartbeats 4000000
namespace Go.Proofs.YtlapbjdhekcipaaGreat
open Go Go.Ae
def Eu5:Env:=En [(144,.q jL)]
theorem ab4:EnvOk Tryz.prog Eu5:=bF ⟨T7,trivial⟩ trivial
theorem Rb:c4 Tryz.prog 100 ni:=by
 refine dC ab4 aK Tryz.func100 (enters_of Tryz.func100 (by kernel_rfl) rfl) ?_ ?_ ?_
 ·intro i b hb; simp [ni,xc] at hb; rcases hb with rfl | rfl <;> rfl
 ·intro i b hb; simp [ni,xc] at hb
 intro ⟨⟨⟨A,c⟩,⟨B,d⟩⟩,f,s⟩ hp
 have hp:((f,s)=(101,true)∨(f,s)=(103,false)∨(f,s)=(105,true))∧(A.length≤1073741824∧∀ v∈A,Q2.sz 2048 v)∧B.length≤1073741824∧∀ v∈B,Q2.sz 2048 v:=hp
 obtain ⟨uU,Qn,dx⟩:=hp
 obtain ⟨n,hn⟩:∃ n,n=A.length:=⟨_,rfl⟩
 obtain ⟨g,hg⟩:∃ g,g=bT A:=⟨_,rfl⟩
 obtain ⟨m,hm⟩:∃ n,n=B.length:=⟨_,rfl⟩
 obtain ⟨k,hk⟩:∃ g,g=bT B:=⟨_,rfl⟩
 have fin:∀ (x:XV) (z:Bool),gy (jZ s A B)=(x,z)→∃ v',cL (List.range 2) 3 (ni.val (((A,c),(B,d)),(f,s)))=some v'∧eZ (.tuple ⟨[x.v,.bool z]⟩) v':=fun x z h=>⟨_,by rw [show ni.val (((A,c),(B,d)),(f,s))=.tuple ⟨[x.v,.bool z]⟩ from by show Value.tuple ⟨[(gy (jZ s A B)).1.v,.bool (gy (jZ s A B)).2]⟩=_; rw [h]]; rfl,.refl _⟩
 rw [show ni.ai (((A,c),(B,d)),(f,s))=[.flat false n 6 g,.flat false m 6 k] from by rw [hn,hg,hm,hk]; rfl,show ni.args (((A,c),(B,d)),(f,s))=[.slice (some ⟨0,0,none⟩) n c,.slice (some ⟨1,0,none⟩) m d,.func (.func f) #[] #[]] from by rw [hn,hm]; rfl]
 conv=>whnf
 obtain ⟨⟨x,z⟩,hx⟩:∃ x,gy (g7 s A B)=x:=⟨_,rfl⟩
 refine ⟨(((A,c),(B,d)),(f,s)),[0,1],by rw [show jL.args (((A,c),(B,d)),(f,s))=[.slice (some ⟨0,0,none⟩) n c,.slice (some ⟨1,0,none⟩) m d,.func (.func f) #[] #[]] from by rw [hn,hm]; rfl]; rfl,⟨uU,Qn,dx⟩,?_⟩
 rw [show jL.ai (((A,c),(B,d)),(f,s))=[.flat false n 6 g,.flat false m 6 k] from by rw [hn,hm,hg,hk]; rfl,show jL.val (((A,c),(B,d)),(f,s))=.tuple ⟨[x.v,.bool z]⟩ from by show Value.tuple ⟨[(gy (g7 s A B)).1.v,.bool (gy (g7 s A B)).2]⟩=_; rw [hx],show jL.new (((A,c),(B,d)),(f,s))=none from rfl]
 conv=>whnf
 refine ⟨aO.aY (fun h=>h) (fun r hr=>by rw [hg]; rfl),aO.aY (fun h=>h) (fun r hr=>by rw [hk]; rfl),?_⟩
 conv=>whnf
 refine ⟨_,rfl,?_⟩
 conv=>whnf
 cases z with
 | true =>
  conv=>whnf
  exact fin x true (Ws hx)
 | false =>
  conv=>whnf
  obtain ⟨⟨y,w⟩,hy⟩:∃ x,gy (g7 s B A)=x:=⟨_,rfl⟩
  refine ⟨(((B,d),(A,c)),(f,s)),[1,0],by rw [show jL.args (((B,d),(A,c)),(f,s))=[.slice (some ⟨0,0,none⟩) m d,.slice (some ⟨1,0,none⟩) n c,.func (.func f) #[] #[]] from by rw [hm,hn]; rfl]; rfl,⟨uU,dx,Qn⟩,?_⟩
  rw [show jL.ai (((B,d),(A,c)),(f,s))=[.flat false m 6 k,.flat false n 6 g] from by rw [hm,hn,hk,hg]; rfl,show jL.val (((B,d),(A,c)),(f,s))=.tuple ⟨[y.v,.bool w]⟩ from by show Value.tuple ⟨[(gy (g7 s B A)).1.v,.bool (gy (g7 s B A)).2]⟩=_; rw [hy],show jL.new (((B,d),(A,c)),(f,s))=none from rfl]
  conv=>whnf
  refine ⟨aO.aY (fun h=>h) (fun r hr=>by rw [hk]; rfl),aO.aY (fun h=>h) (fun r hr=>by rw [hg]; rfl),?_⟩
  conv=>whnf
  refine ⟨_,rfl,?_⟩
  conv=>whnf
  exact fin y w ((Wt hx).trans hy)
def Eu6:Env:=En [(23,.q aV),(100,.q ni)]
theorem ab5:EnvOk Tryz.prog Eu6:=bF ⟨xX,Rb,trivial⟩ trivial
theorem Yt:c4 Tryz.prog 44 l9:=by
 refine dC ab5 aK Tryz.func44 (enters_of Tryz.func44 (by kernel_rfl) rfl) ?_ ?_ ?_
 ·intro ⟨i,k⟩ B hb
  cases i <;> cases k <;> simp [N7,l9,PL.ai] at hb
  ·rw [hb]; rfl
  ·rw [hb]; rfl
  ·rcases hb with rfl | rfl <;> rfl
 ·intro i b hb; simp [N7,l9] at hb
 intro ⟨i,k⟩ hp
 have hp:(i.list.length≤1099511627776∧∀ v∈i.list,v.sz 2048)∧k.list.length≤1099511627776∧∀ v∈k.list,v.sz 2048:=hp
 obtain ⟨⟨pN,oG⟩,ug,lf⟩:=hp
 cases i with
 | none =>
  cases k with
  | none =>
   conv=>whnf
   refine ⟨none,[],rfl,⟨Nat.zero_le _,fun v hv=>nomatch hv⟩,?_⟩
   rw [show aV.ai none=[] from rfl,show aV.val none=.int .i64 4 from rfl,show aV.new none=none from rfl]
   conv=>whnf
   refine ⟨_,rfl,?_⟩
   conv=>whnf
   exact ⟨_,rfl,.refl _⟩
  | some k =>
   conv=>whnf
   refine ⟨none,[],rfl,⟨Nat.zero_le _,fun v hv=>nomatch hv⟩,?_⟩
   rw [show aV.ai none=[] from rfl,show aV.val none=.int .i64 4 from rfl,show aV.new none=none from rfl]
   conv=>whnf
   refine ⟨_,rfl,?_⟩
   conv=>whnf
   exact ⟨_,rfl,.refl _⟩
 | some i =>
  obtain ⟨A,c⟩:=i
  have pN:A.length≤1099511627776:=pN
  have oG:∀ v∈A,PV.sz 2048 v:=oG
  obtain ⟨na,cW⟩:∃ n,n=A.length:=⟨_,rfl⟩
  obtain ⟨ga,eg⟩:∃ g,g=cO A:=⟨_,rfl⟩
  have fin:∀ (k:PL) (B:List PV) (x:XV) (e:Int) (n:Nat),k.list=B→mU A B=(x,e)→∃ v',cL (List.range n) 3 (bk.val l9 (some (A,c),k))=some v'∧eZ (.tuple ⟨[x.v,.int .i64 e]⟩) v':=fun k B x e n hk h=>⟨.tuple ⟨[x.v,.int .i64 e]⟩,by
   subst hk
   rw [show bk.val l9 (some (A,c),k)=.tuple ⟨[x.v,.int .i64 e]⟩ from by show Value.tuple ⟨[(mU A k.list).1.v,.int .i64 (mU A k.list).2]⟩=_; rw [h]]; rfl,.refl _⟩
  cases k with
  | none =>
   rw [show bk.ai l9 (some (A,c),none)=[.flat false na 6 ga] from by rw [cW,eg]; rfl,show bk.args l9 (some (A,c),none)=[.slice (some ⟨0,0,none⟩) na c,.slice none 0 0] from by rw [cW]; rfl]
   rw [← cW] at pN
   conv=>whnf
   refine ⟨some (A,c),[0],by rw [show aV.args (some (A,c))=[.slice (some ⟨0,0,none⟩) na c] from by rw [cW]; rfl]; rfl,⟨by show A.length≤_; omega,oG⟩,?_⟩
   rw [show aV.ai (some (A,c))=[.flat false na 6 ga] from by rw [cW,eg]; rfl,show aV.val (some (A,c))=.int .i64 (bw A) from rfl,show aV.new (some (A,c))=none from rfl]
   conv=>whnf
   refine ⟨aO.aY (fun h=>h) (fun r hr=>by rw [eg]; rfl),?_⟩
   conv=>whnf
   refine ⟨_,rfl,?_⟩
   obtain ⟨e,he⟩:∃ z,z=bw A:=⟨_,rfl⟩
   rw [← he]
   conv=>whnf
   by_cases h1:e=0
   ·rw [show (e != 0)=false from by simp [h1]]
    conv=>whnf
    refine ⟨none,[],rfl,⟨Nat.zero_le _,fun v hv=>nomatch hv⟩,?_⟩
    rw [show aV.ai none=[] from rfl,show aV.val none=.int .i64 4 from rfl,show aV.new none=none from rfl]
    conv=>whnf
    refine ⟨_,rfl,?_⟩
    conv=>whnf
    exact fin none [] mN 1 _ rfl (BO fun e=>by have:=e.2; cases this)
   ·rw [show (e != 0)=true from by simp [h1]]
    conv=>whnf
    exact fin none [] mN 1 _ rfl (BO fun e=>by have:=e.2; cases this)
  | some k =>
   obtain ⟨B,d⟩:=k
   have ug:B.length≤1099511627776:=ug
   have lf:∀ v∈B,PV.sz 2048 v:=lf
   obtain ⟨nb,gj⟩:∃ n,n=B.length:=⟨_,rfl⟩
   obtain ⟨gb,nh⟩:∃ g,g=cO B:=⟨_,rfl⟩
   rw [show bk.ai l9 (some (A,c),some (B,d))=[.flat false na 6 ga,.flat false nb 6 gb] from by rw [cW,eg,gj,nh]; rfl,show bk.args l9 (some (A,c),some (B,d))=[.slice (some ⟨0,0,none⟩) na c,.slice (some ⟨1,0,none⟩) nb d] from by rw [cW,gj]; rfl]
   rw [← cW] at pN
   rw [← gj] at ug
   have fin:=fun (x:XV) (e:Int)=>fin (some (B,d)) B x e 2 rfl
   conv=>whnf
   refine ⟨some (A,c),[0],by rw [show aV.args (some (A,c))=[.slice (some ⟨0,0,none⟩) na c] from by rw [cW]; rfl]; rfl,⟨by show A.length≤_; omega,oG⟩,?_⟩
   rw [show aV.ai (some (A,c))=[.flat false na 6 ga] from by rw [cW,eg]; rfl,show aV.val (some (A,c))=.int .i64 (bw A) from rfl,show aV.new (some (A,c))=none from rfl]
   conv=>whnf
   refine ⟨aO.aY (fun h=>h) (fun r hr=>by rw [eg]; rfl),?_⟩
   conv=>whnf
   refine ⟨_,rfl,?_⟩
   obtain ⟨e,he⟩:∃ z,z=bw A:=⟨_,rfl⟩
   rw [← he]
   conv=>whnf
   by_cases h1:e=0
   ·rw [show (e != 0)=false from by simp [h1]]
    conv=>whnf
    refine ⟨some (B,d),[1],by rw [show aV.args (some (B,d))=[.slice (some ⟨0,0,none⟩) nb d] from by rw [gj]; rfl]; rfl,⟨by show B.length≤_; omega,lf⟩,?_⟩
    rw [show aV.ai (some (B,d))=[.flat false nb 6 gb] from by rw [gj,nh]; rfl,show aV.val (some (B,d))=.int .i64 (bw B) from rfl,show aV.new (some (B,d))=none from rfl]
    conv=>whnf
    refine ⟨aO.aY (fun h=>h) (fun r hr=>by rw [nh]; rfl),?_⟩
    conv=>whnf
    refine ⟨_,rfl,?_⟩
    obtain ⟨e2,cA⟩:∃ z,z=bw B:=⟨_,rfl⟩
    rw [← cA]
    conv=>whnf
    by_cases J:e2=0
    ·rw [show (e2 != 0)=false from by simp [J]]
     have hk:bw A=0∧bw B=0:=⟨by rw [← he]; exact h1,by rw [← cA]; exact J⟩
     have hzA:=o5 hk.1
     have hzB:=o5 hk.2
     conv=>whnf
     obtain ⟨⟨x,z⟩,hx⟩:∃ x,gy (jZ true (aS A) (aS B))=x:=⟨_,rfl⟩
     refine ⟨(((aS A,c),(aS B,d)),(105,true)),[0,1],by rw [show ni.args (((aS A,c),(aS B,d)),(105,true))=[.slice (some ⟨0,0,none⟩) na c,.slice (some ⟨1,0,none⟩) nb d,.func (.func 105) #[] #[]] from by rw [cW,gj,← c8 A,← c8 B]; rfl]; rfl,⟨by simp,⟨by show (aS A).length≤_; rw [c8]; omega,Bn oG (by decide)⟩,by show (aS B).length≤_; rw [c8]; omega,Bn lf (by decide)⟩,?_⟩
     rw [show ni.ai (((aS A,c),(aS B,d)),(105,true))=[.flat false na 6 ga,.flat false nb 6 gb] from by rw [cW,gj,eg,nh,← c8 A,← c8 B,← Fq hk.1,← Fq hk.2]; rfl,show ni.val (((aS A,c),(aS B,d)),(105,true))=.tuple ⟨[x.v,.bool z]⟩ from by show Value.tuple ⟨[(gy (jZ true (aS A) (aS B))).1.v,.bool (gy (jZ true (aS A) (aS B))).2]⟩=_; rw [hx],show ni.new (((aS A,c),(aS B,d)),(105,true))=none from rfl]
     conv=>whnf
     refine ⟨aO.aY (fun h=>h) (fun r hr=>by rw [eg]; rfl),aO.aY (fun h=>h) (fun r hr=>by rw [nh]; rfl),?_⟩
     conv=>whnf
     refine ⟨_,rfl,?_⟩
     conv=>whnf
     have hv:=Wu hk hx
     cases z with
     | false =>
      conv=>whnf
      exact fin _ _ hv
     | true =>
      conv=>whnf
      exact fin _ _ hv
    ·rw [show (e2 != 0)=true from by simp [J]]
     conv=>whnf
     exact fin mN 1 (BO fun h=>J (by rw [cA]; exact h.2))
   ·rw [show (e != 0)=true from by simp [h1]]
    conv=>whnf
    exact fin mN 1 (BO fun h=>h1 (by rw [he]; exact h.1))
end Go.Proofs.YtlapbjdhekcipaaGreat
/- Contracts of convex: the part of a segment. -/
set_option maxRecDepth 20000
set_option maxHeartbeats 4000000
namespace Go.Proofs.YtlapbjdhekcipaaGreat
open Go Go.Ae
def Qo:Env:=En [(23,.q aV),(56,.q dp),(70,.p pj),(34,.p gf),(38,.p gC),(71,.p lR),(33,.p kB),(35,.p gX)] [(64,cc mo cF Tryz.f64)] [(118,tD)]
theorem ab6:EnvOk Tryz.prog Qo:=bF ⟨xX,DD,LI,Fu,wh,Nd,yp,M9,trivial⟩ ⟨vW,trivial⟩
theorem aaI:gB Tryz.prog Qo:=uY ⟨vK,trivial⟩
theorem Nf:c4 Tryz.prog 21 cY:=by
 refine dC ab6 aK Tryz.func21 (enters_of Tryz.func21 (by kernel_rfl) rfl) ?_ ?_ ?_ (hI:=aaI)
 ·intro ⟨i,_⟩ b hb
  cases i with
  | none=>simp [cY,PL.ai] at hb
  | some i=>simp [cY,PL.ai] at hb; rw [hb]; rfl
 ·intro i b hb; simp [cY] at hb
 intro ⟨i,⟨p,q⟩⟩ hp
 have hp:(i.list.length≤1099511627776∧∀ v∈i.list,v.sz 2048)∧p.sz 2048∧q.sz 2048:=hp
 obtain ⟨⟨hlen,aT⟩,sp,sq⟩:=hp
 have qp:=PV.cN sp (by decide)
 have qq:=PV.cN sq (by decide)
 cases i with
 | none =>
  conv=>whnf
  refine ⟨none,[],rfl,⟨Nat.zero_le _,fun v hv=>nomatch hv⟩,?_⟩
  rw [show aV.ai none=[] from rfl,show aV.val none=.int .i64 4 from rfl,show aV.new none=none from rfl]
  conv=>whnf
  refine ⟨_,rfl,?_⟩
  conv=>whnf
  exact ⟨_,rfl,.refl _⟩
 | some i =>
  obtain ⟨L,c⟩:=i
  have hlen:L.length≤1099511627776:=hlen
  have aT:∀ v∈L,PV.sz 2048 v:=aT
  obtain ⟨n,hn⟩:∃ n,n=L.length:=⟨_,rfl⟩
  obtain ⟨g,hg⟩:∃ g,g=cO L:=⟨_,rfl⟩
  obtain ⟨K,hK⟩:∃ K,K=gx cY (some (L,c),(p,q)):=⟨_,rfl⟩
  have fin:∀ (x y:RV) (z:Bool) (e:Int) (H:ax),cH L (p,q)=((x,y),z,e)→K (.tuple ⟨[x.v,y.v,.bool z,.int .i64 e]⟩) H:=fun x y z e H h=>by
   rw [hK]
   unfold gx
   rw [show cY.new (some (L,c),(p,q))=none from rfl,show cY.val (some (L,c),(p,q))=.tuple ⟨[x.v,y.v,.bool z,.int .i64 e]⟩ from by show Value.tuple ⟨[(cH L (p,q)).1.1.v,(cH L (p,q)).1.2.v,.bool (cH L (p,q)).2.1,.int .i64 (cH L (p,q)).2.2]⟩=_; rw [h]]
   exact ⟨_,rfl,.refl _⟩
  rw [show cY.ai (some (L,c),(p,q))=[.flat false n 6 g] from by rw [hn,hg]; rfl,show cY.args (some (L,c),(p,q))=[.slice (some ⟨0,0,none⟩) n c,XV.v (p,q)] from by rw [hn]; rfl,← hK]
  rw [← hn] at hlen
  conv=>whnf
  refine ⟨some (L,c),[0],by rw [show aV.args (some (L,c))=[.slice (some ⟨0,0,none⟩) n c] from by rw [hn]; rfl]; rfl,⟨by show L.length≤_; omega,aT⟩,?_⟩
  rw [show aV.ai (some (L,c))=[.flat false n 6 g] from by rw [hn,hg]; rfl,show aV.val (some (L,c))=.int .i64 (bw L) from rfl,show aV.new (some (L,c))=none from rfl]
  conv=>whnf
  refine ⟨aO.aY (fun h=>h) (fun r hr=>by rw [hg]; rfl),?_⟩
  conv=>whnf
  refine ⟨_,rfl,?_⟩
  obtain ⟨e,he⟩:∃ z,z=bw L:=⟨_,rfl⟩
  rw [← he]
  conv=>whnf
  by_cases h1:e=0
  ·rw [show (e != 0)=false from by simp [h1]]
   conv=>whnf
   refine ⟨some ([p,q],2),[6],rfl,⟨by show 2≤1099511627776; decide,(fun v hv=>by rcases List.mem_cons.1 hv with rfl | hv; exact sp; rw [List.mem_singleton.1 hv]; exact sq)⟩,?_⟩
   rw [show dp.ai (some ([p,q],2))=[.flat false 2 6 (cO [p,q])] from rfl,show dp.val (some ([p,q],2))=.bool (!dm [p,q]) from rfl,show dp.new (some ([p,q],2))=none from rfl]
   conv=>whnf
   refine ⟨x5 [p,q],?_⟩
   conv=>whnf
   refine ⟨_,rfl,?_⟩
   obtain ⟨r,hr⟩:∃ z,z=dm [p,q]:=⟨_,rfl⟩
   rw [← hr]
   conv=>whnf
   cases r with
   | true =>
    conv=>whnf
    exact fin bV bV false 1 _ (BP fun h=>O0 hr h.2.1 h.2.2)
   | false =>
    conv=>whnf
    have hk:bw L=0∧p.canon∧q.canon:=⟨by rw [← he]; exact h1,N8 hr⟩
    have hz:=o5 hk.1
    obtain ⟨o,eo,po,so,qo⟩:=fk (q:=(0:Rat)) (qb0 (Nat.le_refl 1))
    refine ⟨(0:Int),rfl,⟨by decide,by decide⟩,?_⟩
    rw [show kB.val (0:Int)=o.v from eo]
    conv=>whnf
    obtain ⟨l,el,pl,sl,ql⟩:=fk (q:=(1:Rat)) (Go.Ae.PW (Nat.le_refl 1))
    refine ⟨(1:Int),rfl,⟨by decide,by decide⟩,?_⟩
    rw [show kB.val (1:Int)=l.v from el]
    conv=>whnf
    intro yl nu fn tm df
    conv=>whnf
    refine .inl ⟨fun mm tz hz=>∃ (j:Nat) (lo:RV) (hi:RV),bu (some (.func (.yield yl) #[] #[])::some (.pointer (some ⟨9,0,none⟩))::aB 3 (some (.slice (some ⟨0,0,none⟩) n c)::some (.int .i64 n)::some (.int .i64 j)::aB 17 [])) tz∧hz=[some (.flat false n 6 g),some (.aL true 12 [XV.cells (p,q)]),some (.aL true 3 [bV.c1]),some (.aL true 3 [bV.c1]),some (.aL true 1 [[.bool false]]),some (.aL true 1 [[.int .i64 0]]),some (.aL true 6 [p.cells,q.cells]),some (.aL true 3 [lo.c1]),some (.aL true 3 [hi.c1]),some (.aL true 1 [[.slice (some ⟨0,0,none⟩) n c]]),some (.bZ (pT Tryz.f21 fn tm df))]∧n - j=mm∧((j≤n∧uc (aS L) p.p q.p j=some (lo.q,hi.q))∧(lo=RV.of lo.q∧hi=RV.of hi.q)∧(lo.sz 65536∧hi.sz 65536)∧QB lo.q 65536∧QB hi.q 65536),.inr ⟨[0,1,2,3,4,5,6,7,8,9,10],[0,1,5,6,7],?_⟩,?_⟩
    ·conv=>whnf
     intro _
     conv=>whnf
     refine ⟨_,0,o,l,(.aa (.aa (.sk 3 (.aa (.aa (.aa (.sk 17 .nil rfl)))) rfl))),rfl,rfl,?_⟩
     exact ⟨⟨Nat.zero_le _,by rw [po,pl]; rfl⟩,⟨by rw [po]; exact (RV.k9 eo).symm,by rw [pl]; exact (RV.k9 el).symm⟩,⟨RV.aR so (by decide),RV.aR sl (by decide)⟩,qo.mono (by decide),ql.mono (by decide)⟩
    rintro mm aQ _ ⟨j,lo,hi,aq,rfl,rfl,⟨⟨hj,hU⟩,⟨mq,mr⟩,⟨lF,mu⟩,qM,qN⟩⟩
    obtain ⟨az,rfl⟩:∃ az:Nat→Value,aQ=.func (.yield yl) #[] #[]::.pointer (some ⟨9,0,none⟩)::zs az 2 3 (.slice (some ⟨0,0,none⟩) n c::.int .i64 n::.int .i64 j::zs az 8 17 []):=bI aq
    clear aq
    conv=>whnf
    refine aF (fun h3=>?_) (fun h3=>?_)
    ·have h3:j < n:=by
      have:=of_decide_eq_true h3
      omega
     have e7:IntKind.i64.wrap ((j:Int)+1)=((j+1:Nat):Int):=by rw [aw (by omega) (by omega)]; rfl
     obtain ⟨a,b,ra,rb,⟨ma,mb⟩,fI,b6,_,_⟩:=o6 hn h3
     have sa:=aT a ma
     have sb:=aT b mb
     have qa:=PV.cN sa (by decide)
     have qb:=PV.cN sb (by decide)
     have cj:=jT h3 (by omega)
     obtain ⟨u,hu⟩:∃ u,u=ba n j:=⟨_,rfl⟩
     rw [← hu] at cj b6 rb
     rw [← hg] at ra rb
     conv=>whnf
     refine ⟨⟨by omega,by omega⟩,?_⟩
     simp only [toNat_cast,ar,Nat.zero_add]
     conv=>whnf
     refine ⟨by show j < n; omega,?_⟩
     conv=>whnf
     rw [ra]
     conv=>whnf
     refine .inl ⟨10,[[],[],[],[],[3],[],[5],[3,4,5,6],[2,3,4,5,6,7],[2,3,4,5,6,7,8],[0,1,2,3,4,5,6,7,8,9],[0,1,2,3,4,5,6,7,8,9,10]],by kernel_rfl,?_⟩
     conv=>whnf
     rw [show decide ((n:Int)≠0)=true from decide_eq_true (by omega)]
     conv=>whnf
     rw [cj]
     refine ⟨⟨by omega,by omega⟩,?_⟩
     simp only [toNat_cast,ar,Nat.zero_add]
     conv=>whnf
     refine ⟨by show u < n; omega,?_⟩
     conv=>whnf
     rw [rb]
     conv=>whnf
     refine ⟨rfl,?_⟩
     conv=>whnf
     refine ⟨rfl,?_⟩
     conv=>whnf
     refine ⟨rfl,?_⟩
     conv=>whnf
     refine .inl ⟨12,[[],[],[],[2],[0,1,2,3],[],[],[],[7],[0,1,2,3,4,5,6,7,8],[],[],[0,1,2,3,4,5,6,7,8,9,10,11],[0,1,2,3,4,5,6,7,8,9,10,11,12]],by kernel_rfl,?_⟩
     conv=>whnf
     obtain ⟨x,ex,px,sx,qx⟩:=fk (wT qa qb qp)
     refine ⟨(a,b,p),rfl,⟨PV.aR sa (by decide),PV.aR sb (by decide),PV.aR sp (by decide)⟩,?_⟩
     rw [show pj.val (a,b,p)=x.v from ex]
     conv=>whnf
     obtain ⟨y,ey,py,sy,qy⟩:=fk (wT qa qb qq)
     refine ⟨(a,b,q),rfl,⟨PV.aR sa (by decide),PV.aR sb (by decide),PV.aR sq (by decide)⟩,?_⟩
     rw [show pj.val (a,b,q)=y.v from ey]
     conv=>whnf
     have an:=SF hU fI px py
     refine .inl ⟨7,[[],[0],[0,1],[],[0,1,3],[0,1,3,4],[0,1,2,3,4],[0,1,2,3,4,5,6]],by kernel_rfl,?_⟩
     conv=>whnf
     obtain ⟨zx,Jf,Dk⟩:=c9 (aU x.q 0)
     refine ⟨x,rfl,RV.bC sx (by decide),?_⟩
     rw [show gf.val x=.int .i64 zx from Jf]
     conv=>whnf
     obtain ⟨zy,ezy,pzy⟩:=c9 (aU y.q 0)
     refine ⟨y,rfl,RV.bC sy (by decide),?_⟩
     rw [show gf.val y=.int .i64 zy from ezy]
     conv=>whnf
     have cx:zx > 0↔0 < x.q:=by rw [Dk]; exact n8
     have cy:zy > 0↔0 < y.q:=by rw [pzy]; exact n8
     by_cases hx:zx > 0
     ·rw [show decide (zx > 0)=true from decide_eq_true hx]
      have hx:=cx.1 hx
      by_cases hy:zy > 0
      ·rw [show decide (zy > 0)=true from decide_eq_true hy]
       have hy:=cy.1 hy
       rw [if_neg (fun e=>Rat.not_lt.2 e.1 hx),if_pos ⟨hx,hy⟩] at an
       conv=>whnf
       refine ⟨rfl,?_⟩
       conv=>whnf
       rw [e7]
       refine .inr ⟨[0,1,2,3,4,5,6,7,8,9,10],[0,1,5,6,7],?_⟩
       conv=>whnf
       intro _
       conv=>whnf
       refine ⟨_,?_,j+1,lo,hi,(.aa (.aa (.sk 3 (.aa (.aa (.aa (.sk 17 .nil rfl)))) rfl))),rfl,rfl,?_⟩
       ·omega
       ·exact ⟨⟨by omega,an⟩,⟨mq,mr⟩,⟨lF,mu⟩,qM,qN⟩
      ·rw [show decide (zy > 0)=false from decide_eq_false hy]
       have hy:¬ 0 < y.q:=fun e=>hy (cy.2 e)
       rw [if_neg (fun e=>Rat.not_lt.2 e.1 hx),if_neg (fun e=>hy e.2),if_neg hy] at an
       conv=>whnf
       refine .inr (.inr (.inl ⟨9,1,[[],[],[],[1,2],[0,1,2,3],[0,1,2,3,4],[0,1,2,3,4,5],[0,1,2,3,4,5],[],[0,1,2,3,4,5,6,8],[0,1,2,3,4,5,6,7,8,9]],[7],by kernel_rfl,?_⟩))
       conv=>whnf
       obtain ⟨d,ed,pd,sd,qd⟩:=fk (QB.sub qx qy)
       refine ⟨(x,y),rfl,⟨RV.bC sx (by decide),RV.bC sy (by decide)⟩,?_⟩
       rw [show gC.val (x,y)=d.v from ed]
       conv=>whnf
       obtain ⟨t,et,pt,st,qt⟩:=fk (QB.div qx qd (by decide))
       obtain ⟨e3,zY,Qp⟩:=c9 (if d.q=0 then 10 else 0)
       refine ⟨(x,d),rfl,⟨RV.bC sx (by decide),RV.bC sd (by decide)⟩,?_⟩
       rw [show lR.val (x,d)=.tuple ⟨[t.v,.int .i64 e3]⟩ from by rw [← et,← zY]; rfl]
       conv=>whnf
       have ct:=(RV.k9 et).symm
       rw [← pt] at ct
       rw [pd] at pt
       rw [← pt] at an
       obtain ⟨z,ez,pz⟩:=c9 (aU t.q hi.q)
       refine ⟨(t,hi),rfl,⟨RV.bC st (by decide),RV.bC mu (by decide)⟩,?_⟩
       rw [show gX.val (t,hi)=.int .i64 z from ez]
       conv=>whnf
       have cz:z < 0↔t.q < hi.q:=by rw [pz]; exact xT
       by_cases h5:z < 0
       ·rw [show decide (z < 0)=true from decide_eq_true h5]
        conv=>whnf
        refine ⟨rfl,?_⟩
        conv=>whnf
        rw [e7]
        refine .inr ⟨[0,1,2,3,4,5,6,7,8,9,10],[0,1,5,6,7],?_⟩
        conv=>whnf
        intro _
        conv=>whnf
        refine ⟨_,?_,j+1,lo,t,(.aa (.aa (.sk 3 (.aa (.aa (.aa (.sk 17 .nil rfl)))) rfl))),rfl,rfl,?_⟩
        ·omega
        ·exact ⟨⟨by omega,by rw [an]; unfold jC; rw [if_pos (cz.1 h5)]⟩,⟨mq,ct⟩,⟨lF,RV.aR st (by decide)⟩,qM,qt.mono (by decide)⟩
       ·rw [show decide (z < 0)=false from decide_eq_false h5]
        conv=>whnf
        refine ⟨rfl,?_⟩
        conv=>whnf
        rw [e7]
        refine .inr ⟨[0,1,2,3,4,5,6,7,8,9,10],[0,1,5,6,7],?_⟩
        conv=>whnf
        intro _
        conv=>whnf
        refine ⟨_,?_,j+1,lo,hi,(.aa (.aa (.sk 3 (.aa (.aa (.aa (.sk 17 .nil rfl)))) rfl))),rfl,rfl,?_⟩
        ·omega
        ·exact ⟨⟨by omega,by rw [an]; unfold jC; rw [if_neg (fun e=>h5 (cz.2 e))]⟩,⟨mq,mr⟩,⟨lF,mu⟩,qM,qN⟩
     ·rw [show decide (zx > 0)=false from decide_eq_false hx]
      have hx:¬ 0 < x.q:=fun e=>hx (cx.2 e)
      by_cases hy:zy > 0
      ·rw [show decide (zy > 0)=true from decide_eq_true hy]
       have hy:=cy.1 hy
       rw [if_neg (fun e=>Rat.not_lt.2 e.2 hy),if_neg (fun e=>hx e.1),if_pos hy] at an
       conv=>whnf
       refine .inr (.inr (.inl ⟨9,1,[[],[],[],[1,2],[0,1,2,3],[0,1,2,3,4],[0,1,2,3,4,5],[0,1,2,3,4,5],[],[0,1,2,3,4,5,6,8],[0,1,2,3,4,5,6,7,8,9]],[7],by kernel_rfl,?_⟩))
       conv=>whnf
       obtain ⟨d,ed,pd,sd,qd⟩:=fk (QB.sub qx qy)
       refine ⟨(x,y),rfl,⟨RV.bC sx (by decide),RV.bC sy (by decide)⟩,?_⟩
       rw [show gC.val (x,y)=d.v from ed]
       conv=>whnf
       obtain ⟨t,et,pt,st,qt⟩:=fk (QB.div qx qd (by decide))
       obtain ⟨e3,zY,Qp⟩:=c9 (if d.q=0 then 10 else 0)
       refine ⟨(x,d),rfl,⟨RV.bC sx (by decide),RV.bC sd (by decide)⟩,?_⟩
       rw [show lR.val (x,d)=.tuple ⟨[t.v,.int .i64 e3]⟩ from by rw [← et,← zY]; rfl]
       conv=>whnf
       have ct:=(RV.k9 et).symm
       rw [← pt] at ct
       rw [pd] at pt
       rw [← pt] at an
       obtain ⟨z,ez,pz⟩:=c9 (aU t.q lo.q)
       refine ⟨(t,lo),rfl,⟨RV.bC st (by decide),RV.bC lF (by decide)⟩,?_⟩
       rw [show gX.val (t,lo)=.int .i64 z from ez]
       conv=>whnf
       have cz:z > 0↔lo.q < t.q:=by rw [pz]; exact n8
       by_cases h5:z > 0
       ·rw [show decide (z > 0)=true from decide_eq_true h5]
        conv=>whnf
        refine ⟨rfl,?_⟩
        conv=>whnf
        rw [e7]
        refine .inr ⟨[0,1,2,3,4,5,6,7,8,9,10],[0,1,5,6,7],?_⟩
        conv=>whnf
        intro _
        conv=>whnf
        refine ⟨_,?_,j+1,t,hi,(.aa (.aa (.sk 3 (.aa (.aa (.aa (.sk 17 .nil rfl)))) rfl))),rfl,rfl,?_⟩
        ·omega
        ·exact ⟨⟨by omega,by rw [an]; unfold jB; rw [if_pos (cz.1 h5)]⟩,⟨ct,mr⟩,⟨RV.aR st (by decide),mu⟩,qt.mono (by decide),qN⟩
       ·rw [show decide (z > 0)=false from decide_eq_false h5]
        conv=>whnf
        refine ⟨rfl,?_⟩
        conv=>whnf
        rw [e7]
        refine .inr ⟨[0,1,2,3,4,5,6,7,8,9,10],[0,1,5,6,7],?_⟩
        conv=>whnf
        intro _
        conv=>whnf
        refine ⟨_,?_,j+1,lo,hi,(.aa (.aa (.sk 3 (.aa (.aa (.aa (.sk 17 .nil rfl)))) rfl))),rfl,rfl,?_⟩
        ·omega
        ·exact ⟨⟨by omega,by rw [an]; unfold jB; rw [if_neg (fun e=>h5 (cz.2 e))]⟩,⟨mq,mr⟩,⟨lF,mu⟩,qM,qN⟩
      ·rw [show decide (zy > 0)=false from decide_eq_false hy]
       have hy:¬ 0 < y.q:=fun e=>hy (cy.2 e)
       rw [if_pos ⟨Rat.not_lt.1 hx,Rat.not_lt.1 hy⟩] at an
       conv=>whnf
       refine ⟨rfl,?_⟩
       conv=>whnf
       exact fin bV bV false 0 _ (F0 hk (SG an))
    ·have h3:j=n:=by
      have:=of_decide_eq_false h3
      omega
     subst h3
     have hE:=TR (a:=p.p) (b:=q.p) (show j=(aS L).length by rw [c8]; exact hn)
     rw [hU] at hE
     conv=>whnf
     obtain ⟨z,ez,pz⟩:=c9 (aU lo.q hi.q)
     refine ⟨(lo,hi),rfl,⟨RV.bC lF (by decide),RV.bC mu (by decide)⟩,?_⟩
     rw [show gX.val (lo,hi)=.int .i64 z from ez]
     conv=>whnf
     by_cases h5:hi.q≤lo.q
     ·rw [show decide (z ≥ 0)=true from decide_eq_true (by rw [pz]; exact oc.2 h5)]
      conv=>whnf
      exact fin bV bV false 0 _ (F0 hk (hE.symm.trans (Mn h5)))
     ·rw [show decide (z ≥ 0)=false from decide_eq_false (by rw [pz]; exact fun e=>h5 (oc.1 e))]
      conv=>whnf
      have dV:cH L (p,q)=((lo,hi),true,0):=Ww hk (hE.symm.trans (Mo h5)) mq mr
      refine .inr (.inl ⟨(.br 0 (.br 1 (.br 2 (.br 3 (.br 4 (.br 5 .leaf .leaf) .leaf) .leaf) .leaf) (.br 2 (.br 1 (.br 3 (.br 4 (.br 5 .leaf .leaf) .leaf) .leaf) .leaf) .leaf)) (.br 1 (.br 0 (.br 2 (.br 3 (.br 4 (.br 5 .leaf .leaf) .leaf) .leaf) .leaf) .leaf) .leaf)),by kernel_rfl,?_⟩)
      repeat' ((conv=>whnf); first | exact True.intro | refine And.intro ?_ ?_)
      all_goals conv=>whnf
      all_goals exact fin lo hi true 0 _ dV
  ·rw [show (e != 0)=true from by simp [h1]]
   conv=>whnf
   exact fin bV bV false 1 _ (BP fun h=>h1 (by rw [he]; exact h.1))
end Go.Proofs.YtlapbjdhekcipaaGreat
/- Contracts of line. -/
set_option maxRecDepth 20000
set_option maxHeartbeats 1000000
namespace Go.Proofs.YtlapbjdhekcipaaGreat
open Go Go.Ae
end Go.Proofs.YtlapbjdhekcipaaGreat
/- Contracts of the reference rationals: signs, quotients. -/
set_option maxRecDepth 20000
set_option maxHeartbeats 1000000
namespace Go.Proofs.YtlapbjdhekcipaaGreat
open Go Go.Ae
def Eqs:Env:=En [(128,.p gX),(157,.p mE),(156,.p kt)]
theorem Oj:EnvOk Tryz.prog Eqs:=bF ⟨A9,Mv,Mx,trivial⟩ trivial
theorem LJ:aZ Tryz.prog 123 gf:=by
 refine bf Oj aK Tryz.func123 (enters_of Tryz.func123 (by kernel_rfl) rfl) (fun _=>rfl) (fun _=>rfl) ?_
 intro (r:RV) hp
 have hp:r.ok:=hp
 obtain ⟨x,hx⟩:∃ x,x=aU r.q 0:=⟨_,rfl⟩
 conv=>whnf
 refine ⟨(r,bV),rfl,⟨hp,RV.bC (q9 0) (by decide)⟩,?_⟩
 rw [show gX.val (r,bV)=.int .i64 x from by rw [hx]; show Value.int .i64 (aU r.q bV.q)=_; rw [FQ]]
 conv=>whnf
 show Value.int .i64 x=Value.int .i64 (aU r.q 0)
 rw [hx]
theorem Yu:aZ Tryz.prog 124 lR:=by
 refine bf Oj aK Tryz.func124 (enters_of Tryz.func124 (by kernel_rfl) rfl) (fun _=>rfl) (fun _=>rfl) ?_
 intro ⟨a,b⟩ hp
 have hp:a.ok∧b.ok:=hp
 obtain ⟨B,hB⟩:∃ B,B=decide (b.n < 0):=⟨_,rfl⟩
 obtain ⟨N,hN⟩:∃ N,N=b.n.natAbs:=⟨_,rfl⟩
 obtain ⟨D,hD⟩:∃ D,D=b.d:=⟨_,rfl⟩
 obtain ⟨w,hw⟩:∃ w,w=a.q / b.q:=⟨_,rfl⟩
 obtain ⟨e,he⟩:∃ e:Int,e=if b.q=0 then 10 else 0:=⟨_,rfl⟩
 have dV:lR.val (a,b)=.tuple ⟨[(RV.of w).v,.int .i64 e]⟩:=by rw [hw,he]; rfl
 have hv:mE.val b=.tuple ⟨[.agg ⟨[.bool B,.string (nb N)]⟩,.agg ⟨[.bool false,.string (nb D)]⟩]⟩:=by
  show Value.tuple ⟨[aD b.n,aD ((b.d:Nat):Int)]⟩=_
  rw [hB,hN,hD,sR (n:=((b.d:Nat):Int)) (by omega),Int.natAbs_natCast]; rfl
 have hi:yW b=(B,nb D,nb N):=by rw [hB,hD,hN]; rfl
 have hz:=KG b
 have xj:=Y7 hp.2
 obtain ⟨nd,jH⟩:∃ nd,nd=nb D:=⟨_,rfl⟩
 obtain ⟨nn,dZ⟩:∃ nn,nn=nb N:=⟨_,rfl⟩
 rw [← jH,← dZ] at hv
 conv=>whnf
 refine ⟨b,rfl,hp.2,?_⟩
 rw [hv]
 conv=>whnf
 by_cases h0:N=0
 ·have gJ:b.q=0:=hz.2 (by omega)
  rw [show (nn.toList == (⟨#[]⟩:ByteArray).toList)=true from by
   have:=tc h0
   rw [← dZ] at this
   simpa using this]
  conv=>whnf
  rw [dV,he,if_pos gJ,hw,gJ,show a.q / 0=0 from by rw [Rat.div_def]; simp]
  show Value.tuple ⟨[bV.v,.int .i64 10]⟩=Value.tuple ⟨[bD 0,.int .i64 10]⟩
  rw [O1]
 ·rw [show (nn.toList == (⟨#[]⟩:ByteArray).toList)=false from by
   have:=tw h0
   rw [← dZ] at this
   simpa using this]
  have Qq:b.n≠0:=by omega
  rw [hi,← jH,← dZ] at xj
  conv=>whnf
  refine ⟨(a,(B,nd,nn)),rfl,⟨hp.1,xj⟩,?_⟩
  rw [show kt.val (a,(B,nd,nn))=(RV.of w).v from by
   show bD (a.q*RV.q (B,nd,nn))=bD w
   rw [jH,dZ,← hi,abm b Qq,hw,Rat.div_def]]
  conv=>whnf
  rw [dV,he,if_neg (fun h=>Qq (hz.1 h))]
  rfl
end Go.Proofs.YtlapbjdhekcipaaGreat
/- Contracts of the reference lines. -/
set_option maxRecDepth 20000
set_option maxHeartbeats 1000000
namespace Go.Proofs.YtlapbjdhekcipaaGreat
open Go Go.Ae
end Go.Proofs.YtlapbjdhekcipaaGreat
/- The reference's cutting of a polygon. -/
set_option maxRecDepth 20000
set_option maxHeartbeats 4000000
namespace Go.Proofs.YtlapbjdhekcipaaGreat
open Go Go.Ae
end Go.Proofs.YtlapbjdhekcipaaGreat
/- The reference's ring. -/
set_option maxRecDepth 20000
set_option maxHeartbeats 4000000
namespace Go.Proofs.YtlapbjdhekcipaaGreat
open Go Go.Ae
end Go.Proofs.YtlapbjdhekcipaaGreat
/- Contracts of the reference of convex: rings, points inside. -/
set_option maxRecDepth 20000
set_option maxHeartbeats 4000000
namespace Go.Proofs.YtlapbjdhekcipaaGreat
open Go Go.Ae
def Er0:Env:=En [(121,.p iI),(122,.p mA),(123,.p gf)]
theorem ab7:EnvOk Tryz.prog Er0:=bF ⟨My,KV,LJ,trivial⟩ trivial
theorem KX:aZ Tryz.prog 77 kK:=by
 refine bf ab7 aK Tryz.func77 (enters_of Tryz.func77 (by kernel_rfl) rfl) (fun _=>rfl) (fun _=>rfl) ?_
 intro ⟨a,b,c⟩ hp
 have hp:a.sz 1048576∧b.sz 1048576∧c.sz 1048576:=hp
 obtain ⟨sa,sb,sc⟩:=hp
 have qa:=PV.cN sa (by decide)
 have qb:=PV.cN sb (by decide)
 have qc:=PV.cN sc (by decide)
 conv=>whnf
 refine .inl ⟨5,[[],[],[0,1],[],[],[0,1,2,3,4],[0,1,2,3,4,5],[0,1,2,3,4,5,6],[0,1,2,3,4,5,6,7]],by kernel_rfl,?_⟩
 conv=>whnf
 obtain ⟨u,eu,pu,su,qu⟩:=nv (lP qb qa)
 refine ⟨(b,a),rfl,⟨PV.aR sb (by decide),PV.aR sa (by decide)⟩,?_⟩
 rw [show iI.val (b,a)=u.v from eu]
 conv=>whnf
 obtain ⟨v,ev,pv,sv,qv⟩:=nv (lP qc qa)
 refine ⟨(c,a),rfl,⟨PV.aR sc (by decide),PV.aR sa (by decide)⟩,?_⟩
 rw [show iI.val (c,a)=v.v from ev]
 conv=>whnf
 obtain ⟨w,ew,pw,sw,qw⟩:=fk (tg qu qv)
 refine ⟨(u,v),rfl,⟨PV.aR su (by decide),PV.aR sv (by decide)⟩,?_⟩
 rw [show mA.val (u,v)=w.v from ew]
 conv=>whnf
 obtain ⟨n,en,pn⟩:=c9 (aU w.q 0)
 refine ⟨w,rfl,RV.bC sw (by decide),?_⟩
 rw [show gf.val w=.int .i64 n from en]
 conv=>whnf
 show Value.int .i64 n=Value.int .i64 (aU (au a.p b.p c.p) 0)
 rw [pn,pw,pu,pv]
 rfl
def Er1:Env:=En [(68,.p jr)]
theorem ab8:EnvOk Tryz.prog Er1:=bF ⟨KW,trivial⟩ trivial
theorem KY:c4 Tryz.prog 61 dp:=by
 refine dC ab8 aK Tryz.func61 (enters_of Tryz.func61 (by kernel_rfl) rfl) ?_ ?_ ?_
 ·intro i b hb
  cases i with
  | none=>simp [dp,PL.ai] at hb
  | some i=>simp [dp,PL.ai] at hb; rw [hb]; rfl
 ·intro i b hb; simp [dp] at hb
 intro i hp
 have hp:i.list.length≤1099511627776∧∀ v∈i.list,v.sz 2048:=hp
 obtain ⟨hlen,aT⟩:=hp
 cases i with
 | none =>
  conv=>whnf
  refine .inr ⟨1,?_⟩
  conv=>whnf
  exact ⟨.bool true,rfl,.refl _⟩
 | some i =>
  obtain ⟨L,c⟩:=i
  have hlen:L.length≤1099511627776:=hlen
  have aT:∀ v∈L,PV.sz 2048 v:=aT
  obtain ⟨n,hn⟩:∃ n,n=L.length:=⟨_,rfl⟩
  obtain ⟨g,hg⟩:∃ g,g=cO L:=⟨_,rfl⟩
  have fin:∀ z:Bool,z=!dm L→∃ v',cL (List.range 1) 3 (dp.val (some (L,c)))=some v'∧eZ (.bool z) v':=fun z h=>⟨.bool z,by rw [h]; rfl,.refl _⟩
  rw [show dp.ai (some (L,c))=[.flat false n 6 g] from by rw [hn,hg]; rfl,show dp.args (some (L,c))=[.slice (some ⟨0,0,none⟩) n c] from by rw [hn]; rfl]
  rw [← hn] at hlen
  conv=>whnf
  refine .inl ⟨fun mm tz hz=>∃ (i:Nat),bu (some (.slice (some ⟨0,0,none⟩) n c)::aB 2 (some (.int .i64 i)::aB 12 [])) tz∧hz=[some (.flat false n 6 g)]∧n - i=mm∧(i≤n∧ub L i),.inr ⟨[0],[0,3],?_⟩,?_⟩
  ·conv=>whnf
   intro _
   conv=>whnf
   refine ⟨_,0,(.aa (.sk 2 (.aa (.sk 12 .nil rfl)) rfl)),rfl,rfl,?_⟩
   exact ⟨Nat.zero_le _,J9 _⟩
  rintro mm aQ _ ⟨i,aq,rfl,rfl,⟨hi,hU⟩⟩
  obtain ⟨az,rfl⟩:∃ az:Nat→Value,aQ=.slice (some ⟨0,0,none⟩) n c::zs az 1 2 (.int .i64 i::zs az 4 12 []):=bI aq
  clear aq
  conv=>whnf
  refine aF (fun h3=>?_) (fun h3=>?_)
  ·have h3:i < n:=by
    have:=of_decide_eq_true h3
    omega
   have e7:IntKind.i64.wrap ((i:Int)+1)=((i+1:Nat):Int):=by rw [aw (by omega) (by omega)]; rfl
   obtain ⟨m,kH,mi,aX⟩:=qV (l:=L) (i:=i) (by omega)
   rw [← hg] at aX
   conv=>whnf
   refine ⟨⟨by omega,by omega⟩,?_⟩
   simp only [toNat_cast,ar,Nat.zero_add]
   conv=>whnf
   refine ⟨by show i < n; omega,?_⟩
   conv=>whnf
   rw [aX]
   conv=>whnf
   refine ⟨m,rfl,PV.aR (aT m mi) (by decide),?_⟩
   by_cases h4:m.canon
   ·rw [show jr.val m=.int .i64 0 from congrArg (Value.int .i64) (if_pos h4)]
    conv=>whnf
    rw [e7]
    refine .inr ⟨[0],[0,3],?_⟩
    conv=>whnf
    intro _
    conv=>whnf
    refine ⟨_,?_,i+1,(.aa (.sk 2 (.aa (.sk 12 .nil rfl)) rfl)),rfl,rfl,?_⟩
    ·omega
    ·exact ⟨by omega,KO hU kH h4⟩
   ·rw [show jr.val m=.int .i64 1 from congrArg (Value.int .i64) (if_neg h4)]
    conv=>whnf
    exact fin false (by rw [show dm L=true from List.any_eq_true.2 ⟨m,mi,decide_eq_true h4⟩]; rfl)
  ·have h3:i=n:=by
    have:=of_decide_eq_false h3
    omega
   subst h3
   conv=>whnf
   exact fin true (by rw [Lx (by rw [← hn]; exact hU)]; rfl)
def Er2:Env:=En [(61,.q dp),(76,.p ox),(77,.p kK)]
theorem ab9:EnvOk Tryz.prog Er2:=bF ⟨KY,VC,KX,trivial⟩ trivial
theorem D8:c4 Tryz.prog 24 aV:=by
 refine dC ab9 aK Tryz.func24 (enters_of Tryz.func24 (by kernel_rfl) rfl) ?_ ?_ ?_
 ·intro i b hb
  cases i with
  | none=>simp [aV,PL.ai] at hb
  | some i=>simp [aV,PL.ai] at hb; rw [hb]; rfl
 ·intro i b hb; simp [aV] at hb
 intro i hp
 have hp:i.list.length≤1099511627776∧∀ v∈i.list,v.sz 2048:=hp
 obtain ⟨hlen,aT⟩:=hp
 cases i with
 | none =>
  conv=>whnf
  exact ⟨.int .i64 4,rfl,.refl _⟩
 | some i =>
  obtain ⟨L,c⟩:=i
  have hlen:L.length≤1099511627776:=hlen
  have aT:∀ v∈L,PV.sz 2048 v:=aT
  obtain ⟨n,hn⟩:∃ n,n=L.length:=⟨_,rfl⟩
  obtain ⟨g,hg⟩:∃ g,g=cO L:=⟨_,rfl⟩
  have fin:∀ z:Int,bw L=z→∃ v',cL (List.range 1) 3 (aV.val (some (L,c)))=some v'∧eZ (.int .i64 z) v':=fun z h=>⟨.int .i64 z,by rw [← h]; rfl,.refl _⟩
  rw [show aV.ai (some (L,c))=[.flat false n 6 g] from by rw [hn,hg]; rfl,show aV.args (some (L,c))=[.slice (some ⟨0,0,none⟩) n c] from by rw [hn]; rfl]
  rw [← hn] at hlen
  conv=>whnf
  by_cases h1:n < 3
  ·rw [show decide ((n:Int) < 3)=true from decide_eq_true (by omega)]
   conv=>whnf
   exact fin 4 (Bo (.inl (by omega)))
  rw [show decide ((n:Int) < 3)=false from decide_eq_false (by omega)]
  conv=>whnf
  by_cases J:64 < n
  ·rw [show decide ((n:Int) > 64)=true from decide_eq_true (by omega)]
   conv=>whnf
   exact fin 4 (Bo (.inr (by omega)))
  rw [show decide ((n:Int) > 64)=false from decide_eq_false (by omega)]
  conv=>whnf
  obtain ⟨z,hz⟩:∃ z,z=dm L:=⟨_,rfl⟩
  refine ⟨some (L,c),[0],by rw [show dp.args (some (L,c))=[.slice (some ⟨0,0,none⟩) n c] from by rw [hn]; rfl]; rfl,⟨by show L.length≤_; omega,aT⟩,?_⟩
  rw [show dp.ai (some (L,c))=[.flat false n 6 g] from by rw [hn,hg]; rfl,show dp.val (some (L,c))=.bool (!z) from by rw [hz]; rfl,show dp.new (some (L,c))=none from rfl]
  conv=>whnf
  refine ⟨aO.aY (fun h=>h) (fun r hr=>by rw [hg]; rfl),?_⟩
  conv=>whnf
  refine ⟨_,rfl,?_⟩
  conv=>whnf
  cases z with
  | true =>
   conv=>whnf
   exact fin 1 (MZ (by omega) hz.symm)
  | false =>
   conv=>whnf
   have pZ:dm L=false:=hz.symm
   have h0:=qY (L:=L) (k:=0) (by omega)
   have so:=aT _ (oe (L:=L) (k:=0) (by omega))
   have po:=jU (L:=L) (k:=0) (by omega)
   obtain ⟨o,ho⟩:∃ o,o=iM L 0:=⟨_,rfl⟩
   rw [← ho] at h0 so po
   rw [← hg] at h0
   have qo:=PV.cN so (by decide)
   have y8:g (Int.toNat 0)=o.cells:=h0
   refine .inl ⟨fun mm tz hz=>∃ (i:Nat),bu (some (.slice (some ⟨0,0,none⟩) n c)::aB 2 (some (.int .i64 n)::some (.int .i64 ((i+1:Nat):Int))::aB 79 [])) tz∧hz=[some (.flat false n 6 g)]∧n - i=mm∧(i+1≤n∧wS (aS L) i),.inr ⟨[0],[0,3,4],?_⟩,?_⟩
   ·conv=>whnf
    intro _
    conv=>whnf
    refine ⟨_,0,(.aa (.sk 2 (.aa (.aa (.sk 79 .nil rfl))) rfl)),rfl,rfl,?_⟩
    exact ⟨by omega,Kb _⟩
   rintro mm aQ _ ⟨i,aq,rfl,rfl,⟨hi,hU⟩⟩
   obtain ⟨az,rfl⟩:∃ az:Nat→Value,aQ=.slice (some ⟨0,0,none⟩) n c::zs az 1 2 (.int .i64 n::.int .i64 ((i+1:Nat):Int)::zs az 5 79 []):=bI aq
   clear aq
   conv=>whnf
   refine aF (fun h3=>?_) (fun h3=>?_)
   ·have h3:i+1 < n:=by
     have:=of_decide_eq_true h3
     omega
    have e7:IntKind.i64.wrap (((i+1:Nat):Int)+1)=((i+1+1:Nat):Int):=by rw [aw (by omega) (by omega)]; rfl
    have ra:=qY (L:=L) (k:=i+1) (by omega)
    have sa:=aT _ (oe (L:=L) (k:=i+1) (by omega))
    have pa:=jU (L:=L) (k:=i+1) (by omega)
    obtain ⟨a,ha⟩:∃ o,o=iM L (i+1):=⟨_,rfl⟩
    rw [← ha] at ra sa pa
    rw [← hg] at ra
    have qa:=PV.cN sa (by decide)
    obtain ⟨k,hk⟩:∃ k,k=i+1:=⟨_,rfl⟩
    rw [← hk] at ra e7 h3 ⊢
    conv=>whnf
    refine .inl ⟨7,[[],[0],[0,1],[],[],[3,4],[3,4,5],[0,1,2,3,4,5,6],[0,1,2,3,4,5,6,7]],by kernel_rfl,?_⟩
    conv=>whnf
    refine ⟨⟨by omega,by omega⟩,?_⟩
    simp only [toNat_cast,ar,Nat.zero_add]
    conv=>whnf
    refine ⟨by show 0 < n; omega,?_⟩
    conv=>whnf
    rw [y8]
    conv=>whnf
    refine ⟨⟨by omega,by omega⟩,?_⟩
    simp only [toNat_cast,ar,Nat.zero_add]
    conv=>whnf
    refine ⟨by show k < n; omega,?_⟩
    conv=>whnf
    rw [ra]
    conv=>whnf
    obtain ⟨z,ez,pz⟩:=c9 (fm o.p a.p)
    refine ⟨(o,a),rfl,⟨PV.aR so (by decide),PV.aR sa (by decide)⟩,?_⟩
    rw [show ox.val (o,a)=.int .i64 z from ez]
    conv=>whnf
    rw [pa,po] at pz
    by_cases h4:iz (aC (aS L) 0) (aC (aS L) (i+1))
    ·have:=x6.2 h4
     rw [show decide (z ≥ 0)=false from decide_eq_false (by omega)]
     conv=>whnf
     rw [e7,hk]
     refine .inr ⟨[0],[0,3,4],?_⟩
     conv=>whnf
     intro _
     conv=>whnf
     refine ⟨_,?_,i+1,(.aa (.sk 2 (.aa (.aa (.sk 79 .nil rfl))) rfl)),rfl,rfl,?_⟩
     ·omega
     ·exact ⟨by omega,KQ hU h4⟩
    ·have:¬ fm (aC (aS L) 0) (aC (aS L) (i+1)) < 0:=fun e=>h4 (x6.1 e)
     rw [show decide (z ≥ 0)=true from decide_eq_true (by omega)]
     conv=>whnf
     exact fin 8 (M0 (by omega) pZ fun e=>h4 (e (i+1) (by omega) (by rw [c8]; omega)))
   ·have h3:i+1=n:=by
     have:=of_decide_eq_false h3
     omega
    have nH:=Ly hU (by rw [c8]; omega)
    have xx:3≤(aS L).length:=by rw [c8]; omega
    conv=>whnf
    skip
    refine .inl ⟨fun mm tz hz=>∃ (j:Nat),bu (some (.slice (some ⟨0,0,none⟩) n c)::aB 2 (some (.int .i64 n)::aB 1 (some (.int .i64 j)::aB 78 []))) tz∧hz=[some (.flat false n 6 g)]∧n - j=mm∧(j≤n∧∀ k,k < j→¬ oo (aS L) k),.inr ⟨[0],[0,3,5],?_⟩,?_⟩
    ·conv=>whnf
     intro _
     conv=>whnf
     refine ⟨_,0,(.aa (.sk 2 (.aa (.sk 1 (.aa (.sk 78 .nil rfl)) rfl)) rfl)),rfl,rfl,?_⟩
     exact ⟨Nat.zero_le _,fun k hk=>absurd hk (Nat.not_lt_zero k)⟩
    rintro mm aQ _ ⟨j,aq,rfl,rfl,⟨hj,hB⟩⟩
    obtain ⟨az,rfl⟩:∃ az:Nat→Value,aQ=.slice (some ⟨0,0,none⟩) n c::zs az 1 2 (.int .i64 n::zs az 4 1 (.int .i64 j::zs az 6 78 [])):=bI aq
    clear aq
    conv=>whnf
    refine aF (fun h3=>?_) (fun h3=>?_)
    ·have h3:j < n:=by
      have:=of_decide_eq_true h3
      omega
     have e7:IntKind.i64.wrap ((j:Int)+1)=((j+1:Nat):Int):=by rw [aw (by omega) (by omega)]; rfl
     obtain ⟨a,b,ra,rb,⟨ma,mb⟩,_,b6,ha,hb⟩:=o6 hn h3
     have sa:=aT a ma
     have sb:=aT b mb
     have qa:=PV.cN sa (by decide)
     have qb:=PV.cN sb (by decide)
     have Pc:=cR b6
     have rd:=qY (L:=L) (k:=ba n (ba n j)) (by omega)
     have sd:=aT _ (oe (L:=L) (k:=ba n (ba n j)) (by omega))
     have pd:=jU (L:=L) (k:=ba n (ba n j)) (by omega)
     obtain ⟨d,hd⟩:∃ o,o=iM L (ba n (ba n j)):=⟨_,rfl⟩
     rw [← hd] at rd sd pd
     have qd:=PV.cN sd (by decide)
     have pa:a.p=aC (aS L) j:=by rw [ha]; exact jU (by omega)
     have pb:b.p=aC (aS L) (ba n j):=by rw [hb]; exact jU (by omega)
     have cj:=jT h3 (by omega)
     have HP:=Y2 h3 (by omega)
     have dZ:n=(aS L).length:=by rw [c8,hn]
     have y6:oo (aS L) j↔au a.p b.p d.p≤0∨(0 < j∧j+1 < n∧au (aC (aS L) 0) (aC (aS L) j) (aC (aS L) (j+1))≤0):=by
      unfold oo
      rw [← dZ,pa,pb,pd]
     obtain ⟨u,hu⟩:∃ u,u=ba n j:=⟨_,rfl⟩
     rw [← hu] at cj b6 rb Pc HP rd
     obtain ⟨w,hw⟩:∃ w,w=ba n u:=⟨_,rfl⟩
     rw [← hw] at Pc HP rd
     rw [← hg] at ra rb rd
     conv=>whnf
     refine .inl ⟨42,[[],[],[0,1],[0,1,2],[],[],[5],[],[5,6,7],[4,5,6,7,8],[4,5,6,7,8,9],[],[],[12],[],[12,13,14],[11,12,13,14,15],[11,12,13,14,15,16],[0,1,2,3,4,5,6,7,8,9,10,11,12,13,14,15,16,17],[0,1,2,3,4,5,6,7,8,9,10,11,12,13,14,15,16,17,18],[0,1,2,3,4,5,6,7,8,9,10,11,12,13,14,15,16,17,18,19],[0,1,2,3,4,5,6,7,8,9,10,11,12,13,14,15,16,17,18,19,20],[0,1,2,3,4,5,6,7,8,9,10,11,12,13,14,15,16,17,18,19,20,21],[0,1,2,3,4,5,6,7,8,9,10,11,12,13,14,15,16,17,18,19,20,21,22],[0,1,2,3,4,5,6,7,8,9,10,11,12,13,14,15,16,17,18,19,20,21,22,23],[0,1,2,3,4,5,6,7,8,9,10,11,12,13,14,15,16,17,18,19,20,21,22,23,24],[0,1,2,3,4,5,6,7,8,9,10,11,12,13,14,15,16,17,18,19,20,21,22,23],[0,1,2,3,4,5,6,7,8,9,10,11,12,13,14,15,16,17,18,19,20,21,22,23,24,25,26],[0,1,2,3,4,5,6,7,8,9,10,11,12,13,14,15,16,17,18,19,20,21,22,23,24,25,26,27],[0,1,2,3,4,5,6,7,8,9,10,11,12,13,14,15,16,17,18,19,20,21,22,23,24,25,26,27,28],[0,1,2,3,4,5,6,7,8,9,10,11,12,13,14,15,16,17,18,19,20,21,22,23,24,25,26,27,28,29],[0,1,2,3,4,5,6,7,8,9,10,11,12,13,14,15,16,17,18,19,20,21,22,23,24,25,26,27,28,29,30],[0,1,2,3,4,5,6,7,8,9,10,11,12,13,14,15,16,17,18,19,20,21,22,23,24,25,26,27,28,29,30,31],[0,1,2,3,4,5,6,7,8,9,10,11,12,13,14,15,16,17,18,19,20,21,22,23,24,25,26,27,28,29],[0,1,2,3,4,5,6,7,8,9,10,11,12,13,14,15,16,17,18,19,20,21,22,23,24,25,26,27,28,29],[0,1,2,3,4,5,6,7,8,9,10,11,12,13,14,15,16,17,18,19,20,21,22,23,24,25,26,27,28,29,33,34],[0,1,2,3,4,5,6,7,8,9,10,11,12,13,14,15,16,17,18,19,20,21,22,23,24,25,26,27,28,29,33,34,35],[0,1,2,3,4,5,6,7,8,9,10,11,12,13,14,15,16,17,18,19,20,21,22,23,24,25,26,27,28,29],[0,1,2,3,4,5,6,7,8,9,10,11,12,13,14,15,16,17,18,19,20,21,22,23,24,25,26,27,28,29],[0,1,2,3,4,5,6,7,8,9,10,11,12,13,14,15,16,17,18,19,20,21,22,23,24,25,26,27,28,29,38],[0,1,2,3,4,5,6,7,8,9,10,11,12,13,14,15,16,17,18,19,20,21,22,23,24,25,26,27,28,29,37,38,39],[0,1,2,3,4,5,6,7,8,9,10,11,12,13,14,15,16,17,18,19,20,21,22,23,24,25,26,27,28,29,37,38,39,40],[0,1,2,3,4,5,6,7,8,9,10,11,12,13,14,15,16,17,18,19,20,21,22,23,24,25,26,27,28,29,30,31,32,33,34,35,36,37,38,39,40,41],[0,1,2,3,4,5,6,7,8,9,10,11,12,13,14,15,16,17,18,19,20,21,22,23,24,25,26,27,28,29,30,31,32,33,34,35,36,37,38,39,40,41,42],[0,1,2,3,4,5,6,7,8,9,10,11,12,13,14,15,16,17,18,19,20,21,22,23,24,25,26,27,28,29,30,31,32,33,34,35,36,37,38,39,40,41,42,43],[0,1,2,3,4,5,6,7,8,9,10,11,12,13,14,15,16,17,18,19,20,21,22,23,24,25,26,27,28,29,30,31,32,33,34,35,36,37,38,39,40,41,42,43,44]],by kernel_rfl,?_⟩
     conv=>whnf
     refine ⟨⟨by omega,by omega⟩,?_⟩
     simp only [toNat_cast,ar,Nat.zero_add]
     conv=>whnf
     refine ⟨by show j < n; omega,?_⟩
     conv=>whnf
     rw [ra]
     conv=>whnf
     rw [show decide ((n:Int)≠0)=true from decide_eq_true (by omega)]
     conv=>whnf
     rw [cj]
     refine ⟨⟨by omega,by omega⟩,?_⟩
     simp only [toNat_cast,ar,Nat.zero_add]
     conv=>whnf
     refine ⟨by show u < n; omega,?_⟩
     conv=>whnf
     rw [rb]
     conv=>whnf
     rw [show decide ((n:Int)≠0)=true from decide_eq_true (by omega)]
     conv=>whnf
     rw [HP]
     refine ⟨⟨by omega,by omega⟩,?_⟩
     simp only [toNat_cast,ar,Nat.zero_add]
     conv=>whnf
     refine ⟨by show w < n; omega,?_⟩
     conv=>whnf
     rw [rd]
     conv=>whnf
     obtain ⟨z,ez,pz⟩:=c9 (aU (au a.p b.p d.p) 0)
     refine ⟨(a,b,d),rfl,⟨PV.aR sa (by decide),PV.aR sb (by decide),PV.aR sd (by decide)⟩,?_⟩
     rw [show kK.val (a,b,d)=.int .i64 z from ez]
     conv=>whnf
     have cz:z≤0↔au a.p b.p d.p≤0:=by rw [pz]; exact x4
     by_cases h4:z≤0
     ·rw [show decide (z≤0)=true from decide_eq_true h4]
      conv=>whnf
      exact fin 15 (FY (by omega) pZ nH fun e=>(xV xx nH).1 e j (by rw [c8]; omega) (y6.2 (.inl (cz.1 h4))))
     ·rw [show decide (z≤0)=false from decide_eq_false h4]
      have next:¬ oo (aS L) j→∀ k,k < j+1→¬ oo (aS L) k:=fun hb k hk=>by
       rcases Nat.lt_or_eq_of_le (Nat.le_of_lt_succ hk) with e | e
       ·exact hB k e
       ·rw [e]; exact hb
      conv=>whnf
      by_cases h5:0 < j
      ·rw [show decide ((j:Int) > 0)=true from decide_eq_true (by omega)]
       conv=>whnf
       rw [e7]
       by_cases h6:j+1 < n
       ·rw [show decide (((j+1:Nat):Int) < (n:Int))=true from decide_eq_true (by omega)]
        have rv:=qY (L:=L) (k:=j+1) (by omega)
        have sv:=aT _ (oe (L:=L) (k:=j+1) (by omega))
        have pv:=jU (L:=L) (k:=j+1) (by omega)
        obtain ⟨v,hv⟩:∃ o,o=iM L (j+1):=⟨_,rfl⟩
        rw [← hv] at rv sv pv
        rw [← hg] at rv
        have qv:=PV.cN sv (by decide)
        obtain ⟨k,hk⟩:∃ k,k=j+1:=⟨_,rfl⟩
        rw [← hk] at rv
        conv=>whnf
        refine ⟨⟨by omega,by omega⟩,?_⟩
        simp only [toNat_cast,ar,Nat.zero_add]
        conv=>whnf
        refine ⟨by show 0 < n; omega,?_⟩
        conv=>whnf
        rw [y8]
        conv=>whnf
        refine ⟨⟨by omega,by omega⟩,?_⟩
        simp only [toNat_cast,ar,Nat.zero_add]
        conv=>whnf
        refine ⟨by show j < n; omega,?_⟩
        conv=>whnf
        rw [ra]
        conv=>whnf
        rw [e7,← hk]
        refine ⟨⟨by omega,by omega⟩,?_⟩
        simp only [toNat_cast,ar,Nat.zero_add]
        conv=>whnf
        refine ⟨by show k < n; omega,?_⟩
        conv=>whnf
        rw [rv]
        conv=>whnf
        obtain ⟨y,ey,py⟩:=c9 (aU (au o.p a.p v.p) 0)
        refine ⟨(o,a,v),rfl,⟨PV.aR so (by decide),PV.aR sa (by decide),PV.aR sv (by decide)⟩,?_⟩
        rw [show kK.val (o,a,v)=.int .i64 y from ey]
        conv=>whnf
        have cy:y≤0↔au o.p a.p v.p≤0:=by rw [py]; exact x4
        rw [pa,po,pv] at cy
        by_cases h7:y≤0
        ·rw [show decide (y≤0)=true from decide_eq_true h7]
         conv=>whnf
         exact fin 15 (FY (by omega) pZ nH fun e=>(xV xx nH).1 e j (by rw [c8]; omega) (y6.2 (.inr ⟨h5,h6,cy.1 h7⟩)))
        ·rw [show decide (y≤0)=false from decide_eq_false h7]
         conv=>whnf
         rw [e7]
         refine .inr ⟨[0],[0,3,5],?_⟩
         conv=>whnf
         intro _
         conv=>whnf
         refine ⟨_,?_,j+1,(.aa (.sk 2 (.aa (.sk 1 (.aa (.sk 78 .nil rfl)) rfl)) rfl)),rfl,rfl,?_⟩
         ·omega
         ·exact ⟨by omega,next fun e=>(y6.1 e).elim (fun e=>h4 (cz.2 e)) fun e=>h7 (cy.2 e.2.2)⟩
       ·rw [show decide (((j+1:Nat):Int) < (n:Int))=false from decide_eq_false (by omega)]
        conv=>whnf
        rw [e7]
        refine .inr ⟨[0],[0,3,5],?_⟩
        conv=>whnf
        intro _
        conv=>whnf
        refine ⟨_,?_,j+1,(.aa (.sk 2 (.aa (.sk 1 (.aa (.sk 78 .nil rfl)) rfl)) rfl)),rfl,rfl,?_⟩
        ·omega
        ·exact ⟨by omega,next fun e=>(y6.1 e).elim (fun e=>h4 (cz.2 e)) fun e=>h6 e.2.1⟩
      ·rw [show decide ((j:Int) > 0)=false from decide_eq_false (by omega)]
       conv=>whnf
       rw [e7]
       refine .inr ⟨[0],[0,3,5],?_⟩
       conv=>whnf
       intro _
       conv=>whnf
       refine ⟨_,?_,j+1,(.aa (.sk 2 (.aa (.sk 1 (.aa (.sk 78 .nil rfl)) rfl)) rfl)),rfl,rfl,?_⟩
       ·omega
       ·exact ⟨by omega,next fun e=>(y6.1 e).elim (fun e=>h4 (cz.2 e)) fun e=>h5 e.1⟩
    ·have h3:j=n:=by
      have:=of_decide_eq_false h3
      omega
     subst h3
     conv=>whnf
     exact fin 0 (Mi (by omega) pZ nH ((xV xx nH).2 fun k hk=>hB k (by rw [c8] at hk; omega)))
def Er3:Env:=En [(77,.p kK)]
theorem Ok:EnvOk Tryz.prog Er3:=bF ⟨KX,trivial⟩ trivial
theorem T8:c4 Tryz.prog 69 gg:=by
 refine dC Ok aK Tryz.func69 (enters_of Tryz.func69 (by kernel_rfl) rfl) ?_ ?_ ?_
 ·intro ⟨i,_⟩ b hb
  cases i with
  | none=>simp [gg,PL.ai] at hb
  | some i=>simp [gg,PL.ai] at hb; rw [hb]; rfl
 ·intro i b hb; simp [gg] at hb
 intro ⟨i,p⟩ hp
 have hp:(i.list.length≤1099511627776∧∀ v∈i.list,v.sz 2048)∧p.sz 2048:=hp
 obtain ⟨⟨hlen,aT⟩,sp⟩:=hp
 have qp:=PV.cN sp (by decide)
 cases i with
 | none =>
  conv=>whnf
  refine .inr ⟨1,?_⟩
  conv=>whnf
  exact ⟨.int .i64 1,rfl,.refl _⟩
 | some i =>
  obtain ⟨L,c⟩:=i
  have hlen:L.length≤1099511627776:=hlen
  have aT:∀ v∈L,PV.sz 2048 v:=aT
  obtain ⟨n,hn⟩:∃ n,n=L.length:=⟨_,rfl⟩
  obtain ⟨g,hg⟩:∃ g,g=cO L:=⟨_,rfl⟩
  have fin:∀ z:Int,z=rL (aS L) p.p→∃ v',cL (List.range 1) 3 (gg.val (some (L,c),p))=some v'∧eZ (.int .i64 z) v':=fun z h=>⟨.int .i64 z,by rw [h]; rfl,.refl _⟩
  rw [show gg.ai (some (L,c),p)=[.flat false n 6 g] from by rw [hn,hg]; rfl,show gg.args (some (L,c),p)=[.slice (some ⟨0,0,none⟩) n c,p.v] from by rw [hn]; rfl]
  rw [← hn] at hlen
  conv=>whnf
  refine .inl ⟨fun mm tz hz=>∃ (j:Nat) (o:Int),bu (some (.slice (some ⟨0,0,none⟩) n c)::aB 2 (some (.pointer (some ⟨1,0,none⟩))::aB 1 (some (.int .i64 o)::some (.int .i64 j)::aB 23 []))) tz∧hz=[some (.flat false n 6 g),some (.aL true 6 [p.cells])]∧n - j=mm∧(j≤n∧o=rC (aS L) p.p j),.inr ⟨[0,1],[0,3,5,6],?_⟩,?_⟩
  ·conv=>whnf
   intro _
   conv=>whnf
   refine ⟨_,0,1,(.aa (.sk 2 (.aa (.sk 1 (.aa (.aa (.sk 23 .nil rfl))) rfl)) rfl)),rfl,rfl,?_⟩
   exact ⟨Nat.zero_le _,rfl⟩
  rintro mm aQ _ ⟨j,o,aq,rfl,rfl,⟨hj,ho⟩⟩
  obtain ⟨az,rfl⟩:∃ az:Nat→Value,aQ=.slice (some ⟨0,0,none⟩) n c::zs az 1 2 (.pointer (some ⟨1,0,none⟩)::zs az 4 1 (.int .i64 o::.int .i64 j::zs az 7 23 [])):=bI aq
  clear aq
  conv=>whnf
  refine aF (fun h3=>?_) (fun h3=>?_)
  ·have h3:j < n:=by
    have:=of_decide_eq_true h3
    omega
   have e7:IntKind.i64.wrap ((j:Int)+1)=((j+1:Nat):Int):=by rw [aw (by omega) (by omega)]; rfl
   obtain ⟨a,b,ra,rb,⟨ma,mb⟩,fI,b6,_,_⟩:=o6 hn h3
   have sa:=aT a ma
   have sb:=aT b mb
   have qa:=PV.cN sa (by decide)
   have qb:=PV.cN sb (by decide)
   have cj:=jT h3 (by omega)
   obtain ⟨u,hu⟩:∃ u,u=ba n j:=⟨_,rfl⟩
   rw [← hu] at cj b6 rb
   rw [← hg] at ra rb
   have an:=Ka (p:=p.p) fI
   rw [← ho] at an
   conv=>whnf
   refine .inl ⟨15,[[],[],[],[1,2],[1,2,3],[],[],[6],[],[8],[6,7,8,9],[5,6,7,8,9,10],[5,6,7,8,9,10,11],[],[1,2,3,4,5,6,7,8,9,10,11,12,13],[0,1,2,3,4,5,6,7,8,9,10,11,12,13,14],[0,1,2,3,4,5,6,7,8,9,10,11,12,13,14,15]],by kernel_rfl,?_⟩
   conv=>whnf
   refine ⟨⟨by omega,by omega⟩,?_⟩
   simp only [toNat_cast,ar,Nat.zero_add]
   conv=>whnf
   refine ⟨by show j < n; omega,?_⟩
   conv=>whnf
   rw [ra]
   conv=>whnf
   rw [show decide ((n:Int)≠0)=true from decide_eq_true (by omega)]
   conv=>whnf
   rw [cj]
   refine ⟨⟨by omega,by omega⟩,?_⟩
   simp only [toNat_cast,ar,Nat.zero_add]
   conv=>whnf
   refine ⟨by show u < n; omega,?_⟩
   conv=>whnf
   rw [rb]
   conv=>whnf
   obtain ⟨z,ez,pz⟩:=c9 (aU (au a.p b.p p.p) 0)
   refine ⟨(a,b,p),rfl,⟨PV.aR sa (by decide),PV.aR sb (by decide),PV.aR sp (by decide)⟩,?_⟩
   rw [show kK.val (a,b,p)=.int .i64 z from ez]
   conv=>whnf
   rw [← pz] at an
   rw [e7]
   refine .inr ⟨[0,1],[0,3,5,6],?_⟩
   conv=>whnf
   intro _
   conv=>whnf
   refine ⟨_,?_,j+1,if z < o then z else o,(.aa (.sk 2 (.aa (.sk 1 (.aa (.aa (.sk 23 .nil rfl))) rfl)) rfl)),rfl,rfl,?_⟩
   ·omega
   ·exact ⟨by omega,an.symm⟩
  ·have h3:j=n:=by
    have:=of_decide_eq_false h3
    omega
   subst h3
   conv=>whnf
   exact fin o (ho.trans (by rw [hn]; exact KP))
end Go.Proofs.YtlapbjdhekcipaaGreat
/- Contracts of the reference of convex: sizes, pairs of rings. -/
set_option maxRecDepth 20000
set_option maxHeartbeats 4000000
namespace Go.Proofs.YtlapbjdhekcipaaGreat
open Go Go.Ae
theorem aaJ:aZ Tryz.prog 79 r4:=by
 refine bf Ok aK Tryz.func79 (enters_of Tryz.func79 (by kernel_rfl) rfl) (fun _=>rfl) (fun _=>rfl) ?_
 intro ⟨⟨n1,a1,b1⟩,⟨n2,a2,b2⟩⟩ _
 have zF:∀ x:ByteArray,12 < x.size→decide ((x.size:Int) > 12)=true:=fun x h=>decide_eq_true (by omega)
 have small:∀ x:ByteArray,¬ 12 < x.size→decide ((x.size:Int) > 12)=false:=fun x h=>decide_eq_false (by omega)
 conv=>whnf
 by_cases h1:12 < a1.size
 ·rw [zF _ h1]
  conv=>whnf
  exact Bp (by omega)
 rw [small _ h1]
 conv=>whnf
 by_cases J:12 < b1.size
 ·rw [zF _ J]
  conv=>whnf
  exact Bp (by omega)
 rw [small _ J]
 conv=>whnf
 by_cases h3:12 < a2.size
 ·rw [zF _ h3]
  conv=>whnf
  exact Bp (by omega)
 rw [small _ h3]
 conv=>whnf
 by_cases h4:12 < b2.size
 ·rw [zF _ h4]
  exact Bp (by omega)
 rw [small _ h4]
 exact Y6 (by omega)
def Es1:Env:=En [(79,.p r4)]
theorem aca:EnvOk Tryz.prog Es1:=bF ⟨aaJ,trivial⟩ trivial
theorem SX:c4 Tryz.prog 53 fZ:=by
 refine dC aca aK Tryz.func53 (enters_of Tryz.func53 (by kernel_rfl) rfl) ?_ ?_ ?_
 ·intro i b hb
  cases i with
  | none=>simp [fZ,PL.ai] at hb
  | some i=>simp [fZ,PL.ai] at hb; rw [hb]; rfl
 ·intro i b hb; simp [fZ] at hb
 intro i hp
 have hp:i.list.length≤9223372036854775807:=hp
 cases i with
 | none =>
  conv=>whnf
  refine .inr ⟨1,?_⟩
  conv=>whnf
  exact ⟨.bool false,rfl,.refl _⟩
 | some i =>
  obtain ⟨L,c⟩:=i
  have hlen:L.length≤9223372036854775807:=hp
  obtain ⟨n,hn⟩:∃ n,n=L.length:=⟨_,rfl⟩
  obtain ⟨g,hg⟩:∃ g,g=cO L:=⟨_,rfl⟩
  have fin:∀ z:Bool,km L=z→∃ v',cL (List.range 1) 3 (fZ.val (some (L,c)))=some v'∧eZ (.bool z) v':=fun z h=>⟨.bool z,by rw [← h]; rfl,.refl _⟩
  rw [show fZ.ai (some (L,c))=[.flat false n 6 g] from by rw [hn,hg]; rfl,show fZ.args (some (L,c))=[.slice (some ⟨0,0,none⟩) n c] from by rw [hn]; rfl]
  rw [← hn] at hlen
  conv=>whnf
  by_cases J:66 < n
  ·rw [show decide ((n:Int) > 10)=true from decide_eq_true (by omega)]
   conv=>whnf
   rw [show decide ((n:Int) < 63)=false from decide_eq_false (by omega)]
   conv=>whnf
   rw [show decide ((n:Int) > 66)=true from decide_eq_true (by omega)]
   conv=>whnf
   exact fin true (KR (.inr (by omega)))
  by_cases h1:10 < n∧n < 63
  ·rw [show decide ((n:Int) > 10)=true from decide_eq_true (by omega)]
   conv=>whnf
   rw [show decide ((n:Int) < 63)=true from decide_eq_true (by omega)]
   conv=>whnf
   exact fin true (KR (.inl (by omega)))
  have adk:=SE (L:=L) (by omega)
  have fin:=fun (z:Bool) (h:tM 12 L=z)=>fin z (adk.trans h)
  by_cases h3:10 < n
  ·rw [show decide ((n:Int) > 10)=true from decide_eq_true (by omega)]
   conv=>whnf
   rw [show decide ((n:Int) < 63)=false from decide_eq_false (by omega)]
   conv=>whnf
   rw [show decide ((n:Int) > 66)=false from decide_eq_false (by omega)]
   conv=>whnf
   refine .inl ⟨fun mm tz hz=>∃ (i:Nat),bu (some (.slice (some ⟨0,0,none⟩) n c)::aB 2 (some (.int .i64 i)::aB 24 [])) tz∧hz=[some (.flat false n 6 g)]∧n - i=mm∧(i≤n∧tB 12 L i),.inr ⟨[0],[0,3],?_⟩,?_⟩
   ·conv=>whnf
    intro _
    conv=>whnf
    refine ⟨_,0,(.aa (.sk 2 (.aa (.sk 24 .nil rfl)) rfl)),rfl,rfl,?_⟩
    exact ⟨Nat.zero_le _,Jv _ _⟩
   rintro mm aQ _ ⟨i,aq,rfl,rfl,⟨hi,hU⟩⟩
   obtain ⟨az,rfl⟩:∃ az:Nat→Value,aQ=.slice (some ⟨0,0,none⟩) n c::zs az 1 2 (.int .i64 i::zs az 4 24 []):=bI aq
   clear aq
   conv=>whnf
   refine aF (fun h3=>?_) (fun h3=>?_)
   ·have h3:i < n:=by
     have:=of_decide_eq_true h3
     omega
    have e7:IntKind.i64.wrap ((i:Int)+1)=((i+1:Nat):Int):=by rw [aw (by omega) (by omega)]; rfl
    obtain ⟨m,kH,mi,aX⟩:=qV (l:=L) (i:=i) (by omega)
    rw [← hg] at aX
    conv=>whnf
    refine ⟨⟨by omega,by omega⟩,?_⟩
    simp only [toNat_cast,ar,Nat.zero_add]
    conv=>whnf
    refine ⟨by show i < n; omega,?_⟩
    conv=>whnf
    rw [aX]
    conv=>whnf
    refine ⟨m,rfl,trivial,?_⟩
    by_cases h4:m.sz 12
    ·rw [show r4.val m=.bool false from congrArg Value.bool (decide_eq_false fun e=>e h4)]
     conv=>whnf
     rw [e7]
     refine .inr ⟨[0],[0,3],?_⟩
     conv=>whnf
     intro _
     conv=>whnf
     refine ⟨_,?_,i+1,(.aa (.sk 2 (.aa (.sk 24 .nil rfl)) rfl)),rfl,rfl,?_⟩
     ·omega
     ·exact ⟨by omega,JL hU kH h4⟩
    ·rw [show r4.val m=.bool true from congrArg Value.bool (decide_eq_true h4)]
     conv=>whnf
     exact fin true (DK mi h4)
   ·have h3:i=n:=by
     have:=of_decide_eq_false h3
     omega
    subst h3
    conv=>whnf
    exact fin false (J6 (by rw [← hn]; exact hU))
  ·rw [show decide ((n:Int) > 10)=false from decide_eq_false (by omega)]
   conv=>whnf
   rw [show decide ((n:Int) > 66)=false from decide_eq_false (by omega)]
   conv=>whnf
   refine .inl ⟨fun mm tz hz=>∃ (i:Nat),bu (some (.slice (some ⟨0,0,none⟩) n c)::aB 2 (some (.int .i64 i)::aB 24 [])) tz∧hz=[some (.flat false n 6 g)]∧n - i=mm∧(i≤n∧tB 12 L i),.inr ⟨[0],[0,3],?_⟩,?_⟩
   ·conv=>whnf
    intro _
    conv=>whnf
    refine ⟨_,0,(.aa (.sk 2 (.aa (.sk 24 .nil rfl)) rfl)),rfl,rfl,?_⟩
    exact ⟨Nat.zero_le _,Jv _ _⟩
   rintro mm aQ _ ⟨i,aq,rfl,rfl,⟨hi,hU⟩⟩
   obtain ⟨az,rfl⟩:∃ az:Nat→Value,aQ=.slice (some ⟨0,0,none⟩) n c::zs az 1 2 (.int .i64 i::zs az 4 24 []):=bI aq
   clear aq
   conv=>whnf
   refine aF (fun h3=>?_) (fun h3=>?_)
   ·have h3:i < n:=by
     have:=of_decide_eq_true h3
     omega
    have e7:IntKind.i64.wrap ((i:Int)+1)=((i+1:Nat):Int):=by rw [aw (by omega) (by omega)]; rfl
    obtain ⟨m,kH,mi,aX⟩:=qV (l:=L) (i:=i) (by omega)
    rw [← hg] at aX
    conv=>whnf
    refine ⟨⟨by omega,by omega⟩,?_⟩
    simp only [toNat_cast,ar,Nat.zero_add]
    conv=>whnf
    refine ⟨by show i < n; omega,?_⟩
    conv=>whnf
    rw [aX]
    conv=>whnf
    refine ⟨m,rfl,trivial,?_⟩
    by_cases h4:m.sz 12
    ·rw [show r4.val m=.bool false from congrArg Value.bool (decide_eq_false fun e=>e h4)]
     conv=>whnf
     rw [e7]
     refine .inr ⟨[0],[0,3],?_⟩
     conv=>whnf
     intro _
     conv=>whnf
     refine ⟨_,?_,i+1,(.aa (.sk 2 (.aa (.sk 24 .nil rfl)) rfl)),rfl,rfl,?_⟩
     ·omega
     ·exact ⟨by omega,JL hU kH h4⟩
    ·rw [show r4.val m=.bool true from congrArg Value.bool (decide_eq_true h4)]
     conv=>whnf
     exact fin true (DK mi h4)
   ·have h3:i=n:=by
     have:=of_decide_eq_false h3
     omega
    subst h3
    conv=>whnf
    exact fin false (J6 (by rw [← hn]; exact hU))
def Es2:Env:=En [(24,.q aV),(68,.p jr),(69,.q gg)]
theorem acb:EnvOk Tryz.prog Es2:=bF ⟨D8,KW,T8,trivial⟩ trivial
theorem SY:c4 Tryz.prog 20 dB:=by
 refine dC acb aK Tryz.func20 (enters_of Tryz.func20 (by kernel_rfl) rfl) ?_ ?_ ?_
 ·intro ⟨i,_⟩ b hb
  cases i with
  | none=>simp [dB,PL.ai] at hb
  | some i=>simp [dB,PL.ai] at hb; rw [hb]; rfl
 ·intro i b hb; simp [dB] at hb
 intro ⟨i,p⟩ hp
 have hp:(i.list.length≤1099511627776∧∀ v∈i.list,v.sz 2048)∧p.sz 2048:=hp
 obtain ⟨⟨hlen,aT⟩,sp⟩:=hp
 cases i with
 | none =>
  conv=>whnf
  refine ⟨none,[],rfl,⟨Nat.zero_le _,fun v hv=>nomatch hv⟩,?_⟩
  rw [show aV.ai none=[] from rfl,show aV.val none=.int .i64 4 from rfl,show aV.new none=none from rfl]
  conv=>whnf
  refine ⟨_,rfl,?_⟩
  conv=>whnf
  exact ⟨_,rfl,.refl _⟩
 | some i =>
  obtain ⟨L,c⟩:=i
  have hlen:L.length≤1099511627776:=hlen
  have aT:∀ v∈L,PV.sz 2048 v:=aT
  obtain ⟨n,hn⟩:∃ n,n=L.length:=⟨_,rfl⟩
  obtain ⟨g,hg⟩:∃ g,g=cO L:=⟨_,rfl⟩
  have fin:∀ z e:Int,l8 L p=(z,e)→∃ v',cL (List.range 1) 3 (dB.val (some (L,c),p))=some v'∧eZ (.tuple ⟨[.int .i64 z,.int .i64 e]⟩) v':=fun z e h=>⟨_,by
   rw [show dB.val (some (L,c),p)=ZE.v (l8 L p) from rfl,h]; rfl,.refl _⟩
  rw [show dB.ai (some (L,c),p)=[.flat false n 6 g] from by rw [hn,hg]; rfl,show dB.args (some (L,c),p)=[.slice (some ⟨0,0,none⟩) n c,p.v] from by rw [hn]; rfl]
  rw [← hn] at hlen
  conv=>whnf
  refine ⟨some (L,c),[0],by rw [show aV.args (some (L,c))=[.slice (some ⟨0,0,none⟩) n c] from by rw [hn]; rfl]; rfl,⟨by show L.length≤_; omega,aT⟩,?_⟩
  rw [show aV.ai (some (L,c))=[.flat false n 6 g] from by rw [hn,hg]; rfl,show aV.val (some (L,c))=.int .i64 (bw L) from rfl,show aV.new (some (L,c))=none from rfl]
  conv=>whnf
  refine ⟨aO.aY (fun h=>h) (fun r hr=>by rw [hg]; rfl),?_⟩
  conv=>whnf
  refine ⟨_,rfl,?_⟩
  obtain ⟨e,he⟩:∃ z,z=bw L:=⟨_,rfl⟩
  rw [← he]
  conv=>whnf
  by_cases h1:e=0
  ·rw [show (e != 0)=false from by simp [h1]]
   conv=>whnf
   refine ⟨p,rfl,PV.aR sp (by decide),?_⟩
   by_cases h4:p.canon
   ·rw [show jr.val p=.int .i64 0 from congrArg (Value.int .i64) (if_pos h4)]
    conv=>whnf
    obtain ⟨w,hw⟩:∃ w,w=rL (aS L) p.p:=⟨_,rfl⟩
    refine ⟨(some (L,c),p),[0],by rw [show gg.args (some (L,c),p)=[.slice (some ⟨0,0,none⟩) n c,p.v] from by rw [hn]; rfl]; rfl,⟨⟨by show L.length≤_; omega,aT⟩,sp⟩,?_⟩
    rw [show gg.ai (some (L,c),p)=[.flat false n 6 g] from by rw [hn,hg]; rfl,show gg.val (some (L,c),p)=.int .i64 w from by rw [hw]; rfl,show gg.new (some (L,c),p)=none from rfl]
    conv=>whnf
    refine ⟨aO.aY (fun h=>h) (fun r hr=>by rw [hg]; rfl),?_⟩
    conv=>whnf
    refine ⟨_,rfl,?_⟩
    conv=>whnf
    exact fin w 0 (by rw [hw]; exact M1 ⟨by rw [← he]; exact h1,h4⟩)
   ·rw [show jr.val p=.int .i64 1 from congrArg (Value.int .i64) (if_neg h4)]
    conv=>whnf
    exact fin 0 1 (BN fun h=>h4 h.2)
  ·rw [show (e != 0)=true from by simp [h1]]
   conv=>whnf
   exact fin 0 1 (BN fun h=>h1 (by rw [he]; exact h.1))
end Go.Proofs.YtlapbjdhekcipaaGreat
/- Contracts of the reference of convex: the part of a segment. -/
set_option maxRecDepth 20000
set_option maxHeartbeats 4000000
namespace Go.Proofs.YtlapbjdhekcipaaGreat
open Go Go.Ae
def Et0:Env:=En [(153,.p tL)]
theorem acd:EnvOk Tryz.prog Et0:=bF ⟨EU,trivial⟩ trivial
theorem VF:aZ Tryz.prog 125 GU:=by
 refine bf acd aK Tryz.func125 (enters_of Tryz.func125 (by kernel_rfl) rfl) (fun _=>rfl) (fun _=>rfl) ?_
 intro ⟨b,s,t⟩ hp
 have hp:RV.ok (b,s,t):=hp
 conv=>whnf
 obtain ⟨w,hw⟩:∃ w,w=RV.of (-RV.q (b,s,t)):=⟨_,rfl⟩
 refine ⟨(!b,s,t),rfl,hp,?_⟩
 rw [show tL.val (!b,s,t)=w.v from by rw [hw,← Gn]; rfl]
 conv=>whnf
 rw [hw]
 rfl
def Et1:Env:=En [(121,.p iI),(122,.p mA),(123,.p gf),(120,.p kB),(124,.p lR),(125,.p GU),(126,.p GX),(127,.p GY),(128,.p gX)]
theorem ace:EnvOk Tryz.prog Et1:=bF ⟨My,KV,LJ,Nb,Yu,VF,VA,VB,A9,trivial⟩ trivial
theorem RC:c4 Tryz.prog 72 mc:=by
 refine dC ace aK Tryz.func72 (enters_of Tryz.func72 (by kernel_rfl) rfl) ?_ ?_ ?_
 ·intro i b hb; simp [mc] at hb; rw [hb]; rfl
 ·intro i b hb; simp [mc] at hb
 intro ⟨⟨L,c⟩,⟨p,q⟩⟩ hp
 have hp:(L.length≤1099511627776∧∀ v∈L,v.sz 2048)∧p.sz 2048∧q.sz 2048:=hp
 obtain ⟨⟨hlen,aT⟩,sp,sq⟩:=hp
 have qp:=PV.cN sp (by decide)
 have qq:=PV.cN sq (by decide)
 obtain ⟨n,hn⟩:∃ n,n=L.length:=⟨_,rfl⟩
 obtain ⟨g,hg⟩:∃ g,g=cO L:=⟨_,rfl⟩
 obtain ⟨K,hK⟩:∃ K,K=gx mc ((L,c),(p,q)):=⟨_,rfl⟩
 have fin:∀ (x y:RV) (z:Bool) (H:ax),jD L (p,q)=((x,y),z)→K (.tuple ⟨[x.v,y.v,.bool z]⟩) H:=fun x y z H h=>by
  rw [hK]
  unfold gx
  rw [show mc.new ((L,c),(p,q))=none from rfl,show mc.val ((L,c),(p,q))=.tuple ⟨[x.v,y.v,.bool z]⟩ from by show Value.tuple ⟨[(jD L (p,q)).1.1.v,(jD L (p,q)).1.2.v,.bool (jD L (p,q)).2]⟩=_; rw [h]]
  exact ⟨_,rfl,.refl _⟩
 rw [show mc.ai ((L,c),(p,q))=[.flat false n 6 g] from by rw [hn,hg]; rfl,show mc.args ((L,c),(p,q))=[.slice (some ⟨0,0,none⟩) n c,XV.v (p,q)] from by rw [hn]; rfl,← hK]
 rw [← hn] at hlen
 conv=>whnf
 obtain ⟨l,el,pl,sl,ql⟩:=fk (q:=(1:Rat)) (Go.Ae.PW (Nat.le_refl 1))
 refine ⟨(1:Int),rfl,⟨by decide,by decide⟩,?_⟩
 rw [show kB.val (1:Int)=l.v from el]
 conv=>whnf
 obtain ⟨d,ed,pd,sd,qd⟩:=nv (lP qq qp)
 refine ⟨(q,p),rfl,⟨PV.aR sq (by decide),PV.aR sp (by decide)⟩,?_⟩
 rw [show iI.val (q,p)=d.v from ed]
 conv=>whnf
 refine .inl ⟨fun mm tz hz=>∃ (j:Nat) (lo:RV) (hi:RV),bu (some (.slice (some ⟨0,0,none⟩) n c)::aB 2 (some (.pointer (some ⟨1,0,none⟩))::some (.pointer (some ⟨2,0,none⟩))::some (.pointer (some ⟨3,0,none⟩))::aB 1 (some (.pointer (some ⟨4,0,none⟩))::some (.pointer (some ⟨5,0,none⟩))::some (.pointer (some ⟨6,0,none⟩))::some (.int .i64 j)::aB 76 []))) tz∧hz=[some (.flat false n 6 g),some (.aL true 12 [XV.cells (p,q)]),some (.aL true 3 [bV.c1]),some (.aL true 3 [bV.c1]),some (.aL true 3 [lo.c1]),some (.aL true 3 [hi.c1]),some (.aL true 6 [d.cells])]∧n - j=mm∧((j≤n∧ud (aS L) p.p q.p j=some (lo.q,hi.q))∧(lo=RV.of lo.q∧hi=RV.of hi.q)∧(lo.sz 65536∧hi.sz 65536)∧QB lo.q 65536∧QB hi.q 65536),.inr ⟨[0,1,2,3,4,5,6],[0,3,4,5,7,8,9,10],?_⟩,?_⟩
 ·conv=>whnf
  intro _
  conv=>whnf
  refine ⟨_,0,bV,l,(.aa (.sk 2 (.aa (.aa (.aa (.sk 1 (.aa (.aa (.aa (.aa (.sk 76 .nil rfl))))) rfl)))) rfl)),rfl,rfl,?_⟩
  exact ⟨⟨Nat.zero_le _,by rw [FQ,pl]; rfl⟩,⟨Wz,by rw [pl]; exact (RV.k9 el).symm⟩,⟨q9 _,RV.aR sl (by decide)⟩,vU,ql.mono (by decide)⟩
 rintro mm aQ _ ⟨j,lo,hi,aq,rfl,rfl,⟨⟨hj,hU⟩,⟨mq,mr⟩,⟨lF,mu⟩,qM,qN⟩⟩
 obtain ⟨az,rfl⟩:∃ az:Nat→Value,aQ=.slice (some ⟨0,0,none⟩) n c::zs az 1 2 (.pointer (some ⟨1,0,none⟩)::.pointer (some ⟨2,0,none⟩)::.pointer (some ⟨3,0,none⟩)::zs az 6 1 (.pointer (some ⟨4,0,none⟩)::.pointer (some ⟨5,0,none⟩)::.pointer (some ⟨6,0,none⟩)::.int .i64 j::zs az 11 76 [])):=bI aq
 clear aq
 conv=>whnf
 refine aF (fun h3=>?_) (fun h3=>?_)
 ·have h3:j < n:=by
   have:=of_decide_eq_true h3
   omega
  have e7:IntKind.i64.wrap ((j:Int)+1)=((j+1:Nat):Int):=by rw [aw (by omega) (by omega)]; rfl
  obtain ⟨a,b,ra,rb,⟨ma,mb⟩,fI,b6,_,_⟩:=o6 hn h3
  have sa:=aT a ma
  have sb:=aT b mb
  have qa:=PV.cN sa (by decide)
  have qb:=PV.cN sb (by decide)
  have cj:=jT h3 (by omega)
  obtain ⟨u,hu⟩:∃ u,u=ba n j:=⟨_,rfl⟩
  rw [← hu] at cj b6 rb
  rw [← hg] at ra rb
  conv=>whnf
  refine .inr (.inr (.inl ⟨14,1,[[],[],[0,1],[0,1,2],[],[],[5],[],[7],[5,6,7,8],[4,5,6,7,8,9],[4,5,6,7,8,9,10],[],[],[0,1,2,3,12,13],[0,1,2,3,4,5,6,7,8,9,10,11,12,13,14]],[4,5,6,7,8,9,10,11],by kernel_rfl,?_⟩))
  conv=>whnf
  refine ⟨⟨by omega,by omega⟩,?_⟩
  simp only [toNat_cast,ar,Nat.zero_add]
  conv=>whnf
  refine ⟨by show j < n; omega,?_⟩
  conv=>whnf
  rw [ra]
  conv=>whnf
  rw [show decide ((n:Int)≠0)=true from decide_eq_true (by omega)]
  conv=>whnf
  rw [cj]
  refine ⟨⟨by omega,by omega⟩,?_⟩
  simp only [toNat_cast,ar,Nat.zero_add]
  conv=>whnf
  refine ⟨by show u < n; omega,?_⟩
  conv=>whnf
  rw [rb]
  conv=>whnf
  refine ⟨rfl,?_⟩
  conv=>whnf
  obtain ⟨v,ev,pv,sv,qv⟩:=nv (lP qb qa)
  refine ⟨(b,a),rfl,⟨PV.aR sb (by decide),PV.aR sa (by decide)⟩,?_⟩
  rw [show iI.val (b,a)=v.v from ev]
  conv=>whnf
  refine .inl ⟨7,[[],[],[1],[],[1,2,3],[0,1,2,3,4],[],[0,1,2,3,4,5,6]],by kernel_rfl,?_⟩
  conv=>whnf
  obtain ⟨w,ew,pw,sw,qw⟩:=nv (lP qp qa)
  refine ⟨(p,a),rfl,⟨PV.aR sp (by decide),PV.aR sa (by decide)⟩,?_⟩
  rw [show iI.val (p,a)=w.v from ew]
  conv=>whnf
  obtain ⟨x,ex,px,sx,qx⟩:=fk (tg qv qw)
  refine ⟨(v,w),rfl,⟨PV.aR sv (by decide),PV.aR sw (by decide)⟩,?_⟩
  rw [show mA.val (v,w)=x.v from ex]
  conv=>whnf
  obtain ⟨s,es,ps,ss,qs⟩:=fk (tg qv qd)
  refine ⟨(v,d),rfl,⟨PV.aR sv (by decide),PV.aR sd (by decide)⟩,?_⟩
  rw [show mA.val (v,d)=s.v from es]
  conv=>whnf
  have px:x.q=au a.p b.p p.p:=by rw [px,pv,pw]; rfl
  have ps:s.q=au a.p b.p q.p - au a.p b.p p.p:=by rw [ps,pv,pd]; exact Vj _ _ _ _
  have an:=SH hU fI px ps
  obtain ⟨zs,ezs,Qr⟩:=c9 (aU s.q 0)
  refine ⟨s,rfl,RV.bC ss (by decide),?_⟩
  rw [show gf.val s=.int .i64 zs from ezs]
  conv=>whnf
  by_cases hs:s.q=0
  ·rw [show (zs == 0)=true from by rw [Qr,s3.2 hs]; rfl]
   rw [if_pos hs] at an
   conv=>whnf
   obtain ⟨zx,Jf,Dk⟩:=c9 (aU x.q 0)
   refine ⟨x,rfl,RV.bC sx (by decide),?_⟩
   rw [show gf.val x=.int .i64 zx from Jf]
   conv=>whnf
   by_cases hx:x.q≤0
   ·rw [show decide (zx≤0)=true from decide_eq_true (by rw [Dk]; exact x4.2 hx)]
    rw [if_pos hx] at an
    conv=>whnf
    exact fin bV bV false _ (M6 (SJ an))
   ·rw [show decide (zx≤0)=false from decide_eq_false (by rw [Dk]; exact fun e=>hx (x4.1 e))]
    rw [if_neg hx] at an
    conv=>whnf
    rw [e7]
    refine .inr ⟨[0,1,2,3,4,5,6],[0,3,4,5,7,8,9,10],?_⟩
    conv=>whnf
    intro _
    conv=>whnf
    refine ⟨_,?_,j+1,lo,hi,(.aa (.sk 2 (.aa (.aa (.aa (.sk 1 (.aa (.aa (.aa (.aa (.sk 76 .nil rfl))))) rfl)))) rfl)),rfl,rfl,?_⟩
    ·omega
    ·exact ⟨⟨by omega,an⟩,⟨mq,mr⟩,⟨lF,mu⟩,qM,qN⟩
  ·rw [show (zs == 0)=false from by rw [Qr]; simpa using fun e=>hs (s3.1 e)]
   rw [if_neg hs] at an
   conv=>whnf
   refine .inr (.inr (.inl ⟨8,1,[[],[0],[],[0,1,2],[0,1,2,3],[0,1,2,3,4],[0,1,2,3,4],[],[0,1,2,3,4,5,7],[0,1,2,3,4,5,6,7,8]],[6],by kernel_rfl,?_⟩))
   conv=>whnf
   obtain ⟨m,em,pm,sm,qm⟩:=fk (QB.neg qx)
   refine ⟨x,rfl,RV.bC sx (by decide),?_⟩
   rw [show GU.val x=m.v from em]
   conv=>whnf
   obtain ⟨t,et,pt,st,qt⟩:=fk (QB.div qm qs (by decide))
   obtain ⟨e3,zY,Qp⟩:=c9 (if s.q=0 then 10 else 0)
   refine ⟨(m,s),rfl,⟨RV.bC sm (by decide),RV.bC ss (by decide)⟩,?_⟩
   rw [show lR.val (m,s)=.tuple ⟨[t.v,.int .i64 e3]⟩ from by rw [← et,← zY]; rfl]
   conv=>whnf
   have ct:=(RV.k9 et).symm
   rw [← pt] at ct
   rw [pm] at pt
   rw [← pt] at an
   have st:=RV.aR st (show _≤65536 by decide)
   have qt:=qt.mono (show _≤65536 by decide)
   obtain ⟨Jg,adl,Pd⟩:=c9 (aU s.q 0)
   refine ⟨s,rfl,RV.bC ss (by decide),?_⟩
   rw [show gf.val s=.int .i64 Jg from adl]
   conv=>whnf
   by_cases h5:0 < s.q
   ·rw [show decide (Jg > 0)=true from decide_eq_true (by rw [Pd]; exact n8.2 h5)]
    rw [if_pos h5] at an
    conv=>whnf
    obtain ⟨y,hy⟩:∃ w,w=if lo.q < t.q then t else lo:=⟨_,rfl⟩
    refine ⟨(lo,t),rfl,⟨RV.bC lF (by decide),RV.bC st (by decide)⟩,?_⟩
    rw [show GX.val (lo,t)=y.v from by rw [hy]; rfl]
    obtain ⟨py,cy,sy,qy⟩:=Y8 hy mq ct lF st qM qt
    conv=>whnf
    rw [e7]
    refine .inr ⟨[0,1,2,3,4,5,6],[0,3,4,5,7,8,9,10],?_⟩
    conv=>whnf
    intro _
    conv=>whnf
    refine ⟨_,?_,j+1,y,hi,(.aa (.sk 2 (.aa (.aa (.aa (.sk 1 (.aa (.aa (.aa (.aa (.sk 76 .nil rfl))))) rfl)))) rfl)),rfl,rfl,?_⟩
    ·omega
    ·exact ⟨⟨by omega,by rw [an,py]⟩,⟨cy,mr⟩,⟨sy,mu⟩,qy,qN⟩
   ·rw [show decide (Jg > 0)=false from decide_eq_false (by rw [Pd]; exact fun e=>h5 (n8.1 e))]
    rw [if_neg h5] at an
    conv=>whnf
    obtain ⟨y,hy⟩:∃ w,w=if t.q < hi.q then t else hi:=⟨_,rfl⟩
    refine ⟨(hi,t),rfl,⟨RV.bC mu (by decide),RV.bC st (by decide)⟩,?_⟩
    rw [show GY.val (hi,t)=y.v from by rw [hy]; rfl]
    obtain ⟨py,cy,sy,qy⟩:=Y9 hy mr ct mu st qN qt
    conv=>whnf
    rw [e7]
    refine .inr ⟨[0,1,2,3,4,5,6],[0,3,4,5,7,8,9,10],?_⟩
    conv=>whnf
    intro _
    conv=>whnf
    refine ⟨_,?_,j+1,lo,y,(.aa (.sk 2 (.aa (.aa (.aa (.sk 1 (.aa (.aa (.aa (.aa (.sk 76 .nil rfl))))) rfl)))) rfl)),rfl,rfl,?_⟩
    ·omega
    ·exact ⟨⟨by omega,by rw [an,py]⟩,⟨mq,cy⟩,⟨lF,sy⟩,qM,qy⟩
 ·have h3:j=n:=by
   have:=of_decide_eq_false h3
   omega
  subst h3
  have hE:=TS (a:=p.p) (b:=q.p) (show j=(aS L).length by rw [c8]; exact hn)
  rw [hU] at hE
  conv=>whnf
  obtain ⟨z,ez,pz⟩:=c9 (aU lo.q hi.q)
  refine ⟨(lo,hi),rfl,⟨RV.bC lF (by decide),RV.bC mu (by decide)⟩,?_⟩
  rw [show gX.val (lo,hi)=.int .i64 z from ez]
  conv=>whnf
  by_cases h5:hi.q≤lo.q
  ·rw [show decide (z ≥ 0)=true from decide_eq_true (by rw [pz]; exact oc.2 h5)]
   conv=>whnf
   exact fin bV bV false _ (M6 (hE.symm.trans (Mn h5)))
  ·rw [show decide (z ≥ 0)=false from decide_eq_false (by rw [pz]; exact fun e=>h5 (oc.1 e))]
   have dV:=Wx (hE.symm.trans (Mo h5)) mq mr
   conv=>whnf
   refine .inr (.inl ⟨(.br 0 (.br 1 (.br 2 (.br 3 (.br 4 .leaf .leaf) .leaf) .leaf) (.br 2 (.br 1 (.br 3 (.br 4 .leaf .leaf) .leaf) .leaf) .leaf)) (.br 1 (.br 0 (.br 2 (.br 3 (.br 4 .leaf .leaf) .leaf) .leaf) .leaf) .leaf)),by kernel_rfl,?_⟩)
   repeat' ((conv=>whnf); first | exact True.intro | refine And.intro ?_ ?_)
   all_goals conv=>whnf
   all_goals exact fin lo hi true _ dV
def Et2:Env:=En [(24,.q aV),(61,.q dp),(72,.q mc)]
theorem acf:EnvOk Tryz.prog Et2:=bF ⟨D8,KY,RC,trivial⟩ trivial
theorem VG:c4 Tryz.prog 22 cY:=by
 refine dC acf aK Tryz.func22 (enters_of Tryz.func22 (by kernel_rfl) rfl) ?_ ?_ ?_
 ·intro ⟨i,_⟩ b hb
  cases i with
  | none=>simp [cY,PL.ai] at hb
  | some i=>simp [cY,PL.ai] at hb; rw [hb]; rfl
 ·intro i b hb; simp [cY] at hb
 intro ⟨i,⟨p,q⟩⟩ hp
 have hp:(i.list.length≤1099511627776∧∀ v∈i.list,v.sz 2048)∧p.sz 2048∧q.sz 2048:=hp
 obtain ⟨⟨hlen,aT⟩,sp,sq⟩:=hp
 cases i with
 | none =>
  conv=>whnf
  refine ⟨none,[],rfl,⟨Nat.zero_le _,fun v hv=>nomatch hv⟩,?_⟩
  rw [show aV.ai none=[] from rfl,show aV.val none=.int .i64 4 from rfl,show aV.new none=none from rfl]
  conv=>whnf
  refine ⟨_,rfl,?_⟩
  conv=>whnf
  exact ⟨_,rfl,.refl _⟩
 | some i =>
  obtain ⟨L,c⟩:=i
  have hlen:L.length≤1099511627776:=hlen
  have aT:∀ v∈L,PV.sz 2048 v:=aT
  obtain ⟨n,hn⟩:∃ n,n=L.length:=⟨_,rfl⟩
  obtain ⟨g,hg⟩:∃ g,g=cO L:=⟨_,rfl⟩
  obtain ⟨K,hK⟩:∃ K,K=gx cY (some (L,c),(p,q)):=⟨_,rfl⟩
  have fin:∀ (x y:RV) (z:Bool) (e:Int) (H:ax),cH L (p,q)=((x,y),z,e)→K (.tuple ⟨[x.v,y.v,.bool z,.int .i64 e]⟩) H:=fun x y z e H h=>by
   rw [hK]
   unfold gx
   rw [show cY.new (some (L,c),(p,q))=none from rfl,show cY.val (some (L,c),(p,q))=.tuple ⟨[x.v,y.v,.bool z,.int .i64 e]⟩ from by show Value.tuple ⟨[(cH L (p,q)).1.1.v,(cH L (p,q)).1.2.v,.bool (cH L (p,q)).2.1,.int .i64 (cH L (p,q)).2.2]⟩=_; rw [h]]
   exact ⟨_,rfl,.refl _⟩
  rw [show cY.ai (some (L,c),(p,q))=[.flat false n 6 g] from by rw [hn,hg]; rfl,show cY.args (some (L,c),(p,q))=[.slice (some ⟨0,0,none⟩) n c,XV.v (p,q)] from by rw [hn]; rfl,← hK]
  rw [← hn] at hlen
  conv=>whnf
  refine ⟨some (L,c),[0],by rw [show aV.args (some (L,c))=[.slice (some ⟨0,0,none⟩) n c] from by rw [hn]; rfl]; rfl,⟨by show L.length≤_; omega,aT⟩,?_⟩
  rw [show aV.ai (some (L,c))=[.flat false n 6 g] from by rw [hn,hg]; rfl,show aV.val (some (L,c))=.int .i64 (bw L) from rfl,show aV.new (some (L,c))=none from rfl]
  conv=>whnf
  refine ⟨aO.aY (fun h=>h) (fun r hr=>by rw [hg]; rfl),?_⟩
  conv=>whnf
  refine ⟨_,rfl,?_⟩
  obtain ⟨e,he⟩:∃ z,z=bw L:=⟨_,rfl⟩
  rw [← he]
  conv=>whnf
  by_cases h1:e=0
  ·rw [show (e != 0)=false from by simp [h1]]
   conv=>whnf
   refine ⟨some ([p,q],2),[4],rfl,⟨by show 2≤1099511627776; decide,(fun v hv=>by rcases List.mem_cons.1 hv with rfl | hv; exact sp; rw [List.mem_singleton.1 hv]; exact sq)⟩,?_⟩
   rw [show dp.ai (some ([p,q],2))=[.flat false 2 6 (cO [p,q])] from rfl,show dp.val (some ([p,q],2))=.bool (!dm [p,q]) from rfl,show dp.new (some ([p,q],2))=none from rfl]
   conv=>whnf
   refine ⟨x5 [p,q],?_⟩
   conv=>whnf
   refine ⟨_,rfl,?_⟩
   obtain ⟨r,hr⟩:∃ z,z=dm [p,q]:=⟨_,rfl⟩
   rw [← hr]
   conv=>whnf
   cases r with
   | true =>
    conv=>whnf
    exact fin bV bV false 1 _ (BP fun h=>O0 hr h.2.1 h.2.2)
   | false =>
    conv=>whnf
    have hk:bw L=0∧p.canon∧q.canon:=⟨by rw [← he]; exact h1,N8 hr⟩
    have hz:=o5 hk.1
    obtain ⟨⟨⟨x,y⟩,z⟩,hx⟩:∃ x,jD L (p,q)=x:=⟨_,rfl⟩
    refine ⟨((L,c),(p,q)),[0],by rw [show mc.args ((L,c),(p,q))=[.slice (some ⟨0,0,none⟩) n c,XV.v (p,q)] from by rw [hn]; rfl]; rfl,⟨⟨by show L.length≤_; omega,aT⟩,sp,sq⟩,?_⟩
    rw [show mc.ai ((L,c),(p,q))=[.flat false n 6 g] from by rw [hn,hg]; rfl,show mc.val ((L,c),(p,q))=.tuple ⟨[x.v,y.v,.bool z]⟩ from by show Value.tuple ⟨[(jD L (p,q)).1.1.v,(jD L (p,q)).1.2.v,.bool (jD L (p,q)).2]⟩=_; rw [hx],show mc.new ((L,c),(p,q))=none from rfl]
    conv=>whnf
    refine ⟨aO.aY (fun h=>h) (fun r hr=>by rw [hg]; rfl),?_⟩
    conv=>whnf
    refine ⟨_,rfl,?_⟩
    have dV:=Wy hk hx
    conv=>whnf
    refine .inr (.inl ⟨(.br 0 (.br 1 (.br 2 (.br 3 (.br 4 (.br 5 (.br 6 .leaf .leaf) .leaf) .leaf) .leaf) (.br 3 (.br 2 (.br 4 (.br 5 (.br 6 .leaf .leaf) .leaf) .leaf) (.br 4 (.br 2 (.br 5 (.br 6 .leaf .leaf) .leaf) .leaf) .leaf)) .leaf)) (.br 2 (.br 1 (.br 3 (.br 4 (.br 5 (.br 6 .leaf .leaf) .leaf) .leaf) .leaf) (.br 3 (.br 1 (.br 4 (.br 5 (.br 6 .leaf .leaf) .leaf) .leaf) .leaf) .leaf)) (.br 3 (.br 1 (.br 2 (.br 4 (.br 5 (.br 6 .leaf .leaf) .leaf) .leaf) (.br 4 (.br 2 (.br 5 (.br 6 .leaf .leaf) .leaf) .leaf) .leaf)) (.br 2 (.br 1 (.br 4 (.br 5 (.br 6 .leaf .leaf) .leaf) .leaf) .leaf) .leaf)) .leaf))) (.br 1 (.br 0 (.br 2 (.br 3 (.br 4 (.br 5 (.br 6 .leaf .leaf) .leaf) .leaf) .leaf) (.br 3 (.br 2 (.br 4 (.br 5 (.br 6 .leaf .leaf) .leaf) .leaf) (.br 4 (.br 2 (.br 5 (.br 6 .leaf .leaf) .leaf) .leaf) .leaf)) .leaf)) (.br 2 (.br 0 (.br 3 (.br 4 (.br 5 (.br 6 .leaf .leaf) .leaf) .leaf) .leaf) .leaf) .leaf)) (.br 2 (.br 0 (.br 1 (.br 3 (.br 4 (.br 5 (.br 6 .leaf .leaf) .leaf) .leaf) .leaf) (.br 3 (.br 1 (.br 4 (.br 5 (.br 6 .leaf .leaf) .leaf) .leaf) .leaf) .leaf)) (.br 1 (.br 0 (.br 3 (.br 4 (.br 5 (.br 6 .leaf .leaf) .leaf) .leaf) .leaf) .leaf) .leaf)) .leaf))),by kernel_rfl,?_⟩)
    repeat' ((conv=>whnf); first | exact True.intro | refine And.intro ?_ ?_)
    all_goals conv=>whnf
    all_goals exact fin x y z 0 _ dV
  ·rw [show (e != 0)=true from by simp [h1]]
   conv=>whnf
   exact fin bV bV false 1 _ (BP fun h=>h1 (by rw [he]; exact h.1))
end Go.Proofs.YtlapbjdhekcipaaGreat
/- Contracts of the reference of convex: separating edges. -/
set_option maxRecDepth 20000
set_option maxHeartbeats 4000000
namespace Go.Proofs.YtlapbjdhekcipaaGreat
open Go Go.Ae
end Go.Proofs.YtlapbjdhekcipaaGreat
/- Convex: what the laws call. -/
set_option maxRecDepth 20000
set_option maxHeartbeats 4000000
namespace Go.Proofs.YtlapbjdhekcipaaGreat
open Go Go.Ae
def Ea1:Env:=En [(55,.p pU)]
theorem acg:EnvOk Tryz.prog Ea1:=bF ⟨NL,trivial⟩ trivial
theorem T9:c4 Tryz.prog 54 gW:=by
 refine dC acg aK Tryz.func54 (enters_of Tryz.func54 (by kernel_rfl) rfl) ?_ ?_ ?_
 ·intro i b hb; simp [gW] at hb; rw [hb]; rfl
 ·intro i b hb; simp [gW] at hb; rw [← hb]; rfl
 intro (L:II) hp
 have hp:(0 < L.length∧L.length≤1000000)∧∀ x∈L,x.1.natAbs < 256∧x.2.natAbs < 256:=hp
 obtain ⟨⟨h0,hlen⟩,Qs⟩:=hp
 obtain ⟨n,hn⟩:∃ n,n=L.length:=⟨_,rfl⟩
 obtain ⟨m,hm⟩:∃ m,m=2*n:=⟨_,rfl⟩
 obtain ⟨g,hg⟩:∃ g,g=mQ L:=⟨_,rfl⟩
 obtain ⟨K,hK⟩:∃ K,K=gx gW L:=⟨_,rfl⟩
 rw [show gW.ai L=[.flat false m 1 g] from by rw [hm,hn,hg]; rfl,show gW.args L=[.slice (some ⟨0,0,none⟩) m m] from by rw [hm,hn]; rfl,← hK]
 rw [← hn] at hlen h0
 conv=>whnf
 refine .inl ⟨fun mm tz hz=>∃ (j:Nat) (i:Nat) (O:List Q2) (q:Nat) (F:Nat→List Value),bu (some (.slice (some ⟨0,0,none⟩) m m)::aB 2 (some (eD 1 q)::some (.int .i64 i)::aB 21 [])) tz∧hz=[some (.flat false m 1 g)]++yU 6 F q∧n - j=mm∧((j≤n∧q=j∧i=2*j∧q=O.length)∧O=bo (L.take j)∧(∀ r,r < q→F r=bT O r)),.inr ⟨[0],[0,3,4],?_⟩,?_⟩
 ·conv=>whnf
  intro _
  conv=>whnf
  refine ⟨_,0,0,[],0,fun _=>[],(.aa (.sk 2 (.aa (.aa (.sk 21 .nil rfl))) rfl)),rfl,rfl,?_⟩
  exact ⟨⟨Nat.zero_le _,rfl,rfl,rfl⟩,rfl,fun r hr=>absurd hr (Nat.not_lt_zero r)⟩
 rintro mm aQ _ ⟨j,i,O,q,F,aq,rfl,rfl,⟨⟨hj,Qt,hi,hq⟩,hO,hF⟩⟩
 obtain ⟨az,rfl⟩:∃ az:Nat→Value,aQ=.slice (some ⟨0,0,none⟩) m m::zs az 1 2 (eD 1 q::.int .i64 i::zs az 5 21 []):=bI aq
 clear aq
 obtain ⟨k,hk⟩:∃ k,k=i+1:=⟨_,rfl⟩
 have e1:IntKind.i64.wrap ((i:Int)+1)=(k:Int):=by rw [aw (by omega) (by omega),hk]; rfl
 have e2:IntKind.i64.wrap ((i:Int)+2)=((i+2:Nat):Int):=by rw [aw (by omega) (by omega)]; rfl
 cases q with
 | zero =>
  obtain rfl:O=[]:=List.eq_nil_of_length_eq_zero hq.symm
  conv=>whnf
  rw [e1]
  refine aF (fun h1=>?_) (fun h1=>?_)
  ·have h1:j < n:=by
    have:=of_decide_eq_true h1
    omega
   obtain ⟨x,hx⟩:∃ x,x=qF L j:=⟨_,rfl⟩
   have gw:=M7 (l:=L) (j:=j) (by omega)
   rw [← hx] at gw
   have ra:g i=[.int .i64 x.1]:=by rw [hg,hi]; exact Mp hx
   have rb:g k=[.int .i64 x.2]:=by rw [hk,hg,hi]; exact Mq hx
   have an:=Mr gw.2
   rw [← hO] at an
   have hs:=Qs x gw.1
   conv=>whnf
   refine .inl ⟨12,[[],[],[],[1,2],[1,2,3],[],[],[6],[5,6,7],[5,6,7,8],[1,2,3,4,5,6,7,8,9],[1,2,3,4,5,6,7,8,9,10],[0,1,2,3,4,5,6,7,8,9,10,11],[0,1,2,3,4,5,6,7,8,9,10,11,12]],by kernel_rfl,?_⟩
   conv=>whnf
   refine ⟨⟨by omega,by omega⟩,?_⟩
   simp only [toNat_cast,ar,Nat.zero_add]
   conv=>whnf
   refine ⟨by show i < m; omega,?_⟩
   conv=>whnf
   rw [ra]
   conv=>whnf
   rw [e1]
   refine ⟨⟨by omega,by omega⟩,?_⟩
   simp only [toNat_cast,ar,Nat.zero_add]
   conv=>whnf
   refine ⟨by show k < m; omega,?_⟩
   conv=>whnf
   rw [rb]
   conv=>whnf
   obtain ⟨u,cu,eu,pu,su,qu⟩:=wz (ur x.1 x.2 hs.1 hs.2)
   refine ⟨(x.1,x.2),rfl,⟨⟨by show -9223372036854775808≤x.1; omega,by show x.1 < 9223372036854775808; omega⟩,⟨by show -9223372036854775808≤x.2; omega,by show x.2 < 9223372036854775808; omega⟩⟩,?_⟩
   rw [show pU.val (x.1,x.2)=u.v from eu]
   conv=>whnf
   refine ⟨by show (0+1)*80≤140737488355328; decide,?_⟩
   conv=>whnf
   rw [e2]
   refine .inr ⟨[0,13],[0,3,4],?_⟩
   conv=>whnf
   intro _
   conv=>whnf
   refine ⟨_,?_,j+1,i+2,[iq x],1,_,(.aa (.sk 2 (.aa (.aa (.sk 21 .nil rfl))) rfl)),rfl,rfl,?_⟩
   ·omega
   ·exact ⟨⟨by omega,by omega,by omega,rfl⟩,by rw [an]; rfl,vV cu rfl⟩
  ·exfalso
   have:=of_decide_eq_false h1
   omega
 | succ q =>
  have e0:i≠0:=by omega
  conv=>whnf
  rw [e1]
  refine aF (fun h1=>?_) (fun h1=>?_)
  ·have h1:j < n:=by
    have:=of_decide_eq_true h1
    omega
   obtain ⟨x,hx⟩:∃ x,x=qF L j:=⟨_,rfl⟩
   have gw:=M7 (l:=L) (j:=j) (by omega)
   rw [← hx] at gw
   have ra:g i=[.int .i64 x.1]:=by rw [hg,hi]; exact Mp hx
   have rb:g k=[.int .i64 x.2]:=by rw [hk,hg,hi]; exact Mq hx
   have an:=Mr gw.2
   rw [← hO] at an
   have hs:=Qs x gw.1
   conv=>whnf
   refine .inl ⟨12,[[],[],[],[1,2],[1,2,3],[],[],[6],[5,6,7],[5,6,7,8],[1,2,3,4,5,6,7,8,9],[1,2,3,4,5,6,7,8,9,10],[0,1,2,3,4,5,6,7,8,9,10,11],[0,1,2,3,4,5,6,7,8,9,10,11,12]],by kernel_rfl,?_⟩
   conv=>whnf
   refine ⟨⟨by omega,by omega⟩,?_⟩
   simp only [toNat_cast,ar,Nat.zero_add]
   conv=>whnf
   refine ⟨by show i < m; omega,?_⟩
   conv=>whnf
   rw [ra]
   conv=>whnf
   rw [e1]
   refine ⟨⟨by omega,by omega⟩,?_⟩
   simp only [toNat_cast,ar,Nat.zero_add]
   conv=>whnf
   refine ⟨by show k < m; omega,?_⟩
   conv=>whnf
   rw [rb]
   conv=>whnf
   obtain ⟨u,cu,eu,pu,su,qu⟩:=wz (ur x.1 x.2 hs.1 hs.2)
   refine ⟨(x.1,x.2),rfl,⟨⟨by show -9223372036854775808≤x.1; omega,by show x.1 < 9223372036854775808; omega⟩,⟨by show -9223372036854775808≤x.2; omega,by show x.2 < 9223372036854775808; omega⟩⟩,?_⟩
   rw [show pU.val (x.1,x.2)=u.v from eu]
   conv=>whnf
   refine ⟨⟨by show 1≤1; decide,rfl,by show (q+1+1)*80≤140737488355328; omega⟩,?_⟩
   conv=>whnf
   refine ⟨[0,4],?_⟩
   conv=>whnf
   intro _
   conv=>whnf
   rw [e2]
   refine .inr ⟨[0,1],[0,3,4],?_⟩
   conv=>whnf
   intro _
   conv=>whnf
   refine ⟨_,?_,j+1,i+2,O++[iq x],q+1+1,_,(.aa (.sk 2 (.aa (.aa (.sk 21 .nil rfl))) rfl)),rfl,rfl,?_⟩
   ·omega
   ·exact ⟨⟨by omega,by omega,by omega,by rw [List.length_append,← hq]; rfl⟩,an.symm,rf hq hF cu rfl⟩
  ·have h1:j=n:=by
    have:=of_decide_eq_false h1
    omega
   subst h1
   have hE:bo L=O:=by rw [hO,hn,List.take_length]
   have Jh:O.length=(bo L).length:=by rw [hE]
   conv=>whnf
   rw [hK]
   unfold gx
   rw [show gW.new L=some (.flat true (q+1) 6 (bT O)) from by show some (ah.flat true L.length 6 (bT (bo L)))=_; rw [← hn,hE,← Qt],show gW.val L=.slice (some ⟨1,0,none⟩) (q+1) aJ from by show Value.slice (some ⟨1,0,none⟩) L.length aJ=_; rw [← hn,← Qt]]
   refine ⟨1,?_⟩
   conv=>whnf
   exact ⟨⟨rfl,aO.qW (fun h=>h) hF (fun r hr=>rfl)⟩,_,rfl,.refl _⟩
end Go.Proofs.YtlapbjdhekcipaaGreat
/- Equality of lists of points. -/
set_option maxRecDepth 20000
set_option maxHeartbeats 4000000
namespace Go.Proofs.YtlapbjdhekcipaaGreat
open Go Go.Ae
def Edz:Env:=sK [(33,.p kB)]
theorem ach:EnvOk Tryz.prog Edz:=uC ⟨yp,trivial⟩ trivial
theorem VH:c4 Tryz.prog 18 jS:=by
 refine dC ach aK Tryz.func18 (enters_of Tryz.func18 (by kernel_rfl) rfl) ?_ ?_ ?_
 ·intro ⟨i,j⟩ b hb
  cases i <;> cases j <;> simp [jS,PL.ai] at hb <;> (try rcases hb with rfl | rfl) <;> (try subst hb) <;> first | rfl | skip
 ·intro i b hb; simp [jS] at hb
 intro ⟨i,j⟩ hp
 have hp:i.list.length≤1099511627776∧j.list.length≤1099511627776:=hp
 obtain ⟨Qu,PH⟩:=hp
 cases i with
 | none =>
  cases j with
  | none =>
   conv=>whnf
   refine .inr ⟨1,?_⟩
   conv=>whnf
   exact ⟨.bool true,rfl,.refl _⟩
  | some j =>
   obtain ⟨m,c⟩:=j
   obtain ⟨n,hn⟩:∃ n,n=m.length:=⟨_,rfl⟩
   obtain ⟨g,hg⟩:∃ g,g=cO m:=⟨_,rfl⟩
   have fin:∀ b:Bool,b=decide ([]=m)→∃ v',cL (List.range 1) 3 (jS.val (none,some (m,c)))=some v'∧eZ (.bool b) v':=fun b h=>⟨.bool b,by rw [h]; rfl,.refl _⟩
   rw [show jS.ai (none,some (m,c))=[.flat false n 6 g] from by rw [hn,hg]; rfl,show jS.args (none,some (m,c))=[.slice none 0 0,.slice (some ⟨0,0,none⟩) n c] from by rw [hn]; rfl]
   by_cases h0:n=0
   ·have hm:m=[]:=List.length_eq_zero_iff.1 (hn.symm.trans h0)
    subst h0
    conv=>whnf
    refine .inr ⟨1,?_⟩
    conv=>whnf
    exact fin true (by rw [hm]; rfl)
   ·conv=>whnf
    rw [show (((0:Nat):Int) != ((n:Nat):Int))=true from by simp; omega]
    conv=>whnf
    exact fin false (by cases m with | nil=>exact absurd hn h0 | cons a m=>rfl)
 | some i =>
  obtain ⟨l,c⟩:=i
  obtain ⟨k,hk⟩:∃ n,n=l.length:=⟨_,rfl⟩
  obtain ⟨f,hf⟩:∃ g,g=cO l:=⟨_,rfl⟩
  have Qu:k≤1099511627776:=by rw [hk]; exact Qu
  cases j with
  | none =>
   have fin:∀ b:Bool,b=decide (l=[])→∃ v',cL (List.range 1) 3 (jS.val (some (l,c),none))=some v'∧eZ (.bool b) v':=fun b h=>⟨.bool b,by rw [h]; rfl,.refl _⟩
   rw [show jS.ai (some (l,c),none)=[.flat false k 6 f] from by rw [hk,hf]; rfl,show jS.args (some (l,c),none)=[.slice (some ⟨0,0,none⟩) k c,.slice none 0 0] from by rw [hk]; rfl]
   by_cases h0:k=0
   ·have hm:l=[]:=List.length_eq_zero_iff.1 (hk.symm.trans h0)
    subst h0
    conv=>whnf
    refine .inr ⟨1,?_⟩
    conv=>whnf
    exact fin true (by rw [hm]; rfl)
   ·conv=>whnf
    rw [show (((k:Nat):Int) != ((0:Nat):Int))=true from by simp; omega]
    conv=>whnf
    exact fin false (by cases l with | nil=>exact absurd hk h0 | cons a m=>rfl)
  | some j =>
   obtain ⟨m,d⟩:=j
   obtain ⟨n,hn⟩:∃ n,n=m.length:=⟨_,rfl⟩
   obtain ⟨g,hg⟩:∃ g,g=cO m:=⟨_,rfl⟩
   have fin:∀ b:Bool,b=decide (l=m)→∃ v',cL (List.range 2) 3 (jS.val (some (l,c),some (m,d)))=some v'∧eZ (.bool b) v':=fun b h=>⟨.bool b,by rw [h]; rfl,.refl _⟩
   rw [show jS.ai (some (l,c),some (m,d))=[.flat false k 6 f,.flat false n 6 g] from by rw [hk,hf,hn,hg]; rfl,show jS.args (some (l,c),some (m,d))=[.slice (some ⟨0,0,none⟩) k c,.slice (some ⟨1,0,none⟩) n d] from by rw [hk,hn]; rfl]
   by_cases h0:k=n
   ·obtain rfl:=h0
    conv=>whnf
    rw [show ((k:Int) != (k:Int))=false from by simp]
    conv=>whnf
    refine .inl ⟨fun mm tz hz=>∃ (i:Nat),bu (some (.slice (some ⟨0,0,none⟩) k c)::some (.slice (some ⟨1,0,none⟩) k d)::aB 10 (some (.int .i64 k)::some (.int .i64 i)::aB 12 [])) tz∧hz=[some (.flat false k 6 f),some (.flat false k 6 g)]∧k - i=mm∧(i≤k∧uu l m i),.inr ⟨[0,1],[0,1,12,13],?_⟩,?_⟩
    ·conv=>whnf
     intro _
     conv=>whnf
     refine ⟨_,0,(.aa (.aa (.sk 10 (.aa (.aa (.sk 12 .nil rfl))) rfl))),rfl,rfl,?_⟩
     exact ⟨Nat.zero_le _,Sl _ _⟩
    rintro mm aQ _ ⟨i,aq,rfl,rfl,⟨hi,hN⟩⟩
    obtain ⟨az,rfl⟩:∃ az:Nat→Value,aQ=.slice (some ⟨0,0,none⟩) k c::.slice (some ⟨1,0,none⟩) k d::zs az 2 10 (.int .i64 k::.int .i64 i::zs az 14 12 []):=bI aq
    clear aq
    conv=>whnf
    refine aF (fun h1=>?_) (fun h1=>?_)
    ·have h1:i < k:=by
      have:=of_decide_eq_true h1
      omega
     obtain ⟨p,kG,_,aX⟩:=qV (l:=l) (i:=i) (by omega)
     obtain ⟨q,Jh,_,Ol⟩:=qV (l:=m) (i:=i) (by omega)
     rw [← hf] at aX
     rw [← hg] at Ol
     have e7:IntKind.i64.wrap ((i:Int)+1)=((i+1:Nat):Int):=by rw [aw (by omega) (by omega)]; rfl
     conv=>whnf
     refine .inl ⟨8,[[],[],[0,1],[0,1,2],[],[],[4,5],[4,5,6],[0,1,2,3,4,5,6,7]],by kernel_rfl,?_⟩
     conv=>whnf
     refine ⟨⟨by omega,by omega⟩,?_⟩
     simp only [toNat_cast,ar,Nat.zero_add]
     conv=>whnf
     refine ⟨by show i < k; omega,?_⟩
     conv=>whnf
     rw [aX]
     conv=>whnf
     refine ⟨⟨by omega,by omega⟩,?_⟩
     simp only [toNat_cast,ar,Nat.zero_add]
     conv=>whnf
     refine ⟨by show i < k; omega,?_⟩
     conv=>whnf
     rw [Ol]
     conv=>whnf
     rw [CC p q]
     by_cases J:p=q
     ·rw [decide_eq_true J]
      conv=>whnf
      rw [e7]
      refine .inr ⟨[0,1],[0,1,12,13],?_⟩
      conv=>whnf
      intro _
      conv=>whnf
      refine ⟨_,?_,i+1,(.aa (.aa (.sk 10 (.aa (.aa (.sk 12 .nil rfl))) rfl))),rfl,rfl,?_⟩
      ·omega
      ·exact ⟨by omega,TA hN kG Jh J⟩
     ·rw [decide_eq_false J]
      conv=>whnf
      exact fin false (decide_eq_false (abi kG Jh J)).symm
    ·have h1:i=k:=by
      have:=of_decide_eq_false h1
      omega
     subst h1
     conv=>whnf
     exact fin true (decide_eq_true (UP (by rw [← hk]; exact hN) (hk.symm.trans hn))).symm
   ·conv=>whnf
    rw [show ((k:Int) != (n:Int))=true from by simp; omega]
    conv=>whnf
    exact fin false (decide_eq_false (fun e=>h0 (by rw [hk,hn,e]))).symm
end Go.Proofs.YtlapbjdhekcipaaGreat
/- Convex: the examples of the chapter. -/
set_option maxRecDepth 20000
set_option maxHeartbeats 4000000
namespace Go.Proofs.YtlapbjdhekcipaaGreat
open Go Go.Ae
def Ea2:Env:=sK [(54,.q gW),(16,.q iU),(44,.q l9),(21,.q cY),(55,.p pU),(30,.p FO),(33,.p kB),(38,.p gC),(18,.q jS)]
theorem aci:EnvOk Tryz.prog Ea2:=uC ⟨T9,VE,Yt,Nf,NL,TZ,yp,wh,VH,trivial⟩ trivial
theorem SZ:aZ Tryz.prog 13 Ny:=by
 refine bf aci aK Tryz.func13 (enters_of Tryz.func13 (by kernel_rfl) rfl) (fun _=>rfl) (fun _=>rfl) ?_
 intro _ hp
 obtain ⟨cu,fo⟩:∃ cu,cu=aJ:=⟨_,rfl⟩
 obtain ⟨gS,vk⟩:∃ g,g=bT (bo dh):=⟨_,rfl⟩
 obtain ⟨gT,Ji⟩:∃ g,g=bT (bo ji):=⟨_,rfl⟩
 obtain ⟨gU,Jj⟩:∃ g,g=bT (bo jK):=⟨_,rfl⟩
 obtain ⟨gM,zZ⟩:∃ g,g=bT (bo jk):=⟨_,rfl⟩
 have fS:PL.fit (some (bH (bo dh),cu)):=Gs (by decide) (by decide)
 have fT:PL.fit (some (bH (bo ji),cu)):=Gs (by decide) (by decide)
 have fU:PL.fit (some (bH (bo jK),cu)):=Gs (by decide) (by decide)
 conv=>whnf
 refine ⟨dh,[0],rfl,⟨by decide,by decide⟩,?_⟩
 rw [show gW.ai dh=[.flat false 8 1 (mQ dh)] from rfl,show gW.val dh=.slice (some ⟨1,0,none⟩) 4 cu from by rw [fo]; rfl,show gW.new dh=some (.flat true 4 6 gS) from by rw [vk]; rfl]
 conv=>whnf
 refine ⟨A7 dh _ rfl,?_⟩
 conv=>whnf
 refine ⟨_,rfl,?_⟩
 conv=>whnf
 refine ⟨ji,[2],rfl,⟨by decide,by decide⟩,?_⟩
 rw [show gW.ai ji=[.flat false 6 1 (mQ ji)] from rfl,show gW.val ji=.slice (some ⟨1,0,none⟩) 3 cu from by rw [fo]; rfl,show gW.new ji=some (.flat true 3 6 gT) from by rw [Ji]; rfl]
 conv=>whnf
 refine ⟨A7 ji _ rfl,?_⟩
 conv=>whnf
 refine ⟨_,rfl,?_⟩
 conv=>whnf
 refine ⟨(some (bH (bo dh),cu),some (bH (bo ji),cu)),[1,3],rfl,⟨⟨fS,fT⟩,abn (G3 (by decide)) (G3 (by decide))⟩,?_⟩
 rw [show iU.ai (some (bH (bo dh),cu),some (bH (bo ji),cu))=[.flat false 4 6 gS,.flat false 3 6 gT] from by rw [vk,Ji]; rfl,Ms.1,Ms.2,← zZ,← fo]
 conv=>whnf
 refine ⟨aO.aY (fun h=>by cases h) (fun r hr=>by rw [vk]; rfl),aO.aY (fun h=>by cases h) (fun r hr=>by rw [Ji]; rfl),?_⟩
 conv=>whnf
 refine ⟨_,rfl,?_⟩
 conv=>whnf
 refine ⟨jK,[5],rfl,⟨by decide,by decide⟩,?_⟩
 rw [show gW.ai jK=[.flat false 6 1 (mQ jK)] from rfl,show gW.val jK=.slice (some ⟨1,0,none⟩) 3 cu from by rw [fo]; rfl,show gW.new jK=some (.flat true 3 6 gU) from by rw [Jj]; rfl]
 conv=>whnf
 refine ⟨A7 jK _ rfl,?_⟩
 conv=>whnf
 refine ⟨_,rfl,?_⟩
 conv=>whnf
 obtain ⟨sa,zX⟩:∃ u,u=ck (iq (4,0)):=⟨_,rfl⟩
 obtain ⟨sb,Dj⟩:∃ u,u=ck (iq (4,4)):=⟨_,rfl⟩
 refine ⟨(some (bH (bo dh),cu),some (bH (bo jK),cu)),[1,6],rfl,⟨fS,fU⟩,?_⟩
 rw [show l9.ai (some (bH (bo dh),cu),some (bH (bo jK),cu))=[.flat false 4 6 gS,.flat false 3 6 gU] from by rw [vk,Jj]; rfl,WC zX Dj,show l9.new (some (bH (bo dh),cu),some (bH (bo jK),cu))=none from rfl]
 conv=>whnf
 refine ⟨aO.aY (fun h=>by cases h) (fun r hr=>by rw [vk]; rfl),aO.aY (fun h=>by cases h) (fun r hr=>by rw [Jj]; rfl),?_⟩
 conv=>whnf
 refine ⟨_,rfl,?_⟩
 conv=>whnf
 obtain ⟨p1,cp1,ep1,pp1,sp1,qp1⟩:=wz (ur (-2) (1) (by decide) (by decide))
 refine ⟨(((-2:Int),(1:Int)):Int × Int),rfl,⟨⟨by decide,by decide⟩,⟨by decide,by decide⟩⟩,?_⟩
 rw [show pU.val (((-2:Int),(1:Int)):Int × Int)=p1.v from ep1]
 conv=>whnf
 obtain ⟨p2,cp2,ep2,pp2,sp2,qp2⟩:=wz (ur (6) (1) (by decide) (by decide))
 refine ⟨(((6:Int),(1:Int)):Int × Int),rfl,⟨⟨by decide,by decide⟩,⟨by decide,by decide⟩⟩,?_⟩
 rw [show pU.val (((6:Int),(1:Int)):Int × Int)=p2.v from ep2]
 conv=>whnf
 obtain ⟨lo,mq,elo,plo,lF,qM⟩:=Gp (q:=1 / 4) (k:=1) ⟨gr (show _ < C ^ 1 by decide +kernel),gr (show _ < C ^ 1 by decide +kernel)⟩
 obtain ⟨hi,mr,ehi,phi,mu,qN⟩:=Gp (q:=3 / 4) (k:=1) ⟨gr (show _ < C ^ 1 by decide +kernel),gr (show _ < C ^ 1 by decide +kernel)⟩
 refine ⟨(some (bH (bo dh),cu),(p1,p2)),[1],rfl,⟨fS,PV.aR sp1 (by decide),PV.aR sp2 (by decide)⟩,?_⟩
 rw [show cY.ai (some (bH (bo dh),cu),(p1,p2))=[.flat false 4 6 gS] from by rw [vk]; rfl,WD cp1 cp2 mq mr,show cY.new (some (bH (bo dh),cu),(p1,p2))=none from rfl]
 conv=>whnf
 refine ⟨aO.aY (fun h=>by cases h) (fun r hr=>by rw [vk]; rfl),?_⟩
 conv=>whnf
 refine ⟨_,rfl,?_⟩
 conv=>whnf
 refine ⟨(1,4),rfl,⟨by show uW 1; decide,by show uW 4; decide⟩,?_⟩
 rw [show FO.val (1,4)=.tuple ⟨[lo.v,.int .i64 0]⟩ from by show kZ 1 4=_; unfold kZ; rw [show Rat.divInt 1 4=1 / 4 by decide +kernel,mq]; rfl]
 conv=>whnf
 refine .inl ⟨36,[[],[0],[0,1],[0,1,2],[0,1,2,3],[0,1,2,3,4],[0,1,2,3,4,5],[0,1,2,3,4,5,6],[0,1,2,3,4,5,6,7],[0,1,2,3,4,5,6,7,8],[0,1,2,3,4,5,6,7,8,9],[0,1,2,3,4,5,6,7,8,9,10],[0,1,2,3,4,5,6,7,8,9,10],[0,1,2,3,4,5,6,7,8,9,10,12],[0,1,2,3,4,5,6,7,8,9,10,11,12,13],[0,1,2,3,4,5,6,7,8,9,10,11,12,13,14],[0,1,2,3,4,5,6,7,8,9,10,11,12,13,14,15],[0,1,2,3,4,5,6,7,8,9,10,11,12,13,14,15,16],[0,1,2,3,4,5,6,7,8,9,10,11,12,13,14,15,16],[0,1,2,3,4,5,6,7,8,9,10,11,12,13,14,15,16,18],[0,1,2,3,4,5,6,7,8,9,10,11,12,13,14,15,16,18,19],[0,1,2,3,4,5,6,7,8,9,10,11,12,13,14,15,16,17,18,19,20],[0,1,2,3,4,5,6,7,8,9,10,11,12,13,14,15,16,17,18,19,20,21],[0,1,2,3,4,5,6,7,8,9,10,11,12,13,14,15,16,17,18,19,20,21,22],[0,1,2,3,4,5,6,7,8,9,10,11,12,13,14,15,16,17,18,19,20,21,22,23],[0,1,2,3,4,5,6,7,8,9,10,11,12,13,14,15,16,17,18,19,20,21,22,23,24],[0,1,2,3,4,5,6,7,8,9,10,11,12,13,14,15,16,17,18,19,20,21,22,23,24,25],[0,1,2,3,4,5,6,7,8,9,10,11,12,13,14,15,16,17,18,19,20,21,22,23,24,25,26],[0,1,2,3,4,5,6,7,8,9,10,11,12,13,14,15,16,17,18,19,20,21,22,23,24,25,26],[0,1,2,3,4,5,6,7,8,9,10,11,12,13,14,15,16,17,18,19,20,21,22,23,24,25,26,27,28],[0,1,2,3,4,5,6,7,8,9,10,11,12,13,14,15,16,17,18,19,20,21,22,23,24,25,26,27,28,29],[0,1,2,3,4,5,6,7,8,9,10,11,12,13,14,15,16,17,18,19,20,21,22,23,24,25,26,27,28,29,30],[0,1,2,3,4,5,6,7,8,9,10,11,12,13,14,15,16,17,18,19,20,21,22,23,24,25,26,27,28,29,30,31],[0,1,2,3,4,5,6,7,8,9,10,11,12,13,14,15,16,17,18,19,20,21,22,23,24,25,26,27,28,29,30,31],[0,1,2,3,4,5,6,7,8,9,10,11,12,13,14,15,16,17,18,19,20,21,22,23,24,25,26,27,28,29,30,31],[0,1,2,3,4,5,6,7,8,9,10,11,12,13,14,15,16,17,18,19,20,21,22,23,24,25,26,27,28,29,30,31,33,34],[0,1,2,3,4,5,6,7,8,9,10,11,12,13,14,15,16,17,18,19,20,21,22,23,24,25,26,27,28,29,30,31,32,33,34,35],[0,1,2,3,4,5,6,7,8,9,10,11,12,13,14,15,16,17,18,19,20,21,22,23,24,25,26,27,28,29,30,31,32,33,34,35,36],[0,1,2,3,4,5,6,7,8,9,10,11,12,13,14,15,16,17,18,19,20,21,22,23,24,25,26,27,28,29,30,31,32,33,34,35,36,37]],by kernel_rfl,?_⟩
 conv=>whnf
 refine ⟨jk,[23],rfl,⟨by decide,by decide⟩,?_⟩
 rw [show gW.ai jk=[.flat false 8 1 (mQ jk)] from rfl,show gW.val jk=.slice (some ⟨1,0,none⟩) 4 cu from by rw [fo]; rfl,show gW.new jk=some (.flat true 4 6 gM) from by rw [zZ]; rfl]
 conv=>whnf
 refine ⟨A7 jk _ rfl,?_⟩
 conv=>whnf
 refine ⟨_,rfl,?_⟩
 conv=>whnf
 refine ⟨(some (bH (bo jk),cu),some (bH (bo jk),cu)),[4,24],rfl,⟨by show 4≤1099511627776; decide,by show 4≤1099511627776; decide⟩,?_⟩
 rw [show jS.ai (some (bH (bo jk),cu),some (bH (bo jk),cu))=[.flat false 4 6 gM,.flat false 4 6 gM] from by rw [zZ]; rfl,show jS.val (some (bH (bo jk),cu),some (bH (bo jk),cu))=.bool true from congrArg Value.bool (decide_eq_true rfl),show jS.new (some (bH (bo jk),cu),some (bH (bo jk),cu))=none from rfl]
 conv=>whnf
 refine ⟨aO.aY (fun h=>by cases h) (fun r hr=>by rw [zZ]; rfl),aO.aY (fun h=>by cases h) (fun r hr=>by rw [zZ]; rfl),?_⟩
 conv=>whnf
 refine ⟨.bool true,rfl,?_⟩
 conv=>whnf
 obtain ⟨q1,cq1,eq1,pq1,sq1,qq1⟩:=wz (ur (4) (0) (by decide) (by decide))
 refine ⟨(((4:Int),(0:Int)):Int × Int),rfl,⟨⟨by decide,by decide⟩,⟨by decide,by decide⟩⟩,?_⟩
 rw [show pU.val (((4:Int),(0:Int)):Int × Int)=q1.v from eq1]
 conv=>whnf
 obtain ⟨q2,cq2,eq2,pq2,sq2,qq2⟩:=wz (ur (4) (4) (by decide) (by decide))
 refine ⟨(((4:Int),(4:Int)):Int × Int),rfl,⟨⟨by decide,by decide⟩,⟨by decide,by decide⟩⟩,?_⟩
 rw [show pU.val (((4:Int),(4:Int)):Int × Int)=q2.v from eq2]
 conv=>whnf
 obtain rfl:sa=q1:=zX.trans cq1.symm
 obtain rfl:sb=q2:=Dj.trans cq2.symm
 rw [eqX (sa,sb)]
 conv=>whnf
 rw [xo lo]
 conv=>whnf
 obtain ⟨o,co,eo,po,so,qo⟩:=Gp (q:=((1:Int):Rat)) (QB.of_int (n:=1) (k:=1) (gr (show Int.natAbs 1 < C ^ 1 by decide)) (by decide))
 refine ⟨(1:Int),rfl,⟨by decide,by decide⟩,?_⟩
 rw [show kB.val (1:Int)=o.v from eo]
 conv=>whnf
 refine ⟨(o,lo),rfl,⟨RV.bC so (by decide),RV.bC lF (by decide)⟩,?_⟩
 rw [show gC.val (o,lo)=hi.v from by show (RV.of (o.q - lo.q)).v=_; rw [po,plo,show ((1:Int):Rat) - 1 / 4=3 / 4 by decide +kernel,mr]]
 conv=>whnf
 show Value.bool (eh _ _)=Value.bool true
 exact congrArg Value.bool (xo hi)
end Go.Proofs.YtlapbjdhekcipaaGreat
/- Laws of convex against the reference: pairs of rings. -/
set_option maxRecDepth 20000
set_option maxHeartbeats 4000000
namespace Go.Proofs.YtlapbjdhekcipaaGreat
open Go Go.Ae
def Jk:Env:=En [(53,.q fZ)]
theorem acj:EnvOk Tryz.prog Jk:=bF ⟨SX,trivial⟩ trivial
theorem Ua:fK Tryz.prog 107 (cc Jk cF Tryz.f107):=by
 exact iV acj aK Tryz.func107 (enters_of Tryz.func107 (by kernel_rfl) rfl)
def Jl:Env:=En [] [(107,cc Jk cF Tryz.f107)]
theorem ack:EnvOk Tryz.prog Jl:=bF trivial ⟨Ua,trivial⟩
theorem Rc:fK Tryz.prog 52 (cc Jl cF Tryz.f52):=by
 exact iV ack aK Tryz.func52 (enters_of Tryz.func52 (by kernel_rfl) rfl)
def Jm:Env:=En [] [(52,cc Jl cF Tryz.f52)]
theorem acm:EnvOk Tryz.prog Jm:=bF trivial ⟨Rc,trivial⟩
theorem VI:fK Tryz.prog 12 (cc Jm cF Tryz.f12):=by
 exact iV acm aK Tryz.func12 (enters_of Tryz.func12 (by kernel_rfl) rfl)
end Go.Proofs.YtlapbjdhekcipaaGreat
/- Laws of convex against the reference: points. -/
set_option maxRecDepth 20000
set_option maxHeartbeats 4000000
namespace Go.Proofs.YtlapbjdhekcipaaGreat
open Go Go.Ae
def Eb6:Env:=sK [(13,.p Ny),(19,.q dB),(20,.q dB),(21,.q cY),(22,.q cY),(23,.q aV),(24,.q aV)] [(12,cc Jm cF Tryz.f12)]
theorem acn:EnvOk Tryz.prog Eb6:=uC ⟨SZ,T5,SY,Nf,VG,xX,D8,trivial⟩ ⟨VI,trivial⟩
theorem Ub:c4 Tryz.prog 4 pk:=by
 refine dC acn aK Tryz.func4 (enters_of Tryz.func4 (by kernel_rfl) rfl) ?_ ?_ ?_
 ·intro ⟨i,k⟩ B hb
  cases i <;> simp [pk,PL.ai] at hb
  rw [hb]; rfl
 ·intro i b hb; simp [pk] at hb
 intro ⟨i,p,q⟩ hp
 have oR:i.list.length*80≤140737488351232:=hp
 have fin:∀ n,∃ v',cL (List.range n) 3 (pk.val (i,p,q))=some v'∧eZ (.bool true) v':=fun n=>⟨.bool true,rfl,.refl _⟩
 cases i with
 | none =>
  have oR:List.length ([]:List PV)*80≤140737488351232:=oR
  rw [show pk.ai (none,p,q)=[] from rfl,show pk.args (none,p,q)=[.slice none 0 0,p.v,q.v] from rfl]
  conv=>whnf
  refine .inr ⟨3,?_⟩
  conv=>whnf
  refine ⟨⟨by decide,by decide⟩,?_⟩
  conv=>whnf
  obtain ⟨GA,z5⟩:∃ G,G=km []:=⟨_,rfl⟩
  refine ⟨none,[],by rw [show fZ.args (none)=[.slice none 0 0] from rfl]; rfl,by show List.length ([]:List PV)≤9223372036854775807; omega,?_⟩
  rw [show fZ.ai (none)=[] from rfl,show fZ.val (none)=.bool GA from by rw [z5]; rfl,show fZ.new (none)=none from rfl]
  conv=>whnf
  skip
  conv=>whnf
  refine ⟨_,rfl,?_⟩
  conv=>whnf
  cases GA with
  | true =>
   conv=>whnf
   conv=>whnf
   refine ⟨(),rfl,trivial,?_⟩
   conv=>whnf
   exact fin _
  | false =>
   have hA:=z5.symm
   conv=>whnf
   refine ⟨⟨by decide,by decide⟩,?_⟩
   conv=>whnf
   obtain ⟨GB,z6⟩:∃ G,G=km [p,q]:=⟨_,rfl⟩
   refine ⟨some ([p,q],2),[2],by rw [show fZ.args (some ([p,q],2))=[.slice (some ⟨0,0,none⟩) 2 2] from rfl]; rfl,by show List.length ([p,q]:List PV)≤9223372036854775807; (show 2≤9223372036854775807; decide),?_⟩
   rw [show fZ.ai (some ([p,q],2))=[.flat false 2 6 (cO [p,q])] from rfl,show fZ.val (some ([p,q],2))=.bool GB from by rw [z6]; rfl,show fZ.new (some ([p,q],2))=none from rfl]
   conv=>whnf
   refine ⟨x5 [p,q],?_⟩
   conv=>whnf
   refine ⟨_,rfl,?_⟩
   conv=>whnf
   cases GB with
   | true =>
    conv=>whnf
    conv=>whnf
    refine ⟨(),rfl,trivial,?_⟩
    conv=>whnf
    exact fin _
   | false =>
    obtain ⟨sp,sq⟩:=NJ z6.symm
    have sp:=PV.aR sp (show 12≤2048 by decide)
    have sq:=PV.aR sq (show 12≤2048 by decide)
    conv=>whnf
    obtain ⟨⟨a,e⟩,ha⟩:∃ x,x=l8 [] p:=⟨_,rfl⟩
    obtain ⟨⟨⟨x,y⟩,z,g⟩,hx⟩:∃ x,x=cH [] (p,q):=⟨_,rfl⟩
    obtain ⟨k,hk⟩:∃ k,k=bw []:=⟨_,rfl⟩
    refine ⟨(none,p),[],by rw [show bk.args dB (none,p)=[.slice none 0 0,p.v] from rfl]; rfl,⟨mG hA,sp⟩,?_⟩
    rw [show bk.ai dB (none,p)=[] from rfl,show bk.val dB (none,p)=.tuple ⟨[.int .i64 a,.int .i64 e]⟩ from by show ZE.v (l8 [] p)=_; rw [← ha]; rfl,show bk.new dB (none,p)=none from rfl]
    conv=>whnf
    skip
    conv=>whnf
    refine ⟨_,rfl,?_⟩
    conv=>whnf
    refine ⟨(none,p),[],by rw [show bk.args dB (none,p)=[.slice none 0 0,p.v] from rfl]; rfl,⟨mG hA,sp⟩,?_⟩
    rw [show bk.ai dB (none,p)=[] from rfl,show bk.val dB (none,p)=.tuple ⟨[.int .i64 a,.int .i64 e]⟩ from by show ZE.v (l8 [] p)=_; rw [← ha]; rfl,show bk.new dB (none,p)=none from rfl]
    conv=>whnf
    skip
    conv=>whnf
    refine ⟨_,rfl,?_⟩
    conv=>whnf
    refine ⟨(none,(p,q)),[],by rw [show bk.args cY (none,(p,q))=[.slice none 0 0,XV.v (p,q)] from rfl]; rfl,⟨mG hA,sp,sq⟩,?_⟩
    rw [show bk.ai cY (none,(p,q))=[] from rfl,show bk.val cY (none,(p,q))=.tuple ⟨[x.v,y.v,.bool z,.int .i64 g]⟩ from by show Value.tuple ⟨[(cH [] (p,q)).1.1.v,(cH [] (p,q)).1.2.v,.bool (cH [] (p,q)).2.1,.int .i64 (cH [] (p,q)).2.2]⟩=_; rw [← hx],show bk.new cY (none,(p,q))=none from rfl]
    conv=>whnf
    skip
    conv=>whnf
    refine ⟨_,rfl,?_⟩
    conv=>whnf
    refine ⟨(none,(p,q)),[],by rw [show bk.args cY (none,(p,q))=[.slice none 0 0,XV.v (p,q)] from rfl]; rfl,⟨mG hA,sp,sq⟩,?_⟩
    rw [show bk.ai cY (none,(p,q))=[] from rfl,show bk.val cY (none,(p,q))=.tuple ⟨[x.v,y.v,.bool z,.int .i64 g]⟩ from by show Value.tuple ⟨[(cH [] (p,q)).1.1.v,(cH [] (p,q)).1.2.v,.bool (cH [] (p,q)).2.1,.int .i64 (cH [] (p,q)).2.2]⟩=_; rw [← hx],show bk.new cY (none,(p,q))=none from rfl]
    conv=>whnf
    skip
    conv=>whnf
    refine ⟨_,rfl,?_⟩
    conv=>whnf
    refine ⟨(none),[],by rw [show bk.args aV (none)=[.slice none 0 0] from rfl]; rfl,mG hA,?_⟩
    rw [show bk.ai aV (none)=[] from rfl,show bk.val aV (none)=.int .i64 k from by rw [hk]; rfl,show bk.new aV (none)=none from rfl]
    conv=>whnf
    skip
    conv=>whnf
    refine ⟨_,rfl,?_⟩
    conv=>whnf
    refine ⟨(none),[],by rw [show bk.args aV (none)=[.slice none 0 0] from rfl]; rfl,mG hA,?_⟩
    rw [show bk.ai aV (none)=[] from rfl,show bk.val aV (none)=.int .i64 k from by rw [hk]; rfl,show bk.new aV (none)=none from rfl]
    conv=>whnf
    skip
    conv=>whnf
    refine ⟨_,rfl,?_⟩
    conv=>whnf
    rw [show (k == k)=true from by simp]
    conv=>whnf
    rw [show (a == a)=true from by simp]
    conv=>whnf
    rw [show (e == e)=true from by simp]
    conv=>whnf
    rw [xo x]
    conv=>whnf
    rw [xo y]
    conv=>whnf
    rw [show (z == z)=true from by simp]
    conv=>whnf
    rw [show (g == g)=true from by simp]
    conv=>whnf
    refine ⟨(),rfl,trivial,?_⟩
    conv=>whnf
    exact fin _
 | some i =>
  obtain ⟨A,c⟩:=i
  obtain ⟨na,cW⟩:∃ n,n=A.length:=⟨_,rfl⟩
  obtain ⟨ga,eg⟩:∃ g,g=cO A:=⟨_,rfl⟩
  have oR:List.length (A:List PV)*80≤140737488351232:=oR
  rw [show pk.ai (some (A,c),p,q)=[.flat false na 6 ga] from by rw [cW,eg]; rfl,show pk.args (some (A,c),p,q)=[.slice (some ⟨0,0,none⟩) na c,p.v,q.v] from by rw [cW]; rfl]
  conv=>whnf
  refine .inr ⟨3,?_⟩
  conv=>whnf
  refine ⟨⟨by decide,by decide⟩,?_⟩
  conv=>whnf
  obtain ⟨GA,z5⟩:∃ G,G=km A:=⟨_,rfl⟩
  refine ⟨some (A,c),[0],by rw [show fZ.args (some (A,c))=[.slice (some ⟨0,0,none⟩) na c] from by rw [cW]; rfl]; rfl,by show List.length (A:List PV)≤9223372036854775807; omega,?_⟩
  rw [show fZ.ai (some (A,c))=[.flat false na 6 ga] from by rw [cW,eg]; rfl,show fZ.val (some (A,c))=.bool GA from by rw [z5]; rfl,show fZ.new (some (A,c))=none from rfl]
  conv=>whnf
  refine ⟨aO.aY (fun h=>h) (fun r hr=>by rw [eg]; rfl),?_⟩
  conv=>whnf
  refine ⟨_,rfl,?_⟩
  conv=>whnf
  cases GA with
  | true =>
   conv=>whnf
   conv=>whnf
   refine ⟨(),rfl,trivial,?_⟩
   conv=>whnf
   exact fin _
  | false =>
   have hA:=z5.symm
   conv=>whnf
   refine ⟨⟨by decide,by decide⟩,?_⟩
   conv=>whnf
   obtain ⟨GB,z6⟩:∃ G,G=km [p,q]:=⟨_,rfl⟩
   refine ⟨some ([p,q],2),[3],by rw [show fZ.args (some ([p,q],2))=[.slice (some ⟨0,0,none⟩) 2 2] from rfl]; rfl,by show List.length ([p,q]:List PV)≤9223372036854775807; (show 2≤9223372036854775807; decide),?_⟩
   rw [show fZ.ai (some ([p,q],2))=[.flat false 2 6 (cO [p,q])] from rfl,show fZ.val (some ([p,q],2))=.bool GB from by rw [z6]; rfl,show fZ.new (some ([p,q],2))=none from rfl]
   conv=>whnf
   refine ⟨x5 [p,q],?_⟩
   conv=>whnf
   refine ⟨_,rfl,?_⟩
   conv=>whnf
   cases GB with
   | true =>
    conv=>whnf
    conv=>whnf
    refine ⟨(),rfl,trivial,?_⟩
    conv=>whnf
    exact fin _
   | false =>
    obtain ⟨sp,sq⟩:=NJ z6.symm
    have sp:=PV.aR sp (show 12≤2048 by decide)
    have sq:=PV.aR sq (show 12≤2048 by decide)
    conv=>whnf
    obtain ⟨⟨a,e⟩,ha⟩:∃ x,x=l8 A p:=⟨_,rfl⟩
    obtain ⟨⟨⟨x,y⟩,z,g⟩,hx⟩:∃ x,x=cH A (p,q):=⟨_,rfl⟩
    obtain ⟨k,hk⟩:∃ k,k=bw A:=⟨_,rfl⟩
    refine ⟨(some (A,c),p),[0],by rw [show bk.args dB (some (A,c),p)=[.slice (some ⟨0,0,none⟩) na c,p.v] from by rw [cW]; rfl]; rfl,⟨mG hA,sp⟩,?_⟩
    rw [show bk.ai dB (some (A,c),p)=[.flat false na 6 ga] from by rw [cW,eg]; rfl,show bk.val dB (some (A,c),p)=.tuple ⟨[.int .i64 a,.int .i64 e]⟩ from by show ZE.v (l8 A p)=_; rw [← ha]; rfl,show bk.new dB (some (A,c),p)=none from rfl]
    conv=>whnf
    refine ⟨aO.aY (fun h=>h) (fun r hr=>by rw [eg]; rfl),?_⟩
    conv=>whnf
    refine ⟨_,rfl,?_⟩
    conv=>whnf
    refine ⟨(some (A,c),p),[0],by rw [show bk.args dB (some (A,c),p)=[.slice (some ⟨0,0,none⟩) na c,p.v] from by rw [cW]; rfl]; rfl,⟨mG hA,sp⟩,?_⟩
    rw [show bk.ai dB (some (A,c),p)=[.flat false na 6 ga] from by rw [cW,eg]; rfl,show bk.val dB (some (A,c),p)=.tuple ⟨[.int .i64 a,.int .i64 e]⟩ from by show ZE.v (l8 A p)=_; rw [← ha]; rfl,show bk.new dB (some (A,c),p)=none from rfl]
    conv=>whnf
    refine ⟨aO.aY (fun h=>h) (fun r hr=>by rw [eg]; rfl),?_⟩
    conv=>whnf
    refine ⟨_,rfl,?_⟩
    conv=>whnf
    refine ⟨(some (A,c),(p,q)),[0],by rw [show bk.args cY (some (A,c),(p,q))=[.slice (some ⟨0,0,none⟩) na c,XV.v (p,q)] from by rw [cW]; rfl]; rfl,⟨mG hA,sp,sq⟩,?_⟩
    rw [show bk.ai cY (some (A,c),(p,q))=[.flat false na 6 ga] from by rw [cW,eg]; rfl,show bk.val cY (some (A,c),(p,q))=.tuple ⟨[x.v,y.v,.bool z,.int .i64 g]⟩ from by show Value.tuple ⟨[(cH A (p,q)).1.1.v,(cH A (p,q)).1.2.v,.bool (cH A (p,q)).2.1,.int .i64 (cH A (p,q)).2.2]⟩=_; rw [← hx],show bk.new cY (some (A,c),(p,q))=none from rfl]
    conv=>whnf
    refine ⟨aO.aY (fun h=>h) (fun r hr=>by rw [eg]; rfl),?_⟩
    conv=>whnf
    refine ⟨_,rfl,?_⟩
    conv=>whnf
    refine ⟨(some (A,c),(p,q)),[0],by rw [show bk.args cY (some (A,c),(p,q))=[.slice (some ⟨0,0,none⟩) na c,XV.v (p,q)] from by rw [cW]; rfl]; rfl,⟨mG hA,sp,sq⟩,?_⟩
    rw [show bk.ai cY (some (A,c),(p,q))=[.flat false na 6 ga] from by rw [cW,eg]; rfl,show bk.val cY (some (A,c),(p,q))=.tuple ⟨[x.v,y.v,.bool z,.int .i64 g]⟩ from by show Value.tuple ⟨[(cH A (p,q)).1.1.v,(cH A (p,q)).1.2.v,.bool (cH A (p,q)).2.1,.int .i64 (cH A (p,q)).2.2]⟩=_; rw [← hx],show bk.new cY (some (A,c),(p,q))=none from rfl]
    conv=>whnf
    refine ⟨aO.aY (fun h=>h) (fun r hr=>by rw [eg]; rfl),?_⟩
    conv=>whnf
    refine ⟨_,rfl,?_⟩
    conv=>whnf
    refine ⟨(some (A,c)),[0],by rw [show bk.args aV (some (A,c))=[.slice (some ⟨0,0,none⟩) na c] from by rw [cW]; rfl]; rfl,mG hA,?_⟩
    rw [show bk.ai aV (some (A,c))=[.flat false na 6 ga] from by rw [cW,eg]; rfl,show bk.val aV (some (A,c))=.int .i64 k from by rw [hk]; rfl,show bk.new aV (some (A,c))=none from rfl]
    conv=>whnf
    refine ⟨aO.aY (fun h=>h) (fun r hr=>by rw [eg]; rfl),?_⟩
    conv=>whnf
    refine ⟨_,rfl,?_⟩
    conv=>whnf
    refine ⟨(some (A,c)),[0],by rw [show bk.args aV (some (A,c))=[.slice (some ⟨0,0,none⟩) na c] from by rw [cW]; rfl]; rfl,mG hA,?_⟩
    rw [show bk.ai aV (some (A,c))=[.flat false na 6 ga] from by rw [cW,eg]; rfl,show bk.val aV (some (A,c))=.int .i64 k from by rw [hk]; rfl,show bk.new aV (some (A,c))=none from rfl]
    conv=>whnf
    refine ⟨aO.aY (fun h=>h) (fun r hr=>by rw [eg]; rfl),?_⟩
    conv=>whnf
    refine ⟨_,rfl,?_⟩
    conv=>whnf
    rw [show (k == k)=true from by simp]
    conv=>whnf
    rw [show (a == a)=true from by simp]
    conv=>whnf
    rw [show (e == e)=true from by simp]
    conv=>whnf
    rw [xo x]
    conv=>whnf
    rw [xo y]
    conv=>whnf
    rw [show (z == z)=true from by simp]
    conv=>whnf
    rw [show (g == g)=true from by simp]
    conv=>whnf
    refine ⟨(),rfl,trivial,?_⟩
    conv=>whnf
    exact fin _
end Go.Proofs.YtlapbjdhekcipaaGreat
