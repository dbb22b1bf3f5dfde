import Derived.Test.YtlapbjdhekcipaaGreatVJ
set_option linter.unusedVariables false
set_option linter.unusedSimpArgs false
set_option maxRecDepth 20000
set_option maxHeartbeats 4000000
namespace Go.Proofs.YtlapbjdhekcipaaGreat
open Go Go.Ae
def Eu5:Env:=En [(144,.q kg)]
theorem acr:EnvOk Tryz.prog Eu5:=bI ⟨Uq,trivial⟩ trivial
theorem Rq:dc Tryz.prog 100 nR:=by
 refine eg acr aM Tryz.func100 (enters_of Tryz.func100 (by kernel_rfl) rfl) ?_ ?_ ?_
 ·intro i b hb; simp [nR,xI] at hb; rcases hb with rfl | rfl <;> rfl
 ·intro i b hb; simp [nR,xI] at hb
 intro ⟨⟨⟨A,c⟩,⟨B,d⟩⟩,f,s⟩ hp;have hp:((f,s)=(101,true)∨(f,s)=(103,false)∨(f,s)=(105,true))∧(A.length≤1073741824∧∀ v∈A,Q2.sz 2048 v)∧B.length≤1073741824∧∀ v∈B,Q2.sz 2048 v:=hp;obtain ⟨vB,QF,dC⟩:=hp;obtain ⟨n,hn⟩:∃ n,n=A.length:=⟨_,rfl⟩;obtain ⟨g,hg⟩:∃ g,g=bW A:=⟨_,rfl⟩;obtain ⟨m,hm⟩:∃ n,n=B.length:=⟨_,rfl⟩;obtain ⟨k,hk⟩:∃ g,g=bW B:=⟨_,rfl⟩;have fin:∀ (x:XV) (z:Bool),gI (kE s A B)=(x,z)→∃ v',cQ (List.range 2) 3 (nR.val (((A,c),(B,d)),(f,s)))=some v'∧eZ (.tuple ⟨[x.v,.bool z]⟩) v':=fun x z h=>⟨_,by rw [show nR.val (((A,c),(B,d)),(f,s))=.tuple ⟨[x.v,.bool z]⟩ from by show Value.tuple ⟨[(gI (kE s A B)).1.v,.bool (gI (kE s A B)).2]⟩=_; rw [h]]; rfl,.refl _⟩
 rw [show nR.aj (((A,c),(B,d)),(f,s))=[.flat false n 6 g,.flat false m 6 k] from by rw [hn,hg,hm,hk]; rfl,show nR.args (((A,c),(B,d)),(f,s))=[.slice (some ⟨0,0,none⟩) n c,.slice (some ⟨1,0,none⟩) m d,.func (.func f) #[] #[]] from by rw [hn,hm]; rfl]
 conv=>whnf
 obtain ⟨⟨x,z⟩,hx⟩:∃ x,gI (ik s A B)=x:=⟨_,rfl⟩;refine ⟨(((A,c),(B,d)),(f,s)),[0,1],by rw [show kg.args (((A,c),(B,d)),(f,s))=[.slice (some ⟨0,0,none⟩) n c,.slice (some ⟨1,0,none⟩) m d,.func (.func f) #[] #[]] from by rw [hn,hm]; rfl]; rfl,⟨vB,QF,dC⟩,?_⟩
 rw [show kg.aj (((A,c),(B,d)),(f,s))=[.flat false n 6 g,.flat false m 6 k] from by rw [hn,hm,hg,hk]; rfl,show kg.val (((A,c),(B,d)),(f,s))=.tuple ⟨[x.v,.bool z]⟩ from by show Value.tuple ⟨[(gI (ik s A B)).1.v,.bool (gI (ik s A B)).2]⟩=_; rw [hx],show kg.new (((A,c),(B,d)),(f,s))=none from rfl]
 conv=>whnf
 refine ⟨aO.aW (fun h=>h) (fun r hr=>by rw [hg]; rfl),aO.aW (fun h=>h) (fun r hr=>by rw [hk]; rfl),?_⟩
 conv=>whnf
 refine ⟨_,rfl,?_⟩;conv=>whnf
 cases z with
 | true =>
  conv=>whnf
  exact fin x true (WL hx)
 | false =>
  conv=>whnf
  obtain ⟨⟨y,w⟩,hy⟩:∃ x,gI (ik s B A)=x:=⟨_,rfl⟩;refine ⟨(((B,d),(A,c)),(f,s)),[1,0],by rw [show kg.args (((B,d),(A,c)),(f,s))=[.slice (some ⟨0,0,none⟩) m d,.slice (some ⟨1,0,none⟩) n c,.func (.func f) #[] #[]] from by rw [hm,hn]; rfl]; rfl,⟨vB,dC,QF⟩,?_⟩
  rw [show kg.aj (((B,d),(A,c)),(f,s))=[.flat false m 6 k,.flat false n 6 g] from by rw [hm,hn,hk,hg]; rfl,show kg.val (((B,d),(A,c)),(f,s))=.tuple ⟨[y.v,.bool w]⟩ from by show Value.tuple ⟨[(gI (ik s B A)).1.v,.bool (gI (ik s B A)).2]⟩=_; rw [hy],show kg.new (((B,d),(A,c)),(f,s))=none from rfl]
  conv=>whnf
  refine ⟨aO.aW (fun h=>h) (fun r hr=>by rw [hk]; rfl),aO.aW (fun h=>h) (fun r hr=>by rw [hg]; rfl),?_⟩
  conv=>whnf
  refine ⟨_,rfl,?_⟩;conv=>whnf
  exact fin y w ((WM hx).trans hy)
def Eu6:Env:=En [(23,.q bt),(100,.q nR)]
theorem acs:EnvOk Tryz.prog Eu6:=bI ⟨BB,Rq,trivial⟩ trivial
theorem YP:dc Tryz.prog 44 mL:=by
 refine eg acs aM Tryz.func44 (enters_of Tryz.func44 (by kernel_rfl) rfl) ?_ ?_ ?_
 ·intro ⟨i,k⟩ B hb;cases i <;> cases k <;> simp [Oy,mL,PL.aj] at hb
  ·rw [hb]; rfl
  ·rw [hb]; rfl
  ·rcases hb with rfl | rfl <;> rfl
 ·intro i b hb; simp [Oy,mL] at hb
 intro ⟨i,k⟩ hp;have hp:(i.list.length≤1099511627776∧∀ v∈i.list,v.sz 2048)∧k.list.length≤1099511627776∧∀ v∈k.list,v.sz 2048:=hp;obtain ⟨⟨qL,pE⟩,uQ,l8⟩:=hp;cases i with
 | none =>
  cases k with
  | none =>
   conv=>whnf
   refine ⟨none,[],rfl,⟨Nat.zero_le _,fun v hv=>nomatch hv⟩,?_⟩
   rw [show bt.aj none=[] from rfl,show bt.val none=.int .i64 4 from rfl,show bt.new none=none from rfl]
   conv=>whnf
   refine ⟨_,rfl,?_⟩;conv=>whnf
   exact ⟨_,rfl,.refl _⟩
  | some k =>
   conv=>whnf
   refine ⟨none,[],rfl,⟨Nat.zero_le _,fun v hv=>nomatch hv⟩,?_⟩
   rw [show bt.aj none=[] from rfl,show bt.val none=.int .i64 4 from rfl,show bt.new none=none from rfl]
   conv=>whnf
   refine ⟨_,rfl,?_⟩;conv=>whnf
   exact ⟨_,rfl,.refl _⟩
 | some i =>
  obtain ⟨A,c⟩:=i;have qL:A.length≤1099511627776:=qL;have pE:∀ v∈A,PV.sz 2048 v:=pE;obtain ⟨na,gA⟩:∃ n,n=A.length:=⟨_,rfl⟩;obtain ⟨ga,kP⟩:∃ g,g=dq A:=⟨_,rfl⟩;have fin:∀ (k:PL) (B:List PV) (x:XV) (e:Int) (n:Nat),k.list=B→nz A B=(x,e)→∃ v',cQ (List.range n) 3 (cI.val mL (some (A,c),k))=some v'∧eZ (.tuple ⟨[x.v,.int .i64 e]⟩) v':=fun k B x e n hk h=>⟨.tuple ⟨[x.v,.int .i64 e]⟩,by
   subst hk;rw [show cI.val mL (some (A,c),k)=.tuple ⟨[x.v,.int .i64 e]⟩ from by show Value.tuple ⟨[(nz A k.list).1.v,.int .i64 (nz A k.list).2]⟩=_; rw [h]]; rfl,.refl _⟩
  cases k with
  | none =>
   rw [show cI.aj mL (some (A,c),none)=[.flat false na 6 ga] from by rw [gA,kP]; rfl,show cI.args mL (some (A,c),none)=[.slice (some ⟨0,0,none⟩) na c,.slice none 0 0] from by rw [gA]; rfl]
   rw [← gA] at qL;conv=>whnf
   refine ⟨some (A,c),[0],by rw [show bt.args (some (A,c))=[.slice (some ⟨0,0,none⟩) na c] from by rw [gA]; rfl]; rfl,⟨by show A.length≤_; omega,pE⟩,?_⟩
   rw [show bt.aj (some (A,c))=[.flat false na 6 ga] from by rw [gA,kP]; rfl,show bt.val (some (A,c))=.int .i64 (bC A) from rfl,show bt.new (some (A,c))=none from rfl]
   conv=>whnf
   refine ⟨aO.aW (fun h=>h) (fun r hr=>by rw [kP]; rfl),?_⟩
   conv=>whnf
   refine ⟨_,rfl,?_⟩;obtain ⟨e,he⟩:∃ z,z=bC A:=⟨_,rfl⟩;rw [← he];conv=>whnf
   by_cases h1:e=0
   ·rw [show (e != 0)=false from by simp [h1]]
    conv=>whnf
    refine ⟨none,[],rfl,⟨Nat.zero_le _,fun v hv=>nomatch hv⟩,?_⟩
    rw [show bt.aj none=[] from rfl,show bt.val none=.int .i64 4 from rfl,show bt.new none=none from rfl]
    conv=>whnf
    refine ⟨_,rfl,?_⟩;conv=>whnf
    exact fin none [] np 1 _ rfl (Ci fun e=>by have:=e.2; cases this)
   ·rw [show (e != 0)=true from by simp [h1]]
    conv=>whnf
    exact fin none [] np 1 _ rfl (Ci fun e=>by have:=e.2; cases this)
  | some k =>
   obtain ⟨B,d⟩:=k;have uQ:B.length≤1099511627776:=uQ;have l8:∀ v∈B,PV.sz 2048 v:=l8;obtain ⟨nb,dw⟩:∃ n,n=B.length:=⟨_,rfl⟩;obtain ⟨gb,nQ⟩:∃ g,g=dq B:=⟨_,rfl⟩;rw [show cI.aj mL (some (A,c),some (B,d))=[.flat false na 6 ga,.flat false nb 6 gb] from by rw [gA,kP,dw,nQ]; rfl,show cI.args mL (some (A,c),some (B,d))=[.slice (some ⟨0,0,none⟩) na c,.slice (some ⟨1,0,none⟩) nb d] from by rw [gA,dw]; rfl]
   rw [← gA] at qL;rw [← dw] at uQ;have fin:=fun (x:XV) (e:Int)=>fin (some (B,d)) B x e 2 rfl
   conv=>whnf
   refine ⟨some (A,c),[0],by rw [show bt.args (some (A,c))=[.slice (some ⟨0,0,none⟩) na c] from by rw [gA]; rfl]; rfl,⟨by show A.length≤_; omega,pE⟩,?_⟩
   rw [show bt.aj (some (A,c))=[.flat false na 6 ga] from by rw [gA,kP]; rfl,show bt.val (some (A,c))=.int .i64 (bC A) from rfl,show bt.new (some (A,c))=none from rfl]
   conv=>whnf
   refine ⟨aO.aW (fun h=>h) (fun r hr=>by rw [kP]; rfl),?_⟩
   conv=>whnf
   refine ⟨_,rfl,?_⟩;obtain ⟨e,he⟩:∃ z,z=bC A:=⟨_,rfl⟩;rw [← he];conv=>whnf
   by_cases h1:e=0
   ·rw [show (e != 0)=false from by simp [h1]]
    conv=>whnf
    refine ⟨some (B,d),[1],by rw [show bt.args (some (B,d))=[.slice (some ⟨0,0,none⟩) nb d] from by rw [dw]; rfl]; rfl,⟨by show B.length≤_; omega,l8⟩,?_⟩
    rw [show bt.aj (some (B,d))=[.flat false nb 6 gb] from by rw [dw,nQ]; rfl,show bt.val (some (B,d))=.int .i64 (bC B) from rfl,show bt.new (some (B,d))=none from rfl]
    conv=>whnf
    refine ⟨aO.aW (fun h=>h) (fun r hr=>by rw [nQ]; rfl),?_⟩
    conv=>whnf
    refine ⟨_,rfl,?_⟩;obtain ⟨e2,cE⟩:∃ z,z=bC B:=⟨_,rfl⟩;rw [← cE];conv=>whnf
    by_cases J:e2=0
    ·rw [show (e2 != 0)=false from by simp [J]]
     have hk:bC A=0∧bC B=0:=⟨by rw [← he]; exact h1,by rw [← cE]; exact J⟩
     have hzA:=pY hk.1;have hzB:=pY hk.2;conv=>whnf
     obtain ⟨⟨x,z⟩,hx⟩:∃ x,gI (kE true (aV A) (aV B))=x:=⟨_,rfl⟩;refine ⟨(((aV A,c),(aV B,d)),(105,true)),[0,1],by rw [show nR.args (((aV A,c),(aV B,d)),(105,true))=[.slice (some ⟨0,0,none⟩) na c,.slice (some ⟨1,0,none⟩) nb d,.func (.func 105) #[] #[]] from by rw [gA,dw,← dp A,← dp B]; rfl]; rfl,⟨by simp,⟨by show (aV A).length≤_; rw [dp]; omega,yA pE (by decide)⟩,by show (aV B).length≤_; rw [dp]; omega,yA l8 (by decide)⟩,?_⟩
     rw [show nR.aj (((aV A,c),(aV B,d)),(105,true))=[.flat false na 6 ga,.flat false nb 6 gb] from by rw [gA,dw,kP,nQ,← dp A,← dp B,← FN hk.1,← FN hk.2]; rfl,show nR.val (((aV A,c),(aV B,d)),(105,true))=.tuple ⟨[x.v,.bool z]⟩ from by show Value.tuple ⟨[(gI (kE true (aV A) (aV B))).1.v,.bool (gI (kE true (aV A) (aV B))).2]⟩=_; rw [hx],show nR.new (((aV A,c),(aV B,d)),(105,true))=none from rfl]
     conv=>whnf
     refine ⟨aO.aW (fun h=>h) (fun r hr=>by rw [kP]; rfl),aO.aW (fun h=>h) (fun r hr=>by rw [nQ]; rfl),?_⟩
     conv=>whnf
     refine ⟨_,rfl,?_⟩;conv=>whnf
     have hv:=WN hk hx;cases z with
     | false =>
      conv=>whnf
      exact fin _ _ hv
     | true =>
      conv=>whnf
      exact fin _ _ hv
    ·rw [show (e2 != 0)=true from by simp [J]]
     conv=>whnf
     exact fin np 1 (Ci fun h=>J (by rw [cE]; exact h.2))
   ·rw [show (e != 0)=true from by simp [h1]]
    conv=>whnf
    exact fin np 1 (Ci fun h=>h1 (by rw [he]; exact h.1))
open Go Go.Ae
def QG:Env:=En [(23,.q bt),(56,.q eE),(70,.p qh),(34,.p cK),(38,.p gh),(71,.p qI),(33,.p kD),(35,.p eD)] [(64,ck mV cL Tryz.f64)] [(118,uf)]
theorem acu:EnvOk Tryz.prog QG:=bI ⟨BB,D4,Ma,BA,ue,Nw,xj,Gt,trivial⟩ ⟨wI,trivial⟩
theorem aa2:gL Tryz.prog QG:=vE ⟨wq,trivial⟩
theorem Nx:dc Tryz.prog 21 gN:=by
 refine eg acu aM Tryz.func21 (enters_of Tryz.func21 (by kernel_rfl) rfl) ?_ ?_ ?_ (hI:=aa2)
 ·intro ⟨i,_⟩ b hb;cases i with
  | none=>simp [gN,PL.aj] at hb
  | some i=>simp [gN,PL.aj] at hb; rw [hb]; rfl
 ·intro i b hb; simp [gN] at hb
 intro ⟨i,⟨p,q⟩⟩ hp;have hp:(i.list.length≤1099511627776∧∀ v∈i.list,v.sz 2048)∧p.sz 2048∧q.sz 2048:=hp;obtain ⟨⟨hlen,aU⟩,sp,sq⟩:=hp;have qp:=PV.c9 sp (by decide)
 have qq:=PV.c9 sq (by decide)
 cases i with
 | none =>
  conv=>whnf
  refine ⟨none,[],rfl,⟨Nat.zero_le _,fun v hv=>nomatch hv⟩,?_⟩
  rw [show bt.aj none=[] from rfl,show bt.val none=.int .i64 4 from rfl,show bt.new none=none from rfl]
  conv=>whnf
  refine ⟨_,rfl,?_⟩;conv=>whnf
  exact ⟨_,rfl,.refl _⟩
 | some i =>
  obtain ⟨L,c⟩:=i;have hlen:L.length≤1099511627776:=hlen;have aU:∀ v∈L,PV.sz 2048 v:=aU;obtain ⟨n,hn⟩:∃ n,n=L.length:=⟨_,rfl⟩;obtain ⟨g,hg⟩:∃ g,g=dq L:=⟨_,rfl⟩;obtain ⟨K,hK⟩:∃ K,K=iV gN (some (L,c),(p,q)):=⟨_,rfl⟩;have fin:∀ (x y:RV) (z:Bool) (e:Int) (H:aw),dY L (p,q)=((x,y),z,e)→K (.tuple ⟨[x.v,y.v,.bool z,.int .i64 e]⟩) H:=fun x y z e H h=>by
   rw [hK];unfold iV;rw [show gN.new (some (L,c),(p,q))=none from rfl,show gN.val (some (L,c),(p,q))=.tuple ⟨[x.v,y.v,.bool z,.int .i64 e]⟩ from by show Value.tuple ⟨[(dY L (p,q)).1.1.v,(dY L (p,q)).1.2.v,.bool (dY L (p,q)).2.1,.int .i64 (dY L (p,q)).2.2]⟩=_; rw [h]]
   exact ⟨_,rfl,.refl _⟩
  rw [show gN.aj (some (L,c),(p,q))=[.flat false n 6 g] from by rw [hn,hg]; rfl,show gN.args (some (L,c),(p,q))=[.slice (some ⟨0,0,none⟩) n c,XV.v (p,q)] from by rw [hn]; rfl,← hK]
  rw [← hn] at hlen;conv=>whnf
  refine ⟨some (L,c),[0],by rw [show bt.args (some (L,c))=[.slice (some ⟨0,0,none⟩) n c] from by rw [hn]; rfl]; rfl,⟨by show L.length≤_; omega,aU⟩,?_⟩
  rw [show bt.aj (some (L,c))=[.flat false n 6 g] from by rw [hn,hg]; rfl,show bt.val (some (L,c))=.int .i64 (bC L) from rfl,show bt.new (some (L,c))=none from rfl]
  conv=>whnf
  refine ⟨aO.aW (fun h=>h) (fun r hr=>by rw [hg]; rfl),?_⟩
  conv=>whnf
  refine ⟨_,rfl,?_⟩;obtain ⟨e,he⟩:∃ z,z=bC L:=⟨_,rfl⟩;rw [← he];conv=>whnf
  by_cases h1:e=0
  ·rw [show (e != 0)=false from by simp [h1]]
   conv=>whnf
   refine ⟨some ([p,q],2),[6],rfl,⟨by show 2≤1099511627776; decide,(fun v hv=>by rcases List.mem_cons.1 hv with rfl | hv; exact sp; rw [List.mem_singleton.1 hv]; exact sq)⟩,?_⟩
   rw [show eE.aj (some ([p,q],2))=[.flat false 2 6 (dq [p,q])] from rfl,show eE.val (some ([p,q],2))=.bool (!dH [p,q]) from rfl,show eE.new (some ([p,q],2))=none from rfl]
   conv=>whnf
   refine ⟨Nh [p,q],?_⟩;conv=>whnf
   refine ⟨_,rfl,?_⟩;obtain ⟨r,hr⟩:∃ z,z=dH [p,q]:=⟨_,rfl⟩;rw [← hr];conv=>whnf
   cases r with
   | true =>
    conv=>whnf
    exact fin aZ aZ false 1 _ (N2 fun h=>adq hr h.2.1 h.2.2)
   | false =>
    conv=>whnf
    have hk:bC L=0∧p.canon∧q.canon:=⟨by rw [← he]; exact h1,abH hr⟩
    have hz:=pY hk.1;obtain ⟨o,eo,po,so,qo⟩:=fm (q:=(0:Rat)) (qb0 (Nat.le_refl 1));refine ⟨(0:Int),rfl,⟨by decide,by decide⟩,?_⟩
    rw [show kD.val (0:Int)=o.v from eo]
    conv=>whnf
    obtain ⟨l,el,pl,sl,ql⟩:=fm (q:=(1:Rat)) (Go.Ae.qb1 (Nat.le_refl 1));refine ⟨(1:Int),rfl,⟨by decide,by decide⟩,?_⟩
    rw [show kD.val (1:Int)=l.v from el]
    conv=>whnf
    intro yl nu fn tm df;conv=>whnf
    refine .inl ⟨fun mm tz hz=>∃ (j:Nat) (lo:RV) (hi:RV),bA (some (.func (.yield yl) #[] #[])::some (.pointer (some ⟨9,0,none⟩))::aB 3 (some (.slice (some ⟨0,0,none⟩) n c)::some (.int .i64 n)::some (.int .i64 j)::aB 17 [])) tz∧hz=[some (.flat false n 6 g),some (.aL true 12 [XV.cells (p,q)]),some (.aL true 3 [aZ.c1]),some (.aL true 3 [aZ.c1]),some (.aL true 1 [[.bool false]]),some (.aL true 1 [[.int .i64 0]]),some (.aL true 6 [p.cells,q.cells]),some (.aL true 3 [lo.c1]),some (.aL true 3 [hi.c1]),some (.aL true 1 [[.slice (some ⟨0,0,none⟩) n c]]),some (.b9 (qR Tryz.f21 fn tm df))]∧n - j=mm∧((j≤n∧uN (aV L) p.p q.p j=some (lo.q,hi.q))∧(lo=RV.of lo.q∧hi=RV.of hi.q)∧(lo.sz 65536∧hi.sz 65536)∧QB lo.q 65536∧QB hi.q 65536),.inr ⟨[0,1,2,3,4,5,6,7,8,9,10],[0,1,5,6,7],?_⟩,?_⟩
    ·conv=>whnf
     intro _;conv=>whnf
     refine ⟨_,0,o,l,(.aa (.aa (.sk 3 (.aa (.aa (.aa (.sk 17 .nil rfl)))) rfl))),rfl,rfl,?_⟩;exact ⟨⟨Nat.zero_le _,by rw [po,pl]; rfl⟩,⟨by rw [po]; exact (RV.lZ eo).symm,by rw [pl]; exact (RV.lZ el).symm⟩,⟨RV.aJ so (by decide),RV.aJ sl (by decide)⟩,qo.mono (by decide),ql.mono (by decide)⟩
    rintro mm aS _ ⟨j,lo,hi,au,rfl,rfl,⟨⟨hj,hU⟩,⟨jI,kh⟩,⟨bS,fJ⟩,mW,oJ⟩⟩
    obtain ⟨az,rfl⟩:∃ az:Nat→Value,aS=.func (.yield yl) #[] #[]::.pointer (some ⟨9,0,none⟩)::zs az 2 3 (.slice (some ⟨0,0,none⟩) n c::.int .i64 n::.int .i64 j::zs az 8 17 []):=bJ au;clear au;conv=>whnf
    refine aI (fun h3=>?_) (fun h3=>?_)
    ·have h3:j < n:=by
      have:=of_decide_eq_true h3;omega
     have e7:IntKind.i64.wrap ((j:Int)+1)=((j+1:Nat):Int):=by rw [ar (by omega) (by omega)]; rfl
     obtain ⟨a,b,ra,rb,⟨ma,mb⟩,g0,cD,_,_⟩:=tN hn h3;have sa:=aU a ma;have sb:=aU b mb;have qa:=PV.c9 sa (by decide)
     have qb:=PV.c9 sb (by decide)
     have cR:=lQ h3 (by omega)
     obtain ⟨u,hu⟩:∃ u,u=bg n j:=⟨_,rfl⟩;rw [← hu] at cR cD rb;rw [← hg] at ra rb;conv=>whnf
     refine ⟨⟨by omega,by omega⟩,?_⟩
     simp only [toNat_cast,ax,Nat.zero_add];conv=>whnf
     refine ⟨by show j < n; omega,?_⟩
     conv=>whnf
     rw [ra];conv=>whnf
     refine .inl ⟨10,[[],[],[],[],[3],[],[5],[3,4,5,6],[2,3,4,5,6,7],[2,3,4,5,6,7,8],[0,1,2,3,4,5,6,7,8,9],[0,1,2,3,4,5,6,7,8,9,10]],by kernel_rfl,?_⟩
     conv=>whnf
     rw [show decide ((n:Int)≠0)=true from decide_eq_true (by omega)]
     conv=>whnf
     rw [cR];refine ⟨⟨by omega,by omega⟩,?_⟩
     simp only [toNat_cast,ax,Nat.zero_add];conv=>whnf
     refine ⟨by show u < n; omega,?_⟩
     conv=>whnf
     rw [rb];conv=>whnf
     refine ⟨rfl,?_⟩;conv=>whnf
     refine ⟨rfl,?_⟩;conv=>whnf
     refine ⟨rfl,?_⟩;conv=>whnf
     refine .inl ⟨12,[[],[],[],[2],[0,1,2,3],[],[],[],[7],[0,1,2,3,4,5,6,7,8],[],[],[0,1,2,3,4,5,6,7,8,9,10,11],[0,1,2,3,4,5,6,7,8,9,10,11,12]],by kernel_rfl,?_⟩
     conv=>whnf
     obtain ⟨x,ex,px,sx,qx⟩:=fm (uM qa qb qp);refine ⟨(a,b,p),rfl,⟨PV.aJ sa (by decide),PV.aJ sb (by decide),PV.aJ sp (by decide)⟩,?_⟩
     rw [show qh.val (a,b,p)=x.v from ex]
     conv=>whnf
     obtain ⟨y,ey,py,sy,qy⟩:=fm (uM qa qb qq);refine ⟨(a,b,q),rfl,⟨PV.aJ sa (by decide),PV.aJ sb (by decide),PV.aJ sq (by decide)⟩,?_⟩
     rw [show qh.val (a,b,q)=y.v from ey]
     conv=>whnf
     have ao:=S0 hU g0 px py;refine .inl ⟨7,[[],[0],[0,1],[],[0,1,3],[0,1,3,4],[0,1,2,3,4],[0,1,2,3,4,5,6]],by kernel_rfl,?_⟩
     conv=>whnf
     obtain ⟨zx,ezx,pzx⟩:=dJ (aN x.q 0);refine ⟨x,rfl,RV.aT sx (by decide),?_⟩
     rw [show cK.val x=.int .i64 zx from ezx]
     conv=>whnf
     obtain ⟨zy,ezy,pzy⟩:=dJ (aN y.q 0);refine ⟨y,rfl,RV.aT sy (by decide),?_⟩
     rw [show cK.val y=.int .i64 zy from ezy]
     conv=>whnf
     have cx:zx > 0↔0 < x.q:=by rw [pzx]; exact tV
     have cy:zy > 0↔0 < y.q:=by rw [pzy]; exact tV
     by_cases hx:zx > 0
     ·rw [show decide (zx > 0)=true from decide_eq_true hx]
      have hx:=cx.1 hx;by_cases hy:zy > 0
      ·rw [show decide (zy > 0)=true from decide_eq_true hy]
       have hy:=cy.1 hy;rw [if_neg (fun e=>Rat.not_lt.2 e.1 hx),if_pos ⟨hx,hy⟩] at ao
       conv=>whnf
       refine ⟨rfl,?_⟩;conv=>whnf
       rw [e7];refine .inr ⟨[0,1,2,3,4,5,6,7,8,9,10],[0,1,5,6,7],?_⟩;conv=>whnf
       intro _;conv=>whnf
       refine ⟨_,?_,j+1,lo,hi,(.aa (.aa (.sk 3 (.aa (.aa (.aa (.sk 17 .nil rfl)))) rfl))),rfl,rfl,?_⟩
       ·omega
       ·exact ⟨⟨by omega,ao⟩,⟨jI,kh⟩,⟨bS,fJ⟩,mW,oJ⟩
      ·rw [show decide (zy > 0)=false from decide_eq_false hy]
       have hy:¬ 0 < y.q:=fun e=>hy (cy.2 e)
       rw [if_neg (fun e=>Rat.not_lt.2 e.1 hx),if_neg (fun e=>hy e.2),if_neg hy] at ao
       conv=>whnf
       refine .inr (.inr (.inl ⟨9,1,[[],[],[],[1,2],[0,1,2,3],[0,1,2,3,4],[0,1,2,3,4,5],[0,1,2,3,4,5],[],[0,1,2,3,4,5,6,8],[0,1,2,3,4,5,6,7,8,9]],[7],by kernel_rfl,?_⟩))
       conv=>whnf
       obtain ⟨d,ed,pd,sd,qd⟩:=fm (QB.sub qx qy);refine ⟨(x,y),rfl,⟨RV.aT sx (by decide),RV.aT sy (by decide)⟩,?_⟩
       rw [show gh.val (x,y)=d.v from ed]
       conv=>whnf
       obtain ⟨t,et,pt,st,qt⟩:=fm (QB.div qx qd (by decide))
       obtain ⟨e3,Jv,pe3⟩:=dJ (if d.q=0 then 10 else 0)
       refine ⟨(x,d),rfl,⟨RV.aT sx (by decide),RV.aT sd (by decide)⟩,?_⟩
       rw [show qI.val (x,d)=.tuple ⟨[t.v,.int .i64 e3]⟩ from by rw [← et,← Jv]; rfl]
       conv=>whnf
       have ct:=(RV.lZ et).symm;rw [← pt] at ct;rw [pd] at pt;rw [← pt] at ao;obtain ⟨z,ez,pz⟩:=dJ (aN t.q hi.q);refine ⟨(t,hi),rfl,⟨RV.aT st (by decide),RV.aT fJ (by decide)⟩,?_⟩
       rw [show eD.val (t,hi)=.int .i64 z from ez]
       conv=>whnf
       have cz:z < 0↔t.q < hi.q:=by rw [pz]; exact fA
       by_cases h5:z < 0
       ·rw [show decide (z < 0)=true from decide_eq_true h5]
        conv=>whnf
        refine ⟨rfl,?_⟩;conv=>whnf
        rw [e7];refine .inr ⟨[0,1,2,3,4,5,6,7,8,9,10],[0,1,5,6,7],?_⟩;conv=>whnf
        intro _;conv=>whnf
        refine ⟨_,?_,j+1,lo,t,(.aa (.aa (.sk 3 (.aa (.aa (.aa (.sk 17 .nil rfl)))) rfl))),rfl,rfl,?_⟩
        ·omega
        ·exact ⟨⟨by omega,by rw [ao]; unfold iY; rw [if_pos (cz.1 h5)]⟩,⟨jI,ct⟩,⟨bS,RV.aJ st (by decide)⟩,mW,qt.mono (by decide)⟩
       ·rw [show decide (z < 0)=false from decide_eq_false h5]
        conv=>whnf
        refine ⟨rfl,?_⟩;conv=>whnf
        rw [e7];refine .inr ⟨[0,1,2,3,4,5,6,7,8,9,10],[0,1,5,6,7],?_⟩;conv=>whnf
        intro _;conv=>whnf
        refine ⟨_,?_,j+1,lo,hi,(.aa (.aa (.sk 3 (.aa (.aa (.aa (.sk 17 .nil rfl)))) rfl))),rfl,rfl,?_⟩
        ·omega
        ·exact ⟨⟨by omega,by rw [ao]; unfold iY; rw [if_neg (fun e=>h5 (cz.2 e))]⟩,⟨jI,kh⟩,⟨bS,fJ⟩,mW,oJ⟩
     ·rw [show decide (zx > 0)=false from decide_eq_false hx]
      have hx:¬ 0 < x.q:=fun e=>hx (cx.2 e)
      by_cases hy:zy > 0
      ·rw [show decide (zy > 0)=true from decide_eq_true hy]
       have hy:=cy.1 hy;rw [if_neg (fun e=>Rat.not_lt.2 e.2 hy),if_neg (fun e=>hx e.1),if_pos hy] at ao
       conv=>whnf
       refine .inr (.inr (.inl ⟨9,1,[[],[],[],[1,2],[0,1,2,3],[0,1,2,3,4],[0,1,2,3,4,5],[0,1,2,3,4,5],[],[0,1,2,3,4,5,6,8],[0,1,2,3,4,5,6,7,8,9]],[7],by kernel_rfl,?_⟩))
       conv=>whnf
       obtain ⟨d,ed,pd,sd,qd⟩:=fm (QB.sub qx qy);refine ⟨(x,y),rfl,⟨RV.aT sx (by decide),RV.aT sy (by decide)⟩,?_⟩
       rw [show gh.val (x,y)=d.v from ed]
       conv=>whnf
       obtain ⟨t,et,pt,st,qt⟩:=fm (QB.div qx qd (by decide))
       obtain ⟨e3,Jv,pe3⟩:=dJ (if d.q=0 then 10 else 0)
       refine ⟨(x,d),rfl,⟨RV.aT sx (by decide),RV.aT sd (by decide)⟩,?_⟩
       rw [show qI.val (x,d)=.tuple ⟨[t.v,.int .i64 e3]⟩ from by rw [← et,← Jv]; rfl]
       conv=>whnf
       have ct:=(RV.lZ et).symm;rw [← pt] at ct;rw [pd] at pt;rw [← pt] at ao;obtain ⟨z,ez,pz⟩:=dJ (aN t.q lo.q);refine ⟨(t,lo),rfl,⟨RV.aT st (by decide),RV.aT bS (by decide)⟩,?_⟩
       rw [show eD.val (t,lo)=.int .i64 z from ez]
       conv=>whnf
       have cz:z > 0↔lo.q < t.q:=by rw [pz]; exact tV
       by_cases h5:z > 0
       ·rw [show decide (z > 0)=true from decide_eq_true h5]
        conv=>whnf
        refine ⟨rfl,?_⟩;conv=>whnf
        rw [e7];refine .inr ⟨[0,1,2,3,4,5,6,7,8,9,10],[0,1,5,6,7],?_⟩;conv=>whnf
        intro _;conv=>whnf
        refine ⟨_,?_,j+1,t,hi,(.aa (.aa (.sk 3 (.aa (.aa (.aa (.sk 17 .nil rfl)))) rfl))),rfl,rfl,?_⟩
        ·omega
        ·exact ⟨⟨by omega,by rw [ao]; unfold iX; rw [if_pos (cz.1 h5)]⟩,⟨ct,kh⟩,⟨RV.aJ st (by decide),fJ⟩,qt.mono (by decide),oJ⟩
       ·rw [show decide (z > 0)=false from decide_eq_false h5]
        conv=>whnf
        refine ⟨rfl,?_⟩;conv=>whnf
        rw [e7];refine .inr ⟨[0,1,2,3,4,5,6,7,8,9,10],[0,1,5,6,7],?_⟩;conv=>whnf
        intro _;conv=>whnf
        refine ⟨_,?_,j+1,lo,hi,(.aa (.aa (.sk 3 (.aa (.aa (.aa (.sk 17 .nil rfl)))) rfl))),rfl,rfl,?_⟩
        ·omega
        ·exact ⟨⟨by omega,by rw [ao]; unfold iX; rw [if_neg (fun e=>h5 (cz.2 e))]⟩,⟨jI,kh⟩,⟨bS,fJ⟩,mW,oJ⟩
      ·rw [show decide (zy > 0)=false from decide_eq_false hy]
       have hy:¬ 0 < y.q:=fun e=>hy (cy.2 e)
       rw [if_pos ⟨Rat.not_lt.1 hx,Rat.not_lt.1 hy⟩] at ao;conv=>whnf
       refine ⟨rfl,?_⟩;conv=>whnf
       exact fin aZ aZ false 0 _ (Gl hk (S3 ao))
    ·have h3:j=n:=by
      have:=of_decide_eq_false h3;omega
     subst h3;have hE:=Ud (a:=p.p) (b:=q.p) (show j=(aV L).length by rw [dp]; exact hn)
     rw [hU] at hE;conv=>whnf
     obtain ⟨z,ez,pz⟩:=dJ (aN lo.q hi.q);refine ⟨(lo,hi),rfl,⟨RV.aT bS (by decide),RV.aT fJ (by decide)⟩,?_⟩
     rw [show eD.val (lo,hi)=.int .i64 z from ez]
     conv=>whnf
     by_cases h5:hi.q≤lo.q
     ·rw [show decide (z ≥ 0)=true from decide_eq_true (by rw [pz]; exact oU.2 h5)]
      conv=>whnf
      exact fin aZ aZ false 0 _ (Gl hk (hE.symm.trans (VB h5)))
     ·rw [show decide (z ≥ 0)=false from decide_eq_false (by rw [pz]; exact fun e=>h5 (oU.1 e))]
      conv=>whnf
      have gj:dY L (p,q)=((lo,hi),true,0):=WS hk (hE.symm.trans (VC h5)) jI kh;refine .inr (.inl ⟨(.br 0 (.br 1 (.br 2 (.br 3 (.br 4 (.br 5 .leaf .leaf) .leaf) .leaf) .leaf) (.br 2 (.br 1 (.br 3 (.br 4 (.br 5 .leaf .leaf) .leaf) .leaf) .leaf) .leaf)) (.br 1 (.br 0 (.br 2 (.br 3 (.br 4 (.br 5 .leaf .leaf) .leaf) .leaf) .leaf) .leaf) .leaf)),by kernel_rfl,?_⟩)
      repeat' ((conv=>whnf); first | exact True.intro | refine And.intro ?_ ?_)
      all_goals conv=>whnf
      all_goals exact fin lo hi true 0 _ gj
  ·rw [show (e != 0)=true from by simp [h1]]
   conv=>whnf
   exact fin aZ aZ false 1 _ (N2 fun h=>h1 (by rw [he]; exact h.1))
set_option maxHeartbeats 1000000
open Go Go.Ae
open Go Go.Ae
def Eqs:Env:=En [(128,.p eD),(157,.p nW),(156,.p jX)]
theorem acv:EnvOk Tryz.prog Eqs:=bI ⟨FR,MQ,MS,trivial⟩ trivial
theorem Ur:bf Tryz.prog 123 cK:=by
 refine bk acv aM Tryz.func123 (enters_of Tryz.func123 (by kernel_rfl) rfl) (fun _=>rfl) (fun _=>rfl) ?_
 intro (r:RV) hp;have hp:r.ok:=hp;obtain ⟨x,hx⟩:∃ x,x=aN r.q 0:=⟨_,rfl⟩;conv=>whnf
 refine ⟨(r,aZ),rfl,⟨hp,RV.aT (jN 0) (by decide)⟩,?_⟩
 rw [show eD.val (r,aZ)=.int .i64 x from by rw [hx]; show Value.int .i64 (aN r.q aZ.q)=_; rw [yz]]
 conv=>whnf
 show Value.int .i64 x=Value.int .i64 (aN r.q 0)
 rw [hx]
open Go Go.Ae
set_option maxHeartbeats 4000000
open Go Go.Ae
open Go Go.Ae
open Go Go.Ae
def Er0:Env:=En [(121,.p ld),(122,.p qe),(123,.p cK)]
theorem acw:EnvOk Tryz.prog Er0:=bI ⟨VV,Td,Ur,trivial⟩ trivial
theorem Le:bf Tryz.prog 77 mw:=by
 refine bk acw aM Tryz.func77 (enters_of Tryz.func77 (by kernel_rfl) rfl) (fun _=>rfl) (fun _=>rfl) ?_
 intro ⟨a,b,c⟩ hp;have hp:a.sz 1048576∧b.sz 1048576∧c.sz 1048576:=hp;obtain ⟨sa,sb,sc⟩:=hp;have qa:=PV.c9 sa (by decide)
 have qb:=PV.c9 sb (by decide)
 have qc:=PV.c9 sc (by decide)
 conv=>whnf
 refine .inl ⟨5,[[],[],[0,1],[],[],[0,1,2,3,4],[0,1,2,3,4,5],[0,1,2,3,4,5,6],[0,1,2,3,4,5,6,7]],by kernel_rfl,?_⟩
 conv=>whnf
 obtain ⟨u,eu,pu,su,qu⟩:=sG (o5 qb qa);refine ⟨(b,a),rfl,⟨PV.aJ sb (by decide),PV.aJ sa (by decide)⟩,?_⟩
 rw [show ld.val (b,a)=u.v from eu]
 conv=>whnf
 obtain ⟨v,ev,pv,sv,qv⟩:=sG (o5 qc qa);refine ⟨(c,a),rfl,⟨PV.aJ sc (by decide),PV.aJ sa (by decide)⟩,?_⟩
 rw [show ld.val (c,a)=v.v from ev]
 conv=>whnf
 obtain ⟨w,ew,pw,sw,qw⟩:=fm (yq qu qv);refine ⟨(u,v),rfl,⟨PV.aJ su (by decide),PV.aJ sv (by decide)⟩,?_⟩
 rw [show qe.val (u,v)=w.v from ew]
 conv=>whnf
 obtain ⟨n,en,pn⟩:=dJ (aN w.q 0);refine ⟨w,rfl,RV.aT sw (by decide),?_⟩
 rw [show cK.val w=.int .i64 n from en]
 conv=>whnf
 show Value.int .i64 n=Value.int .i64 (aN (an a.p b.p c.p) 0)
 rw [pn,pw,pu,pv]
 rfl
def Er1:Env:=En [(68,.p kj)]
theorem acx:EnvOk Tryz.prog Er1:=bI ⟨Te,trivial⟩ trivial
theorem Ti:dc Tryz.prog 61 eE:=by
 refine eg acx aM Tryz.func61 (enters_of Tryz.func61 (by kernel_rfl) rfl) ?_ ?_ ?_
 ·intro i b hb;cases i with
  | none=>simp [eE,PL.aj] at hb
  | some i=>simp [eE,PL.aj] at hb; rw [hb]; rfl
 ·intro i b hb; simp [eE] at hb
 intro i hp;have hp:i.list.length≤1099511627776∧∀ v∈i.list,v.sz 2048:=hp;obtain ⟨hlen,aU⟩:=hp;cases i with
 | none =>
  conv=>whnf
  refine .inr ⟨1,?_⟩;conv=>whnf
  exact ⟨.bool true,rfl,.refl _⟩
 | some i =>
  obtain ⟨L,c⟩:=i;have hlen:L.length≤1099511627776:=hlen;have aU:∀ v∈L,PV.sz 2048 v:=aU;obtain ⟨n,hn⟩:∃ n,n=L.length:=⟨_,rfl⟩;obtain ⟨g,hg⟩:∃ g,g=dq L:=⟨_,rfl⟩;have fin:∀ z:Bool,z=!dH L→∃ v',cQ (List.range 1) 3 (eE.val (some (L,c)))=some v'∧eZ (.bool z) v':=fun z h=>⟨.bool z,by rw [h]; rfl,.refl _⟩
  rw [show eE.aj (some (L,c))=[.flat false n 6 g] from by rw [hn,hg]; rfl,show eE.args (some (L,c))=[.slice (some ⟨0,0,none⟩) n c] from by rw [hn]; rfl]
  rw [← hn] at hlen;conv=>whnf
  refine .inl ⟨fun mm tz hz=>∃ (i:Nat),bA (some (.slice (some ⟨0,0,none⟩) n c)::aB 2 (some (.int .i64 i)::aB 12 [])) tz∧hz=[some (.flat false n 6 g)]∧n - i=mm∧(i≤n∧uL L i),.inr ⟨[0],[0,3],?_⟩,?_⟩
  ·conv=>whnf
   intro _;conv=>whnf
   refine ⟨_,0,(.aa (.sk 2 (.aa (.sk 12 .nil rfl)) rfl)),rfl,rfl,?_⟩;exact ⟨Nat.zero_le _,Ku _⟩
  rintro mm aS _ ⟨i,au,rfl,rfl,⟨hi,hU⟩⟩
  obtain ⟨az,rfl⟩:∃ az:Nat→Value,aS=.slice (some ⟨0,0,none⟩) n c::zs az 1 2 (.int .i64 i::zs az 4 12 []):=bJ au;clear au;conv=>whnf
  refine aI (fun h3=>?_) (fun h3=>?_)
  ·have h3:i < n:=by
    have:=of_decide_eq_true h3;omega
   have e7:IntKind.i64.wrap ((i:Int)+1)=((i+1:Nat):Int):=by rw [ar (by omega) (by omega)]; rfl
   obtain ⟨m,lH,mR,aX⟩:=rO (l:=L) (i:=i) (by omega)
   rw [← hg] at aX;conv=>whnf
   refine ⟨⟨by omega,by omega⟩,?_⟩
   simp only [toNat_cast,ax,Nat.zero_add];conv=>whnf
   refine ⟨by show i < n; omega,?_⟩
   conv=>whnf
   rw [aX];conv=>whnf
   refine ⟨m,rfl,PV.aJ (aU m mR) (by decide),?_⟩
   by_cases h4:m.canon
   ·rw [show kj.val m=.int .i64 0 from congrArg (Value.int .i64) (if_pos h4)]
    conv=>whnf
    rw [e7];refine .inr ⟨[0],[0,3],?_⟩;conv=>whnf
    intro _;conv=>whnf
    refine ⟨_,?_,i+1,(.aa (.sk 2 (.aa (.sk 12 .nil rfl)) rfl)),rfl,rfl,?_⟩
    ·omega
    ·exact ⟨by omega,K7 hU lH h4⟩
   ·rw [show kj.val m=.int .i64 1 from congrArg (Value.int .i64) (if_neg h4)]
    conv=>whnf
    exact fin false (by rw [show dH L=true from List.any_eq_true.2 ⟨m,mR,decide_eq_true h4⟩]; rfl)
  ·have h3:i=n:=by
    have:=of_decide_eq_false h3;omega
   subst h3;conv=>whnf
   exact fin true (by rw [LP (by rw [← hn]; exact hU)]; rfl)
def Er2:Env:=En [(61,.q eE),(76,.p pj),(77,.p mw)]
theorem acy:EnvOk Tryz.prog Er2:=bI ⟨Ti,VW,Le,trivial⟩ trivial
theorem Tj:dc Tryz.prog 24 bt:=by
 refine eg acy aM Tryz.func24 (enters_of Tryz.func24 (by kernel_rfl) rfl) ?_ ?_ ?_
 ·intro i b hb;cases i with
  | none=>simp [bt,PL.aj] at hb
  | some i=>simp [bt,PL.aj] at hb; rw [hb]; rfl
 ·intro i b hb; simp [bt] at hb
 intro i hp;have hp:i.list.length≤1099511627776∧∀ v∈i.list,v.sz 2048:=hp;obtain ⟨hlen,aU⟩:=hp;cases i with
 | none =>
  conv=>whnf
  exact ⟨.int .i64 4,rfl,.refl _⟩
 | some i =>
  obtain ⟨L,c⟩:=i;have hlen:L.length≤1099511627776:=hlen;have aU:∀ v∈L,PV.sz 2048 v:=aU;obtain ⟨n,hn⟩:∃ n,n=L.length:=⟨_,rfl⟩;obtain ⟨g,hg⟩:∃ g,g=dq L:=⟨_,rfl⟩;have fin:∀ z:Int,bC L=z→∃ v',cQ (List.range 1) 3 (bt.val (some (L,c)))=some v'∧eZ (.int .i64 z) v':=fun z h=>⟨.int .i64 z,by rw [← h]; rfl,.refl _⟩
  rw [show bt.aj (some (L,c))=[.flat false n 6 g] from by rw [hn,hg]; rfl,show bt.args (some (L,c))=[.slice (some ⟨0,0,none⟩) n c] from by rw [hn]; rfl]
  rw [← hn] at hlen;conv=>whnf
  by_cases h1:n < 3
  ·rw [show decide ((n:Int) < 3)=true from decide_eq_true (by omega)]
   conv=>whnf
   exact fin 4 (BQ (.inl (by omega)))
  rw [show decide ((n:Int) < 3)=false from decide_eq_false (by omega)]
  conv=>whnf
  by_cases J:64 < n
  ·rw [show decide ((n:Int) > 64)=true from decide_eq_true (by omega)]
   conv=>whnf
   exact fin 4 (BQ (.inr (by omega)))
  rw [show decide ((n:Int) > 64)=false from decide_eq_false (by omega)]
  conv=>whnf
  obtain ⟨z,hz⟩:∃ z,z=dH L:=⟨_,rfl⟩;refine ⟨some (L,c),[0],by rw [show eE.args (some (L,c))=[.slice (some ⟨0,0,none⟩) n c] from by rw [hn]; rfl]; rfl,⟨by show L.length≤_; omega,aU⟩,?_⟩
  rw [show eE.aj (some (L,c))=[.flat false n 6 g] from by rw [hn,hg]; rfl,show eE.val (some (L,c))=.bool (!z) from by rw [hz]; rfl,show eE.new (some (L,c))=none from rfl]
  conv=>whnf
  refine ⟨aO.aW (fun h=>h) (fun r hr=>by rw [hg]; rfl),?_⟩
  conv=>whnf
  refine ⟨_,rfl,?_⟩;conv=>whnf
  cases z with
  | true =>
   conv=>whnf
   exact fin 1 (Nm (by omega) hz.symm)
  | false =>
   conv=>whnf
   have qX:dH L=false:=hz.symm;have h0:=rR (L:=L) (k:=0) (by omega)
   have so:=aU _ (oW (L:=L) (k:=0) (by omega))
   have po:=ky (L:=L) (k:=0) (by omega)
   obtain ⟨o,ho⟩:∃ o,o=jd L 0:=⟨_,rfl⟩;rw [← ho] at h0 so po;rw [← hg] at h0;have qo:=PV.c9 so (by decide)
   have zG:g (Int.toNat 0)=o.cells:=h0;refine .inl ⟨fun mm tz hz=>∃ (i:Nat),bA (some (.slice (some ⟨0,0,none⟩) n c)::aB 2 (some (.int .i64 n)::some (.int .i64 ((i+1:Nat):Int))::aB 79 [])) tz∧hz=[some (.flat false n 6 g)]∧n - i=mm∧(i+1≤n∧xA (aV L) i),.inr ⟨[0],[0,3,4],?_⟩,?_⟩
   ·conv=>whnf
    intro _;conv=>whnf
    refine ⟨_,0,(.aa (.sk 2 (.aa (.aa (.sk 79 .nil rfl))) rfl)),rfl,rfl,?_⟩;exact ⟨by omega,Kv _⟩
   rintro mm aS _ ⟨i,au,rfl,rfl,⟨hi,hU⟩⟩
   obtain ⟨az,rfl⟩:∃ az:Nat→Value,aS=.slice (some ⟨0,0,none⟩) n c::zs az 1 2 (.int .i64 n::.int .i64 ((i+1:Nat):Int)::zs az 5 79 []):=bJ au;clear au;conv=>whnf
   refine aI (fun h3=>?_) (fun h3=>?_)
   ·have h3:i+1 < n:=by
     have:=of_decide_eq_true h3;omega
    have e7:IntKind.i64.wrap (((i+1:Nat):Int)+1)=((i+1+1:Nat):Int):=by rw [ar (by omega) (by omega)]; rfl
    have ra:=rR (L:=L) (k:=i+1) (by omega)
    have sa:=aU _ (oW (L:=L) (k:=i+1) (by omega))
    have pa:=ky (L:=L) (k:=i+1) (by omega)
    obtain ⟨a,ha⟩:∃ o,o=jd L (i+1):=⟨_,rfl⟩;rw [← ha] at ra sa pa;rw [← hg] at ra;have qa:=PV.c9 sa (by decide)
    obtain ⟨k,hk⟩:∃ k,k=i+1:=⟨_,rfl⟩;rw [← hk] at ra e7 h3 ⊢;conv=>whnf
    refine .inl ⟨7,[[],[0],[0,1],[],[],[3,4],[3,4,5],[0,1,2,3,4,5,6],[0,1,2,3,4,5,6,7]],by kernel_rfl,?_⟩
    conv=>whnf
    refine ⟨⟨by omega,by omega⟩,?_⟩
    simp only [toNat_cast,ax,Nat.zero_add];conv=>whnf
    refine ⟨by show 0 < n; omega,?_⟩
    conv=>whnf
    rw [zG];conv=>whnf
    refine ⟨⟨by omega,by omega⟩,?_⟩
    simp only [toNat_cast,ax,Nat.zero_add];conv=>whnf
    refine ⟨by show k < n; omega,?_⟩
    conv=>whnf
    rw [ra];conv=>whnf
    obtain ⟨z,ez,pz⟩:=dJ (fF o.p a.p);refine ⟨(o,a),rfl,⟨PV.aJ so (by decide),PV.aJ sa (by decide)⟩,?_⟩
    rw [show pj.val (o,a)=.int .i64 z from ez]
    conv=>whnf
    rw [pa,po] at pz;by_cases h4:iK (aC (aV L) 0) (aC (aV L) (i+1))
    ·have:=yB.2 h4;rw [show decide (z ≥ 0)=false from decide_eq_false (by omega)]
     conv=>whnf
     rw [e7,hk];refine .inr ⟨[0],[0,3,4],?_⟩;conv=>whnf
     intro _;conv=>whnf
     refine ⟨_,?_,i+1,(.aa (.sk 2 (.aa (.aa (.sk 79 .nil rfl))) rfl)),rfl,rfl,?_⟩
     ·omega
     ·exact ⟨by omega,K8 hU h4⟩
    ·have:¬ fF (aC (aV L) 0) (aC (aV L) (i+1)) < 0:=fun e=>h4 (yB.1 e)
     rw [show decide (z ≥ 0)=true from decide_eq_true (by omega)]
     conv=>whnf
     exact fin 8 (Nn (by omega) qX fun e=>h4 (e (i+1) (by omega) (by rw [dp]; omega)))
   ·have h3:i+1=n:=by
     have:=of_decide_eq_false h3;omega
    have oe:=LR hU (by rw [dp]; omega)
    have xY:3≤(aV L).length:=by rw [dp]; omega
    conv=>whnf
    skip
    refine .inl ⟨fun mm tz hz=>∃ (j:Nat),bA (some (.slice (some ⟨0,0,none⟩) n c)::aB 2 (some (.int .i64 n)::aB 1 (some (.int .i64 j)::aB 78 []))) tz∧hz=[some (.flat false n 6 g)]∧n - j=mm∧(j≤n∧∀ k,k < j→¬ o7 (aV L) k),.inr ⟨[0],[0,3,5],?_⟩,?_⟩
    ·conv=>whnf
     intro _;conv=>whnf
     refine ⟨_,0,(.aa (.sk 2 (.aa (.sk 1 (.aa (.sk 78 .nil rfl)) rfl)) rfl)),rfl,rfl,?_⟩;exact ⟨Nat.zero_le _,fun k hk=>absurd hk (Nat.not_lt_zero k)⟩
    rintro mm aS _ ⟨j,au,rfl,rfl,⟨hj,hB⟩⟩
    obtain ⟨az,rfl⟩:∃ az:Nat→Value,aS=.slice (some ⟨0,0,none⟩) n c::zs az 1 2 (.int .i64 n::zs az 4 1 (.int .i64 j::zs az 6 78 [])):=bJ au;clear au;conv=>whnf
    refine aI (fun h3=>?_) (fun h3=>?_)
    ·have h3:j < n:=by
      have:=of_decide_eq_true h3;omega
     have e7:IntKind.i64.wrap ((j:Int)+1)=((j+1:Nat):Int):=by rw [ar (by omega) (by omega)]; rfl
     obtain ⟨a,b,ra,rb,⟨ma,mb⟩,_,cD,ha,hb⟩:=tN hn h3;have sa:=aU a ma;have sb:=aU b mb;have qa:=PV.c9 sa (by decide)
     have qb:=PV.c9 sb (by decide)
     have Pw:=cV cD;have rd:=rR (L:=L) (k:=bg n (bg n j)) (by omega)
     have sd:=aU _ (oW (L:=L) (k:=bg n (bg n j)) (by omega))
     have pd:=ky (L:=L) (k:=bg n (bg n j)) (by omega)
     obtain ⟨d,hd⟩:∃ o,o=jd L (bg n (bg n j)):=⟨_,rfl⟩;rw [← hd] at rd sd pd;have qd:=PV.c9 sd (by decide)
     have pa:a.p=aC (aV L) j:=by rw [ha]; exact ky (by omega)
     have pb:b.p=aC (aV L) (bg n j):=by rw [hb]; exact ky (by omega)
     have cR:=lQ h3 (by omega)
     have Ib:=Zo h3 (by omega)
     have fR:n=(aV L).length:=by rw [dp,hn]
     have zE:o7 (aV L) j↔an a.p b.p d.p≤0∨(0 < j∧j+1 < n∧an (aC (aV L) 0) (aC (aV L) j) (aC (aV L) (j+1))≤0):=by
      unfold o7;rw [← fR,pa,pb,pd]
     obtain ⟨u,hu⟩:∃ u,u=bg n j:=⟨_,rfl⟩;rw [← hu] at cR cD rb Pw Ib rd;obtain ⟨w,hw⟩:∃ w,w=bg n u:=⟨_,rfl⟩;rw [← hw] at Pw Ib rd;rw [← hg] at ra rb rd;conv=>whnf
     refine .inl ⟨42,[[],[],[0,1],[0,1,2],[],[],[5],[],[5,6,7],[4,5,6,7,8],[4,5,6,7,8,9],[],[],[12],[],[12,13,14],[11,12,13,14,15],[11,12,13,14,15,16],[0,1,2,3,4,5,6,7,8,9,10,11,12,13,14,15,16,17],[0,1,2,3,4,5,6,7,8,9,10,11,12,13,14,15,16,17,18],[0,1,2,3,4,5,6,7,8,9,10,11,12,13,14,15,16,17,18,19],[0,1,2,3,4,5,6,7,8,9,10,11,12,13,14,15,16,17,18,19,20],[0,1,2,3,4,5,6,7,8,9,10,11,12,13,14,15,16,17,18,19,20,21],[0,1,2,3,4,5,6,7,8,9,10,11,12,13,14,15,16,17,18,19,20,21,22],[0,1,2,3,4,5,6,7,8,9,10,11,12,13,14,15,16,17,18,19,20,21,22,23],[0,1,2,3,4,5,6,7,8,9,10,11,12,13,14,15,16,17,18,19,20,21,22,23,24],[0,1,2,3,4,5,6,7,8,9,10,11,12,13,14,15,16,17,18,19,20,21,22,23],[0,1,2,3,4,5,6,7,8,9,10,11,12,13,14,15,16,17,18,19,20,21,22,23,24,25,26],[0,1,2,3,4,5,6,7,8,9,10,11,12,13,14,15,16,17,18,19,20,21,22,23,24,25,26,27],[0,1,2,3,4,5,6,7,8,9,10,11,12,13,14,15,16,17,18,19,20,21,22,23,24,25,26,27,28],[0,1,2,3,4,5,6,7,8,9,10,11,12,13,14,15,16,17,18,19,20,21,22,23,24,25,26,27,28,29],[0,1,2,3,4,5,6,7,8,9,10,11,12,13,14,15,16,17,18,19,20,21,22,23,24,25,26,27,28,29,30],[0,1,2,3,4,5,6,7,8,9,10,11,12,13,14,15,16,17,18,19,20,21,22,23,24,25,26,27,28,29,30,31],[0,1,2,3,4,5,6,7,8,9,10,11,12,13,14,15,16,17,18,19,20,21,22,23,24,25,26,27,28,29],[0,1,2,3,4,5,6,7,8,9,10,11,12,13,14,15,16,17,18,19,20,21,22,23,24,25,26,27,28,29],[0,1,2,3,4,5,6,7,8,9,10,11,12,13,14,15,16,17,18,19,20,21,22,23,24,25,26,27,28,29,33,34],[0,1,2,3,4,5,6,7,8,9,10,11,12,13,14,15,16,17,18,19,20,21,22,23,24,25,26,27,28,29,33,34,35],[0,1,2,3,4,5,6,7,8,9,10,11,12,13,14,15,16,17,18,19,20,21,22,23,24,25,26,27,28,29],[0,1,2,3,4,5,6,7,8,9,10,11,12,13,14,15,16,17,18,19,20,21,22,23,24,25,26,27,28,29],[0,1,2,3,4,5,6,7,8,9,10,11,12,13,14,15,16,17,18,19,20,21,22,23,24,25,26,27,28,29,38],[0,1,2,3,4,5,6,7,8,9,10,11,12,13,14,15,16,17,18,19,20,21,22,23,24,25,26,27,28,29,37,38,39],[0,1,2,3,4,5,6,7,8,9,10,11,12,13,14,15,16,17,18,19,20,21,22,23,24,25,26,27,28,29,37,38,39,40],[0,1,2,3,4,5,6,7,8,9,10,11,12,13,14,15,16,17,18,19,20,21,22,23,24,25,26,27,28,29,30,31,32,33,34,35,36,37,38,39,40,41],[0,1,2,3,4,5,6,7,8,9,10,11,12,13,14,15,16,17,18,19,20,21,22,23,24,25,26,27,28,29,30,31,32,33,34,35,36,37,38,39,40,41,42],[0,1,2,3,4,5,6,7,8,9,10,11,12,13,14,15,16,17,18,19,20,21,22,23,24,25,26,27,28,29,30,31,32,33,34,35,36,37,38,39,40,41,42,43],[0,1,2,3,4,5,6,7,8,9,10,11,12,13,14,15,16,17,18,19,20,21,22,23,24,25,26,27,28,29,30,31,32,33,34,35,36,37,38,39,40,41,42,43,44]],by kernel_rfl,?_⟩
     conv=>whnf
     refine ⟨⟨by omega,by omega⟩,?_⟩
     simp only [toNat_cast,ax,Nat.zero_add];conv=>whnf
     refine ⟨by show j < n; omega,?_⟩
     conv=>whnf
     rw [ra];conv=>whnf
     rw [show decide ((n:Int)≠0)=true from decide_eq_true (by omega)]
     conv=>whnf
     rw [cR];refine ⟨⟨by omega,by omega⟩,?_⟩
     simp only [toNat_cast,ax,Nat.zero_add];conv=>whnf
     refine ⟨by show u < n; omega,?_⟩
     conv=>whnf
     rw [rb];conv=>whnf
     rw [show decide ((n:Int)≠0)=true from decide_eq_true (by omega)]
     conv=>whnf
     rw [Ib];refine ⟨⟨by omega,by omega⟩,?_⟩
     simp only [toNat_cast,ax,Nat.zero_add];conv=>whnf
     refine ⟨by show w < n; omega,?_⟩
     conv=>whnf
     rw [rd];conv=>whnf
     obtain ⟨z,ez,pz⟩:=dJ (aN (an a.p b.p d.p) 0);refine ⟨(a,b,d),rfl,⟨PV.aJ sa (by decide),PV.aJ sb (by decide),PV.aJ sd (by decide)⟩,?_⟩
     rw [show mw.val (a,b,d)=.int .i64 z from ez]
     conv=>whnf
     have cz:z≤0↔an a.p b.p d.p≤0:=by rw [pz]; exact BN
     by_cases h4:z≤0
     ·rw [show decide (z≤0)=true from decide_eq_true h4]
      conv=>whnf
      exact fin 15 (Gj (by omega) qX oe fun e=>(yt xY oe).1 e j (by rw [dp]; omega) (zE.2 (.inl (cz.1 h4))))
     ·rw [show decide (z≤0)=false from decide_eq_false h4]
      have next:¬ o7 (aV L) j→∀ k,k < j+1→¬ o7 (aV L) k:=fun hb k hk=>by
       rcases Nat.lt_or_eq_of_le (Nat.le_of_lt_succ hk) with e | e
       ·exact hB k e
       ·rw [e]; exact hb
      conv=>whnf
      by_cases h5:0 < j
      ·rw [show decide ((j:Int) > 0)=true from decide_eq_true (by omega)]
       conv=>whnf
       rw [e7];by_cases h6:j+1 < n
       ·rw [show decide (((j+1:Nat):Int) < (n:Int))=true from decide_eq_true (by omega)]
        have rv:=rR (L:=L) (k:=j+1) (by omega)
        have sv:=aU _ (oW (L:=L) (k:=j+1) (by omega))
        have pv:=ky (L:=L) (k:=j+1) (by omega)
        obtain ⟨v,hv⟩:∃ o,o=jd L (j+1):=⟨_,rfl⟩;rw [← hv] at rv sv pv;rw [← hg] at rv;have qv:=PV.c9 sv (by decide)
        obtain ⟨k,hk⟩:∃ k,k=j+1:=⟨_,rfl⟩;rw [← hk] at rv;conv=>whnf
        refine ⟨⟨by omega,by omega⟩,?_⟩
        simp only [toNat_cast,ax,Nat.zero_add];conv=>whnf
        refine ⟨by show 0 < n; omega,?_⟩
        conv=>whnf
        rw [zG];conv=>whnf
        refine ⟨⟨by omega,by omega⟩,?_⟩
        simp only [toNat_cast,ax,Nat.zero_add];conv=>whnf
        refine ⟨by show j < n; omega,?_⟩
        conv=>whnf
        rw [ra];conv=>whnf
        rw [e7,← hk];refine ⟨⟨by omega,by omega⟩,?_⟩
        simp only [toNat_cast,ax,Nat.zero_add];conv=>whnf
        refine ⟨by show k < n; omega,?_⟩
        conv=>whnf
        rw [rv];conv=>whnf
        obtain ⟨y,ey,py⟩:=dJ (aN (an o.p a.p v.p) 0);refine ⟨(o,a,v),rfl,⟨PV.aJ so (by decide),PV.aJ sa (by decide),PV.aJ sv (by decide)⟩,?_⟩
        rw [show mw.val (o,a,v)=.int .i64 y from ey]
        conv=>whnf
        have cy:y≤0↔an o.p a.p v.p≤0:=by rw [py]; exact BN
        rw [pa,po,pv] at cy;by_cases h7:y≤0
        ·rw [show decide (y≤0)=true from decide_eq_true h7]
         conv=>whnf
         exact fin 15 (Gj (by omega) qX oe fun e=>(yt xY oe).1 e j (by rw [dp]; omega) (zE.2 (.inr ⟨h5,h6,cy.1 h7⟩)))
        ·rw [show decide (y≤0)=false from decide_eq_false h7]
         conv=>whnf
         rw [e7];refine .inr ⟨[0],[0,3,5],?_⟩;conv=>whnf
         intro _;conv=>whnf
         refine ⟨_,?_,j+1,(.aa (.sk 2 (.aa (.sk 1 (.aa (.sk 78 .nil rfl)) rfl)) rfl)),rfl,rfl,?_⟩
         ·omega
         ·exact ⟨by omega,next fun e=>(zE.1 e).elim (fun e=>h4 (cz.2 e)) fun e=>h7 (cy.2 e.2.2)⟩
       ·rw [show decide (((j+1:Nat):Int) < (n:Int))=false from decide_eq_false (by omega)]
        conv=>whnf
        rw [e7];refine .inr ⟨[0],[0,3,5],?_⟩;conv=>whnf
        intro _;conv=>whnf
        refine ⟨_,?_,j+1,(.aa (.sk 2 (.aa (.sk 1 (.aa (.sk 78 .nil rfl)) rfl)) rfl)),rfl,rfl,?_⟩
        ·omega
        ·exact ⟨by omega,next fun e=>(zE.1 e).elim (fun e=>h4 (cz.2 e)) fun e=>h6 e.2.1⟩
      ·rw [show decide ((j:Int) > 0)=false from decide_eq_false (by omega)]
       conv=>whnf
       rw [e7];refine .inr ⟨[0],[0,3,5],?_⟩;conv=>whnf
       intro _;conv=>whnf
       refine ⟨_,?_,j+1,(.aa (.sk 2 (.aa (.sk 1 (.aa (.sk 78 .nil rfl)) rfl)) rfl)),rfl,rfl,?_⟩
       ·omega
       ·exact ⟨by omega,next fun e=>(zE.1 e).elim (fun e=>h4 (cz.2 e)) fun e=>h5 e.1⟩
    ·have h3:j=n:=by
      have:=of_decide_eq_false h3;omega
     subst h3;conv=>whnf
     exact fin 0 (MB (by omega) qX oe ((yt xY oe).2 fun k hk=>hB k (by rw [dp] at hk; omega)))
def Er3:Env:=En [(77,.p mw)]
theorem acz:EnvOk Tryz.prog Er3:=bI ⟨Le,trivial⟩ trivial
open Go Go.Ae
theorem N8:bf Tryz.prog 79 oc:=by
 refine bk acz aM Tryz.func79 (enters_of Tryz.func79 (by kernel_rfl) rfl) (fun _=>rfl) (fun _=>rfl) ?_
 intro ⟨⟨n1,a1,b1⟩,⟨n2,a2,b2⟩⟩ _;have Ac:∀ x:ByteArray,12 < x.size→decide ((x.size:Int) > 12)=true:=fun x h=>decide_eq_true (by omega)
 have small:∀ x:ByteArray,¬ 12 < x.size→decide ((x.size:Int) > 12)=false:=fun x h=>decide_eq_false (by omega)
 conv=>whnf
 by_cases h1:12 < a1.size
 ·rw [Ac _ h1];conv=>whnf
  exact BR (by omega)
 rw [small _ h1];conv=>whnf
 by_cases J:12 < b1.size
 ·rw [Ac _ J];conv=>whnf
  exact BR (by omega)
 rw [small _ J];conv=>whnf
 by_cases h3:12 < a2.size
 ·rw [Ac _ h3];conv=>whnf
  exact BR (by omega)
 rw [small _ h3];conv=>whnf
 by_cases h4:12 < b2.size
 ·rw [Ac _ h4];exact BR (by omega)
 rw [small _ h4];exact Zs (by omega)
def Es1:Env:=En [(79,.p oc)]
theorem acA:EnvOk Tryz.prog Es1:=bI ⟨N8,trivial⟩ trivial
theorem Tk:dc Tryz.prog 53 kW:=by
 refine eg acA aM Tryz.func53 (enters_of Tryz.func53 (by kernel_rfl) rfl) ?_ ?_ ?_
 ·intro i b hb;cases i with
  | none=>simp [kW,PL.aj] at hb
  | some i=>simp [kW,PL.aj] at hb; rw [hb]; rfl
 ·intro i b hb; simp [kW] at hb
 intro i hp;have hp:i.list.length≤9223372036854775807:=hp;cases i with
 | none =>
  conv=>whnf
  refine .inr ⟨1,?_⟩;conv=>whnf
  exact ⟨.bool false,rfl,.refl _⟩
 | some i =>
  obtain ⟨L,c⟩:=i;have hlen:L.length≤9223372036854775807:=hp;obtain ⟨n,hn⟩:∃ n,n=L.length:=⟨_,rfl⟩;obtain ⟨g,hg⟩:∃ g,g=dq L:=⟨_,rfl⟩;have fin:∀ z:Bool,nf L=z→∃ v',cQ (List.range 1) 3 (kW.val (some (L,c)))=some v'∧eZ (.bool z) v':=fun z h=>⟨.bool z,by rw [← h]; rfl,.refl _⟩
  rw [show kW.aj (some (L,c))=[.flat false n 6 g] from by rw [hn,hg]; rfl,show kW.args (some (L,c))=[.slice (some ⟨0,0,none⟩) n c] from by rw [hn]; rfl]
  rw [← hn] at hlen;conv=>whnf
  by_cases J:66 < n
  ·rw [show decide ((n:Int) > 10)=true from decide_eq_true (by omega)]
   conv=>whnf
   rw [show decide ((n:Int) < 63)=false from decide_eq_false (by omega)]
   conv=>whnf
   rw [show decide ((n:Int) > 66)=true from decide_eq_true (by omega)]
   conv=>whnf
   exact fin true (K9 (.inr (by omega)))
  by_cases h1:10 < n∧n < 63
  ·rw [show decide ((n:Int) > 10)=true from decide_eq_true (by omega)]
   conv=>whnf
   rw [show decide ((n:Int) < 63)=true from decide_eq_true (by omega)]
   conv=>whnf
   exact fin true (K9 (.inl (by omega)))
  have adI:=SZ (L:=L) (by omega)
  have fin:=fun (z:Bool) (h:uq 12 L=z)=>fin z (adI.trans h)
  by_cases h3:10 < n
  ·rw [show decide ((n:Int) > 10)=true from decide_eq_true (by omega)]
   conv=>whnf
   rw [show decide ((n:Int) < 63)=false from decide_eq_false (by omega)]
   conv=>whnf
   rw [show decide ((n:Int) > 66)=false from decide_eq_false (by omega)]
   conv=>whnf
   refine .inl ⟨fun mm tz hz=>∃ (i:Nat),bA (some (.slice (some ⟨0,0,none⟩) n c)::aB 2 (some (.int .i64 i)::aB 24 [])) tz∧hz=[some (.flat false n 6 g)]∧n - i=mm∧(i≤n∧uc 12 L i),.inr ⟨[0],[0,3],?_⟩,?_⟩
   ·conv=>whnf
    intro _;conv=>whnf
    refine ⟨_,0,(.aa (.sk 2 (.aa (.sk 24 .nil rfl)) rfl)),rfl,rfl,?_⟩;exact ⟨Nat.zero_le _,JQ _ _⟩
   rintro mm aS _ ⟨i,au,rfl,rfl,⟨hi,hU⟩⟩
   obtain ⟨az,rfl⟩:∃ az:Nat→Value,aS=.slice (some ⟨0,0,none⟩) n c::zs az 1 2 (.int .i64 i::zs az 4 24 []):=bJ au;clear au;conv=>whnf
   refine aI (fun h3=>?_) (fun h3=>?_)
   ·have h3:i < n:=by
     have:=of_decide_eq_true h3;omega
    have e7:IntKind.i64.wrap ((i:Int)+1)=((i+1:Nat):Int):=by rw [ar (by omega) (by omega)]; rfl
    obtain ⟨m,lH,mR,aX⟩:=rO (l:=L) (i:=i) (by omega)
    rw [← hg] at aX;conv=>whnf
    refine ⟨⟨by omega,by omega⟩,?_⟩
    simp only [toNat_cast,ax,Nat.zero_add];conv=>whnf
    refine ⟨by show i < n; omega,?_⟩
    conv=>whnf
    rw [aX];conv=>whnf
    refine ⟨m,rfl,trivial,?_⟩;by_cases h4:m.sz 12
    ·rw [show oc.val m=.bool false from congrArg Value.bool (decide_eq_false fun e=>e h4)]
     conv=>whnf
     rw [e7];refine .inr ⟨[0],[0,3],?_⟩;conv=>whnf
     intro _;conv=>whnf
     refine ⟨_,?_,i+1,(.aa (.sk 2 (.aa (.sk 24 .nil rfl)) rfl)),rfl,rfl,?_⟩
     ·omega
     ·exact ⟨by omega,J6 hU lH h4⟩
    ·rw [show oc.val m=.bool true from congrArg Value.bool (decide_eq_true h4)]
     conv=>whnf
     exact fin true (D9 mR h4)
   ·have h3:i=n:=by
     have:=of_decide_eq_false h3;omega
    subst h3;conv=>whnf
    exact fin false (Kr (by rw [← hn]; exact hU))
  ·rw [show decide ((n:Int) > 10)=false from decide_eq_false (by omega)]
   conv=>whnf
   rw [show decide ((n:Int) > 66)=false from decide_eq_false (by omega)]
   conv=>whnf
   refine .inl ⟨fun mm tz hz=>∃ (i:Nat),bA (some (.slice (some ⟨0,0,none⟩) n c)::aB 2 (some (.int .i64 i)::aB 24 [])) tz∧hz=[some (.flat false n 6 g)]∧n - i=mm∧(i≤n∧uc 12 L i),.inr ⟨[0],[0,3],?_⟩,?_⟩
   ·conv=>whnf
    intro _;conv=>whnf
    refine ⟨_,0,(.aa (.sk 2 (.aa (.sk 24 .nil rfl)) rfl)),rfl,rfl,?_⟩;exact ⟨Nat.zero_le _,JQ _ _⟩
   rintro mm aS _ ⟨i,au,rfl,rfl,⟨hi,hU⟩⟩
   obtain ⟨az,rfl⟩:∃ az:Nat→Value,aS=.slice (some ⟨0,0,none⟩) n c::zs az 1 2 (.int .i64 i::zs az 4 24 []):=bJ au;clear au;conv=>whnf
   refine aI (fun h3=>?_) (fun h3=>?_)
   ·have h3:i < n:=by
     have:=of_decide_eq_true h3;omega
    have e7:IntKind.i64.wrap ((i:Int)+1)=((i+1:Nat):Int):=by rw [ar (by omega) (by omega)]; rfl
    obtain ⟨m,lH,mR,aX⟩:=rO (l:=L) (i:=i) (by omega)
    rw [← hg] at aX;conv=>whnf
    refine ⟨⟨by omega,by omega⟩,?_⟩
    simp only [toNat_cast,ax,Nat.zero_add];conv=>whnf
    refine ⟨by show i < n; omega,?_⟩
    conv=>whnf
    rw [aX];conv=>whnf
    refine ⟨m,rfl,trivial,?_⟩;by_cases h4:m.sz 12
    ·rw [show oc.val m=.bool false from congrArg Value.bool (decide_eq_false fun e=>e h4)]
     conv=>whnf
     rw [e7];refine .inr ⟨[0],[0,3],?_⟩;conv=>whnf
     intro _;conv=>whnf
     refine ⟨_,?_,i+1,(.aa (.sk 2 (.aa (.sk 24 .nil rfl)) rfl)),rfl,rfl,?_⟩
     ·omega
     ·exact ⟨by omega,J6 hU lH h4⟩
    ·rw [show oc.val m=.bool true from congrArg Value.bool (decide_eq_true h4)]
     conv=>whnf
     exact fin true (D9 mR h4)
   ·have h3:i=n:=by
     have:=of_decide_eq_false h3;omega
    subst h3;conv=>whnf
    exact fin false (Kr (by rw [← hn]; exact hU))
open Go Go.Ae
open Go Go.Ae
open Go Go.Ae
def Ea1:Env:=En [(55,.p qS)]
theorem acB:EnvOk Tryz.prog Ea1:=bI ⟨N6,trivial⟩ trivial
theorem Us:dc Tryz.prog 54 ic:=by
 refine eg acB aM Tryz.func54 (enters_of Tryz.func54 (by kernel_rfl) rfl) ?_ ?_ ?_
 ·intro i b hb; simp [ic] at hb; rw [hb]; rfl
 ·intro i b hb; simp [ic] at hb; rw [← hb]; rfl
 intro (L:II) hp;have hp:(0 < L.length∧L.length≤1000000)∧∀ x∈L,x.1.natAbs < 256∧x.2.natAbs < 256:=hp;obtain ⟨⟨h0,hlen⟩,QH⟩:=hp;obtain ⟨n,hn⟩:∃ n,n=L.length:=⟨_,rfl⟩;obtain ⟨m,hm⟩:∃ m,m=2*n:=⟨_,rfl⟩;obtain ⟨g,hg⟩:∃ g,g=nt L:=⟨_,rfl⟩;obtain ⟨K,hK⟩:∃ K,K=iV ic L:=⟨_,rfl⟩;rw [show ic.aj L=[.flat false m 1 g] from by rw [hm,hn,hg]; rfl,show ic.args L=[.slice (some ⟨0,0,none⟩) m m] from by rw [hm,hn]; rfl,← hK]
 rw [← hn] at hlen h0;conv=>whnf
 refine .inl ⟨fun mm tz hz=>∃ (j:Nat) (i:Nat) (O:List Q2) (q:Nat) (F:Nat→List Value),bA (some (.slice (some ⟨0,0,none⟩) m m)::aB 2 (some (eK 1 q)::some (.int .i64 i)::aB 21 [])) tz∧hz=[some (.flat false m 1 g)]++zu 6 F q∧n - j=mm∧((j≤n∧q=j∧i=2*j∧q=O.length)∧O=bu (L.take j)∧(∀ r,r < q→F r=bW O r)),.inr ⟨[0],[0,3,4],?_⟩,?_⟩
 ·conv=>whnf
  intro _;conv=>whnf
  refine ⟨_,0,0,[],0,fun _=>[],(.aa (.sk 2 (.aa (.aa (.sk 21 .nil rfl))) rfl)),rfl,rfl,?_⟩
  exact ⟨⟨Nat.zero_le _,rfl,rfl,rfl⟩,rfl,fun r hr=>absurd hr (Nat.not_lt_zero r)⟩
 rintro mm aS _ ⟨j,i,O,q,F,au,rfl,rfl,⟨⟨hj,QI,hi,hq⟩,hO,hF⟩⟩
 obtain ⟨az,rfl⟩:∃ az:Nat→Value,aS=.slice (some ⟨0,0,none⟩) m m::zs az 1 2 (eK 1 q::.int .i64 i::zs az 5 21 []):=bJ au;clear au;obtain ⟨k,hk⟩:∃ k,k=i+1:=⟨_,rfl⟩;have e1:IntKind.i64.wrap ((i:Int)+1)=(k:Int):=by rw [ar (by omega) (by omega),hk]; rfl
 have e2:IntKind.i64.wrap ((i:Int)+2)=((i+2:Nat):Int):=by rw [ar (by omega) (by omega)]; rfl
 cases q with
 | zero =>
  obtain rfl:O=[]:=List.eq_nil_of_length_eq_zero hq.symm;conv=>whnf
  rw [e1];refine aI (fun h1=>?_) (fun h1=>?_)
  ·have h1:j < n:=by
    have:=of_decide_eq_true h1;omega
   obtain ⟨x,hx⟩:∃ x,x=rA L j:=⟨_,rfl⟩;have gH:=Nq (l:=L) (j:=j) (by omega)
   rw [← hx] at gH;have ra:g i=[.int .i64 x.1]:=by rw [hg,hi]; exact MG hx
   have rb:g k=[.int .i64 x.2]:=by rw [hk,hg,hi]; exact MH hx
   have ao:=MI gH.2;rw [← hO] at ao;have hs:=QH x gH.1;conv=>whnf
   refine .inl ⟨12,[[],[],[],[1,2],[1,2,3],[],[],[6],[5,6,7],[5,6,7,8],[1,2,3,4,5,6,7,8,9],[1,2,3,4,5,6,7,8,9,10],[0,1,2,3,4,5,6,7,8,9,10,11],[0,1,2,3,4,5,6,7,8,9,10,11,12]],by kernel_rfl,?_⟩
   conv=>whnf
   refine ⟨⟨by omega,by omega⟩,?_⟩
   simp only [toNat_cast,ax,Nat.zero_add];conv=>whnf
   refine ⟨by show i < m; omega,?_⟩
   conv=>whnf
   rw [ra];conv=>whnf
   rw [e1];refine ⟨⟨by omega,by omega⟩,?_⟩
   simp only [toNat_cast,ax,Nat.zero_add];conv=>whnf
   refine ⟨by show k < m; omega,?_⟩
   conv=>whnf
   rw [rb];conv=>whnf
   obtain ⟨u,cu,eu,pu,su,qu⟩:=jn (uY x.1 x.2 hs.1 hs.2);refine ⟨(x.1,x.2),rfl,⟨⟨by show -9223372036854775808≤x.1; omega,by show x.1 < 9223372036854775808; omega⟩,⟨by show -9223372036854775808≤x.2; omega,by show x.2 < 9223372036854775808; omega⟩⟩,?_⟩
   rw [show qS.val (x.1,x.2)=u.v from eu]
   conv=>whnf
   refine ⟨by show (0+1)*80≤140737488355328; decide,?_⟩
   conv=>whnf
   rw [e2];refine .inr ⟨[0,13],[0,3,4],?_⟩;conv=>whnf
   intro _;conv=>whnf
   refine ⟨_,?_,j+1,i+2,[iq x],1,_,(.aa (.sk 2 (.aa (.aa (.sk 21 .nil rfl))) rfl)),rfl,rfl,?_⟩
   ·omega
   ·exact ⟨⟨by omega,by omega,by omega,rfl⟩,by rw [ao]; rfl,wH cu rfl⟩
  ·exfalso;have:=of_decide_eq_false h1;omega
 | succ q =>
  have e0:i≠0:=by omega
  conv=>whnf
  rw [e1];refine aI (fun h1=>?_) (fun h1=>?_)
  ·have h1:j < n:=by
    have:=of_decide_eq_true h1;omega
   obtain ⟨x,hx⟩:∃ x,x=rA L j:=⟨_,rfl⟩;have gH:=Nq (l:=L) (j:=j) (by omega)
   rw [← hx] at gH;have ra:g i=[.int .i64 x.1]:=by rw [hg,hi]; exact MG hx
   have rb:g k=[.int .i64 x.2]:=by rw [hk,hg,hi]; exact MH hx
   have ao:=MI gH.2;rw [← hO] at ao;have hs:=QH x gH.1;conv=>whnf
   refine .inl ⟨12,[[],[],[],[1,2],[1,2,3],[],[],[6],[5,6,7],[5,6,7,8],[1,2,3,4,5,6,7,8,9],[1,2,3,4,5,6,7,8,9,10],[0,1,2,3,4,5,6,7,8,9,10,11],[0,1,2,3,4,5,6,7,8,9,10,11,12]],by kernel_rfl,?_⟩
   conv=>whnf
   refine ⟨⟨by omega,by omega⟩,?_⟩
   simp only [toNat_cast,ax,Nat.zero_add];conv=>whnf
   refine ⟨by show i < m; omega,?_⟩
   conv=>whnf
   rw [ra];conv=>whnf
   rw [e1];refine ⟨⟨by omega,by omega⟩,?_⟩
   simp only [toNat_cast,ax,Nat.zero_add];conv=>whnf
   refine ⟨by show k < m; omega,?_⟩
   conv=>whnf
   rw [rb];conv=>whnf
   obtain ⟨u,cu,eu,pu,su,qu⟩:=jn (uY x.1 x.2 hs.1 hs.2);refine ⟨(x.1,x.2),rfl,⟨⟨by show -9223372036854775808≤x.1; omega,by show x.1 < 9223372036854775808; omega⟩,⟨by show -9223372036854775808≤x.2; omega,by show x.2 < 9223372036854775808; omega⟩⟩,?_⟩
   rw [show qS.val (x.1,x.2)=u.v from eu]
   conv=>whnf
   refine ⟨⟨by show 1≤1; decide,rfl,by show (q+1+1)*80≤140737488355328; omega⟩,?_⟩
   conv=>whnf
   refine ⟨[0,4],?_⟩;conv=>whnf
   intro _;conv=>whnf
   rw [e2];refine .inr ⟨[0,1],[0,3,4],?_⟩;conv=>whnf
   intro _;conv=>whnf
   refine ⟨_,?_,j+1,i+2,O++[iq x],q+1+1,_,(.aa (.sk 2 (.aa (.aa (.sk 21 .nil rfl))) rfl)),rfl,rfl,?_⟩
   ·omega
   ·exact ⟨⟨by omega,by omega,by omega,by rw [List.length_append,← hq]; rfl⟩,ao.symm,rV hq hF cu rfl⟩
  ·have h1:j=n:=by
    have:=of_decide_eq_false h1;omega
   subst h1;have hE:bu L=O:=by rw [hO,hn,List.take_length]
   have Jw:O.length=(bu L).length:=by rw [hE]
   conv=>whnf
   rw [hK];unfold iV;rw [show ic.new L=some (.flat true (q+1) 6 (bW O)) from by show some (ah.flat true L.length 6 (bW (bu L)))=_; rw [← hn,hE,← QI],show ic.val L=.slice (some ⟨1,0,none⟩) (q+1) aK from by show Value.slice (some ⟨1,0,none⟩) L.length aK=_; rw [← hn,← QI]]
   refine ⟨1,?_⟩;conv=>whnf
   exact ⟨⟨rfl,aO.rP (fun h=>h) hF (fun r hr=>rfl)⟩,_,rfl,.refl _⟩
open Go Go.Ae
def Edz:Env:=tx [(33,.p kD)]
theorem acC:EnvOk Tryz.prog Edz:=vg ⟨xj,trivial⟩ trivial
theorem VZ:dc Tryz.prog 18 kv:=by
 refine eg acC aM Tryz.func18 (enters_of Tryz.func18 (by kernel_rfl) rfl) ?_ ?_ ?_
 ·intro ⟨i,j⟩ b hb;cases i <;> cases j <;> simp [kv,PL.aj] at hb <;> (try rcases hb with rfl | rfl) <;> (try subst hb) <;> first | rfl | skip
 ·intro i b hb; simp [kv] at hb
 intro ⟨i,j⟩ hp;have hp:i.list.length≤1099511627776∧j.list.length≤1099511627776:=hp;obtain ⟨QJ,P1⟩:=hp;cases i with
 | none =>
  cases j with
  | none =>
   conv=>whnf
   refine .inr ⟨1,?_⟩;conv=>whnf
   exact ⟨.bool true,rfl,.refl _⟩
  | some j =>
   obtain ⟨m,c⟩:=j;obtain ⟨n,hn⟩:∃ n,n=m.length:=⟨_,rfl⟩;obtain ⟨g,hg⟩:∃ g,g=dq m:=⟨_,rfl⟩;have fin:∀ b:Bool,b=decide ([]=m)→∃ v',cQ (List.range 1) 3 (kv.val (none,some (m,c)))=some v'∧eZ (.bool b) v':=fun b h=>⟨.bool b,by rw [h]; rfl,.refl _⟩
   rw [show kv.aj (none,some (m,c))=[.flat false n 6 g] from by rw [hn,hg]; rfl,show kv.args (none,some (m,c))=[.slice none 0 0,.slice (some ⟨0,0,none⟩) n c] from by rw [hn]; rfl]
   by_cases h0:n=0
   ·have hm:m=[]:=List.length_eq_zero_iff.1 (hn.symm.trans h0);subst h0;conv=>whnf
    refine .inr ⟨1,?_⟩;conv=>whnf
    exact fin true (by rw [hm]; rfl)
   ·conv=>whnf
    rw [show (((0:Nat):Int) != ((n:Nat):Int))=true from by simp; omega]
    conv=>whnf
    exact fin false (by cases m with | nil=>exact absurd hn h0 | cons a m=>rfl)
 | some i =>
  obtain ⟨l,c⟩:=i;obtain ⟨k,hk⟩:∃ n,n=l.length:=⟨_,rfl⟩;obtain ⟨f,hf⟩:∃ g,g=dq l:=⟨_,rfl⟩;have QJ:k≤1099511627776:=by rw [hk]; exact QJ
  cases j with
  | none =>
   have fin:∀ b:Bool,b=decide (l=[])→∃ v',cQ (List.range 1) 3 (kv.val (some (l,c),none))=some v'∧eZ (.bool b) v':=fun b h=>⟨.bool b,by rw [h]; rfl,.refl _⟩
   rw [show kv.aj (some (l,c),none)=[.flat false k 6 f] from by rw [hk,hf]; rfl,show kv.args (some (l,c),none)=[.slice (some ⟨0,0,none⟩) k c,.slice none 0 0] from by rw [hk]; rfl]
   by_cases h0:k=0
   ·have hm:l=[]:=List.length_eq_zero_iff.1 (hk.symm.trans h0);subst h0;conv=>whnf
    refine .inr ⟨1,?_⟩;conv=>whnf
    exact fin true (by rw [hm]; rfl)
   ·conv=>whnf
    rw [show (((k:Nat):Int) != ((0:Nat):Int))=true from by simp; omega]
    conv=>whnf
    exact fin false (by cases l with | nil=>exact absurd hk h0 | cons a m=>rfl)
  | some j =>
   obtain ⟨m,d⟩:=j;obtain ⟨n,hn⟩:∃ n,n=m.length:=⟨_,rfl⟩;obtain ⟨g,hg⟩:∃ g,g=dq m:=⟨_,rfl⟩;have fin:∀ b:Bool,b=decide (l=m)→∃ v',cQ (List.range 2) 3 (kv.val (some (l,c),some (m,d)))=some v'∧eZ (.bool b) v':=fun b h=>⟨.bool b,by rw [h]; rfl,.refl _⟩
   rw [show kv.aj (some (l,c),some (m,d))=[.flat false k 6 f,.flat false n 6 g] from by rw [hk,hf,hn,hg]; rfl,show kv.args (some (l,c),some (m,d))=[.slice (some ⟨0,0,none⟩) k c,.slice (some ⟨1,0,none⟩) n d] from by rw [hk,hn]; rfl]
   by_cases h0:k=n
   ·obtain rfl:=h0;conv=>whnf
    rw [show ((k:Int) != (k:Int))=false from by simp]
    conv=>whnf
    refine .inl ⟨fun mm tz hz=>∃ (i:Nat),bA (some (.slice (some ⟨0,0,none⟩) k c)::some (.slice (some ⟨1,0,none⟩) k d)::aB 10 (some (.int .i64 k)::some (.int .i64 i)::aB 12 [])) tz∧hz=[some (.flat false k 6 f),some (.flat false k 6 g)]∧k - i=mm∧(i≤k∧uZ l m i),.inr ⟨[0,1],[0,1,12,13],?_⟩,?_⟩
    ·conv=>whnf
     intro _;conv=>whnf
     refine ⟨_,0,(.aa (.aa (.sk 10 (.aa (.aa (.sk 12 .nil rfl))) rfl))),rfl,rfl,?_⟩;exact ⟨Nat.zero_le _,SD _ _⟩
    rintro mm aS _ ⟨i,au,rfl,rfl,⟨hi,hN⟩⟩
    obtain ⟨az,rfl⟩:∃ az:Nat→Value,aS=.slice (some ⟨0,0,none⟩) k c::.slice (some ⟨1,0,none⟩) k d::zs az 2 10 (.int .i64 k::.int .i64 i::zs az 14 12 []):=bJ au;clear au;conv=>whnf
    refine aI (fun h1=>?_) (fun h1=>?_)
    ·have h1:i < k:=by
      have:=of_decide_eq_true h1;omega
     obtain ⟨p,lG,_,aX⟩:=rO (l:=l) (i:=i) (by omega)
     obtain ⟨q,Jw,_,OJ⟩:=rO (l:=m) (i:=i) (by omega)
     rw [← hf] at aX;rw [← hg] at OJ;have e7:IntKind.i64.wrap ((i:Int)+1)=((i+1:Nat):Int):=by rw [ar (by omega) (by omega)]; rfl
     conv=>whnf
     refine .inl ⟨8,[[],[],[0,1],[0,1,2],[],[],[4,5],[4,5,6],[0,1,2,3,4,5,6,7]],by kernel_rfl,?_⟩
     conv=>whnf
     refine ⟨⟨by omega,by omega⟩,?_⟩
     simp only [toNat_cast,ax,Nat.zero_add];conv=>whnf
     refine ⟨by show i < k; omega,?_⟩
     conv=>whnf
     rw [aX];conv=>whnf
     refine ⟨⟨by omega,by omega⟩,?_⟩
     simp only [toNat_cast,ax,Nat.zero_add];conv=>whnf
     refine ⟨by show i < k; omega,?_⟩
     conv=>whnf
     rw [OJ];conv=>whnf
     rw [C2 p q];by_cases J:p=q
     ·rw [decide_eq_true J];conv=>whnf
      rw [e7];refine .inr ⟨[0,1],[0,1,12,13],?_⟩;conv=>whnf
      intro _;conv=>whnf
      refine ⟨_,?_,i+1,(.aa (.aa (.sk 10 (.aa (.aa (.sk 12 .nil rfl))) rfl))),rfl,rfl,?_⟩
      ·omega
      ·exact ⟨by omega,TZ hN lG Jw J⟩
     ·rw [decide_eq_false J];conv=>whnf
      exact fin false (decide_eq_false (abD lG Jw J)).symm
    ·have h1:i=k:=by
      have:=of_decide_eq_false h1;omega
     subst h1;conv=>whnf
     exact fin true (decide_eq_true (U8 (by rw [← hk]; exact hN) (hk.symm.trans hn))).symm
   ·conv=>whnf
    rw [show ((k:Int) != (n:Int))=true from by simp; omega]
    conv=>whnf
    exact fin false (decide_eq_false (fun e=>h0 (by rw [hk,hn,e]))).symm
open Go Go.Ae
def Ea2:Env:=tx [(54,.q ic),(16,.q jr),(44,.q mL),(21,.q gN),(55,.p qS),(30,.p wS),(33,.p kD),(38,.p gh),(18,.q kv)]
theorem acD:EnvOk Tryz.prog Ea2:=vg ⟨Us,VY,YP,Nx,N6,L6,xj,ue,VZ,trivial⟩ trivial
theorem Tl:bf Tryz.prog 13 NR:=by
 refine bk acD aM Tryz.func13 (enters_of Tryz.func13 (by kernel_rfl) rfl) (fun _=>rfl) (fun _=>rfl) ?_
 intro _ hp;obtain ⟨cu,fG⟩:∃ cu,cu=aK:=⟨_,rfl⟩;obtain ⟨gS,vO⟩:∃ g,g=bW (bu dj):=⟨_,rfl⟩;obtain ⟨gT,Jx⟩:∃ g,g=bW (bu jF):=⟨_,rfl⟩;obtain ⟨gU,Jy⟩:∃ g,g=bW (bu kf):=⟨_,rfl⟩;obtain ⟨gM,Av⟩:∃ g,g=bW (bu jG):=⟨_,rfl⟩;have fS:PL.fit (some (bH (bu dj),cu)):=GP (by decide) (by decide)
 have fT:PL.fit (some (bH (bu jF),cu)):=GP (by decide) (by decide)
 have fU:PL.fit (some (bH (bu kf),cu)):=GP (by decide) (by decide)
 conv=>whnf
 refine ⟨dj,[0],rfl,⟨by decide,by decide⟩,?_⟩
 rw [show ic.aj dj=[.flat false 8 1 (nt dj)] from rfl,show ic.val dj=.slice (some ⟨1,0,none⟩) 4 cu from by rw [fG]; rfl,show ic.new dj=some (.flat true 4 6 gS) from by rw [vO]; rfl]
 conv=>whnf
 refine ⟨By dj _ rfl,?_⟩;conv=>whnf
 refine ⟨_,rfl,?_⟩;conv=>whnf
 refine ⟨jF,[2],rfl,⟨by decide,by decide⟩,?_⟩
 rw [show ic.aj jF=[.flat false 6 1 (nt jF)] from rfl,show ic.val jF=.slice (some ⟨1,0,none⟩) 3 cu from by rw [fG]; rfl,show ic.new jF=some (.flat true 3 6 gT) from by rw [Jx]; rfl]
 conv=>whnf
 refine ⟨By jF _ rfl,?_⟩;conv=>whnf
 refine ⟨_,rfl,?_⟩;conv=>whnf
 refine ⟨(some (bH (bu dj),cu),some (bH (bu jF),cu)),[1,3],rfl,⟨⟨fS,fT⟩,abI (Hl (by decide)) (Hl (by decide))⟩,?_⟩
 rw [show jr.aj (some (bH (bu dj),cu),some (bH (bu jF),cu))=[.flat false 4 6 gS,.flat false 3 6 gT] from by rw [vO,Jx]; rfl,MJ.1,MJ.2,← Av,← fG]
 conv=>whnf
 refine ⟨aO.aW (fun h=>by cases h) (fun r hr=>by rw [vO]; rfl),aO.aW (fun h=>by cases h) (fun r hr=>by rw [Jx]; rfl),?_⟩
 conv=>whnf
 refine ⟨_,rfl,?_⟩;conv=>whnf
 refine ⟨kf,[5],rfl,⟨by decide,by decide⟩,?_⟩
 rw [show ic.aj kf=[.flat false 6 1 (nt kf)] from rfl,show ic.val kf=.slice (some ⟨1,0,none⟩) 3 cu from by rw [fG]; rfl,show ic.new kf=some (.flat true 3 6 gU) from by rw [Jy]; rfl]
 conv=>whnf
 refine ⟨By kf _ rfl,?_⟩;conv=>whnf
 refine ⟨_,rfl,?_⟩;conv=>whnf
 obtain ⟨sa,Au⟩:∃ u,u=cA (iq (4,0)):=⟨_,rfl⟩;obtain ⟨sb,DN⟩:∃ u,u=cA (iq (4,4)):=⟨_,rfl⟩;refine ⟨(some (bH (bu dj),cu),some (bH (bu kf),cu)),[1,6],rfl,⟨fS,fU⟩,?_⟩;rw [show mL.aj (some (bH (bu dj),cu),some (bH (bu kf),cu))=[.flat false 4 6 gS,.flat false 3 6 gU] from by rw [vO,Jy]; rfl,WV Au DN,show mL.new (some (bH (bu dj),cu),some (bH (bu kf),cu))=none from rfl]
 conv=>whnf
 refine ⟨aO.aW (fun h=>by cases h) (fun r hr=>by rw [vO]; rfl),aO.aW (fun h=>by cases h) (fun r hr=>by rw [Jy]; rfl),?_⟩
 conv=>whnf
 refine ⟨_,rfl,?_⟩;conv=>whnf
 obtain ⟨p1,cp1,ep1,pp1,sp1,qp1⟩:=jn (uY (-2) (1) (by decide) (by decide))
 refine ⟨(((-2:Int),(1:Int)):Int × Int),rfl,⟨⟨by decide,by decide⟩,⟨by decide,by decide⟩⟩,?_⟩
 rw [show qS.val (((-2:Int),(1:Int)):Int × Int)=p1.v from ep1]
 conv=>whnf
 obtain ⟨p2,cp2,ep2,pp2,sp2,qp2⟩:=jn (uY (6) (1) (by decide) (by decide))
 refine ⟨(((6:Int),(1:Int)):Int × Int),rfl,⟨⟨by decide,by decide⟩,⟨by decide,by decide⟩⟩,?_⟩
 rw [show qS.val (((6:Int),(1:Int)):Int × Int)=p2.v from ep2]
 conv=>whnf
 obtain ⟨lo,jI,QM,je,bS,mW⟩:=qz (q:=1 / 4) (k:=1) ⟨fj (show _ < C ^ 1 by decide +kernel),fj (show _ < C ^ 1 by decide +kernel)⟩
 obtain ⟨hi,kh,ehi,jJ,fJ,oJ⟩:=qz (q:=3 / 4) (k:=1) ⟨fj (show _ < C ^ 1 by decide +kernel),fj (show _ < C ^ 1 by decide +kernel)⟩
 refine ⟨(some (bH (bu dj),cu),(p1,p2)),[1],rfl,⟨fS,PV.aJ sp1 (by decide),PV.aJ sp2 (by decide)⟩,?_⟩
 rw [show gN.aj (some (bH (bu dj),cu),(p1,p2))=[.flat false 4 6 gS] from by rw [vO]; rfl,WW cp1 cp2 jI kh,show gN.new (some (bH (bu dj),cu),(p1,p2))=none from rfl]
 conv=>whnf
 refine ⟨aO.aW (fun h=>by cases h) (fun r hr=>by rw [vO]; rfl),?_⟩
 conv=>whnf
 refine ⟨_,rfl,?_⟩;conv=>whnf
 refine ⟨(1,4),rfl,⟨by show rm 1; decide,by show rm 4; decide⟩,?_⟩
 rw [show wS.val (1,4)=.tuple ⟨[lo.v,.int .i64 0]⟩ from by show jx 1 4=_; unfold jx; rw [show Rat.divInt 1 4=1 / 4 by decide +kernel,jI]; rfl]
 conv=>whnf
 refine .inl ⟨36,[[],[0],[0,1],[0,1,2],[0,1,2,3],[0,1,2,3,4],[0,1,2,3,4,5],[0,1,2,3,4,5,6],[0,1,2,3,4,5,6,7],[0,1,2,3,4,5,6,7,8],[0,1,2,3,4,5,6,7,8,9],[0,1,2,3,4,5,6,7,8,9,10],[0,1,2,3,4,5,6,7,8,9,10],[0,1,2,3,4,5,6,7,8,9,10,12],[0,1,2,3,4,5,6,7,8,9,10,11,12,13],[0,1,2,3,4,5,6,7,8,9,10,11,12,13,14],[0,1,2,3,4,5,6,7,8,9,10,11,12,13,14,15],[0,1,2,3,4,5,6,7,8,9,10,11,12,13,14,15,16],[0,1,2,3,4,5,6,7,8,9,10,11,12,13,14,15,16],[0,1,2,3,4,5,6,7,8,9,10,11,12,13,14,15,16,18],[0,1,2,3,4,5,6,7,8,9,10,11,12,13,14,15,16,18,19],[0,1,2,3,4,5,6,7,8,9,10,11,12,13,14,15,16,17,18,19,20],[0,1,2,3,4,5,6,7,8,9,10,11,12,13,14,15,16,17,18,19,20,21],[0,1,2,3,4,5,6,7,8,9,10,11,12,13,14,15,16,17,18,19,20,21,22],[0,1,2,3,4,5,6,7,8,9,10,11,12,13,14,15,16,17,18,19,20,21,22,23],[0,1,2,3,4,5,6,7,8,9,10,11,12,13,14,15,16,17,18,19,20,21,22,23,24],[0,1,2,3,4,5,6,7,8,9,10,11,12,13,14,15,16,17,18,19,20,21,22,23,24,25],[0,1,2,3,4,5,6,7,8,9,10,11,12,13,14,15,16,17,18,19,20,21,22,23,24,25,26],[0,1,2,3,4,5,6,7,8,9,10,11,12,13,14,15,16,17,18,19,20,21,22,23,24,25,26],[0,1,2,3,4,5,6,7,8,9,10,11,12,13,14,15,16,17,18,19,20,21,22,23,24,25,26,27,28],[0,1,2,3,4,5,6,7,8,9,10,11,12,13,14,15,16,17,18,19,20,21,22,23,24,25,26,27,28,29],[0,1,2,3,4,5,6,7,8,9,10,11,12,13,14,15,16,17,18,19,20,21,22,23,24,25,26,27,28,29,30],[0,1,2,3,4,5,6,7,8,9,10,11,12,13,14,15,16,17,18,19,20,21,22,23,24,25,26,27,28,29,30,31],[0,1,2,3,4,5,6,7,8,9,10,11,12,13,14,15,16,17,18,19,20,21,22,23,24,25,26,27,28,29,30,31],[0,1,2,3,4,5,6,7,8,9,10,11,12,13,14,15,16,17,18,19,20,21,22,23,24,25,26,27,28,29,30,31],[0,1,2,3,4,5,6,7,8,9,10,11,12,13,14,15,16,17,18,19,20,21,22,23,24,25,26,27,28,29,30,31,33,34],[0,1,2,3,4,5,6,7,8,9,10,11,12,13,14,15,16,17,18,19,20,21,22,23,24,25,26,27,28,29,30,31,32,33,34,35],[0,1,2,3,4,5,6,7,8,9,10,11,12,13,14,15,16,17,18,19,20,21,22,23,24,25,26,27,28,29,30,31,32,33,34,35,36],[0,1,2,3,4,5,6,7,8,9,10,11,12,13,14,15,16,17,18,19,20,21,22,23,24,25,26,27,28,29,30,31,32,33,34,35,36,37]],by kernel_rfl,?_⟩
 conv=>whnf
 refine ⟨jG,[23],rfl,⟨by decide,by decide⟩,?_⟩
 rw [show ic.aj jG=[.flat false 8 1 (nt jG)] from rfl,show ic.val jG=.slice (some ⟨1,0,none⟩) 4 cu from by rw [fG]; rfl,show ic.new jG=some (.flat true 4 6 gM) from by rw [Av]; rfl]
 conv=>whnf
 refine ⟨By jG _ rfl,?_⟩;conv=>whnf
 refine ⟨_,rfl,?_⟩;conv=>whnf
 refine ⟨(some (bH (bu jG),cu),some (bH (bu jG),cu)),[4,24],rfl,⟨by show 4≤1099511627776; decide,by show 4≤1099511627776; decide⟩,?_⟩
 rw [show kv.aj (some (bH (bu jG),cu),some (bH (bu jG),cu))=[.flat false 4 6 gM,.flat false 4 6 gM] from by rw [Av]; rfl,show kv.val (some (bH (bu jG),cu),some (bH (bu jG),cu))=.bool true from congrArg Value.bool (decide_eq_true rfl),show kv.new (some (bH (bu jG),cu),some (bH (bu jG),cu))=none from rfl]
 conv=>whnf
 refine ⟨aO.aW (fun h=>by cases h) (fun r hr=>by rw [Av]; rfl),aO.aW (fun h=>by cases h) (fun r hr=>by rw [Av]; rfl),?_⟩
 conv=>whnf
 refine ⟨.bool true,rfl,?_⟩;conv=>whnf
 obtain ⟨q1,cq1,eq1,pq1,sq1,qq1⟩:=jn (uY (4) (0) (by decide) (by decide))
 refine ⟨(((4:Int),(0:Int)):Int × Int),rfl,⟨⟨by decide,by decide⟩,⟨by decide,by decide⟩⟩,?_⟩
 rw [show qS.val (((4:Int),(0:Int)):Int × Int)=q1.v from eq1]
 conv=>whnf
 obtain ⟨q2,cq2,eq2,pq2,sq2,qq2⟩:=jn (uY (4) (4) (by decide) (by decide))
 refine ⟨(((4:Int),(4:Int)):Int × Int),rfl,⟨⟨by decide,by decide⟩,⟨by decide,by decide⟩⟩,?_⟩
 rw [show qS.val (((4:Int),(4:Int)):Int × Int)=q2.v from eq2]
 conv=>whnf
 obtain rfl:sa=q1:=Au.trans cq1.symm;obtain rfl:sb=q2:=DN.trans cq2.symm;rw [eqX (sa,sb)];conv=>whnf
 rw [Qa lo];conv=>whnf
 obtain ⟨o,co,eo,po,so,qo⟩:=qz (q:=((1:Int):Rat)) (QB.of_int (n:=1) (k:=1) (fj (show Int.natAbs 1 < C ^ 1 by decide)) (by decide))
 refine ⟨(1:Int),rfl,⟨by decide,by decide⟩,?_⟩
 rw [show kD.val (1:Int)=o.v from eo]
 conv=>whnf
 refine ⟨(o,lo),rfl,⟨RV.aT so (by decide),RV.aT bS (by decide)⟩,?_⟩
 rw [show gh.val (o,lo)=hi.v from by show (RV.of (o.q - lo.q)).v=_; rw [po,je,show ((1:Int):Rat) - 1 / 4=3 / 4 by decide +kernel,kh]]
 conv=>whnf
 show Value.bool (bz _ _)=Value.bool true
 exact congrArg Value.bool (Qa hi)
open Go Go.Ae
def Ee1:Env:=En [(53,.q kW),(24,.q bt)]
theorem acE:EnvOk Tryz.prog Ee1:=bI ⟨Tk,Tj,trivial⟩ trivial
theorem V0:dc Tryz.prog 78 kY:=by
 refine eg acE aM Tryz.func78 (enters_of Tryz.func78 (by kernel_rfl) rfl) ?_ ?_ ?_
 ·intro i b hb;cases i <;> simp [kY,PL.aj] at hb
  rw [hb]; rfl
 ·intro i b hb; simp [kY] at hb
 intro i hp;have hp:i.list.length≤9223372036854775807:=hp;have fin:∀ (z:Bool) n,z=lS i.list→∃ v',cQ (List.range n) 3 (kY.val i)=some v'∧eZ (.bool z) v':=fun z n h=>⟨.bool z,by rw [h]; rfl,.refl _⟩
 cases i with
 | none =>
  conv=>whnf
  refine ⟨none,[],rfl,hp,?_⟩;rw [show kW.aj none=[] from rfl,show kW.val none=.bool false from rfl,show kW.new none=none from rfl]
  conv=>whnf
  refine ⟨_,rfl,?_⟩;conv=>whnf
  refine ⟨none,[],rfl,⟨Nat.zero_le _,fun v hv=>nomatch hv⟩,?_⟩
  rw [show bt.aj none=[] from rfl,show bt.val none=.int .i64 4 from rfl,show bt.new none=none from rfl]
  conv=>whnf
  refine ⟨_,rfl,?_⟩;conv=>whnf
  exact fin true _ rfl
 | some i =>
  obtain ⟨A,c⟩:=i;have hp:A.length≤9223372036854775807:=hp;have fin:=fun z=>fin z 1
  have fin:∀ z:Bool,z=lS A→∃ v',cQ (List.range 1) 3 (kY.val (some (A,c)))=some v'∧eZ (.bool z) v':=fin;obtain ⟨n,hn⟩:∃ n,n=A.length:=⟨_,rfl⟩;obtain ⟨g,hg⟩:∃ g,g=dq A:=⟨_,rfl⟩;obtain ⟨G,hG⟩:∃ G,G=nf A:=⟨_,rfl⟩;rw [show kY.aj (some (A,c))=[.flat false n 6 g] from by rw [hn,hg]; rfl,show kY.args (some (A,c))=[.slice (some ⟨0,0,none⟩) n c] from by rw [hn]; rfl]
  conv=>whnf
  refine ⟨some (A,c),[0],by rw [show kW.args (some (A,c))=[.slice (some ⟨0,0,none⟩) n c] from by rw [hn]; rfl]; rfl,hp,?_⟩
  rw [show kW.aj (some (A,c))=[.flat false n 6 g] from by rw [hn,hg]; rfl,show kW.val (some (A,c))=.bool G from by rw [hG]; rfl,show kW.new (some (A,c))=none from rfl]
  conv=>whnf
  refine ⟨aO.aW (fun h=>h) (fun r hr=>by rw [hg]; rfl),?_⟩
  conv=>whnf
  refine ⟨_,rfl,?_⟩;conv=>whnf
  cases G with
  | true =>
   conv=>whnf
   exact fin true (WY hG.symm).symm
  | false =>
   have hs:=LX hG.symm;conv=>whnf
   by_cases J:10 < n
   ·rw [show decide ((n:Int) > 10)=true from decide_eq_true (by omega)]
    conv=>whnf
    exact fin true (VE (by omega)).symm
   ·rw [show decide ((n:Int) > 10)=false from decide_eq_false (by omega)]
    conv=>whnf
    obtain ⟨e,he⟩:∃ z,z=bC A:=⟨_,rfl⟩;refine ⟨some (A,c),[0],by rw [show bt.args (some (A,c))=[.slice (some ⟨0,0,none⟩) n c] from by rw [hn]; rfl]; rfl,⟨by show A.length≤_; omega,kG hs.2⟩,?_⟩
    rw [show bt.aj (some (A,c))=[.flat false n 6 g] from by rw [hn,hg]; rfl,show bt.val (some (A,c))=.int .i64 e from by rw [he]; rfl,show bt.new (some (A,c))=none from rfl]
    conv=>whnf
    refine ⟨aO.aW (fun h=>h) (fun r hr=>by rw [hg]; rfl),?_⟩
    conv=>whnf
    refine ⟨_,rfl,?_⟩;conv=>whnf
    by_cases h3:e=0
    ·rw [show (e != 0)=false from by simp [h3]]
     exact fin false (WZ hG.symm (by omega) (by rw [← he]; exact h3)).symm
    ·rw [show (e != 0)=true from by simp [h3]]
     exact fin true (VF (by rw [← he]; exact h3)).symm
def Ee2:Env:=En [(79,.p oc),(80,.p kj)]
theorem acF:EnvOk Tryz.prog Ee2:=bI ⟨N8,L9,trivial⟩ trivial
theorem Tm:bf Tryz.prog 26 zA:=by
 refine bk acF aM Tryz.func26 (enters_of Tryz.func26 (by kernel_rfl) rfl) (fun _=>rfl) (fun _=>rfl) ?_
 intro ((a,b):PV) _;have fin:∀ z:Bool,(z=true↔PV.sz 12 (a,b)∧PV.canon (a,b))→Value.bool z=zA.val (a,b):=fun z h=>congrArg Value.bool (by rw [Bool.eq_iff_iff,h,decide_eq_true_eq])
 conv=>whnf
 refine ⟨((a,b):PV),rfl,trivial,?_⟩;by_cases h1:PV.sz 12 (a,b)
 ·rw [show oc.val (a,b)=.bool false from congrArg Value.bool (decide_eq_false fun h=>h h1)]
  conv=>whnf
  obtain ⟨e,he⟩:∃ e:Int,e=if PV.canon (a,b) then 0 else 1:=⟨_,rfl⟩
  refine ⟨((a,b):PV),rfl,PV.aJ h1 (by decide),?_⟩
  rw [show kj.val (a,b)=.int .i64 e from by rw [he]; rfl]
  conv=>whnf
  refine fin _ ?_;by_cases J:PV.canon (a,b)
  ·rw [he,if_pos J]; exact ⟨fun _=>⟨h1,J⟩,fun _=>rfl⟩
  ·rw [he,if_neg J]; exact ⟨(fun h=>nomatch h),fun h=>absurd h.2 J⟩
 ·rw [show oc.val (a,b)=.bool true from congrArg Value.bool (decide_eq_true h1)]
  conv=>whnf
  exact fin _ ⟨(fun h=>nomatch h),fun h=>absurd h.1 h1⟩
def Ee3:Env:=En [(19,.q kT)]
theorem acG:EnvOk Tryz.prog Ee3:=bI ⟨Uo,trivial⟩ trivial
theorem RS:dc Tryz.prog 27 b8:=by
 refine eg acG aM Tryz.func27 (enters_of Tryz.func27 (by kernel_rfl) rfl) ?_ ?_ ?_
 ·intro ⟨i,_⟩ b hb;cases i <;> simp [b8,PL.aj] at hb
  rw [hb]; rfl
 ·intro i b hb; simp [b8] at hb
 intro ⟨i,p⟩ hp;have hp:i.fit∧p.sz 2048:=hp;obtain ⟨⟨a,e⟩,ha⟩:∃ x,x=qV i.list p:=⟨_,rfl⟩;have fin:∀ (z:Int) n,z=il i.list p→∃ v',cQ (List.range n) 3 (b8.val (i,p))=some v'∧eZ (.int .i64 z) v':=fun z n h=>⟨.int .i64 z,by rw [h]; rfl,.refl _⟩
 have h5:e≠0→(5:Int)=il i.list p:=fun h=>by unfold il; rw [← ha]; exact (if_pos h).symm
 have h0:e=0→a=il i.list p:=fun h=>by unfold il; rw [← ha]; exact (if_neg (fun e=>e h)).symm
 have hv:kT.val (i,p)=.tuple ⟨[.int .i64 a,.int .i64 e]⟩:=by show ZE.v (qV i.list p)=_; rw [← ha]; rfl
 cases i with
 | none =>
  conv=>whnf
  refine ⟨(none,p),[],rfl,hp,?_⟩;rw [show kT.aj (none,p)=[] from rfl,hv,show kT.new (none,p)=none from rfl]
  conv=>whnf
  refine ⟨_,rfl,?_⟩;conv=>whnf
  by_cases h1:e=0
  ·rw [show (e != 0)=false from by simp [h1]]
   conv=>whnf
   exact fin a _ (h0 h1)
  ·rw [show (e != 0)=true from by simp [h1]]
   conv=>whnf
   exact fin 5 _ (h5 h1)
 | some i =>
  obtain ⟨A,c⟩:=i;obtain ⟨n,hn⟩:∃ n,n=A.length:=⟨_,rfl⟩;obtain ⟨g,hg⟩:∃ g,g=dq A:=⟨_,rfl⟩;rw [show b8.aj (some (A,c),p)=[.flat false n 6 g] from by rw [hn,hg]; rfl,show b8.args (some (A,c),p)=[.slice (some ⟨0,0,none⟩) n c,p.v] from by rw [hn]; rfl]
  conv=>whnf
  refine ⟨(some (A,c),p),[0],by rw [show kT.args (some (A,c),p)=[.slice (some ⟨0,0,none⟩) n c,p.v] from by rw [hn]; rfl]; rfl,hp,?_⟩
  rw [show kT.aj (some (A,c),p)=[.flat false n 6 g] from by rw [hn,hg]; rfl,hv,show kT.new (some (A,c),p)=none from rfl]
  conv=>whnf
  refine ⟨aO.aW (fun h=>h) (fun r hr=>by rw [hg]; rfl),?_⟩
  conv=>whnf
  refine ⟨_,rfl,?_⟩;conv=>whnf
  by_cases h1:e=0
  ·rw [show (e != 0)=false from by simp [h1]]
   conv=>whnf
   exact fin a _ (h0 h1)
  ·rw [show (e != 0)=true from by simp [h1]]
   conv=>whnf
   exact fin 5 _ (h5 h1)
open Go Go.Ae
def Jz:Env:=En [(78,.q kY)]
theorem acH:EnvOk Tryz.prog Jz:=bI ⟨V0,trivial⟩ trivial
theorem Ut:gi Tryz.prog 107 (ck Jz cL Tryz.f107):=by
 exact js acH aM Tryz.func107 (enters_of Tryz.func107 (by kernel_rfl) rfl)
def JA:Env:=En [] [(107,ck Jz cL Tryz.f107)]
theorem acI:EnvOk Tryz.prog JA:=bI trivial ⟨Ut,trivial⟩
theorem Rr:gi Tryz.prog 52 (ck JA cL Tryz.f52):=by
 exact js acI aM Tryz.func52 (enters_of Tryz.func52 (by kernel_rfl) rfl)
def JB:Env:=En [] [(52,ck JA cL Tryz.f52)]
theorem acJ:EnvOk Tryz.prog JB:=bI trivial ⟨Rr,trivial⟩
theorem YQ:gi Tryz.prog 25 (ck JB cL Tryz.f25):=by
 exact js acJ aM Tryz.func25 (enters_of Tryz.func25 (by kernel_rfl) rfl)
end Go.Proofs.YtlapbjdhekcipaaGreat
