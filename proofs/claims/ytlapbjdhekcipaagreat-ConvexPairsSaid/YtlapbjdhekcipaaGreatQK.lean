import Derived.Test.YtlapbjdhekcipaaGreatQJ
set_option linter.unusedVariables false
set_option linter.unusedSimpArgs false
/- Contracts of convex: Overlap, Touch and Separator. -/
set_option maxRecDepth 20000
set_option maxHeartbeats 4000000
namespace Go.Proofs.YtlapbjdhekcipaaGreat
open Go Go.Ae
def Eu5:Env:=En [(144,.q jZ)]
theorem abL:EnvOk Tryz.prog Eu5:=bL ⟨TJ,trivial⟩ trivial
theorem QI:cZ Tryz.prog 100 iN:=by
 refine dt abL aO Tryz.func100 (enters_of Tryz.func100 (by kernel_rfl) rfl) ?_ ?_ ?_
 ·intro i b hb; simp [iN,w6] at hb; rcases hb with rfl | rfl <;> rfl
 ·intro i b hb; simp [iN,w6] at hb
 intro ⟨⟨⟨A,c⟩,⟨B,d⟩⟩,f,s⟩ hp
 have hp:((f,s)=(101,true)∨(f,s)=(103,false)∨(f,s)=(105,true))∧(A.length≤1073741824∧∀ v∈A,Q2.sz 2048 v)∧B.length≤1073741824∧∀ v∈B,Q2.sz 2048 v:=hp
 obtain ⟨uS,P3,dJ⟩:=hp
 obtain ⟨n,hn⟩:∃ n,n=A.length:=⟨_,rfl⟩
 obtain ⟨g,hg⟩:∃ g,g=cc A:=⟨_,rfl⟩
 obtain ⟨m,hm⟩:∃ n,n=B.length:=⟨_,rfl⟩
 obtain ⟨k,hk⟩:∃ g,g=cc B:=⟨_,rfl⟩
 have fin:∀ (x:XV) (z:Bool),fg (dQ s A B)=(x,z)→∃ v',cP (List.range 2) 3 (iN.val (((A,c),(B,d)),(f,s)))=some v'∧dT (.tuple ⟨[x.v,.bool z]⟩) v':=fun x z h=>⟨_,by rw [show iN.val (((A,c),(B,d)),(f,s))=.tuple ⟨[x.v,.bool z]⟩ from by show Value.tuple ⟨[(fg (dQ s A B)).1.v,.bool (fg (dQ s A B)).2]⟩=_; rw [h]]; rfl,.refl _⟩
 rw [show iN.ae (((A,c),(B,d)),(f,s))=[.flat false n 6 g,.flat false m 6 k] from by rw [hn,hg,hm,hk]; rfl,show iN.args (((A,c),(B,d)),(f,s))=[.slice (some ⟨0,0,none⟩) n c,.slice (some ⟨1,0,none⟩) m d,.func (.func f) #[] #[]] from by rw [hn,hm]; rfl]
 conv=>whnf
 obtain ⟨⟨x,z⟩,hx⟩:∃ x,fg (eF s A B)=x:=⟨_,rfl⟩
 refine ⟨(((A,c),(B,d)),(f,s)),[0,1],by rw [show jZ.args (((A,c),(B,d)),(f,s))=[.slice (some ⟨0,0,none⟩) n c,.slice (some ⟨1,0,none⟩) m d,.func (.func f) #[] #[]] from by rw [hn,hm]; rfl]; rfl,⟨uS,P3,dJ⟩,?_⟩
 rw [show jZ.ae (((A,c),(B,d)),(f,s))=[.flat false n 6 g,.flat false m 6 k] from by rw [hn,hm,hg,hk]; rfl,show jZ.val (((A,c),(B,d)),(f,s))=.tuple ⟨[x.v,.bool z]⟩ from by show Value.tuple ⟨[(fg (eF s A B)).1.v,.bool (fg (eF s A B)).2]⟩=_; rw [hx],show jZ.new (((A,c),(B,d)),(f,s))=none from rfl]
 conv=>whnf
 refine ⟨aA.aM (fun h=>h) (fun r hr=>by rw [hg]; rfl),aA.aM (fun h=>h) (fun r hr=>by rw [hk]; rfl),?_⟩
 conv=>whnf
 refine ⟨_,rfl,?_⟩
 conv=>whnf
 cases z with
 | true =>
  conv=>whnf
  exact fin x true (We hx)
 | false =>
  conv=>whnf
  obtain ⟨⟨y,w⟩,hy⟩:∃ x,fg (eF s B A)=x:=⟨_,rfl⟩
  refine ⟨(((B,d),(A,c)),(f,s)),[1,0],by rw [show jZ.args (((B,d),(A,c)),(f,s))=[.slice (some ⟨0,0,none⟩) m d,.slice (some ⟨1,0,none⟩) n c,.func (.func f) #[] #[]] from by rw [hm,hn]; rfl]; rfl,⟨uS,dJ,P3⟩,?_⟩
  rw [show jZ.ae (((B,d),(A,c)),(f,s))=[.flat false m 6 k,.flat false n 6 g] from by rw [hm,hn,hk,hg]; rfl,show jZ.val (((B,d),(A,c)),(f,s))=.tuple ⟨[y.v,.bool w]⟩ from by show Value.tuple ⟨[(fg (eF s B A)).1.v,.bool (fg (eF s B A)).2]⟩=_; rw [hy],show jZ.new (((B,d),(A,c)),(f,s))=none from rfl]
  conv=>whnf
  refine ⟨aA.aM (fun h=>h) (fun r hr=>by rw [hk]; rfl),aA.aM (fun h=>h) (fun r hr=>by rw [hg]; rfl),?_⟩
  conv=>whnf
  refine ⟨_,rfl,?_⟩
  conv=>whnf
  exact fin y w ((Wf hx).trans hy)
def Eu6:Env:=En [(23,.q aU),(100,.q iN)]
theorem GX:EnvOk Tryz.prog Eu6:=bL ⟨Fk,QI,trivial⟩ trivial
theorem Sy:cZ Tryz.prog 40 (ba true):=by
 refine dt GX aO Tryz.func40 (enters_of Tryz.func40 (by kernel_rfl) rfl) ?_ ?_ ?_
 ·intro ⟨i,k⟩ B hb
  cases i <;> cases k <;> simp [ba,bP,PL.ae] at hb
  ·rw [hb]; rfl
  ·rw [hb]; rfl
  ·rcases hb with rfl | rfl <;> rfl
 ·intro i b hb; simp [ba,bP] at hb
 intro ⟨i,k⟩ hp
 have hp:(i.list.length≤1099511627776∧∀ v∈i.list,v.sz 2048)∧k.list.length≤1099511627776∧∀ v∈k.list,v.sz 2048:=hp
 obtain ⟨⟨cW,cC⟩,dh,cA⟩:=hp
 cases i with
 | none =>
  cases k with
  | none =>
   conv=>whnf
   refine ⟨none,[],rfl,⟨Nat.zero_le _,fun v hv=>nomatch hv⟩,?_⟩
   rw [show aU.ae none=[] from rfl,show aU.val none=.int .i64 4 from rfl,show aU.new none=none from rfl]
   conv=>whnf
   refine ⟨_,rfl,?_⟩
   conv=>whnf
   exact ⟨_,rfl,.refl _⟩
  | some k =>
   conv=>whnf
   refine ⟨none,[],rfl,⟨Nat.zero_le _,fun v hv=>nomatch hv⟩,?_⟩
   rw [show aU.ae none=[] from rfl,show aU.val none=.int .i64 4 from rfl,show aU.new none=none from rfl]
   conv=>whnf
   refine ⟨_,rfl,?_⟩
   conv=>whnf
   exact ⟨_,rfl,.refl _⟩
 | some i =>
  obtain ⟨A,c⟩:=i
  have cW:A.length≤1099511627776:=cW
  have cC:∀ v∈A,PV.sz 2048 v:=cC
  obtain ⟨na,aV⟩:∃ n,n=A.length:=⟨_,rfl⟩
  obtain ⟨ga,bo⟩:∃ g,g=bS A:=⟨_,rfl⟩
  have fin:∀ (k:PL) (B:List PV) (x:Bool) (e:Int) (n:Nat),k.list=B→ck true A B=(x,e)→∃ v',cP (List.range n) 3 (aG.val (ba true) (some (A,c),k))=some v'∧dT (.tuple ⟨[.bool x,.int .i64 e]⟩) v':=fun k B x e n hk h=>⟨.tuple ⟨[.bool x,.int .i64 e]⟩,by
   subst hk
   rw [show aG.val (ba true) (some (A,c),k)=.tuple ⟨[.bool x,.int .i64 e]⟩ from by show Value.tuple ⟨[.bool (ck true A k.list).1,.int .i64 (ck true A k.list).2]⟩=_; rw [h]]; rfl,.refl _⟩
  cases k with
  | none =>
   rw [show aG.ae (ba true) (some (A,c),none)=[.flat false na 6 ga] from by rw [aV,bo]; rfl,show aG.args (ba true) (some (A,c),none)=[.slice (some ⟨0,0,none⟩) na c,.slice none 0 0] from by rw [aV]; rfl]
   rw [← aV] at cW
   conv=>whnf
   refine ⟨some (A,c),[0],by rw [show aU.args (some (A,c))=[.slice (some ⟨0,0,none⟩) na c] from by rw [aV]; rfl]; rfl,⟨by show A.length≤_; omega,cC⟩,?_⟩
   rw [show aU.ae (some (A,c))=[.flat false na 6 ga] from by rw [aV,bo]; rfl,show aU.val (some (A,c))=.int .i64 (aW A) from rfl,show aU.new (some (A,c))=none from rfl]
   conv=>whnf
   refine ⟨aA.aM (fun h=>h) (fun r hr=>by rw [bo]; rfl),?_⟩
   conv=>whnf
   refine ⟨_,rfl,?_⟩
   obtain ⟨e,he⟩:∃ z,z=aW A:=⟨_,rfl⟩
   rw [← he]
   conv=>whnf
   by_cases h1:e=0
   ·rw [show (e != 0)=false from by simp [h1]]
    conv=>whnf
    refine ⟨none,[],rfl,⟨Nat.zero_le _,fun v hv=>nomatch hv⟩,?_⟩
    rw [show aU.ae none=[] from rfl,show aU.val none=.int .i64 4 from rfl,show aU.new none=none from rfl]
    conv=>whnf
    refine ⟨_,rfl,?_⟩
    conv=>whnf
    exact fin none [] false 1 _ rfl (kZ fun e=>by have:=e.2; cases this)
   ·rw [show (e != 0)=true from by simp [h1]]
    conv=>whnf
    exact fin none [] false 1 _ rfl (kZ fun e=>by have:=e.2; cases this)
  | some k =>
   obtain ⟨B,d⟩:=k
   have dh:B.length≤1099511627776:=dh
   have cA:∀ v∈B,PV.sz 2048 v:=cA
   obtain ⟨nb,aZ⟩:∃ n,n=B.length:=⟨_,rfl⟩
   obtain ⟨gb,bA⟩:∃ g,g=bS B:=⟨_,rfl⟩
   rw [show aG.ae (ba true) (some (A,c),some (B,d))=[.flat false na 6 ga,.flat false nb 6 gb] from by rw [aV,bo,aZ,bA]; rfl,show aG.args (ba true) (some (A,c),some (B,d))=[.slice (some ⟨0,0,none⟩) na c,.slice (some ⟨1,0,none⟩) nb d] from by rw [aV,aZ]; rfl]
   rw [← aV] at cW
   rw [← aZ] at dh
   have fin:=fun (x:Bool) (e:Int)=>fin (some (B,d)) B x e 2 rfl
   conv=>whnf
   refine ⟨some (A,c),[0],by rw [show aU.args (some (A,c))=[.slice (some ⟨0,0,none⟩) na c] from by rw [aV]; rfl]; rfl,⟨by show A.length≤_; omega,cC⟩,?_⟩
   rw [show aU.ae (some (A,c))=[.flat false na 6 ga] from by rw [aV,bo]; rfl,show aU.val (some (A,c))=.int .i64 (aW A) from rfl,show aU.new (some (A,c))=none from rfl]
   conv=>whnf
   refine ⟨aA.aM (fun h=>h) (fun r hr=>by rw [bo]; rfl),?_⟩
   conv=>whnf
   refine ⟨_,rfl,?_⟩
   obtain ⟨e,he⟩:∃ z,z=aW A:=⟨_,rfl⟩
   rw [← he]
   conv=>whnf
   by_cases h1:e=0
   ·rw [show (e != 0)=false from by simp [h1]]
    conv=>whnf
    refine ⟨some (B,d),[1],by rw [show aU.args (some (B,d))=[.slice (some ⟨0,0,none⟩) nb d] from by rw [aZ]; rfl]; rfl,⟨by show B.length≤_; omega,cA⟩,?_⟩
    rw [show aU.ae (some (B,d))=[.flat false nb 6 gb] from by rw [aZ,bA]; rfl,show aU.val (some (B,d))=.int .i64 (aW B) from rfl,show aU.new (some (B,d))=none from rfl]
    conv=>whnf
    refine ⟨aA.aM (fun h=>h) (fun r hr=>by rw [bA]; rfl),?_⟩
    conv=>whnf
    refine ⟨_,rfl,?_⟩
    obtain ⟨e2,bX⟩:∃ z,z=aW B:=⟨_,rfl⟩
    rw [← bX]
    conv=>whnf
    by_cases J:e2=0
    ·rw [show (e2 != 0)=false from by simp [J]]
     have hk:aW A=0∧aW B=0:=⟨by rw [← he]; exact h1,by rw [← bX]; exact J⟩
     have xt:=jd hk.1
     have xu:=jd hk.2
     conv=>whnf
     obtain ⟨⟨x,z⟩,hx⟩:∃ x,fg (dQ true (ay A) (ay B))=x:=⟨_,rfl⟩
     refine ⟨(((ay A,c),(ay B,d)),(101,true)),[0,1],by rw [show iN.args (((ay A,c),(ay B,d)),(101,true))=[.slice (some ⟨0,0,none⟩) na c,.slice (some ⟨1,0,none⟩) nb d,.func (.func 101) #[] #[]] from by rw [aV,aZ,← b8 A,← b8 B]; rfl]; rfl,⟨by simp,⟨by show (ay A).length≤_; rw [b8]; omega,rn cC (by decide)⟩,by show (ay B).length≤_; rw [b8]; omega,rn cA (by decide)⟩,?_⟩
     rw [show iN.ae (((ay A,c),(ay B,d)),(101,true))=[.flat false na 6 ga,.flat false nb 6 gb] from by rw [aV,aZ,bo,bA,← b8 A,← b8 B,← tg hk.1,← tg hk.2]; rfl,show iN.val (((ay A,c),(ay B,d)),(101,true))=.tuple ⟨[x.v,.bool z]⟩ from by show Value.tuple ⟨[(fg (dQ true (ay A) (ay B))).1.v,.bool (fg (dQ true (ay A) (ay B))).2]⟩=_; rw [hx],show iN.new (((ay A,c),(ay B,d)),(101,true))=none from rfl]
     conv=>whnf
     refine ⟨aA.aM (fun h=>h) (fun r hr=>by rw [bo]; rfl),aA.aM (fun h=>h) (fun r hr=>by rw [bA]; rfl),?_⟩
     conv=>whnf
     refine ⟨_,rfl,?_⟩
     conv=>whnf
     have hv:=MQ hk hx
     cases z with
     | false =>
      conv=>whnf
      exact fin _ _ hv
     | true =>
      conv=>whnf
      exact fin _ _ hv
    ·rw [show (e2 != 0)=true from by simp [J]]
     conv=>whnf
     exact fin false 1 (kZ fun h=>J (by rw [bX]; exact h.2))
   ·rw [show (e != 0)=true from by simp [h1]]
    conv=>whnf
    exact fin false 1 (kZ fun h=>h1 (by rw [he]; exact h.1))
theorem Vn:cZ Tryz.prog 42 (ba false):=by
 refine dt GX aO Tryz.func42 (enters_of Tryz.func42 (by kernel_rfl) rfl) ?_ ?_ ?_
 ·intro ⟨i,k⟩ B hb
  cases i <;> cases k <;> simp [ba,bP,PL.ae] at hb
  ·rw [hb]; rfl
  ·rw [hb]; rfl
  ·rcases hb with rfl | rfl <;> rfl
 ·intro i b hb; simp [ba,bP] at hb
 intro ⟨i,k⟩ hp
 have hp:(i.list.length≤1099511627776∧∀ v∈i.list,v.sz 2048)∧k.list.length≤1099511627776∧∀ v∈k.list,v.sz 2048:=hp
 obtain ⟨⟨cW,cC⟩,dh,cA⟩:=hp
 cases i with
 | none =>
  cases k with
  | none =>
   conv=>whnf
   refine ⟨none,[],rfl,⟨Nat.zero_le _,fun v hv=>nomatch hv⟩,?_⟩
   rw [show aU.ae none=[] from rfl,show aU.val none=.int .i64 4 from rfl,show aU.new none=none from rfl]
   conv=>whnf
   refine ⟨_,rfl,?_⟩
   conv=>whnf
   exact ⟨_,rfl,.refl _⟩
  | some k =>
   conv=>whnf
   refine ⟨none,[],rfl,⟨Nat.zero_le _,fun v hv=>nomatch hv⟩,?_⟩
   rw [show aU.ae none=[] from rfl,show aU.val none=.int .i64 4 from rfl,show aU.new none=none from rfl]
   conv=>whnf
   refine ⟨_,rfl,?_⟩
   conv=>whnf
   exact ⟨_,rfl,.refl _⟩
 | some i =>
  obtain ⟨A,c⟩:=i
  have cW:A.length≤1099511627776:=cW
  have cC:∀ v∈A,PV.sz 2048 v:=cC
  obtain ⟨na,aV⟩:∃ n,n=A.length:=⟨_,rfl⟩
  obtain ⟨ga,bo⟩:∃ g,g=bS A:=⟨_,rfl⟩
  have fin:∀ (k:PL) (B:List PV) (x:Bool) (e:Int) (n:Nat),k.list=B→ck false A B=(x,e)→∃ v',cP (List.range n) 3 (aG.val (ba false) (some (A,c),k))=some v'∧dT (.tuple ⟨[.bool x,.int .i64 e]⟩) v':=fun k B x e n hk h=>⟨.tuple ⟨[.bool x,.int .i64 e]⟩,by
   subst hk
   rw [show aG.val (ba false) (some (A,c),k)=.tuple ⟨[.bool x,.int .i64 e]⟩ from by show Value.tuple ⟨[.bool (ck false A k.list).1,.int .i64 (ck false A k.list).2]⟩=_; rw [h]]; rfl,.refl _⟩
  cases k with
  | none =>
   rw [show aG.ae (ba false) (some (A,c),none)=[.flat false na 6 ga] from by rw [aV,bo]; rfl,show aG.args (ba false) (some (A,c),none)=[.slice (some ⟨0,0,none⟩) na c,.slice none 0 0] from by rw [aV]; rfl]
   rw [← aV] at cW
   conv=>whnf
   refine ⟨some (A,c),[0],by rw [show aU.args (some (A,c))=[.slice (some ⟨0,0,none⟩) na c] from by rw [aV]; rfl]; rfl,⟨by show A.length≤_; omega,cC⟩,?_⟩
   rw [show aU.ae (some (A,c))=[.flat false na 6 ga] from by rw [aV,bo]; rfl,show aU.val (some (A,c))=.int .i64 (aW A) from rfl,show aU.new (some (A,c))=none from rfl]
   conv=>whnf
   refine ⟨aA.aM (fun h=>h) (fun r hr=>by rw [bo]; rfl),?_⟩
   conv=>whnf
   refine ⟨_,rfl,?_⟩
   obtain ⟨e,he⟩:∃ z,z=aW A:=⟨_,rfl⟩
   rw [← he]
   conv=>whnf
   by_cases h1:e=0
   ·rw [show (e != 0)=false from by simp [h1]]
    conv=>whnf
    refine ⟨none,[],rfl,⟨Nat.zero_le _,fun v hv=>nomatch hv⟩,?_⟩
    rw [show aU.ae none=[] from rfl,show aU.val none=.int .i64 4 from rfl,show aU.new none=none from rfl]
    conv=>whnf
    refine ⟨_,rfl,?_⟩
    conv=>whnf
    exact fin none [] false 1 _ rfl (kZ fun e=>by have:=e.2; cases this)
   ·rw [show (e != 0)=true from by simp [h1]]
    conv=>whnf
    exact fin none [] false 1 _ rfl (kZ fun e=>by have:=e.2; cases this)
  | some k =>
   obtain ⟨B,d⟩:=k
   have dh:B.length≤1099511627776:=dh
   have cA:∀ v∈B,PV.sz 2048 v:=cA
   obtain ⟨nb,aZ⟩:∃ n,n=B.length:=⟨_,rfl⟩
   obtain ⟨gb,bA⟩:∃ g,g=bS B:=⟨_,rfl⟩
   rw [show aG.ae (ba false) (some (A,c),some (B,d))=[.flat false na 6 ga,.flat false nb 6 gb] from by rw [aV,bo,aZ,bA]; rfl,show aG.args (ba false) (some (A,c),some (B,d))=[.slice (some ⟨0,0,none⟩) na c,.slice (some ⟨1,0,none⟩) nb d] from by rw [aV,aZ]; rfl]
   rw [← aV] at cW
   rw [← aZ] at dh
   have fin:=fun (x:Bool) (e:Int)=>fin (some (B,d)) B x e 2 rfl
   conv=>whnf
   refine ⟨some (A,c),[0],by rw [show aU.args (some (A,c))=[.slice (some ⟨0,0,none⟩) na c] from by rw [aV]; rfl]; rfl,⟨by show A.length≤_; omega,cC⟩,?_⟩
   rw [show aU.ae (some (A,c))=[.flat false na 6 ga] from by rw [aV,bo]; rfl,show aU.val (some (A,c))=.int .i64 (aW A) from rfl,show aU.new (some (A,c))=none from rfl]
   conv=>whnf
   refine ⟨aA.aM (fun h=>h) (fun r hr=>by rw [bo]; rfl),?_⟩
   conv=>whnf
   refine ⟨_,rfl,?_⟩
   obtain ⟨e,he⟩:∃ z,z=aW A:=⟨_,rfl⟩
   rw [← he]
   conv=>whnf
   by_cases h1:e=0
   ·rw [show (e != 0)=false from by simp [h1]]
    conv=>whnf
    refine ⟨some (B,d),[1],by rw [show aU.args (some (B,d))=[.slice (some ⟨0,0,none⟩) nb d] from by rw [aZ]; rfl]; rfl,⟨by show B.length≤_; omega,cA⟩,?_⟩
    rw [show aU.ae (some (B,d))=[.flat false nb 6 gb] from by rw [aZ,bA]; rfl,show aU.val (some (B,d))=.int .i64 (aW B) from rfl,show aU.new (some (B,d))=none from rfl]
    conv=>whnf
    refine ⟨aA.aM (fun h=>h) (fun r hr=>by rw [bA]; rfl),?_⟩
    conv=>whnf
    refine ⟨_,rfl,?_⟩
    obtain ⟨e2,bX⟩:∃ z,z=aW B:=⟨_,rfl⟩
    rw [← bX]
    conv=>whnf
    by_cases J:e2=0
    ·rw [show (e2 != 0)=false from by simp [J]]
     have hk:aW A=0∧aW B=0:=⟨by rw [← he]; exact h1,by rw [← bX]; exact J⟩
     have xt:=jd hk.1
     have xu:=jd hk.2
     conv=>whnf
     obtain ⟨⟨x,z⟩,hx⟩:∃ x,fg (dQ false (ay A) (ay B))=x:=⟨_,rfl⟩
     refine ⟨(((ay A,c),(ay B,d)),(103,false)),[0,1],by rw [show iN.args (((ay A,c),(ay B,d)),(103,false))=[.slice (some ⟨0,0,none⟩) na c,.slice (some ⟨1,0,none⟩) nb d,.func (.func 103) #[] #[]] from by rw [aV,aZ,← b8 A,← b8 B]; rfl]; rfl,⟨by simp,⟨by show (ay A).length≤_; rw [b8]; omega,rn cC (by decide)⟩,by show (ay B).length≤_; rw [b8]; omega,rn cA (by decide)⟩,?_⟩
     rw [show iN.ae (((ay A,c),(ay B,d)),(103,false))=[.flat false na 6 ga,.flat false nb 6 gb] from by rw [aV,aZ,bo,bA,← b8 A,← b8 B,← tg hk.1,← tg hk.2]; rfl,show iN.val (((ay A,c),(ay B,d)),(103,false))=.tuple ⟨[x.v,.bool z]⟩ from by show Value.tuple ⟨[(fg (dQ false (ay A) (ay B))).1.v,.bool (fg (dQ false (ay A) (ay B))).2]⟩=_; rw [hx],show iN.new (((ay A,c),(ay B,d)),(103,false))=none from rfl]
     conv=>whnf
     refine ⟨aA.aM (fun h=>h) (fun r hr=>by rw [bo]; rfl),aA.aM (fun h=>h) (fun r hr=>by rw [bA]; rfl),?_⟩
     conv=>whnf
     refine ⟨_,rfl,?_⟩
     conv=>whnf
     have hv:=MQ hk hx
     cases z with
     | false =>
      conv=>whnf
      exact fin _ _ hv
     | true =>
      conv=>whnf
      exact fin _ _ hv
    ·rw [show (e2 != 0)=true from by simp [J]]
     conv=>whnf
     exact fin false 1 (kZ fun h=>J (by rw [bX]; exact h.2))
   ·rw [show (e != 0)=true from by simp [h1]]
    conv=>whnf
    exact fin false 1 (kZ fun h=>h1 (by rw [he]; exact h.1))
theorem M1:cZ Tryz.prog 44 bP:=by
 refine dt GX aO Tryz.func44 (enters_of Tryz.func44 (by kernel_rfl) rfl) ?_ ?_ ?_
 ·intro ⟨i,k⟩ B hb
  cases i <;> cases k <;> simp [ba,bP,PL.ae] at hb
  ·rw [hb]; rfl
  ·rw [hb]; rfl
  ·rcases hb with rfl | rfl <;> rfl
 ·intro i b hb; simp [ba,bP] at hb
 intro ⟨i,k⟩ hp
 have hp:(i.list.length≤1099511627776∧∀ v∈i.list,v.sz 2048)∧k.list.length≤1099511627776∧∀ v∈k.list,v.sz 2048:=hp
 obtain ⟨⟨cW,cC⟩,dh,cA⟩:=hp
 cases i with
 | none =>
  cases k with
  | none =>
   conv=>whnf
   refine ⟨none,[],rfl,⟨Nat.zero_le _,fun v hv=>nomatch hv⟩,?_⟩
   rw [show aU.ae none=[] from rfl,show aU.val none=.int .i64 4 from rfl,show aU.new none=none from rfl]
   conv=>whnf
   refine ⟨_,rfl,?_⟩
   conv=>whnf
   exact ⟨_,rfl,.refl _⟩
  | some k =>
   conv=>whnf
   refine ⟨none,[],rfl,⟨Nat.zero_le _,fun v hv=>nomatch hv⟩,?_⟩
   rw [show aU.ae none=[] from rfl,show aU.val none=.int .i64 4 from rfl,show aU.new none=none from rfl]
   conv=>whnf
   refine ⟨_,rfl,?_⟩
   conv=>whnf
   exact ⟨_,rfl,.refl _⟩
 | some i =>
  obtain ⟨A,c⟩:=i
  have cW:A.length≤1099511627776:=cW
  have cC:∀ v∈A,PV.sz 2048 v:=cC
  obtain ⟨na,aV⟩:∃ n,n=A.length:=⟨_,rfl⟩
  obtain ⟨ga,bo⟩:∃ g,g=bS A:=⟨_,rfl⟩
  have fin:∀ (k:PL) (B:List PV) (x:XV) (e:Int) (n:Nat),k.list=B→dm A B=(x,e)→∃ v',cP (List.range n) 3 (aG.val bP (some (A,c),k))=some v'∧dT (.tuple ⟨[x.v,.int .i64 e]⟩) v':=fun k B x e n hk h=>⟨.tuple ⟨[x.v,.int .i64 e]⟩,by
   subst hk
   rw [show aG.val bP (some (A,c),k)=.tuple ⟨[x.v,.int .i64 e]⟩ from by show Value.tuple ⟨[(dm A k.list).1.v,.int .i64 (dm A k.list).2]⟩=_; rw [h]]; rfl,.refl _⟩
  cases k with
  | none =>
   rw [show aG.ae bP (some (A,c),none)=[.flat false na 6 ga] from by rw [aV,bo]; rfl,show aG.args bP (some (A,c),none)=[.slice (some ⟨0,0,none⟩) na c,.slice none 0 0] from by rw [aV]; rfl]
   rw [← aV] at cW
   conv=>whnf
   refine ⟨some (A,c),[0],by rw [show aU.args (some (A,c))=[.slice (some ⟨0,0,none⟩) na c] from by rw [aV]; rfl]; rfl,⟨by show A.length≤_; omega,cC⟩,?_⟩
   rw [show aU.ae (some (A,c))=[.flat false na 6 ga] from by rw [aV,bo]; rfl,show aU.val (some (A,c))=.int .i64 (aW A) from rfl,show aU.new (some (A,c))=none from rfl]
   conv=>whnf
   refine ⟨aA.aM (fun h=>h) (fun r hr=>by rw [bo]; rfl),?_⟩
   conv=>whnf
   refine ⟨_,rfl,?_⟩
   obtain ⟨e,he⟩:∃ z,z=aW A:=⟨_,rfl⟩
   rw [← he]
   conv=>whnf
   by_cases h1:e=0
   ·rw [show (e != 0)=false from by simp [h1]]
    conv=>whnf
    refine ⟨none,[],rfl,⟨Nat.zero_le _,fun v hv=>nomatch hv⟩,?_⟩
    rw [show aU.ae none=[] from rfl,show aU.val none=.int .i64 4 from rfl,show aU.new none=none from rfl]
    conv=>whnf
    refine ⟨_,rfl,?_⟩
    conv=>whnf
    exact fin none [] jq 1 _ rfl (tK fun e=>by have:=e.2; cases this)
   ·rw [show (e != 0)=true from by simp [h1]]
    conv=>whnf
    exact fin none [] jq 1 _ rfl (tK fun e=>by have:=e.2; cases this)
  | some k =>
   obtain ⟨B,d⟩:=k
   have dh:B.length≤1099511627776:=dh
   have cA:∀ v∈B,PV.sz 2048 v:=cA
   obtain ⟨nb,aZ⟩:∃ n,n=B.length:=⟨_,rfl⟩
   obtain ⟨gb,bA⟩:∃ g,g=bS B:=⟨_,rfl⟩
   rw [show aG.ae bP (some (A,c),some (B,d))=[.flat false na 6 ga,.flat false nb 6 gb] from by rw [aV,bo,aZ,bA]; rfl,show aG.args bP (some (A,c),some (B,d))=[.slice (some ⟨0,0,none⟩) na c,.slice (some ⟨1,0,none⟩) nb d] from by rw [aV,aZ]; rfl]
   rw [← aV] at cW
   rw [← aZ] at dh
   have fin:=fun (x:XV) (e:Int)=>fin (some (B,d)) B x e 2 rfl
   conv=>whnf
   refine ⟨some (A,c),[0],by rw [show aU.args (some (A,c))=[.slice (some ⟨0,0,none⟩) na c] from by rw [aV]; rfl]; rfl,⟨by show A.length≤_; omega,cC⟩,?_⟩
   rw [show aU.ae (some (A,c))=[.flat false na 6 ga] from by rw [aV,bo]; rfl,show aU.val (some (A,c))=.int .i64 (aW A) from rfl,show aU.new (some (A,c))=none from rfl]
   conv=>whnf
   refine ⟨aA.aM (fun h=>h) (fun r hr=>by rw [bo]; rfl),?_⟩
   conv=>whnf
   refine ⟨_,rfl,?_⟩
   obtain ⟨e,he⟩:∃ z,z=aW A:=⟨_,rfl⟩
   rw [← he]
   conv=>whnf
   by_cases h1:e=0
   ·rw [show (e != 0)=false from by simp [h1]]
    conv=>whnf
    refine ⟨some (B,d),[1],by rw [show aU.args (some (B,d))=[.slice (some ⟨0,0,none⟩) nb d] from by rw [aZ]; rfl]; rfl,⟨by show B.length≤_; omega,cA⟩,?_⟩
    rw [show aU.ae (some (B,d))=[.flat false nb 6 gb] from by rw [aZ,bA]; rfl,show aU.val (some (B,d))=.int .i64 (aW B) from rfl,show aU.new (some (B,d))=none from rfl]
    conv=>whnf
    refine ⟨aA.aM (fun h=>h) (fun r hr=>by rw [bA]; rfl),?_⟩
    conv=>whnf
    refine ⟨_,rfl,?_⟩
    obtain ⟨e2,bX⟩:∃ z,z=aW B:=⟨_,rfl⟩
    rw [← bX]
    conv=>whnf
    by_cases J:e2=0
    ·rw [show (e2 != 0)=false from by simp [J]]
     have hk:aW A=0∧aW B=0:=⟨by rw [← he]; exact h1,by rw [← bX]; exact J⟩
     have xt:=jd hk.1
     have xu:=jd hk.2
     conv=>whnf
     obtain ⟨⟨x,z⟩,hx⟩:∃ x,fg (dQ true (ay A) (ay B))=x:=⟨_,rfl⟩
     refine ⟨(((ay A,c),(ay B,d)),(105,true)),[0,1],by rw [show iN.args (((ay A,c),(ay B,d)),(105,true))=[.slice (some ⟨0,0,none⟩) na c,.slice (some ⟨1,0,none⟩) nb d,.func (.func 105) #[] #[]] from by rw [aV,aZ,← b8 A,← b8 B]; rfl]; rfl,⟨by simp,⟨by show (ay A).length≤_; rw [b8]; omega,rn cC (by decide)⟩,by show (ay B).length≤_; rw [b8]; omega,rn cA (by decide)⟩,?_⟩
     rw [show iN.ae (((ay A,c),(ay B,d)),(105,true))=[.flat false na 6 ga,.flat false nb 6 gb] from by rw [aV,aZ,bo,bA,← b8 A,← b8 B,← tg hk.1,← tg hk.2]; rfl,show iN.val (((ay A,c),(ay B,d)),(105,true))=.tuple ⟨[x.v,.bool z]⟩ from by show Value.tuple ⟨[(fg (dQ true (ay A) (ay B))).1.v,.bool (fg (dQ true (ay A) (ay B))).2]⟩=_; rw [hx],show iN.new (((ay A,c),(ay B,d)),(105,true))=none from rfl]
     conv=>whnf
     refine ⟨aA.aM (fun h=>h) (fun r hr=>by rw [bo]; rfl),aA.aM (fun h=>h) (fun r hr=>by rw [bA]; rfl),?_⟩
     conv=>whnf
     refine ⟨_,rfl,?_⟩
     conv=>whnf
     have hv:=Wg hk hx
     cases z with
     | false =>
      conv=>whnf
      exact fin _ _ hv
     | true =>
      conv=>whnf
      exact fin _ _ hv
    ·rw [show (e2 != 0)=true from by simp [J]]
     conv=>whnf
     exact fin jq 1 (tK fun h=>J (by rw [bX]; exact h.2))
   ·rw [show (e != 0)=true from by simp [h1]]
    conv=>whnf
    exact fin jq 1 (tK fun h=>h1 (by rw [he]; exact h.1))
end Go.Proofs.YtlapbjdhekcipaaGreat
/- Contracts of convex: the part of a segment. -/
set_option maxRecDepth 20000
set_option maxHeartbeats 4000000
namespace Go.Proofs.YtlapbjdhekcipaaGreat
open Go Go.Ae
def P4:Env:=En [(23,.q aU),(56,.q fy),(70,.p pr),(34,.p iD),(38,.p gL),(71,.p pN),(33,.p mr),(35,.p jL)] [(64,cI nk cV Tryz.f64)] [(118,wb)]
theorem abM:EnvOk Tryz.prog P4:=bL ⟨Fk,JK,Ly,Fi,wa,M0,yq,MX,trivial⟩ ⟨xZ,trivial⟩
theorem aap:ie Tryz.prog P4:=xo ⟨xN,trivial⟩
theorem Yf:cZ Tryz.prog 21 mf:=by
 refine dt abM aO Tryz.func21 (enters_of Tryz.func21 (by kernel_rfl) rfl) ?_ ?_ ?_ (hI:=aap)
 ·intro ⟨i,_⟩ b hb
  cases i with
  | none=>simp [mf,PL.ae] at hb
  | some i=>simp [mf,PL.ae] at hb; rw [hb]; rfl
 ·intro i b hb; simp [mf] at hb
 intro ⟨i,⟨p,q⟩⟩ hp
 have hp:(i.list.length≤1099511627776∧∀ v∈i.list,v.sz 2048)∧p.sz 2048∧q.sz 2048:=hp
 obtain ⟨⟨hlen,bn⟩,sp,sq⟩:=hp
 have qp:=PV.dp sp (by decide)
 have qq:=PV.dp sq (by decide)
 cases i with
 | none =>
  conv=>whnf
  refine ⟨none,[],rfl,⟨Nat.zero_le _,fun v hv=>nomatch hv⟩,?_⟩
  rw [show aU.ae none=[] from rfl,show aU.val none=.int .i64 4 from rfl,show aU.new none=none from rfl]
  conv=>whnf
  refine ⟨_,rfl,?_⟩
  conv=>whnf
  exact ⟨_,rfl,.refl _⟩
 | some i =>
  obtain ⟨L,c⟩:=i
  have hlen:L.length≤1099511627776:=hlen
  have bn:∀ v∈L,PV.sz 2048 v:=bn
  obtain ⟨n,hn⟩:∃ n,n=L.length:=⟨_,rfl⟩
  obtain ⟨g,hg⟩:∃ g,g=bS L:=⟨_,rfl⟩
  obtain ⟨K,hK⟩:∃ K,K=gQ mf (some (L,c),(p,q)):=⟨_,rfl⟩
  have fin:∀ (x y:RV) (z:Bool) (e:Int) (H:ax),gX L (p,q)=((x,y),z,e)→K (.tuple ⟨[x.v,y.v,.bool z,.int .i64 e]⟩) H:=fun x y z e H h=>by
   rw [hK]
   unfold gQ
   rw [show mf.new (some (L,c),(p,q))=none from rfl,show mf.val (some (L,c),(p,q))=.tuple ⟨[x.v,y.v,.bool z,.int .i64 e]⟩ from by show Value.tuple ⟨[(gX L (p,q)).1.1.v,(gX L (p,q)).1.2.v,.bool (gX L (p,q)).2.1,.int .i64 (gX L (p,q)).2.2]⟩=_; rw [h]]
   exact ⟨_,rfl,.refl _⟩
  rw [show mf.ae (some (L,c),(p,q))=[.flat false n 6 g] from by rw [hn,hg]; rfl,show mf.args (some (L,c),(p,q))=[.slice (some ⟨0,0,none⟩) n c,XV.v (p,q)] from by rw [hn]; rfl,← hK]
  rw [← hn] at hlen
  conv=>whnf
  refine ⟨some (L,c),[0],by rw [show aU.args (some (L,c))=[.slice (some ⟨0,0,none⟩) n c] from by rw [hn]; rfl]; rfl,⟨by show L.length≤_; omega,bn⟩,?_⟩
  rw [show aU.ae (some (L,c))=[.flat false n 6 g] from by rw [hn,hg]; rfl,show aU.val (some (L,c))=.int .i64 (aW L) from rfl,show aU.new (some (L,c))=none from rfl]
  conv=>whnf
  refine ⟨aA.aM (fun h=>h) (fun r hr=>by rw [hg]; rfl),?_⟩
  conv=>whnf
  refine ⟨_,rfl,?_⟩
  obtain ⟨e,he⟩:∃ z,z=aW L:=⟨_,rfl⟩
  rw [← he]
  conv=>whnf
  by_cases h1:e=0
  ·rw [show (e != 0)=false from by simp [h1]]
   conv=>whnf
   refine ⟨some ([p,q],2),[6],rfl,⟨by show 2≤1099511627776; decide,(fun v hv=>by rcases List.mem_cons.1 hv with rfl | hv; exact sp; rw [List.mem_singleton.1 hv]; exact sq)⟩,?_⟩
   rw [show fy.ae (some ([p,q],2))=[.flat false 2 6 (bS [p,q])] from rfl,show fy.val (some ([p,q],2))=.bool (!fw [p,q]) from rfl,show fy.new (some ([p,q],2))=none from rfl]
   conv=>whnf
   refine ⟨VQ [p,q],?_⟩
   conv=>whnf
   refine ⟨_,rfl,?_⟩
   obtain ⟨r,hr⟩:∃ z,z=fw [p,q]:=⟨_,rfl⟩
   rw [← hr]
   conv=>whnf
   cases r with
   | true =>
    conv=>whnf
    exact fin dv dv false 1 _ (Ny fun h=>acG hr h.2.1 h.2.2)
   | false =>
    conv=>whnf
    have hk:aW L=0∧p.canon∧q.canon:=⟨by rw [← he]; exact h1,aa2 hr⟩
    have hz:=jd hk.1
    obtain ⟨o,eo,po,so,qo⟩:=gN (q:=(0:Rat)) (qb0 (Nat.le_refl 1))
    refine ⟨(0:Int),rfl,⟨by decide,by decide⟩,?_⟩
    rw [show mr.val (0:Int)=o.v from eo]
    conv=>whnf
    obtain ⟨l,el,pl,sl,ql⟩:=gN (q:=(1:Rat)) (Go.Ae.qb1 (Nat.le_refl 1))
    refine ⟨(1:Int),rfl,⟨by decide,by decide⟩,?_⟩
    rw [show mr.val (1:Int)=l.v from el]
    conv=>whnf
    intro yl nu fn tm df
    conv=>whnf
    refine .inl ⟨fun mm tz hz=>∃ (j:Nat) (lo:RV) (hi:RV),bE (some (.func (.yield yl) #[] #[])::some (.pointer (some ⟨9,0,none⟩))::aD 3 (some (.slice (some ⟨0,0,none⟩) n c)::some (.int .i64 n)::some (.int .i64 j)::aD 17 [])) tz∧hz=[some (.flat false n 6 g),some (.aQ true 12 [XV.cells (p,q)]),some (.aQ true 3 [dv.c1]),some (.aQ true 3 [dv.c1]),some (.aQ true 1 [[.bool false]]),some (.aQ true 1 [[.int .i64 0]]),some (.aQ true 6 [p.cells,q.cells]),some (.aQ true 3 [lo.c1]),some (.aQ true 3 [hi.c1]),some (.aQ true 1 [[.slice (some ⟨0,0,none⟩) n c]]),some (.cm (rW Tryz.f21 fn tm df))]∧n - j=mm∧((j≤n∧ub (ay L) p.p q.p j=some (lo.q,hi.q))∧(lo=RV.of lo.q∧hi=RV.of hi.q)∧(lo.sz 65536∧hi.sz 65536)∧QB lo.q 65536∧QB hi.q 65536),.inr ⟨[0,1,2,3,4,5,6,7,8,9,10],[0,1,5,6,7],?_⟩,?_⟩
    ·conv=>whnf
     intro _
     conv=>whnf
     refine ⟨_,0,o,l,(.aa (.aa (.sk 3 (.aa (.aa (.aa (.sk 17 .nil rfl)))) rfl))),rfl,rfl,?_⟩
     exact ⟨⟨Nat.zero_le _,by rw [po,pl]; rfl⟩,⟨by rw [po]; exact (RV.nJ eo).symm,by rw [pl]; exact (RV.nJ el).symm⟩,⟨RV.a8 so (by decide),RV.a8 sl (by decide)⟩,qo.mono (by decide),ql.mono (by decide)⟩
    rintro mm aT _ ⟨j,lo,hi,ar,rfl,rfl,⟨⟨hj,hU⟩,⟨sN,sO⟩,⟨sP,u9⟩,zY,zZ⟩⟩
    obtain ⟨az,rfl⟩:∃ az:Nat→Value,aT=.func (.yield yl) #[] #[]::.pointer (some ⟨9,0,none⟩)::zs az 2 3 (.slice (some ⟨0,0,none⟩) n c::.int .i64 n::.int .i64 j::zs az 8 17 []):=bK ar
    clear ar
    conv=>whnf
    refine aL (fun h3=>?_) (fun h3=>?_)
    ·have h3:j < n:=by
      have:=of_decide_eq_true h3
      omega
     have e7:IntKind.i64.wrap ((j:Int)+1)=((j+1:Nat):Int):=by rw [au (by omega) (by omega)]; rfl
     obtain ⟨a,b,ra,rb,⟨ma,mb⟩,e9,cl,_,_⟩:=nm hn h3
     have sa:=bn a ma
     have sb:=bn b mb
     have qa:=PV.dp sa (by decide)
     have qb:=PV.dp sb (by decide)
     have cD:=jO h3 (by omega)
     obtain ⟨u,hu⟩:∃ u,u=bd n j:=⟨_,rfl⟩
     rw [← hu] at cD cl rb
     rw [← hg] at ra rb
     conv=>whnf
     refine ⟨⟨by omega,by omega⟩,?_⟩
     simp only [toNat_cast,aq,Nat.zero_add]
     conv=>whnf
     refine ⟨by show j < n; omega,?_⟩
     conv=>whnf
     rw [ra]
     conv=>whnf
     refine .inl ⟨10,[[],[],[],[],[3],[],[5],[3,4,5,6],[2,3,4,5,6,7],[2,3,4,5,6,7,8],[0,1,2,3,4,5,6,7,8,9],[0,1,2,3,4,5,6,7,8,9,10]],by kernel_rfl,?_⟩
     conv=>whnf
     rw [show decide ((n:Int)≠0)=true from decide_eq_true (by omega)]
     conv=>whnf
     rw [cD]
     refine ⟨⟨by omega,by omega⟩,?_⟩
     simp only [toNat_cast,aq,Nat.zero_add]
     conv=>whnf
     refine ⟨by show u < n; omega,?_⟩
     conv=>whnf
     rw [rb]
     conv=>whnf
     refine ⟨rfl,?_⟩
     conv=>whnf
     refine ⟨rfl,?_⟩
     conv=>whnf
     refine ⟨rfl,?_⟩
     conv=>whnf
     refine .inl ⟨12,[[],[],[],[2],[0,1,2,3],[],[],[],[7],[0,1,2,3,4,5,6,7,8],[],[],[0,1,2,3,4,5,6,7,8,9,10,11],[0,1,2,3,4,5,6,7,8,9,10,11,12]],by kernel_rfl,?_⟩
     conv=>whnf
     obtain ⟨x,ex,px,sx,qx⟩:=gN (wP qa qb qp)
     refine ⟨(a,b,p),rfl,⟨PV.a8 sa (by decide),PV.a8 sb (by decide),PV.a8 sp (by decide)⟩,?_⟩
     rw [show pr.val (a,b,p)=x.v from ex]
     conv=>whnf
     obtain ⟨y,ey,py,sy,qy⟩:=gN (wP qa qb qq)
     refine ⟨(a,b,q),rfl,⟨PV.a8 sa (by decide),PV.a8 sb (by decide),PV.a8 sq (by decide)⟩,?_⟩
     rw [show pr.val (a,b,q)=y.v from ey]
     conv=>whnf
     have ao:=Sj hU e9 px py
     refine .inl ⟨7,[[],[0],[0,1],[],[0,1,3],[0,1,3,4],[0,1,2,3,4],[0,1,2,3,4,5,6]],by kernel_rfl,?_⟩
     conv=>whnf
     obtain ⟨zx,ezx,pzx⟩:=eJ (aY x.q 0)
     refine ⟨x,rfl,RV.b6 sx (by decide),?_⟩
     rw [show iD.val x=.int .i64 zx from ezx]
     conv=>whnf
     obtain ⟨zy,ezy,pzy⟩:=eJ (aY y.q 0)
     refine ⟨y,rfl,RV.b6 sy (by decide),?_⟩
     rw [show iD.val y=.int .i64 zy from ezy]
     conv=>whnf
     have cx:zx > 0↔0 < x.q:=by rw [pzx]; exact vO
     have cy:zy > 0↔0 < y.q:=by rw [pzy]; exact vO
     by_cases hx:zx > 0
     ·rw [show decide (zx > 0)=true from decide_eq_true hx]
      have hx:=cx.1 hx
      by_cases hy:zy > 0
      ·rw [show decide (zy > 0)=true from decide_eq_true hy]
       have hy:=cy.1 hy
       rw [if_neg (fun e=>Rat.not_lt.2 e.1 hx),if_pos ⟨hx,hy⟩] at ao
       conv=>whnf
       refine ⟨rfl,?_⟩
       conv=>whnf
       rw [e7]
       refine .inr ⟨[0,1,2,3,4,5,6,7,8,9,10],[0,1,5,6,7],?_⟩
       conv=>whnf
       intro _
       conv=>whnf
       refine ⟨_,?_,j+1,lo,hi,(.aa (.aa (.sk 3 (.aa (.aa (.aa (.sk 17 .nil rfl)))) rfl))),rfl,rfl,?_⟩
       ·omega
       ·exact ⟨⟨by omega,ao⟩,⟨sN,sO⟩,⟨sP,u9⟩,zY,zZ⟩
      ·rw [show decide (zy > 0)=false from decide_eq_false hy]
       have hy:¬ 0 < y.q:=fun e=>hy (cy.2 e)
       rw [if_neg (fun e=>Rat.not_lt.2 e.1 hx),if_neg (fun e=>hy e.2),if_neg hy] at ao
       conv=>whnf
       refine .inr (.inr (.inl ⟨9,1,[[],[],[],[1,2],[0,1,2,3],[0,1,2,3,4],[0,1,2,3,4,5],[0,1,2,3,4,5],[],[0,1,2,3,4,5,6,8],[0,1,2,3,4,5,6,7,8,9]],[7],by kernel_rfl,?_⟩))
       conv=>whnf
       obtain ⟨d,ed,pd,sd,qd⟩:=gN (QB.sub qx qy)
       refine ⟨(x,y),rfl,⟨RV.b6 sx (by decide),RV.b6 sy (by decide)⟩,?_⟩
       rw [show gL.val (x,y)=d.v from ed]
       conv=>whnf
       obtain ⟨t,et,pt,st,qt⟩:=gN (QB.div qx qd (by decide))
       obtain ⟨e3,I7,pe3⟩:=eJ (if d.q=0 then 10 else 0)
       refine ⟨(x,d),rfl,⟨RV.b6 sx (by decide),RV.b6 sd (by decide)⟩,?_⟩
       rw [show pN.val (x,d)=.tuple ⟨[t.v,.int .i64 e3]⟩ from by rw [← et,← I7]; rfl]
       conv=>whnf
       have ct:=(RV.nJ et).symm
       rw [← pt] at ct
       rw [pd] at pt
       rw [← pt] at ao
       obtain ⟨z,ez,pz⟩:=eJ (aY t.q hi.q)
       refine ⟨(t,hi),rfl,⟨RV.b6 st (by decide),RV.b6 u9 (by decide)⟩,?_⟩
       rw [show jL.val (t,hi)=.int .i64 z from ez]
       conv=>whnf
       have cz:z < 0↔t.q < hi.q:=by rw [pz]; exact E3
       by_cases h5:z < 0
       ·rw [show decide (z < 0)=true from decide_eq_true h5]
        conv=>whnf
        refine ⟨rfl,?_⟩
        conv=>whnf
        rw [e7]
        refine .inr ⟨[0,1,2,3,4,5,6,7,8,9,10],[0,1,5,6,7],?_⟩
        conv=>whnf
        intro _
        conv=>whnf
        refine ⟨_,?_,j+1,lo,t,(.aa (.aa (.sk 3 (.aa (.aa (.aa (.sk 17 .nil rfl)))) rfl))),rfl,rfl,?_⟩
        ·omega
        ·exact ⟨⟨by omega,by rw [ao]; unfold lI; rw [if_pos (cz.1 h5)]⟩,⟨sN,ct⟩,⟨sP,RV.a8 st (by decide)⟩,zY,qt.mono (by decide)⟩
       ·rw [show decide (z < 0)=false from decide_eq_false h5]
        conv=>whnf
        refine ⟨rfl,?_⟩
        conv=>whnf
        rw [e7]
        refine .inr ⟨[0,1,2,3,4,5,6,7,8,9,10],[0,1,5,6,7],?_⟩
        conv=>whnf
        intro _
        conv=>whnf
        refine ⟨_,?_,j+1,lo,hi,(.aa (.aa (.sk 3 (.aa (.aa (.aa (.sk 17 .nil rfl)))) rfl))),rfl,rfl,?_⟩
        ·omega
        ·exact ⟨⟨by omega,by rw [ao]; unfold lI; rw [if_neg (fun e=>h5 (cz.2 e))]⟩,⟨sN,sO⟩,⟨sP,u9⟩,zY,zZ⟩
     ·rw [show decide (zx > 0)=false from decide_eq_false hx]
      have hx:¬ 0 < x.q:=fun e=>hx (cx.2 e)
      by_cases hy:zy > 0
      ·rw [show decide (zy > 0)=true from decide_eq_true hy]
       have hy:=cy.1 hy
       rw [if_neg (fun e=>Rat.not_lt.2 e.2 hy),if_neg (fun e=>hx e.1),if_pos hy] at ao
       conv=>whnf
       refine .inr (.inr (.inl ⟨9,1,[[],[],[],[1,2],[0,1,2,3],[0,1,2,3,4],[0,1,2,3,4,5],[0,1,2,3,4,5],[],[0,1,2,3,4,5,6,8],[0,1,2,3,4,5,6,7,8,9]],[7],by kernel_rfl,?_⟩))
       conv=>whnf
       obtain ⟨d,ed,pd,sd,qd⟩:=gN (QB.sub qx qy)
       refine ⟨(x,y),rfl,⟨RV.b6 sx (by decide),RV.b6 sy (by decide)⟩,?_⟩
       rw [show gL.val (x,y)=d.v from ed]
       conv=>whnf
       obtain ⟨t,et,pt,st,qt⟩:=gN (QB.div qx qd (by decide))
       obtain ⟨e3,I7,pe3⟩:=eJ (if d.q=0 then 10 else 0)
       refine ⟨(x,d),rfl,⟨RV.b6 sx (by decide),RV.b6 sd (by decide)⟩,?_⟩
       rw [show pN.val (x,d)=.tuple ⟨[t.v,.int .i64 e3]⟩ from by rw [← et,← I7]; rfl]
       conv=>whnf
       have ct:=(RV.nJ et).symm
       rw [← pt] at ct
       rw [pd] at pt
       rw [← pt] at ao
       obtain ⟨z,ez,pz⟩:=eJ (aY t.q lo.q)
       refine ⟨(t,lo),rfl,⟨RV.b6 st (by decide),RV.b6 sP (by decide)⟩,?_⟩
       rw [show jL.val (t,lo)=.int .i64 z from ez]
       conv=>whnf
       have cz:z > 0↔lo.q < t.q:=by rw [pz]; exact vO
       by_cases h5:z > 0
       ·rw [show decide (z > 0)=true from decide_eq_true h5]
        conv=>whnf
        refine ⟨rfl,?_⟩
        conv=>whnf
        rw [e7]
        refine .inr ⟨[0,1,2,3,4,5,6,7,8,9,10],[0,1,5,6,7],?_⟩
        conv=>whnf
        intro _
        conv=>whnf
        refine ⟨_,?_,j+1,t,hi,(.aa (.aa (.sk 3 (.aa (.aa (.aa (.sk 17 .nil rfl)))) rfl))),rfl,rfl,?_⟩
        ·omega
        ·exact ⟨⟨by omega,by rw [ao]; unfold lH; rw [if_pos (cz.1 h5)]⟩,⟨ct,sO⟩,⟨RV.a8 st (by decide),u9⟩,qt.mono (by decide),zZ⟩
       ·rw [show decide (z > 0)=false from decide_eq_false h5]
        conv=>whnf
        refine ⟨rfl,?_⟩
        conv=>whnf
        rw [e7]
        refine .inr ⟨[0,1,2,3,4,5,6,7,8,9,10],[0,1,5,6,7],?_⟩
        conv=>whnf
        intro _
        conv=>whnf
        refine ⟨_,?_,j+1,lo,hi,(.aa (.aa (.sk 3 (.aa (.aa (.aa (.sk 17 .nil rfl)))) rfl))),rfl,rfl,?_⟩
        ·omega
        ·exact ⟨⟨by omega,by rw [ao]; unfold lH; rw [if_neg (fun e=>h5 (cz.2 e))]⟩,⟨sN,sO⟩,⟨sP,u9⟩,zY,zZ⟩
      ·rw [show decide (zy > 0)=false from decide_eq_false hy]
       have hy:¬ 0 < y.q:=fun e=>hy (cy.2 e)
       rw [if_pos ⟨Rat.not_lt.1 hx,Rat.not_lt.1 hy⟩] at ao
       conv=>whnf
       refine ⟨rfl,?_⟩
       conv=>whnf
       exact fin dv dv false 0 _ (MS hk (Sk ao))
    ·have h3:j=n:=by
      have:=of_decide_eq_false h3
      omega
     subst h3
     have hE:=Tv (a:=p.p) (b:=q.p) (show j=(ay L).length by rw [b8]; exact hn)
     rw [hU] at hE
     conv=>whnf
     obtain ⟨z,ez,pz⟩:=eJ (aY lo.q hi.q)
     refine ⟨(lo,hi),rfl,⟨RV.b6 sP (by decide),RV.b6 u9 (by decide)⟩,?_⟩
     rw [show jL.val (lo,hi)=.int .i64 z from ez]
     conv=>whnf
     by_cases h5:hi.q≤lo.q
     ·rw [show decide (z ≥ 0)=true from decide_eq_true (by rw [pz]; exact rl.2 h5)]
      conv=>whnf
      exact fin dv dv false 0 _ (MS hk (hE.symm.trans (UZ h5)))
     ·rw [show decide (z ≥ 0)=false from decide_eq_false (by rw [pz]; exact fun e=>h5 (rl.1 e))]
      conv=>whnf
      have gm:gX L (p,q)=((lo,hi),true,0):=Wk hk (hE.symm.trans (U0 h5)) sN sO
      refine .inr (.inl ⟨(.br 0 (.br 1 (.br 2 (.br 3 (.br 4 (.br 5 .leaf .leaf) .leaf) .leaf) .leaf) (.br 2 (.br 1 (.br 3 (.br 4 (.br 5 .leaf .leaf) .leaf) .leaf) .leaf) .leaf)) (.br 1 (.br 0 (.br 2 (.br 3 (.br 4 (.br 5 .leaf .leaf) .leaf) .leaf) .leaf) .leaf) .leaf)),by kernel_rfl,?_⟩)
      repeat' ((conv=>whnf); first | exact True.intro | refine And.intro ?_ ?_)
      all_goals conv=>whnf
      all_goals exact fin lo hi true 0 _ gm
  ·rw [show (e != 0)=true from by simp [h1]]
   conv=>whnf
   exact fin dv dv false 1 _ (Ny fun h=>h1 (by rw [he]; exact h.1))
end Go.Proofs.YtlapbjdhekcipaaGreat
/- Contracts of line. -/
set_option maxRecDepth 20000
set_option maxHeartbeats 1000000
namespace Go.Proofs.YtlapbjdhekcipaaGreat
open Go Go.Ae
end Go.Proofs.YtlapbjdhekcipaaGreat
/- Contracts of the reference rationals: signs, quotients. -/
set_option maxRecDepth 20000
set_option maxHeartbeats 1000000
namespace Go.Proofs.YtlapbjdhekcipaaGreat
open Go Go.Ae
def Eqs:Env:=En [(128,.p jL),(157,.p nt),(156,.p lg)]
theorem abN:EnvOk Tryz.prog Eqs:=bL ⟨Fj,Ml,Mn,trivial⟩ trivial
theorem TL:bm Tryz.prog 123 iD:=by
 refine bt abN aO Tryz.func123 (enters_of Tryz.func123 (by kernel_rfl) rfl) (fun _=>rfl) (fun _=>rfl) ?_
 intro (r:RV) hp
 have hp:r.ok:=hp
 obtain ⟨x,hx⟩:∃ x,x=aY r.q 0:=⟨_,rfl⟩
 conv=>whnf
 refine ⟨(r,dv),rfl,⟨hp,RV.b6 (tc 0) (by decide)⟩,?_⟩
 rw [show jL.val (r,dv)=.int .i64 x from by rw [hx]; show Value.int .i64 (aY r.q dv.q)=_; rw [VP]]
 conv=>whnf
 show Value.int .i64 x=Value.int .i64 (aY r.q 0)
 rw [hx]
end Go.Proofs.YtlapbjdhekcipaaGreat
/- Contracts of the reference lines. -/
set_option maxRecDepth 20000
set_option maxHeartbeats 1000000
namespace Go.Proofs.YtlapbjdhekcipaaGreat
open Go Go.Ae
end Go.Proofs.YtlapbjdhekcipaaGreat
/- The reference's cutting of a polygon. -/
set_option maxRecDepth 20000
set_option maxHeartbeats 4000000
namespace Go.Proofs.YtlapbjdhekcipaaGreat
open Go Go.Ae
end Go.Proofs.YtlapbjdhekcipaaGreat
/- The reference's ring. -/
set_option maxRecDepth 20000
set_option maxHeartbeats 4000000
namespace Go.Proofs.YtlapbjdhekcipaaGreat
open Go Go.Ae
end Go.Proofs.YtlapbjdhekcipaaGreat
/- Contracts of the reference of convex: rings, points inside. -/
set_option maxRecDepth 20000
set_option maxHeartbeats 4000000
namespace Go.Proofs.YtlapbjdhekcipaaGreat
open Go Go.Ae
def Er0:Env:=En [(121,.p kF),(122,.p pj),(123,.p iD)]
theorem abO:EnvOk Tryz.prog Er0:=bL ⟨Vj,Su,TL,trivial⟩ trivial
theorem KN:bm Tryz.prog 77 lZ:=by
 refine bt abO aO Tryz.func77 (enters_of Tryz.func77 (by kernel_rfl) rfl) (fun _=>rfl) (fun _=>rfl) ?_
 intro ⟨a,b,c⟩ hp
 have hp:a.sz 1048576∧b.sz 1048576∧c.sz 1048576:=hp
 obtain ⟨sa,sb,sc⟩:=hp
 have qa:=PV.dp sa (by decide)
 have qb:=PV.dp sb (by decide)
 have qc:=PV.dp sc (by decide)
 conv=>whnf
 refine .inl ⟨5,[[],[],[0,1],[],[],[0,1,2,3,4],[0,1,2,3,4,5],[0,1,2,3,4,5,6],[0,1,2,3,4,5,6,7]],by kernel_rfl,?_⟩
 conv=>whnf
 obtain ⟨u,eu,pu,su,qu⟩:=rL (ou qb qa)
 refine ⟨(b,a),rfl,⟨PV.a8 sb (by decide),PV.a8 sa (by decide)⟩,?_⟩
 rw [show kF.val (b,a)=u.v from eu]
 conv=>whnf
 obtain ⟨v,ev,pv,sv,qv⟩:=rL (ou qc qa)
 refine ⟨(c,a),rfl,⟨PV.a8 sc (by decide),PV.a8 sa (by decide)⟩,?_⟩
 rw [show kF.val (c,a)=v.v from ev]
 conv=>whnf
 obtain ⟨w,ew,pw,sw,qw⟩:=gN (xT qu qv)
 refine ⟨(u,v),rfl,⟨PV.a8 su (by decide),PV.a8 sv (by decide)⟩,?_⟩
 rw [show pj.val (u,v)=w.v from ew]
 conv=>whnf
 obtain ⟨n,en,pn⟩:=eJ (aY w.q 0)
 refine ⟨w,rfl,RV.b6 sw (by decide),?_⟩
 rw [show iD.val w=.int .i64 n from en]
 conv=>whnf
 show Value.int .i64 n=Value.int .i64 (aY (aw a.p b.p c.p) 0)
 rw [pn,pw,pu,pv]
 rfl
def Er1:Env:=En [(68,.p kA)]
theorem abP:EnvOk Tryz.prog Er1:=bL ⟨KM,trivial⟩ trivial
theorem Sz:cZ Tryz.prog 61 fy:=by
 refine dt abP aO Tryz.func61 (enters_of Tryz.func61 (by kernel_rfl) rfl) ?_ ?_ ?_
 ·intro i b hb
  cases i with
  | none=>simp [fy,PL.ae] at hb
  | some i=>simp [fy,PL.ae] at hb; rw [hb]; rfl
 ·intro i b hb; simp [fy] at hb
 intro i hp
 have hp:i.list.length≤1099511627776∧∀ v∈i.list,v.sz 2048:=hp
 obtain ⟨hlen,bn⟩:=hp
 cases i with
 | none =>
  conv=>whnf
  refine .inr ⟨1,?_⟩
  conv=>whnf
  exact ⟨.bool true,rfl,.refl _⟩
 | some i =>
  obtain ⟨L,c⟩:=i
  have hlen:L.length≤1099511627776:=hlen
  have bn:∀ v∈L,PV.sz 2048 v:=bn
  obtain ⟨n,hn⟩:∃ n,n=L.length:=⟨_,rfl⟩
  obtain ⟨g,hg⟩:∃ g,g=bS L:=⟨_,rfl⟩
  have fin:∀ z:Bool,z=!fw L→∃ v',cP (List.range 1) 3 (fy.val (some (L,c)))=some v'∧dT (.bool z) v':=fun z h=>⟨.bool z,by rw [h]; rfl,.refl _⟩
  rw [show fy.ae (some (L,c))=[.flat false n 6 g] from by rw [hn,hg]; rfl,show fy.args (some (L,c))=[.slice (some ⟨0,0,none⟩) n c] from by rw [hn]; rfl]
  rw [← hn] at hlen
  conv=>whnf
  refine .inl ⟨fun mm tz hz=>∃ (i:Nat),bE (some (.slice (some ⟨0,0,none⟩) n c)::aD 2 (some (.int .i64 i)::aD 12 [])) tz∧hz=[some (.flat false n 6 g)]∧n - i=mm∧(i≤n∧ua L i),.inr ⟨[0],[0,3],?_⟩,?_⟩
  ·conv=>whnf
   intro _
   conv=>whnf
   refine ⟨_,0,(.aa (.sk 2 (.aa (.sk 12 .nil rfl)) rfl)),rfl,rfl,?_⟩
   exact ⟨Nat.zero_le _,J3 _⟩
  rintro mm aT _ ⟨i,ar,rfl,rfl,⟨hi,hU⟩⟩
  obtain ⟨az,rfl⟩:∃ az:Nat→Value,aT=.slice (some ⟨0,0,none⟩) n c::zs az 1 2 (.int .i64 i::zs az 4 12 []):=bK ar
  clear ar
  conv=>whnf
  refine aL (fun h3=>?_) (fun h3=>?_)
  ·have h3:i < n:=by
    have:=of_decide_eq_true h3
    omega
   have e7:IntKind.i64.wrap ((i:Int)+1)=((i+1:Nat):Int):=by rw [au (by omega) (by omega)]; rfl
   obtain ⟨m,kQ,mC,a9⟩:=qU (l:=L) (i:=i) (by omega)
   rw [← hg] at a9
   conv=>whnf
   refine ⟨⟨by omega,by omega⟩,?_⟩
   simp only [toNat_cast,aq,Nat.zero_add]
   conv=>whnf
   refine ⟨by show i < n; omega,?_⟩
   conv=>whnf
   rw [a9]
   conv=>whnf
   refine ⟨m,rfl,PV.a8 (bn m mC) (by decide),?_⟩
   by_cases h4:m.canon
   ·rw [show kA.val m=.int .i64 0 from congrArg (Value.int .i64) (if_pos h4)]
    conv=>whnf
    rw [e7]
    refine .inr ⟨[0],[0,3],?_⟩
    conv=>whnf
    intro _
    conv=>whnf
    refine ⟨_,?_,i+1,(.aa (.sk 2 (.aa (.sk 12 .nil rfl)) rfl)),rfl,rfl,?_⟩
    ·omega
    ·exact ⟨by omega,KG hU kQ h4⟩
   ·rw [show kA.val m=.int .i64 1 from congrArg (Value.int .i64) (if_neg h4)]
    conv=>whnf
    exact fin false (by rw [show fw L=true from List.any_eq_true.2 ⟨m,mC,decide_eq_true h4⟩]; rfl)
  ·have h3:i=n:=by
    have:=of_decide_eq_false h3
    omega
   subst h3
   conv=>whnf
   exact fin true (by rw [Ll (by rw [← hn]; exact hU)]; rfl)
def Er2:Env:=En [(61,.q fy),(76,.p oD),(77,.p lZ)]
theorem abQ:EnvOk Tryz.prog Er2:=bL ⟨Sz,Vk,KN,trivial⟩ trivial
theorem SA:cZ Tryz.prog 24 aU:=by
 refine dt abQ aO Tryz.func24 (enters_of Tryz.func24 (by kernel_rfl) rfl) ?_ ?_ ?_
 ·intro i b hb
  cases i with
  | none=>simp [aU,PL.ae] at hb
  | some i=>simp [aU,PL.ae] at hb; rw [hb]; rfl
 ·intro i b hb; simp [aU] at hb
 intro i hp
 have hp:i.list.length≤1099511627776∧∀ v∈i.list,v.sz 2048:=hp
 obtain ⟨hlen,bn⟩:=hp
 cases i with
 | none =>
  conv=>whnf
  exact ⟨.int .i64 4,rfl,.refl _⟩
 | some i =>
  obtain ⟨L,c⟩:=i
  have hlen:L.length≤1099511627776:=hlen
  have bn:∀ v∈L,PV.sz 2048 v:=bn
  obtain ⟨n,hn⟩:∃ n,n=L.length:=⟨_,rfl⟩
  obtain ⟨g,hg⟩:∃ g,g=bS L:=⟨_,rfl⟩
  have fin:∀ z:Int,aW L=z→∃ v',cP (List.range 1) 3 (aU.val (some (L,c)))=some v'∧dT (.int .i64 z) v':=fun z h=>⟨.int .i64 z,by rw [← h]; rfl,.refl _⟩
  rw [show aU.ae (some (L,c))=[.flat false n 6 g] from by rw [hn,hg]; rfl,show aU.args (some (L,c))=[.slice (some ⟨0,0,none⟩) n c] from by rw [hn]; rfl]
  rw [← hn] at hlen
  conv=>whnf
  by_cases h1:n < 3
  ·rw [show decide ((n:Int) < 3)=true from decide_eq_true (by omega)]
   conv=>whnf
   exact fin 4 (Bk (.inl (by omega)))
  rw [show decide ((n:Int) < 3)=false from decide_eq_false (by omega)]
  conv=>whnf
  by_cases J:64 < n
  ·rw [show decide ((n:Int) > 64)=true from decide_eq_true (by omega)]
   conv=>whnf
   exact fin 4 (Bk (.inr (by omega)))
  rw [show decide ((n:Int) > 64)=false from decide_eq_false (by omega)]
  conv=>whnf
  obtain ⟨z,hz⟩:∃ z,z=fw L:=⟨_,rfl⟩
  refine ⟨some (L,c),[0],by rw [show fy.args (some (L,c))=[.slice (some ⟨0,0,none⟩) n c] from by rw [hn]; rfl]; rfl,⟨by show L.length≤_; omega,bn⟩,?_⟩
  rw [show fy.ae (some (L,c))=[.flat false n 6 g] from by rw [hn,hg]; rfl,show fy.val (some (L,c))=.bool (!z) from by rw [hz]; rfl,show fy.new (some (L,c))=none from rfl]
  conv=>whnf
  refine ⟨aA.aM (fun h=>h) (fun r hr=>by rw [hg]; rfl),?_⟩
  conv=>whnf
  refine ⟨_,rfl,?_⟩
  conv=>whnf
  cases z with
  | true =>
   conv=>whnf
   exact fin 1 (MO (by omega) hz.symm)
  | false =>
   conv=>whnf
   have p5:fw L=false:=hz.symm
   have h0:=qX (L:=L) (k:=0) (by omega)
   have so:=bn _ (oj (L:=L) (k:=0) (by omega))
   have po:=jP (L:=L) (k:=0) (by omega)
   obtain ⟨o,ho⟩:∃ o,o=ja L 0:=⟨_,rfl⟩
   rw [← ho] at h0 so po
   rw [← hg] at h0
   have qo:=PV.dp so (by decide)
   have y8:g (Int.toNat 0)=o.cells:=h0
   refine .inl ⟨fun mm tz hz=>∃ (i:Nat),bE (some (.slice (some ⟨0,0,none⟩) n c)::aD 2 (some (.int .i64 n)::some (.int .i64 ((i+1:Nat):Int))::aD 79 [])) tz∧hz=[some (.flat false n 6 g)]∧n - i=mm∧(i+1≤n∧wO (ay L) i),.inr ⟨[0],[0,3,4],?_⟩,?_⟩
   ·conv=>whnf
    intro _
    conv=>whnf
    refine ⟨_,0,(.aa (.sk 2 (.aa (.aa (.sk 79 .nil rfl))) rfl)),rfl,rfl,?_⟩
    exact ⟨by omega,J4 _⟩
   rintro mm aT _ ⟨i,ar,rfl,rfl,⟨hi,hU⟩⟩
   obtain ⟨az,rfl⟩:∃ az:Nat→Value,aT=.slice (some ⟨0,0,none⟩) n c::zs az 1 2 (.int .i64 n::.int .i64 ((i+1:Nat):Int)::zs az 5 79 []):=bK ar
   clear ar
   conv=>whnf
   refine aL (fun h3=>?_) (fun h3=>?_)
   ·have h3:i+1 < n:=by
     have:=of_decide_eq_true h3
     omega
    have e7:IntKind.i64.wrap (((i+1:Nat):Int)+1)=((i+1+1:Nat):Int):=by rw [au (by omega) (by omega)]; rfl
    have ra:=qX (L:=L) (k:=i+1) (by omega)
    have sa:=bn _ (oj (L:=L) (k:=i+1) (by omega))
    have pa:=jP (L:=L) (k:=i+1) (by omega)
    obtain ⟨a,ha⟩:∃ o,o=ja L (i+1):=⟨_,rfl⟩
    rw [← ha] at ra sa pa
    rw [← hg] at ra
    have qa:=PV.dp sa (by decide)
    obtain ⟨k,hk⟩:∃ k,k=i+1:=⟨_,rfl⟩
    rw [← hk] at ra e7 h3 ⊢
    conv=>whnf
    refine .inl ⟨7,[[],[0],[0,1],[],[],[3,4],[3,4,5],[0,1,2,3,4,5,6],[0,1,2,3,4,5,6,7]],by kernel_rfl,?_⟩
    conv=>whnf
    refine ⟨⟨by omega,by omega⟩,?_⟩
    simp only [toNat_cast,aq,Nat.zero_add]
    conv=>whnf
    refine ⟨by show 0 < n; omega,?_⟩
    conv=>whnf
    rw [y8]
    conv=>whnf
    refine ⟨⟨by omega,by omega⟩,?_⟩
    simp only [toNat_cast,aq,Nat.zero_add]
    conv=>whnf
    refine ⟨by show k < n; omega,?_⟩
    conv=>whnf
    rw [ra]
    conv=>whnf
    obtain ⟨z,ez,pz⟩:=eJ (fL o.p a.p)
    refine ⟨(o,a),rfl,⟨PV.a8 so (by decide),PV.a8 sa (by decide)⟩,?_⟩
    rw [show oD.val (o,a)=.int .i64 z from ez]
    conv=>whnf
    rw [pa,po] at pz
    by_cases h4:iL (aE (ay L) 0) (aE (ay L) (i+1))
    ·have:=x6.2 h4
     rw [show decide (z ≥ 0)=false from decide_eq_false (by omega)]
     conv=>whnf
     rw [e7,hk]
     refine .inr ⟨[0],[0,3,4],?_⟩
     conv=>whnf
     intro _
     conv=>whnf
     refine ⟨_,?_,i+1,(.aa (.sk 2 (.aa (.aa (.sk 79 .nil rfl))) rfl)),rfl,rfl,?_⟩
     ·omega
     ·exact ⟨by omega,KH hU h4⟩
    ·have:¬ fL (aE (ay L) 0) (aE (ay L) (i+1)) < 0:=fun e=>h4 (x6.1 e)
     rw [show decide (z ≥ 0)=true from decide_eq_true (by omega)]
     conv=>whnf
     exact fin 8 (MP (by omega) p5 fun e=>h4 (e (i+1) (by omega) (by rw [b8]; omega)))
   ·have h3:i+1=n:=by
     have:=of_decide_eq_false h3
     omega
    have nL:=Lm hU (by rw [b8]; omega)
    have xr:3≤(ay L).length:=by rw [b8]; omega
    conv=>whnf
    skip
    refine .inl ⟨fun mm tz hz=>∃ (j:Nat),bE (some (.slice (some ⟨0,0,none⟩) n c)::aD 2 (some (.int .i64 n)::aD 1 (some (.int .i64 j)::aD 78 []))) tz∧hz=[some (.flat false n 6 g)]∧n - j=mm∧(j≤n∧∀ k,k < j→¬ ow (ay L) k),.inr ⟨[0],[0,3,5],?_⟩,?_⟩
    ·conv=>whnf
     intro _
     conv=>whnf
     refine ⟨_,0,(.aa (.sk 2 (.aa (.sk 1 (.aa (.sk 78 .nil rfl)) rfl)) rfl)),rfl,rfl,?_⟩
     exact ⟨Nat.zero_le _,fun k hk=>absurd hk (Nat.not_lt_zero k)⟩
    rintro mm aT _ ⟨j,ar,rfl,rfl,⟨hj,hB⟩⟩
    obtain ⟨az,rfl⟩:∃ az:Nat→Value,aT=.slice (some ⟨0,0,none⟩) n c::zs az 1 2 (.int .i64 n::zs az 4 1 (.int .i64 j::zs az 6 78 [])):=bK ar
    clear ar
    conv=>whnf
    refine aL (fun h3=>?_) (fun h3=>?_)
    ·have h3:j < n:=by
      have:=of_decide_eq_true h3
      omega
     have e7:IntKind.i64.wrap ((j:Int)+1)=((j+1:Nat):Int):=by rw [au (by omega) (by omega)]; rfl
     obtain ⟨a,b,ra,rb,⟨ma,mb⟩,_,cl,ha,hb⟩:=nm hn h3
     have sa:=bn a ma
     have sb:=bn b mb
     have qa:=PV.dp sa (by decide)
     have qb:=PV.dp sb (by decide)
     have OU:=c6 cl
     have rd:=qX (L:=L) (k:=bd n (bd n j)) (by omega)
     have sd:=bn _ (oj (L:=L) (k:=bd n (bd n j)) (by omega))
     have pd:=jP (L:=L) (k:=bd n (bd n j)) (by omega)
     obtain ⟨d,hd⟩:∃ o,o=ja L (bd n (bd n j)):=⟨_,rfl⟩
     rw [← hd] at rd sd pd
     have qd:=PV.dp sd (by decide)
     have pa:a.p=aE (ay L) j:=by rw [ha]; exact jP (by omega)
     have pb:b.p=aE (ay L) (bd n j):=by rw [hb]; exact jP (by omega)
     have cD:=jO h3 (by omega)
     have HH:=YM h3 (by omega)
     have gf:n=(ay L).length:=by rw [b8,hn]
     have y6:ow (ay L) j↔aw a.p b.p d.p≤0∨(0 < j∧j+1 < n∧aw (aE (ay L) 0) (aE (ay L) j) (aE (ay L) (j+1))≤0):=by
      unfold ow
      rw [← gf,pa,pb,pd]
     obtain ⟨u,hu⟩:∃ u,u=bd n j:=⟨_,rfl⟩
     rw [← hu] at cD cl rb OU HH rd
     obtain ⟨w,hw⟩:∃ w,w=bd n u:=⟨_,rfl⟩
     rw [← hw] at OU HH rd
     rw [← hg] at ra rb rd
     conv=>whnf
     refine .inl ⟨42,[[],[],[0,1],[0,1,2],[],[],[5],[],[5,6,7],[4,5,6,7,8],[4,5,6,7,8,9],[],[],[12],[],[12,13,14],[11,12,13,14,15],[11,12,13,14,15,16],[0,1,2,3,4,5,6,7,8,9,10,11,12,13,14,15,16,17],[0,1,2,3,4,5,6,7,8,9,10,11,12,13,14,15,16,17,18],[0,1,2,3,4,5,6,7,8,9,10,11,12,13,14,15,16,17,18,19],[0,1,2,3,4,5,6,7,8,9,10,11,12,13,14,15,16,17,18,19,20],[0,1,2,3,4,5,6,7,8,9,10,11,12,13,14,15,16,17,18,19,20,21],[0,1,2,3,4,5,6,7,8,9,10,11,12,13,14,15,16,17,18,19,20,21,22],[0,1,2,3,4,5,6,7,8,9,10,11,12,13,14,15,16,17,18,19,20,21,22,23],[0,1,2,3,4,5,6,7,8,9,10,11,12,13,14,15,16,17,18,19,20,21,22,23,24],[0,1,2,3,4,5,6,7,8,9,10,11,12,13,14,15,16,17,18,19,20,21,22,23],[0,1,2,3,4,5,6,7,8,9,10,11,12,13,14,15,16,17,18,19,20,21,22,23,24,25,26],[0,1,2,3,4,5,6,7,8,9,10,11,12,13,14,15,16,17,18,19,20,21,22,23,24,25,26,27],[0,1,2,3,4,5,6,7,8,9,10,11,12,13,14,15,16,17,18,19,20,21,22,23,24,25,26,27,28],[0,1,2,3,4,5,6,7,8,9,10,11,12,13,14,15,16,17,18,19,20,21,22,23,24,25,26,27,28,29],[0,1,2,3,4,5,6,7,8,9,10,11,12,13,14,15,16,17,18,19,20,21,22,23,24,25,26,27,28,29,30],[0,1,2,3,4,5,6,7,8,9,10,11,12,13,14,15,16,17,18,19,20,21,22,23,24,25,26,27,28,29,30,31],[0,1,2,3,4,5,6,7,8,9,10,11,12,13,14,15,16,17,18,19,20,21,22,23,24,25,26,27,28,29],[0,1,2,3,4,5,6,7,8,9,10,11,12,13,14,15,16,17,18,19,20,21,22,23,24,25,26,27,28,29],[0,1,2,3,4,5,6,7,8,9,10,11,12,13,14,15,16,17,18,19,20,21,22,23,24,25,26,27,28,29,33,34],[0,1,2,3,4,5,6,7,8,9,10,11,12,13,14,15,16,17,18,19,20,21,22,23,24,25,26,27,28,29,33,34,35],[0,1,2,3,4,5,6,7,8,9,10,11,12,13,14,15,16,17,18,19,20,21,22,23,24,25,26,27,28,29],[0,1,2,3,4,5,6,7,8,9,10,11,12,13,14,15,16,17,18,19,20,21,22,23,24,25,26,27,28,29],[0,1,2,3,4,5,6,7,8,9,10,11,12,13,14,15,16,17,18,19,20,21,22,23,24,25,26,27,28,29,38],[0,1,2,3,4,5,6,7,8,9,10,11,12,13,14,15,16,17,18,19,20,21,22,23,24,25,26,27,28,29,37,38,39],[0,1,2,3,4,5,6,7,8,9,10,11,12,13,14,15,16,17,18,19,20,21,22,23,24,25,26,27,28,29,37,38,39,40],[0,1,2,3,4,5,6,7,8,9,10,11,12,13,14,15,16,17,18,19,20,21,22,23,24,25,26,27,28,29,30,31,32,33,34,35,36,37,38,39,40,41],[0,1,2,3,4,5,6,7,8,9,10,11,12,13,14,15,16,17,18,19,20,21,22,23,24,25,26,27,28,29,30,31,32,33,34,35,36,37,38,39,40,41,42],[0,1,2,3,4,5,6,7,8,9,10,11,12,13,14,15,16,17,18,19,20,21,22,23,24,25,26,27,28,29,30,31,32,33,34,35,36,37,38,39,40,41,42,43],[0,1,2,3,4,5,6,7,8,9,10,11,12,13,14,15,16,17,18,19,20,21,22,23,24,25,26,27,28,29,30,31,32,33,34,35,36,37,38,39,40,41,42,43,44]],by kernel_rfl,?_⟩
     conv=>whnf
     refine ⟨⟨by omega,by omega⟩,?_⟩
     simp only [toNat_cast,aq,Nat.zero_add]
     conv=>whnf
     refine ⟨by show j < n; omega,?_⟩
     conv=>whnf
     rw [ra]
     conv=>whnf
     rw [show decide ((n:Int)≠0)=true from decide_eq_true (by omega)]
     conv=>whnf
     rw [cD]
     refine ⟨⟨by omega,by omega⟩,?_⟩
     simp only [toNat_cast,aq,Nat.zero_add]
     conv=>whnf
     refine ⟨by show u < n; omega,?_⟩
     conv=>whnf
     rw [rb]
     conv=>whnf
     rw [show decide ((n:Int)≠0)=true from decide_eq_true (by omega)]
     conv=>whnf
     rw [HH]
     refine ⟨⟨by omega,by omega⟩,?_⟩
     simp only [toNat_cast,aq,Nat.zero_add]
     conv=>whnf
     refine ⟨by show w < n; omega,?_⟩
     conv=>whnf
     rw [rd]
     conv=>whnf
     obtain ⟨z,ez,pz⟩:=eJ (aY (aw a.p b.p d.p) 0)
     refine ⟨(a,b,d),rfl,⟨PV.a8 sa (by decide),PV.a8 sb (by decide),PV.a8 sd (by decide)⟩,?_⟩
     rw [show lZ.val (a,b,d)=.int .i64 z from ez]
     conv=>whnf
     have cz:z≤0↔aw a.p b.p d.p≤0:=by rw [pz]; exact FI
     by_cases h4:z≤0
     ·rw [show decide (z≤0)=true from decide_eq_true h4]
      conv=>whnf
      exact fin 15 (FN (by omega) p5 nL fun e=>(xW xr nL).1 e j (by rw [b8]; omega) (y6.2 (.inl (cz.1 h4))))
     ·rw [show decide (z≤0)=false from decide_eq_false h4]
      have next:¬ ow (ay L) j→∀ k,k < j+1→¬ ow (ay L) k:=fun hb k hk=>by
       rcases Nat.lt_or_eq_of_le (Nat.le_of_lt_succ hk) with e | e
       ·exact hB k e
       ·rw [e]; exact hb
      conv=>whnf
      by_cases h5:0 < j
      ·rw [show decide ((j:Int) > 0)=true from decide_eq_true (by omega)]
       conv=>whnf
       rw [e7]
       by_cases h6:j+1 < n
       ·rw [show decide (((j+1:Nat):Int) < (n:Int))=true from decide_eq_true (by omega)]
        have rv:=qX (L:=L) (k:=j+1) (by omega)
        have sv:=bn _ (oj (L:=L) (k:=j+1) (by omega))
        have pv:=jP (L:=L) (k:=j+1) (by omega)
        obtain ⟨v,hv⟩:∃ o,o=ja L (j+1):=⟨_,rfl⟩
        rw [← hv] at rv sv pv
        rw [← hg] at rv
        have qv:=PV.dp sv (by decide)
        obtain ⟨k,hk⟩:∃ k,k=j+1:=⟨_,rfl⟩
        rw [← hk] at rv
        conv=>whnf
        refine ⟨⟨by omega,by omega⟩,?_⟩
        simp only [toNat_cast,aq,Nat.zero_add]
        conv=>whnf
        refine ⟨by show 0 < n; omega,?_⟩
        conv=>whnf
        rw [y8]
        conv=>whnf
        refine ⟨⟨by omega,by omega⟩,?_⟩
        simp only [toNat_cast,aq,Nat.zero_add]
        conv=>whnf
        refine ⟨by show j < n; omega,?_⟩
        conv=>whnf
        rw [ra]
        conv=>whnf
        rw [e7,← hk]
        refine ⟨⟨by omega,by omega⟩,?_⟩
        simp only [toNat_cast,aq,Nat.zero_add]
        conv=>whnf
        refine ⟨by show k < n; omega,?_⟩
        conv=>whnf
        rw [rv]
        conv=>whnf
        obtain ⟨y,ey,py⟩:=eJ (aY (aw o.p a.p v.p) 0)
        refine ⟨(o,a,v),rfl,⟨PV.a8 so (by decide),PV.a8 sa (by decide),PV.a8 sv (by decide)⟩,?_⟩
        rw [show lZ.val (o,a,v)=.int .i64 y from ey]
        conv=>whnf
        have cy:y≤0↔aw o.p a.p v.p≤0:=by rw [py]; exact FI
        rw [pa,po,pv] at cy
        by_cases h7:y≤0
        ·rw [show decide (y≤0)=true from decide_eq_true h7]
         conv=>whnf
         exact fin 15 (FN (by omega) p5 nL fun e=>(xW xr nL).1 e j (by rw [b8]; omega) (y6.2 (.inr ⟨h5,h6,cy.1 h7⟩)))
        ·rw [show decide (y≤0)=false from decide_eq_false h7]
         conv=>whnf
         rw [e7]
         refine .inr ⟨[0],[0,3,5],?_⟩
         conv=>whnf
         intro _
         conv=>whnf
         refine ⟨_,?_,j+1,(.aa (.sk 2 (.aa (.sk 1 (.aa (.sk 78 .nil rfl)) rfl)) rfl)),rfl,rfl,?_⟩
         ·omega
         ·exact ⟨by omega,next fun e=>(y6.1 e).elim (fun e=>h4 (cz.2 e)) fun e=>h7 (cy.2 e.2.2)⟩
       ·rw [show decide (((j+1:Nat):Int) < (n:Int))=false from decide_eq_false (by omega)]
        conv=>whnf
        rw [e7]
        refine .inr ⟨[0],[0,3,5],?_⟩
        conv=>whnf
        intro _
        conv=>whnf
        refine ⟨_,?_,j+1,(.aa (.sk 2 (.aa (.sk 1 (.aa (.sk 78 .nil rfl)) rfl)) rfl)),rfl,rfl,?_⟩
        ·omega
        ·exact ⟨by omega,next fun e=>(y6.1 e).elim (fun e=>h4 (cz.2 e)) fun e=>h6 e.2.1⟩
      ·rw [show decide ((j:Int) > 0)=false from decide_eq_false (by omega)]
       conv=>whnf
       rw [e7]
       refine .inr ⟨[0],[0,3,5],?_⟩
       conv=>whnf
       intro _
       conv=>whnf
       refine ⟨_,?_,j+1,(.aa (.sk 2 (.aa (.sk 1 (.aa (.sk 78 .nil rfl)) rfl)) rfl)),rfl,rfl,?_⟩
       ·omega
       ·exact ⟨by omega,next fun e=>(y6.1 e).elim (fun e=>h4 (cz.2 e)) fun e=>h5 e.1⟩
    ·have h3:j=n:=by
      have:=of_decide_eq_false h3
      omega
     subst h3
     conv=>whnf
     exact fin 0 (L8 (by omega) p5 nL ((xW xr nL).2 fun k hk=>hB k (by rw [b8] at hk; omega)))
def Er3:Env:=En [(77,.p lZ)]
theorem GY:EnvOk Tryz.prog Er3:=bL ⟨KN,trivial⟩ trivial
theorem TM:cZ Tryz.prog 69 rC:=by
 refine dt GY aO Tryz.func69 (enters_of Tryz.func69 (by kernel_rfl) rfl) ?_ ?_ ?_
 ·intro ⟨i,_⟩ b hb
  cases i with
  | none=>simp [rC,PL.ae] at hb
  | some i=>simp [rC,PL.ae] at hb; rw [hb]; rfl
 ·intro i b hb; simp [rC] at hb
 intro ⟨i,p⟩ hp
 have hp:(i.list.length≤1099511627776∧∀ v∈i.list,v.sz 2048)∧p.sz 2048:=hp
 obtain ⟨⟨hlen,bn⟩,sp⟩:=hp
 have qp:=PV.dp sp (by decide)
 cases i with
 | none =>
  conv=>whnf
  refine .inr ⟨1,?_⟩
  conv=>whnf
  exact ⟨.int .i64 1,rfl,.refl _⟩
 | some i =>
  obtain ⟨L,c⟩:=i
  have hlen:L.length≤1099511627776:=hlen
  have bn:∀ v∈L,PV.sz 2048 v:=bn
  obtain ⟨n,hn⟩:∃ n,n=L.length:=⟨_,rfl⟩
  obtain ⟨g,hg⟩:∃ g,g=bS L:=⟨_,rfl⟩
  have fin:∀ z:Int,z=GP (ay L) p.p→∃ v',cP (List.range 1) 3 (rC.val (some (L,c),p))=some v'∧dT (.int .i64 z) v':=fun z h=>⟨.int .i64 z,by rw [h]; rfl,.refl _⟩
  rw [show rC.ae (some (L,c),p)=[.flat false n 6 g] from by rw [hn,hg]; rfl,show rC.args (some (L,c),p)=[.slice (some ⟨0,0,none⟩) n c,p.v] from by rw [hn]; rfl]
  rw [← hn] at hlen
  conv=>whnf
  refine .inl ⟨fun mm tz hz=>∃ (j:Nat) (o:Int),bE (some (.slice (some ⟨0,0,none⟩) n c)::aD 2 (some (.pointer (some ⟨1,0,none⟩))::aD 1 (some (.int .i64 o)::some (.int .i64 j)::aD 23 []))) tz∧hz=[some (.flat false n 6 g),some (.aQ true 6 [p.cells])]∧n - j=mm∧(j≤n∧o=tJ (ay L) p.p j),.inr ⟨[0,1],[0,3,5,6],?_⟩,?_⟩
  ·conv=>whnf
   intro _
   conv=>whnf
   refine ⟨_,0,1,(.aa (.sk 2 (.aa (.sk 1 (.aa (.aa (.sk 23 .nil rfl))) rfl)) rfl)),rfl,rfl,?_⟩
   exact ⟨Nat.zero_le _,rfl⟩
  rintro mm aT _ ⟨j,o,ar,rfl,rfl,⟨hj,ho⟩⟩
  obtain ⟨az,rfl⟩:∃ az:Nat→Value,aT=.slice (some ⟨0,0,none⟩) n c::zs az 1 2 (.pointer (some ⟨1,0,none⟩)::zs az 4 1 (.int .i64 o::.int .i64 j::zs az 7 23 [])):=bK ar
  clear ar
  conv=>whnf
  refine aL (fun h3=>?_) (fun h3=>?_)
  ·have h3:j < n:=by
    have:=of_decide_eq_true h3
    omega
   have e7:IntKind.i64.wrap ((j:Int)+1)=((j+1:Nat):Int):=by rw [au (by omega) (by omega)]; rfl
   obtain ⟨a,b,ra,rb,⟨ma,mb⟩,e9,cl,_,_⟩:=nm hn h3
   have sa:=bn a ma
   have sb:=bn b mb
   have qa:=PV.dp sa (by decide)
   have qb:=PV.dp sb (by decide)
   have cD:=jO h3 (by omega)
   obtain ⟨u,hu⟩:∃ u,u=bd n j:=⟨_,rfl⟩
   rw [← hu] at cD cl rb
   rw [← hg] at ra rb
   have ao:=Re (p:=p.p) e9
   rw [← ho] at ao
   conv=>whnf
   refine .inl ⟨15,[[],[],[],[1,2],[1,2,3],[],[],[6],[],[8],[6,7,8,9],[5,6,7,8,9,10],[5,6,7,8,9,10,11],[],[1,2,3,4,5,6,7,8,9,10,11,12,13],[0,1,2,3,4,5,6,7,8,9,10,11,12,13,14],[0,1,2,3,4,5,6,7,8,9,10,11,12,13,14,15]],by kernel_rfl,?_⟩
   conv=>whnf
   refine ⟨⟨by omega,by omega⟩,?_⟩
   simp only [toNat_cast,aq,Nat.zero_add]
   conv=>whnf
   refine ⟨by show j < n; omega,?_⟩
   conv=>whnf
   rw [ra]
   conv=>whnf
   rw [show decide ((n:Int)≠0)=true from decide_eq_true (by omega)]
   conv=>whnf
   rw [cD]
   refine ⟨⟨by omega,by omega⟩,?_⟩
   simp only [toNat_cast,aq,Nat.zero_add]
   conv=>whnf
   refine ⟨by show u < n; omega,?_⟩
   conv=>whnf
   rw [rb]
   conv=>whnf
   obtain ⟨z,ez,pz⟩:=eJ (aY (aw a.p b.p p.p) 0)
   refine ⟨(a,b,p),rfl,⟨PV.a8 sa (by decide),PV.a8 sb (by decide),PV.a8 sp (by decide)⟩,?_⟩
   rw [show lZ.val (a,b,p)=.int .i64 z from ez]
   conv=>whnf
   rw [← pz] at ao
   rw [e7]
   refine .inr ⟨[0,1],[0,3,5,6],?_⟩
   conv=>whnf
   intro _
   conv=>whnf
   refine ⟨_,?_,j+1,if z < o then z else o,(.aa (.sk 2 (.aa (.sk 1 (.aa (.aa (.sk 23 .nil rfl))) rfl)) rfl)),rfl,rfl,?_⟩
   ·omega
   ·exact ⟨by omega,ao.symm⟩
  ·have h3:j=n:=by
    have:=of_decide_eq_false h3
    omega
   subst h3
   conv=>whnf
   exact fin o (ho.trans (by rw [hn]; exact Sf))
end Go.Proofs.YtlapbjdhekcipaaGreat
/- Contracts of the reference of convex: sizes, pairs of rings. -/
set_option maxRecDepth 20000
set_option maxHeartbeats 4000000
namespace Go.Proofs.YtlapbjdhekcipaaGreat
open Go Go.Ae
theorem aaq:bm Tryz.prog 79 r8:=by
 refine bt GY aO Tryz.func79 (enters_of Tryz.func79 (by kernel_rfl) rfl) (fun _=>rfl) (fun _=>rfl) ?_
 intro ⟨⟨n1,a1,b1⟩,⟨n2,a2,b2⟩⟩ _
 have zF:∀ x:ByteArray,12 < x.size→decide ((x.size:Int) > 12)=true:=fun x h=>decide_eq_true (by omega)
 have small:∀ x:ByteArray,¬ 12 < x.size→decide ((x.size:Int) > 12)=false:=fun x h=>decide_eq_false (by omega)
 conv=>whnf
 by_cases h1:12 < a1.size
 ·rw [zF _ h1]
  conv=>whnf
  exact Bl (by omega)
 rw [small _ h1]
 conv=>whnf
 by_cases J:12 < b1.size
 ·rw [zF _ J]
  conv=>whnf
  exact Bl (by omega)
 rw [small _ J]
 conv=>whnf
 by_cases h3:12 < a2.size
 ·rw [zF _ h3]
  conv=>whnf
  exact Bl (by omega)
 rw [small _ h3]
 conv=>whnf
 by_cases h4:12 < b2.size
 ·rw [zF _ h4]
  exact Bl (by omega)
 rw [small _ h4]
 exact YQ (by omega)
def Es1:Env:=En [(79,.p r8)]
theorem abR:EnvOk Tryz.prog Es1:=bL ⟨aaq,trivial⟩ trivial
theorem SB:cZ Tryz.prog 53 dg:=by
 refine dt abR aO Tryz.func53 (enters_of Tryz.func53 (by kernel_rfl) rfl) ?_ ?_ ?_
 ·intro i b hb
  cases i with
  | none=>simp [dg,PL.ae] at hb
  | some i=>simp [dg,PL.ae] at hb; rw [hb]; rfl
 ·intro i b hb; simp [dg] at hb
 intro i hp
 have hp:i.list.length≤9223372036854775807:=hp
 cases i with
 | none =>
  conv=>whnf
  refine .inr ⟨1,?_⟩
  conv=>whnf
  exact ⟨.bool false,rfl,.refl _⟩
 | some i =>
  obtain ⟨L,c⟩:=i
  have hlen:L.length≤9223372036854775807:=hp
  obtain ⟨n,hn⟩:∃ n,n=L.length:=⟨_,rfl⟩
  obtain ⟨g,hg⟩:∃ g,g=bS L:=⟨_,rfl⟩
  have fin:∀ z:Bool,jm L=z→∃ v',cP (List.range 1) 3 (dg.val (some (L,c)))=some v'∧dT (.bool z) v':=fun z h=>⟨.bool z,by rw [← h]; rfl,.refl _⟩
  rw [show dg.ae (some (L,c))=[.flat false n 6 g] from by rw [hn,hg]; rfl,show dg.args (some (L,c))=[.slice (some ⟨0,0,none⟩) n c] from by rw [hn]; rfl]
  rw [← hn] at hlen
  conv=>whnf
  by_cases J:66 < n
  ·rw [show decide ((n:Int) > 10)=true from decide_eq_true (by omega)]
   conv=>whnf
   rw [show decide ((n:Int) < 63)=false from decide_eq_false (by omega)]
   conv=>whnf
   rw [show decide ((n:Int) > 66)=true from decide_eq_true (by omega)]
   conv=>whnf
   exact fin true (KI (.inr (by omega)))
  by_cases h1:10 < n∧n < 63
  ·rw [show decide ((n:Int) > 10)=true from decide_eq_true (by omega)]
   conv=>whnf
   rw [show decide ((n:Int) < 63)=true from decide_eq_true (by omega)]
   conv=>whnf
   exact fin true (KI (.inl (by omega)))
  have acX:=Si (L:=L) (by omega)
  have fin:=fun (z:Bool) (h:tI 12 L=z)=>fin z (acX.trans h)
  by_cases h3:10 < n
  ·rw [show decide ((n:Int) > 10)=true from decide_eq_true (by omega)]
   conv=>whnf
   rw [show decide ((n:Int) < 63)=false from decide_eq_false (by omega)]
   conv=>whnf
   rw [show decide ((n:Int) > 66)=false from decide_eq_false (by omega)]
   conv=>whnf
   refine .inl ⟨fun mm tz hz=>∃ (i:Nat),bE (some (.slice (some ⟨0,0,none⟩) n c)::aD 2 (some (.int .i64 i)::aD 24 [])) tz∧hz=[some (.flat false n 6 g)]∧n - i=mm∧(i≤n∧tx 12 L i),.inr ⟨[0],[0,3],?_⟩,?_⟩
   ·conv=>whnf
    intro _
    conv=>whnf
    refine ⟨_,0,(.aa (.sk 2 (.aa (.sk 24 .nil rfl)) rfl)),rfl,rfl,?_⟩
    exact ⟨Nat.zero_le _,Jn _ _⟩
   rintro mm aT _ ⟨i,ar,rfl,rfl,⟨hi,hU⟩⟩
   obtain ⟨az,rfl⟩:∃ az:Nat→Value,aT=.slice (some ⟨0,0,none⟩) n c::zs az 1 2 (.int .i64 i::zs az 4 24 []):=bK ar
   clear ar
   conv=>whnf
   refine aL (fun h3=>?_) (fun h3=>?_)
   ·have h3:i < n:=by
     have:=of_decide_eq_true h3
     omega
    have e7:IntKind.i64.wrap ((i:Int)+1)=((i+1:Nat):Int):=by rw [au (by omega) (by omega)]; rfl
    obtain ⟨m,kQ,mC,a9⟩:=qU (l:=L) (i:=i) (by omega)
    rw [← hg] at a9
    conv=>whnf
    refine ⟨⟨by omega,by omega⟩,?_⟩
    simp only [toNat_cast,aq,Nat.zero_add]
    conv=>whnf
    refine ⟨by show i < n; omega,?_⟩
    conv=>whnf
    rw [a9]
    conv=>whnf
    refine ⟨m,rfl,trivial,?_⟩
    by_cases h4:m.sz 12
    ·rw [show r8.val m=.bool false from congrArg Value.bool (decide_eq_false fun e=>e h4)]
     conv=>whnf
     rw [e7]
     refine .inr ⟨[0],[0,3],?_⟩
     conv=>whnf
     intro _
     conv=>whnf
     refine ⟨_,?_,i+1,(.aa (.sk 2 (.aa (.sk 24 .nil rfl)) rfl)),rfl,rfl,?_⟩
     ·omega
     ·exact ⟨by omega,JD hU kQ h4⟩
    ·rw [show r8.val m=.bool true from congrArg Value.bool (decide_eq_true h4)]
     conv=>whnf
     exact fin true (Dz mC h4)
   ·have h3:i=n:=by
     have:=of_decide_eq_false h3
     omega
    subst h3
    conv=>whnf
    exact fin false (J0 (by rw [← hn]; exact hU))
  ·rw [show decide ((n:Int) > 10)=false from decide_eq_false (by omega)]
   conv=>whnf
   rw [show decide ((n:Int) > 66)=false from decide_eq_false (by omega)]
   conv=>whnf
   refine .inl ⟨fun mm tz hz=>∃ (i:Nat),bE (some (.slice (some ⟨0,0,none⟩) n c)::aD 2 (some (.int .i64 i)::aD 24 [])) tz∧hz=[some (.flat false n 6 g)]∧n - i=mm∧(i≤n∧tx 12 L i),.inr ⟨[0],[0,3],?_⟩,?_⟩
   ·conv=>whnf
    intro _
    conv=>whnf
    refine ⟨_,0,(.aa (.sk 2 (.aa (.sk 24 .nil rfl)) rfl)),rfl,rfl,?_⟩
    exact ⟨Nat.zero_le _,Jn _ _⟩
   rintro mm aT _ ⟨i,ar,rfl,rfl,⟨hi,hU⟩⟩
   obtain ⟨az,rfl⟩:∃ az:Nat→Value,aT=.slice (some ⟨0,0,none⟩) n c::zs az 1 2 (.int .i64 i::zs az 4 24 []):=bK ar
   clear ar
   conv=>whnf
   refine aL (fun h3=>?_) (fun h3=>?_)
   ·have h3:i < n:=by
     have:=of_decide_eq_true h3
     omega
    have e7:IntKind.i64.wrap ((i:Int)+1)=((i+1:Nat):Int):=by rw [au (by omega) (by omega)]; rfl
    obtain ⟨m,kQ,mC,a9⟩:=qU (l:=L) (i:=i) (by omega)
    rw [← hg] at a9
    conv=>whnf
    refine ⟨⟨by omega,by omega⟩,?_⟩
    simp only [toNat_cast,aq,Nat.zero_add]
    conv=>whnf
    refine ⟨by show i < n; omega,?_⟩
    conv=>whnf
    rw [a9]
    conv=>whnf
    refine ⟨m,rfl,trivial,?_⟩
    by_cases h4:m.sz 12
    ·rw [show r8.val m=.bool false from congrArg Value.bool (decide_eq_false fun e=>e h4)]
     conv=>whnf
     rw [e7]
     refine .inr ⟨[0],[0,3],?_⟩
     conv=>whnf
     intro _
     conv=>whnf
     refine ⟨_,?_,i+1,(.aa (.sk 2 (.aa (.sk 24 .nil rfl)) rfl)),rfl,rfl,?_⟩
     ·omega
     ·exact ⟨by omega,JD hU kQ h4⟩
    ·rw [show r8.val m=.bool true from congrArg Value.bool (decide_eq_true h4)]
     conv=>whnf
     exact fin true (Dz mC h4)
   ·have h3:i=n:=by
     have:=of_decide_eq_false h3
     omega
    subst h3
    conv=>whnf
    exact fin false (J0 (by rw [← hn]; exact hU))
def Es2:Env:=En [(24,.q aU),(68,.p kA),(69,.q rC)]
theorem abS:EnvOk Tryz.prog Es2:=bL ⟨SA,KM,TM,trivial⟩ trivial
theorem Vo:cZ Tryz.prog 65 cM:=by
 refine dt abS aO Tryz.func65 (enters_of Tryz.func65 (by kernel_rfl) rfl) ?_ ?_ ?_
 ·intro ⟨i,k⟩ B hb
  cases i <;> cases k <;> simp [cM,PL.ae] at hb
  ·rw [hb]; rfl
  ·rw [hb]; rfl
  ·rcases hb with rfl | rfl <;> rfl
 ·intro i b hb; simp [cM] at hb
 intro ⟨i,k⟩ hp
 have hp:(i.list.length≤1099511627776∧∀ v∈i.list,v.sz 2048)∧k.list.length≤1099511627776∧∀ v∈k.list,v.sz 2048:=hp
 obtain ⟨⟨cW,cC⟩,dh,cA⟩:=hp
 cases i with
 | none =>
  cases k with
  | none =>
   conv=>whnf
   refine ⟨none,[],rfl,⟨Nat.zero_le _,fun v hv=>nomatch hv⟩,?_⟩
   rw [show aU.ae none=[] from rfl,show aU.val none=.int .i64 4 from rfl,show aU.new none=none from rfl]
   conv=>whnf
   refine ⟨_,rfl,?_⟩
   conv=>whnf
   exact ⟨_,rfl,.refl _⟩
  | some k =>
   conv=>whnf
   refine ⟨none,[],rfl,⟨Nat.zero_le _,fun v hv=>nomatch hv⟩,?_⟩
   rw [show aU.ae none=[] from rfl,show aU.val none=.int .i64 4 from rfl,show aU.new none=none from rfl]
   conv=>whnf
   refine ⟨_,rfl,?_⟩
   conv=>whnf
   exact ⟨.bool false,congrArg (fun z=>some (Value.bool z)) (decide_eq_false fun e=>by have:=e.1; cases this),.refl _⟩
 | some i =>
  obtain ⟨A,c⟩:=i
  have cW:A.length≤1099511627776:=cW
  have cC:∀ v∈A,PV.sz 2048 v:=cC
  obtain ⟨na,aV⟩:∃ n,n=A.length:=⟨_,rfl⟩
  obtain ⟨ga,bo⟩:∃ g,g=bS A:=⟨_,rfl⟩
  have fin:∀ (k:PL) (B:List PV) (z:Bool) (n:Nat),k.list=B→z=decide (aW A=0∧aW B=0)→∃ v',cP (List.range n) 3 (cM.val (some (A,c),k))=some v'∧dT (.bool z) v':=fun k B z n hk h=>⟨.bool z,by
   subst hk
   rw [h]; rfl,.refl _⟩
  cases k with
  | none =>
   rw [show cM.ae (some (A,c),none)=[.flat false na 6 ga] from by rw [aV,bo]; rfl,show cM.args (some (A,c),none)=[.slice (some ⟨0,0,none⟩) na c,.slice none 0 0] from by rw [aV]; rfl]
   rw [← aV] at cW
   conv=>whnf
   refine ⟨some (A,c),[0],by rw [show aU.args (some (A,c))=[.slice (some ⟨0,0,none⟩) na c] from by rw [aV]; rfl]; rfl,⟨by show A.length≤_; omega,cC⟩,?_⟩
   rw [show aU.ae (some (A,c))=[.flat false na 6 ga] from by rw [aV,bo]; rfl,show aU.val (some (A,c))=.int .i64 (aW A) from rfl,show aU.new (some (A,c))=none from rfl]
   conv=>whnf
   refine ⟨aA.aM (fun h=>h) (fun r hr=>by rw [bo]; rfl),?_⟩
   conv=>whnf
   refine ⟨_,rfl,?_⟩
   obtain ⟨e,he⟩:∃ z,z=aW A:=⟨_,rfl⟩
   rw [← he]
   conv=>whnf
   by_cases h1:e=0
   ·rw [show (e == 0)=true from by simp [h1]]
    conv=>whnf
    refine ⟨none,[],rfl,⟨Nat.zero_le _,fun v hv=>nomatch hv⟩,?_⟩
    rw [show aU.ae none=[] from rfl,show aU.val none=.int .i64 4 from rfl,show aU.new none=none from rfl]
    conv=>whnf
    refine ⟨_,rfl,?_⟩
    conv=>whnf
    exact fin none [] false 1 rfl (decide_eq_false fun e=>by have:=e.2; cases this).symm
   ·rw [show (e == 0)=false from by simp [h1]]
    conv=>whnf
    exact fin none [] false 1 rfl (decide_eq_false fun e=>by have:=e.2; cases this).symm
  | some k =>
   obtain ⟨B,d⟩:=k
   have dh:B.length≤1099511627776:=dh
   have cA:∀ v∈B,PV.sz 2048 v:=cA
   obtain ⟨nb,aZ⟩:∃ n,n=B.length:=⟨_,rfl⟩
   obtain ⟨gb,bA⟩:∃ g,g=bS B:=⟨_,rfl⟩
   rw [show cM.ae (some (A,c),some (B,d))=[.flat false na 6 ga,.flat false nb 6 gb] from by rw [aV,bo,aZ,bA]; rfl,show cM.args (some (A,c),some (B,d))=[.slice (some ⟨0,0,none⟩) na c,.slice (some ⟨1,0,none⟩) nb d] from by rw [aV,aZ]; rfl]
   rw [← aV] at cW
   rw [← aZ] at dh
   have fin:=fun (z:Bool)=>fin (some (B,d)) B z 2 rfl
   conv=>whnf
   refine ⟨some (A,c),[0],by rw [show aU.args (some (A,c))=[.slice (some ⟨0,0,none⟩) na c] from by rw [aV]; rfl]; rfl,⟨by show A.length≤_; omega,cC⟩,?_⟩
   rw [show aU.ae (some (A,c))=[.flat false na 6 ga] from by rw [aV,bo]; rfl,show aU.val (some (A,c))=.int .i64 (aW A) from rfl,show aU.new (some (A,c))=none from rfl]
   conv=>whnf
   refine ⟨aA.aM (fun h=>h) (fun r hr=>by rw [bo]; rfl),?_⟩
   conv=>whnf
   refine ⟨_,rfl,?_⟩
   obtain ⟨e,he⟩:∃ z,z=aW A:=⟨_,rfl⟩
   rw [← he]
   conv=>whnf
   by_cases h1:e=0
   ·rw [show (e == 0)=true from by simp [h1]]
    conv=>whnf
    refine ⟨some (B,d),[1],by rw [show aU.args (some (B,d))=[.slice (some ⟨0,0,none⟩) nb d] from by rw [aZ]; rfl]; rfl,⟨by show B.length≤_; omega,cA⟩,?_⟩
    rw [show aU.ae (some (B,d))=[.flat false nb 6 gb] from by rw [aZ,bA]; rfl,show aU.val (some (B,d))=.int .i64 (aW B) from rfl,show aU.new (some (B,d))=none from rfl]
    conv=>whnf
    refine ⟨aA.aM (fun h=>h) (fun r hr=>by rw [bA]; rfl),?_⟩
    conv=>whnf
    refine ⟨_,rfl,?_⟩
    obtain ⟨e2,bX⟩:∃ z,z=aW B:=⟨_,rfl⟩
    rw [← bX]
    conv=>whnf
    refine fin _ ?_
    rw [← he,← bX]
    by_cases J:e2=0
    ·rw [show (e2 == 0)=true from by simp [J],decide_eq_true ⟨h1,J⟩]; rfl
    ·rw [show (e2 == 0)=false from by simp [J],decide_eq_false fun e=>J e.2]; rfl
   ·rw [show (e == 0)=false from by simp [h1]]
    conv=>whnf
    exact fin false (decide_eq_false fun h=>h1 (by rw [he]; exact h.1)).symm
end Go.Proofs.YtlapbjdhekcipaaGreat
/- Contracts of the reference of convex: the part of a segment. -/
set_option maxRecDepth 20000
set_option maxHeartbeats 4000000
namespace Go.Proofs.YtlapbjdhekcipaaGreat
open Go Go.Ae
end Go.Proofs.YtlapbjdhekcipaaGreat
/- Contracts of the reference of convex: separating edges. -/
set_option maxRecDepth 20000
set_option maxHeartbeats 4000000
namespace Go.Proofs.YtlapbjdhekcipaaGreat
open Go Go.Ae
theorem M3:cZ Tryz.prog 104 eK:=by
 refine dt GY aO Tryz.func104 (enters_of Tryz.func104 (by kernel_rfl) rfl) ?_ ?_ ?_
 ·intro i b hb; simp [eK] at hb; rcases hb with rfl | rfl <;> rfl
 ·intro i b hb; simp [eK] at hb
 intro ⟨⟨⟨A,c⟩,⟨B,d⟩⟩,s⟩ hp
 have hp:(A.length≤1099511627776∧∀ v∈A,PV.sz 2048 v)∧B.length≤1099511627776∧∀ v∈B,PV.sz 2048 v:=hp
 obtain ⟨⟨Dc,n7⟩,Dd,qM⟩:=hp
 obtain ⟨n,hn⟩:∃ n,n=A.length:=⟨_,rfl⟩
 obtain ⟨g,hg⟩:∃ g,g=bS A:=⟨_,rfl⟩
 obtain ⟨m,hm⟩:∃ n,n=B.length:=⟨_,rfl⟩
 obtain ⟨g2,kR⟩:∃ g,g=bS B:=⟨_,rfl⟩
 have fin:∀ z:Int,z=jt s (ay A) (ay B)→∃ v',cP (List.range 2) 3 (eK.val (((A,c),(B,d)),s))=some v'∧dT (.int .i64 z) v':=fun z h=>⟨.int .i64 z,by rw [h]; rfl,.refl _⟩
 rw [show eK.ae (((A,c),(B,d)),s)=[.flat false n 6 g,.flat false m 6 g2] from by rw [hn,hg,hm,kR]; rfl,show eK.args (((A,c),(B,d)),s)=[.slice (some ⟨0,0,none⟩) n c,.slice (some ⟨1,0,none⟩) m d,.bool s] from by rw [hn,hm]; rfl]
 rw [← hn] at Dc
 rw [← hm] at Dd
 conv=>whnf
 refine .inl ⟨fun mm tz hz=>∃ (j:Nat),bE (some (.slice (some ⟨0,0,none⟩) n c)::some (.slice (some ⟨1,0,none⟩) m d)::some (.bool s)::aD 4 (some (.int .i64 j)::aD 43 [])) tz∧hz=[some (.flat false n 6 g),some (.flat false m 6 g2)]∧n - j=mm∧(j≤n∧kY (fp s (ay B)) (aX (ay A)) j),.inr ⟨[0,1],[0,1,2,7],?_⟩,?_⟩
 ·conv=>whnf
  intro _
  conv=>whnf
  refine ⟨_,0,(.aa (.aa (.aa (.sk 4 (.aa (.sk 43 .nil rfl)) rfl)))),rfl,rfl,?_⟩
  exact ⟨Nat.zero_le _,Ah _ _⟩
 rintro mm aT _ ⟨j,ar,rfl,rfl,⟨hj,hU⟩⟩
 obtain ⟨az,rfl⟩:∃ az:Nat→Value,aT=.slice (some ⟨0,0,none⟩) n c::.slice (some ⟨1,0,none⟩) m d::.bool s::zs az 3 4 (.int .i64 j::zs az 8 43 []):=bK ar
 clear ar
 conv=>whnf
 refine aL (fun h3=>?_) (fun h3=>?_)
 ·have h3:j < n:=by
   have:=of_decide_eq_true h3
   omega
  have e7:IntKind.i64.wrap ((j:Int)+1)=((j+1:Nat):Int):=by rw [au (by omega) (by omega)]; rfl
  obtain ⟨a,b,ra,rb,⟨ma,mb⟩,e9,cl,_,_⟩:=nm hn h3
  have sa:=n7 a ma
  have sb:=n7 b mb
  have qa:=PV.dp sa (by decide)
  have qb:=PV.dp sb (by decide)
  have cD:=jO h3 (by omega)
  obtain ⟨u,hu⟩:∃ u,u=bd n j:=⟨_,rfl⟩
  rw [← hu] at cD cl rb
  rw [← hg] at ra rb
  conv=>whnf
  refine .inl ⟨fun mm tz hz=>∃ (i:Nat) (o:Int),bE (some (.slice (some ⟨0,0,none⟩) n c)::some (.slice (some ⟨1,0,none⟩) m d)::some (.bool s)::aD 4 (some (.int .i64 j)::some (.int .i64 o)::some (.int .i64 i)::aD 41 [])) tz∧hz=[some (.flat false n 6 g),some (.flat false m 6 g2)]∧m - i=mm∧(i≤m∧o=rP a.p b.p (ay B) i),.inr ⟨[0,1],[0,1,2,7,8,9],?_⟩,?_⟩
  ·conv=>whnf
   intro _
   conv=>whnf
   refine ⟨_,0,-1,(.aa (.aa (.aa (.sk 4 (.aa (.aa (.aa (.sk 41 .nil rfl)))) rfl)))),rfl,rfl,?_⟩
   exact ⟨Nat.zero_le _,rfl⟩
  rintro mm aT _ ⟨i,o,ar,rfl,rfl,⟨hi,ho⟩⟩
  obtain ⟨az,rfl⟩:∃ az:Nat→Value,aT=.slice (some ⟨0,0,none⟩) n c::.slice (some ⟨1,0,none⟩) m d::.bool s::zs az 3 4 (.int .i64 j::.int .i64 o::.int .i64 i::zs az 10 41 []):=bK ar
  clear ar
  conv=>whnf
  refine aL (fun h4=>?_) (fun h4=>?_)
  ·have h4:i < m:=by
    have:=of_decide_eq_true h4
    omega
   have e8:IntKind.i64.wrap ((i:Int)+1)=((i+1:Nat):Int):=by rw [au (by omega) (by omega)]; rfl
   obtain ⟨x,y,rx,_,⟨mx,_⟩,CA,_,ex,_⟩:=nm hm h4
   have sx:=qM x mx
   have qx:=PV.dp sx (by decide)
   rw [← kR] at rx
   have zX:(ay B)[i]?=some x.p:=by rw [ex,jP (by omega)]; exact gI (by rw [b8]; omega)
   have ao:=Sl (a:=a.p) (b:=b.p) zX
   rw [← ho] at ao
   conv=>whnf
   refine .inl ⟨18,[[],[],[],[1,2],[1,2,3],[],[],[6],[],[8],[6,7,8,9],[5,6,7,8,9,10],[5,6,7,8,9,10,11],[],[],[13,14],[13,14,15],[1,2,3,4,5,6,7,8,9,10,11,12,13,14,15,16],[0,1,2,3,4,5,6,7,8,9,10,11,12,13,14,15,16,17],[0,1,2,3,4,5,6,7,8,9,10,11,12,13,14,15,16,17,18]],by kernel_rfl,?_⟩
   conv=>whnf
   refine ⟨⟨by omega,by omega⟩,?_⟩
   simp only [toNat_cast,aq,Nat.zero_add]
   conv=>whnf
   refine ⟨by show j < n; omega,?_⟩
   conv=>whnf
   rw [ra]
   conv=>whnf
   rw [show decide ((n:Int)≠0)=true from decide_eq_true (by omega)]
   conv=>whnf
   rw [cD]
   refine ⟨⟨by omega,by omega⟩,?_⟩
   simp only [toNat_cast,aq,Nat.zero_add]
   conv=>whnf
   refine ⟨by show u < n; omega,?_⟩
   conv=>whnf
   rw [rb]
   conv=>whnf
   refine ⟨⟨by omega,by omega⟩,?_⟩
   simp only [toNat_cast,aq,Nat.zero_add]
   conv=>whnf
   refine ⟨by show i < m; omega,?_⟩
   conv=>whnf
   rw [rx]
   conv=>whnf
   obtain ⟨z,ez,pz⟩:=eJ (aY (aw a.p b.p x.p) 0)
   refine ⟨(a,b,x),rfl,⟨PV.a8 sa (by decide),PV.a8 sb (by decide),PV.a8 sx (by decide)⟩,?_⟩
   rw [show lZ.val (a,b,x)=.int .i64 z from ez]
   conv=>whnf
   rw [← pz] at ao
   rw [e8]
   refine .inr ⟨[0,1],[0,1,2,7,8,9],?_⟩
   conv=>whnf
   intro _
   conv=>whnf
   refine ⟨_,?_,i+1,if o < z then z else o,(.aa (.aa (.aa (.sk 4 (.aa (.aa (.aa (.sk 41 .nil rfl)))) rfl)))),rfl,rfl,?_⟩
   ·omega
   ·exact ⟨by omega,ao.symm⟩
  ·have h4:i=m:=by
    have:=of_decide_eq_false h4
    omega
   subst h4
   have hE:=Tw (s:=s) (a:=a.p) (b:=b.p) (show i=(ay B).length by rw [b8]; exact hm)
   rw [← ho] at hE
   conv=>whnf
   by_cases h5:o < 0
   ·rw [decide_eq_true h5] at hE ⊢
    conv=>whnf
    exact fin (j:Int) (Me hU e9 hE).symm
   ·rw [decide_eq_false h5] at hE ⊢
    cases s with
    | false =>
     conv=>whnf
     rw [e7]
     refine .inr ⟨[0,1],[0,1,2,7],?_⟩
     conv=>whnf
     intro _
     conv=>whnf
     refine ⟨_,?_,j+1,(.aa (.aa (.aa (.sk 4 (.aa (.sk 43 .nil rfl)) rfl)))),rfl,rfl,?_⟩
     ·omega
     ·exact ⟨by omega,oZ hU e9 hE⟩
    | true =>
     conv=>whnf
     by_cases h6:o=0
     ·rw [show (o == 0)=true from by simp [h6]]
      rw [decide_eq_true h6] at hE
      conv=>whnf
      exact fin (j:Int) (Me hU e9 hE).symm
     ·rw [show (o == 0)=false from by simp [h6]]
      rw [decide_eq_false h6] at hE
      conv=>whnf
      rw [e7]
      refine .inr ⟨[0,1],[0,1,2,7],?_⟩
      conv=>whnf
      intro _
      conv=>whnf
      refine ⟨_,?_,j+1,(.aa (.aa (.aa (.sk 4 (.aa (.sk 43 .nil rfl)) rfl)))),rfl,rfl,?_⟩
      ·omega
      ·exact ⟨by omega,oZ hU e9 hE⟩
 ·have h3:j=n:=by
   have:=of_decide_eq_false h3
   omega
  subst h3
  conv=>whnf
  exact fin (-1) (U1 (show j=(ay A).length by rw [b8]; exact hn) hU).symm
def Eq1:Env:=En [(104,.q eK)]
theorem abT:EnvOk Tryz.prog Eq1:=bL ⟨M3,trivial⟩ trivial
theorem TN:cZ Tryz.prog 102 nK:=by
 refine dt abT aO Tryz.func102 (enters_of Tryz.func102 (by kernel_rfl) rfl) ?_ ?_ ?_
 ·intro i b hb; simp [nK] at hb; rcases hb with rfl | rfl <;> rfl
 ·intro i b hb; simp [nK] at hb
 intro ⟨⟨A,c⟩,⟨B,d⟩⟩ hp
 have hp:(A.length≤1099511627776∧∀ v∈A,PV.sz 2048 v)∧B.length≤1099511627776∧∀ v∈B,PV.sz 2048 v:=hp
 obtain ⟨⟨Dc,n7⟩,Dd,qM⟩:=hp
 obtain ⟨n,hn⟩:∃ n,n=A.length:=⟨_,rfl⟩
 obtain ⟨g,hg⟩:∃ g,g=bS A:=⟨_,rfl⟩
 obtain ⟨m,hm⟩:∃ n,n=B.length:=⟨_,rfl⟩
 obtain ⟨g2,kR⟩:∃ g,g=bS B:=⟨_,rfl⟩
 have fin:∀ z:Bool,z=(dQ true (ay A) (ay B)).isNone→∃ v',cP (List.range 2) 3 (nK.val ((A,c),(B,d)))=some v'∧dT (.bool z) v':=fun z h=>⟨.bool z,by rw [h]; rfl,.refl _⟩
 rw [show nK.ae ((A,c),(B,d))=[.flat false n 6 g,.flat false m 6 g2] from by rw [hn,hg,hm,kR]; rfl,show nK.args ((A,c),(B,d))=[.slice (some ⟨0,0,none⟩) n c,.slice (some ⟨1,0,none⟩) m d] from by rw [hn,hm]; rfl]
 conv=>whnf
 obtain ⟨z,hz⟩:∃ z,z=jt true (ay A) (ay B):=⟨_,rfl⟩
 refine ⟨(((A,c),(B,d)),true),[0,1],by rw [show eK.args (((A,c),(B,d)),true)=[.slice (some ⟨0,0,none⟩) n c,.slice (some ⟨1,0,none⟩) m d,.bool true] from by rw [hn,hm]; rfl]; rfl,⟨⟨by show A.length≤_; omega,n7⟩,by show B.length≤_; omega,qM⟩,?_⟩
 rw [show eK.ae (((A,c),(B,d)),true)=[.flat false n 6 g,.flat false m 6 g2] from by rw [hn,hm,hg,kR]; rfl,show eK.val (((A,c),(B,d)),true)=.int .i64 z from by rw [hz]; rfl,show eK.new (((A,c),(B,d)),true)=none from rfl]
 conv=>whnf
 refine ⟨aA.aM (fun h=>h) (fun r hr=>by rw [hg]; rfl),aA.aM (fun h=>h) (fun r hr=>by rw [kR]; rfl),?_⟩
 conv=>whnf
 refine ⟨_,rfl,?_⟩
 conv=>whnf
 by_cases h1:z < 0
 ·rw [decide_eq_true h1]
  conv=>whnf
  obtain ⟨w,hw⟩:∃ z,z=jt true (ay B) (ay A):=⟨_,rfl⟩
  refine ⟨(((B,d),(A,c)),true),[1,0],by rw [show eK.args (((B,d),(A,c)),true)=[.slice (some ⟨0,0,none⟩) m d,.slice (some ⟨1,0,none⟩) n c,.bool true] from by rw [hm,hn]; rfl]; rfl,⟨⟨by show B.length≤_; omega,qM⟩,by show A.length≤_; omega,n7⟩,?_⟩
  rw [show eK.ae (((B,d),(A,c)),true)=[.flat false m 6 g2,.flat false n 6 g] from by rw [hm,hn,kR,hg]; rfl,show eK.val (((B,d),(A,c)),true)=.int .i64 w from by rw [hw]; rfl,show eK.new (((B,d),(A,c)),true)=none from rfl]
  conv=>whnf
  refine ⟨aA.aM (fun h=>h) (fun r hr=>by rw [kR]; rfl),aA.aM (fun h=>h) (fun r hr=>by rw [hg]; rfl),?_⟩
  conv=>whnf
  refine ⟨_,rfl,?_⟩
  conv=>whnf
  exact fin _ (MT h1 hz hw)
 ·rw [decide_eq_false h1]
  conv=>whnf
  exact fin _ (MU h1 hz)
def Eq2:Env:=En [(104,.q eK),(65,.q cM),(102,.q nK)]
theorem GZ:EnvOk Tryz.prog Eq2:=bL ⟨M3,Vo,TN,trivial⟩ trivial
theorem Rf:cZ Tryz.prog 41 (ba true):=by
 refine dt GZ aO Tryz.func41 (enters_of Tryz.func41 (by kernel_rfl) rfl) ?_ ?_ ?_
 ·intro ⟨i,k⟩ B hb
  cases i <;> cases k <;> simp [ba,bP,PL.ae] at hb
  ·rw [hb]; rfl
  ·rw [hb]; rfl
  ·rcases hb with rfl | rfl <;> rfl
 ·intro i b hb; simp [ba,bP] at hb
 intro ⟨i,k⟩ hp
 have hp:(i.list.length≤1099511627776∧∀ v∈i.list,v.sz 2048)∧k.list.length≤1099511627776∧∀ v∈k.list,v.sz 2048:=hp
 obtain ⟨⟨cW,cC⟩,dh,cA⟩:=hp
 have fZ:∀ (A B:List PV) (x:Bool) (e:Int) (n:Nat),i.list=A→k.list=B→ck true A B=(x,e)→∃ v',cP (List.range n) 3 (aG.val (ba true) (i,k))=some v'∧dT (.tuple ⟨[.bool x,.int .i64 e]⟩) v':=fun A B x e n hi hk h=>⟨.tuple ⟨[.bool x,.int .i64 e]⟩,by
  subst hk
  subst hi
  rw [show aG.val (ba true) (i,k)=.tuple ⟨[.bool x,.int .i64 e]⟩ from by show Value.tuple ⟨_⟩=_; rw [h]]; rfl,.refl _⟩
 cases i with
 | none =>
  cases k with
  | none =>
   conv=>whnf
   refine ⟨(none,none),[],rfl,⟨⟨cW,cC⟩,⟨dh,cA⟩⟩,?_⟩
   rw [show cM.ae (none,none)=[] from rfl,show cM.val (none,none)=.bool false from pG vQ,show cM.new (none,none)=none from rfl]
   conv=>whnf
   refine ⟨_,rfl,?_⟩
   conv=>whnf
   exact ⟨_,rfl,.refl _⟩
  | some k =>
   obtain ⟨B,d⟩:=k
   conv=>whnf
   refine ⟨(none,some (B,d)),[0],rfl,⟨⟨cW,cC⟩,⟨dh,cA⟩⟩,?_⟩
   rw [show cM.ae (none,some (B,d))=[.flat false B.length 6 (bS B)] from rfl,show cM.val (none,some (B,d))=.bool false from pG vQ,show cM.new (none,some (B,d))=none from rfl]
   conv=>whnf
   refine ⟨aA.aM (fun h=>h) (fun r hr=>rfl),?_⟩
   conv=>whnf
   refine ⟨_,rfl,?_⟩
   conv=>whnf
   exact fZ [] B false 1 1 rfl rfl (kZ fun e=>by have:=e.1; cases this)
 | some i =>
  obtain ⟨A,c⟩:=i
  have cW:A.length≤1099511627776:=cW
  have cC:∀ v∈A,PV.sz 2048 v:=cC
  cases k with
  | none =>
   conv=>whnf
   refine ⟨(some (A,c),none),[0],rfl,⟨⟨cW,cC⟩,⟨dh,cA⟩⟩,?_⟩
   rw [show cM.ae (some (A,c),none)=[.flat false A.length 6 (bS A)] from rfl,show cM.val (some (A,c),none)=.bool false from pG Fg,show cM.new (some (A,c),none)=none from rfl]
   conv=>whnf
   refine ⟨aA.aM (fun h=>h) (fun r hr=>rfl),?_⟩
   conv=>whnf
   refine ⟨_,rfl,?_⟩
   conv=>whnf
   exact fZ A [] false 1 1 rfl rfl (kZ fun e=>by have:=e.2; cases this)
  | some k =>
   obtain ⟨B,d⟩:=k
   have dh:B.length≤1099511627776:=dh
   have cA:∀ v∈B,PV.sz 2048 v:=cA
   have fin:=fun (x:Bool) (e:Int)=>fZ A B x e 2 rfl rfl
   clear fZ
   obtain ⟨na,aV⟩:∃ n,n=A.length:=⟨_,rfl⟩
   obtain ⟨ga,bo⟩:∃ g,g=bS A:=⟨_,rfl⟩
   obtain ⟨nb,aZ⟩:∃ n,n=B.length:=⟨_,rfl⟩
   obtain ⟨gb,bA⟩:∃ g,g=bS B:=⟨_,rfl⟩
   obtain ⟨K,hK⟩:∃ K,K=gQ (ba true) (some (A,c),some (B,d)):=⟨_,rfl⟩
   rw [show aG.ae (ba true) (some (A,c),some (B,d))=[.flat false na 6 ga,.flat false nb 6 gb] from by rw [aV,bo,aZ,bA]; rfl,show aG.args (ba true) (some (A,c),some (B,d))=[.slice (some ⟨0,0,none⟩) na c,.slice (some ⟨1,0,none⟩) nb d] from by rw [aV,aZ]; rfl,← hK]
   rw [← aV] at cW
   rw [← aZ] at dh
   conv=>whnf
   obtain ⟨q,hq⟩:∃ q,q=decide (aW A=0∧aW B=0):=⟨_,rfl⟩
   refine ⟨(some (A,c),some (B,d)),[0,1],by rw [show cM.args (some (A,c),some (B,d))=[.slice (some ⟨0,0,none⟩) na c,.slice (some ⟨1,0,none⟩) nb d] from by rw [aV,aZ]; rfl]; rfl,⟨⟨by show A.length≤_; omega,cC⟩,⟨by show B.length≤_; omega,cA⟩⟩,?_⟩
   rw [show cM.ae (some (A,c),some (B,d))=[.flat false na 6 ga,.flat false nb 6 gb] from by rw [aV,bo,aZ,bA]; rfl,show cM.val (some (A,c),some (B,d))=.bool q from by rw [hq]; rfl,show cM.new (some (A,c),some (B,d))=none from rfl]
   conv=>whnf
   refine ⟨aA.aM (fun h=>h) (fun r hr=>by rw [bo]; rfl),aA.aM (fun h=>h) (fun r hr=>by rw [bA]; rfl),?_⟩
   conv=>whnf
   refine ⟨_,rfl,?_⟩
   cases q with
   | false =>
    conv=>whnf
    rw [hK]
    exact fin false 1 (kZ fun h=>by rw [decide_eq_true h] at hq; cases hq)
   | true =>
    have hk:=of_decide_eq_true hq.symm
    have xt:=jd hk.1
    have xu:=jd hk.2
    conv=>whnf
    obtain ⟨x,hx⟩:∃ x,x=(dQ true (ay A) (ay B)).isNone:=⟨_,rfl⟩
    refine ⟨((A,c),(B,d)),[0,1],by rw [show nK.args ((A,c),(B,d))=[.slice (some ⟨0,0,none⟩) na c,.slice (some ⟨1,0,none⟩) nb d] from by rw [aV,aZ]; rfl]; rfl,⟨⟨by show A.length≤_; omega,cC⟩,by show B.length≤_; omega,cA⟩,?_⟩
    rw [show nK.ae ((A,c),(B,d))=[.flat false na 6 ga,.flat false nb 6 gb] from by rw [aV,bo,aZ,bA]; rfl,show nK.val ((A,c),(B,d))=.bool x from by rw [hx]; rfl,show nK.new ((A,c),(B,d))=none from rfl]
    conv=>whnf
    refine ⟨aA.aM (fun h=>h) (fun r hr=>by rw [bo]; rfl),aA.aM (fun h=>h) (fun r hr=>by rw [bA]; rfl),?_⟩
    conv=>whnf
    refine ⟨_,rfl,?_⟩
    conv=>whnf
    rw [hK]
    exact fin x 0 (Gh hk hx)
theorem TO:cZ Tryz.prog 43 (ba false):=by
 refine dt GZ aO Tryz.func43 (enters_of Tryz.func43 (by kernel_rfl) rfl) ?_ ?_ ?_
 ·intro ⟨i,k⟩ B hb
  cases i <;> cases k <;> simp [ba,bP,PL.ae] at hb
  ·rw [hb]; rfl
  ·rw [hb]; rfl
  ·rcases hb with rfl | rfl <;> rfl
 ·intro i b hb; simp [ba,bP] at hb
 intro ⟨i,k⟩ hp
 have hp:(i.list.length≤1099511627776∧∀ v∈i.list,v.sz 2048)∧k.list.length≤1099511627776∧∀ v∈k.list,v.sz 2048:=hp
 obtain ⟨⟨cW,cC⟩,dh,cA⟩:=hp
 have fZ:∀ (A B:List PV) (x:Bool) (e:Int) (n:Nat),i.list=A→k.list=B→ck false A B=(x,e)→∃ v',cP (List.range n) 3 (aG.val (ba false) (i,k))=some v'∧dT (.tuple ⟨[.bool x,.int .i64 e]⟩) v':=fun A B x e n hi hk h=>⟨.tuple ⟨[.bool x,.int .i64 e]⟩,by
  subst hk
  subst hi
  rw [show aG.val (ba false) (i,k)=.tuple ⟨[.bool x,.int .i64 e]⟩ from by show Value.tuple ⟨_⟩=_; rw [h]]; rfl,.refl _⟩
 cases i with
 | none =>
  cases k with
  | none =>
   conv=>whnf
   refine ⟨(none,none),[],rfl,⟨⟨cW,cC⟩,⟨dh,cA⟩⟩,?_⟩
   rw [show cM.ae (none,none)=[] from rfl,show cM.val (none,none)=.bool false from pG vQ,show cM.new (none,none)=none from rfl]
   conv=>whnf
   refine ⟨_,rfl,?_⟩
   conv=>whnf
   exact ⟨_,rfl,.refl _⟩
  | some k =>
   obtain ⟨B,d⟩:=k
   conv=>whnf
   refine ⟨(none,some (B,d)),[0],rfl,⟨⟨cW,cC⟩,⟨dh,cA⟩⟩,?_⟩
   rw [show cM.ae (none,some (B,d))=[.flat false B.length 6 (bS B)] from rfl,show cM.val (none,some (B,d))=.bool false from pG vQ,show cM.new (none,some (B,d))=none from rfl]
   conv=>whnf
   refine ⟨aA.aM (fun h=>h) (fun r hr=>rfl),?_⟩
   conv=>whnf
   refine ⟨_,rfl,?_⟩
   conv=>whnf
   exact fZ [] B false 1 1 rfl rfl (kZ fun e=>by have:=e.1; cases this)
 | some i =>
  obtain ⟨A,c⟩:=i
  have cW:A.length≤1099511627776:=cW
  have cC:∀ v∈A,PV.sz 2048 v:=cC
  cases k with
  | none =>
   conv=>whnf
   refine ⟨(some (A,c),none),[0],rfl,⟨⟨cW,cC⟩,⟨dh,cA⟩⟩,?_⟩
   rw [show cM.ae (some (A,c),none)=[.flat false A.length 6 (bS A)] from rfl,show cM.val (some (A,c),none)=.bool false from pG Fg,show cM.new (some (A,c),none)=none from rfl]
   conv=>whnf
   refine ⟨aA.aM (fun h=>h) (fun r hr=>rfl),?_⟩
   conv=>whnf
   refine ⟨_,rfl,?_⟩
   conv=>whnf
   exact fZ A [] false 1 1 rfl rfl (kZ fun e=>by have:=e.2; cases this)
  | some k =>
   obtain ⟨B,d⟩:=k
   have dh:B.length≤1099511627776:=dh
   have cA:∀ v∈B,PV.sz 2048 v:=cA
   have fin:=fun (x:Bool) (e:Int)=>fZ A B x e 2 rfl rfl
   clear fZ
   obtain ⟨na,aV⟩:∃ n,n=A.length:=⟨_,rfl⟩
   obtain ⟨ga,bo⟩:∃ g,g=bS A:=⟨_,rfl⟩
   obtain ⟨nb,aZ⟩:∃ n,n=B.length:=⟨_,rfl⟩
   obtain ⟨gb,bA⟩:∃ g,g=bS B:=⟨_,rfl⟩
   obtain ⟨K,hK⟩:∃ K,K=gQ (ba false) (some (A,c),some (B,d)):=⟨_,rfl⟩
   rw [show aG.ae (ba false) (some (A,c),some (B,d))=[.flat false na 6 ga,.flat false nb 6 gb] from by rw [aV,bo,aZ,bA]; rfl,show aG.args (ba false) (some (A,c),some (B,d))=[.slice (some ⟨0,0,none⟩) na c,.slice (some ⟨1,0,none⟩) nb d] from by rw [aV,aZ]; rfl,← hK]
   rw [← aV] at cW
   rw [← aZ] at dh
   conv=>whnf
   obtain ⟨q,hq⟩:∃ q,q=decide (aW A=0∧aW B=0):=⟨_,rfl⟩
   refine ⟨(some (A,c),some (B,d)),[0,1],by rw [show cM.args (some (A,c),some (B,d))=[.slice (some ⟨0,0,none⟩) na c,.slice (some ⟨1,0,none⟩) nb d] from by rw [aV,aZ]; rfl]; rfl,⟨⟨by show A.length≤_; omega,cC⟩,⟨by show B.length≤_; omega,cA⟩⟩,?_⟩
   rw [show cM.ae (some (A,c),some (B,d))=[.flat false na 6 ga,.flat false nb 6 gb] from by rw [aV,bo,aZ,bA]; rfl,show cM.val (some (A,c),some (B,d))=.bool q from by rw [hq]; rfl,show cM.new (some (A,c),some (B,d))=none from rfl]
   conv=>whnf
   refine ⟨aA.aM (fun h=>h) (fun r hr=>by rw [bo]; rfl),aA.aM (fun h=>h) (fun r hr=>by rw [bA]; rfl),?_⟩
   conv=>whnf
   refine ⟨_,rfl,?_⟩
   cases q with
   | false =>
    conv=>whnf
    rw [hK]
    exact fin false 1 (kZ fun h=>by rw [decide_eq_true h] at hq; cases hq)
   | true =>
    have hk:=of_decide_eq_true hq.symm
    have xt:=jd hk.1
    have xu:=jd hk.2
    conv=>whnf
    obtain ⟨z,hz⟩:∃ z,z=jt false (ay A) (ay B):=⟨_,rfl⟩
    refine ⟨(((A,c),(B,d)),false),[0,1],by rw [show eK.args (((A,c),(B,d)),false)=[.slice (some ⟨0,0,none⟩) na c,.slice (some ⟨1,0,none⟩) nb d,.bool false] from by rw [aV,aZ]; rfl]; rfl,⟨⟨by show A.length≤_; omega,cC⟩,by show B.length≤_; omega,cA⟩,?_⟩
    rw [show eK.ae (((A,c),(B,d)),false)=[.flat false na 6 ga,.flat false nb 6 gb] from by rw [aV,aZ,bo,bA]; rfl,show eK.val (((A,c),(B,d)),false)=.int .i64 z from by rw [hz]; rfl,show eK.new (((A,c),(B,d)),false)=none from rfl]
    conv=>whnf
    refine ⟨aA.aM (fun h=>h) (fun r hr=>by rw [bo]; rfl),aA.aM (fun h=>h) (fun r hr=>by rw [bA]; rfl),?_⟩
    conv=>whnf
    refine ⟨_,rfl,?_⟩
    conv=>whnf
    by_cases h1:z < 0
    ·rw [decide_eq_true h1]
     conv=>whnf
     obtain ⟨w,hw⟩:∃ z,z=jt false (ay B) (ay A):=⟨_,rfl⟩
     refine ⟨(((B,d),(A,c)),false),[1,0],by rw [show eK.args (((B,d),(A,c)),false)=[.slice (some ⟨0,0,none⟩) nb d,.slice (some ⟨1,0,none⟩) na c,.bool false] from by rw [aZ,aV]; rfl]; rfl,⟨⟨by show B.length≤_; omega,cA⟩,by show A.length≤_; omega,cC⟩,?_⟩
     rw [show eK.ae (((B,d),(A,c)),false)=[.flat false nb 6 gb,.flat false na 6 ga] from by rw [aZ,aV,bA,bo]; rfl,show eK.val (((B,d),(A,c)),false)=.int .i64 w from by rw [hw]; rfl,show eK.new (((B,d),(A,c)),false)=none from rfl]
     conv=>whnf
     refine ⟨aA.aM (fun h=>h) (fun r hr=>by rw [bA]; rfl),aA.aM (fun h=>h) (fun r hr=>by rw [bo]; rfl),?_⟩
     conv=>whnf
     refine ⟨_,rfl,?_⟩
     conv=>whnf
     rw [hK]
     exact fin _ 0 (Gh hk (MT h1 hz hw))
    ·rw [decide_eq_false h1]
     conv=>whnf
     rw [hK]
     exact fin _ 0 (Gh hk (MU h1 hz))
theorem Vp:cZ Tryz.prog 45 bP:=by
 refine dt GZ aO Tryz.func45 (enters_of Tryz.func45 (by kernel_rfl) rfl) ?_ ?_ ?_
 ·intro ⟨i,k⟩ B hb
  cases i <;> cases k <;> simp [ba,bP,PL.ae] at hb
  ·rw [hb]; rfl
  ·rw [hb]; rfl
  ·rcases hb with rfl | rfl <;> rfl
 ·intro i b hb; simp [ba,bP] at hb
 intro ⟨i,k⟩ hp
 have hp:(i.list.length≤1099511627776∧∀ v∈i.list,v.sz 2048)∧k.list.length≤1099511627776∧∀ v∈k.list,v.sz 2048:=hp
 obtain ⟨⟨cW,cC⟩,dh,cA⟩:=hp
 have fZ:∀ (A B:List PV) (x:XV) (e:Int) (n:Nat),i.list=A→k.list=B→dm A B=(x,e)→∃ v',cP (List.range n) 3 (aG.val bP (i,k))=some v'∧dT (.tuple ⟨[x.v,.int .i64 e]⟩) v':=fun A B x e n hi hk h=>⟨.tuple ⟨[x.v,.int .i64 e]⟩,by
  subst hk
  subst hi
  rw [show aG.val bP (i,k)=.tuple ⟨[x.v,.int .i64 e]⟩ from by show Value.tuple ⟨_⟩=_; rw [h]]; rfl,.refl _⟩
 cases i with
 | none =>
  cases k with
  | none =>
   conv=>whnf
   refine ⟨(none,none),[],rfl,⟨⟨cW,cC⟩,⟨dh,cA⟩⟩,?_⟩
   rw [show cM.ae (none,none)=[] from rfl,show cM.val (none,none)=.bool false from pG vQ,show cM.new (none,none)=none from rfl]
   conv=>whnf
   refine ⟨_,rfl,?_⟩
   conv=>whnf
   exact ⟨_,rfl,.refl _⟩
  | some k =>
   obtain ⟨B,d⟩:=k
   conv=>whnf
   refine ⟨(none,some (B,d)),[0],rfl,⟨⟨cW,cC⟩,⟨dh,cA⟩⟩,?_⟩
   rw [show cM.ae (none,some (B,d))=[.flat false B.length 6 (bS B)] from rfl,show cM.val (none,some (B,d))=.bool false from pG vQ,show cM.new (none,some (B,d))=none from rfl]
   conv=>whnf
   refine ⟨aA.aM (fun h=>h) (fun r hr=>rfl),?_⟩
   conv=>whnf
   refine ⟨_,rfl,?_⟩
   conv=>whnf
   exact fZ [] B jq 1 1 rfl rfl (tK fun e=>by have:=e.1; cases this)
 | some i =>
  obtain ⟨A,c⟩:=i
  have cW:A.length≤1099511627776:=cW
  have cC:∀ v∈A,PV.sz 2048 v:=cC
  cases k with
  | none =>
   conv=>whnf
   refine ⟨(some (A,c),none),[0],rfl,⟨⟨cW,cC⟩,⟨dh,cA⟩⟩,?_⟩
   rw [show cM.ae (some (A,c),none)=[.flat false A.length 6 (bS A)] from rfl,show cM.val (some (A,c),none)=.bool false from pG Fg,show cM.new (some (A,c),none)=none from rfl]
   conv=>whnf
   refine ⟨aA.aM (fun h=>h) (fun r hr=>rfl),?_⟩
   conv=>whnf
   refine ⟨_,rfl,?_⟩
   conv=>whnf
   exact fZ A [] jq 1 1 rfl rfl (tK fun e=>by have:=e.2; cases this)
  | some k =>
   obtain ⟨B,d⟩:=k
   have dh:B.length≤1099511627776:=dh
   have cA:∀ v∈B,PV.sz 2048 v:=cA
   have fin:=fun (x:XV) (e:Int)=>fZ A B x e 2 rfl rfl
   clear fZ
   obtain ⟨na,aV⟩:∃ n,n=A.length:=⟨_,rfl⟩
   obtain ⟨ga,bo⟩:∃ g,g=bS A:=⟨_,rfl⟩
   obtain ⟨nb,aZ⟩:∃ n,n=B.length:=⟨_,rfl⟩
   obtain ⟨gb,bA⟩:∃ g,g=bS B:=⟨_,rfl⟩
   obtain ⟨K,hK⟩:∃ K,K=gQ bP (some (A,c),some (B,d)):=⟨_,rfl⟩
   rw [show aG.ae bP (some (A,c),some (B,d))=[.flat false na 6 ga,.flat false nb 6 gb] from by rw [aV,bo,aZ,bA]; rfl,show aG.args bP (some (A,c),some (B,d))=[.slice (some ⟨0,0,none⟩) na c,.slice (some ⟨1,0,none⟩) nb d] from by rw [aV,aZ]; rfl,← hK]
   rw [← aV] at cW
   rw [← aZ] at dh
   conv=>whnf
   obtain ⟨q,hq⟩:∃ q,q=decide (aW A=0∧aW B=0):=⟨_,rfl⟩
   refine ⟨(some (A,c),some (B,d)),[0,1],by rw [show cM.args (some (A,c),some (B,d))=[.slice (some ⟨0,0,none⟩) na c,.slice (some ⟨1,0,none⟩) nb d] from by rw [aV,aZ]; rfl]; rfl,⟨⟨by show A.length≤_; omega,cC⟩,⟨by show B.length≤_; omega,cA⟩⟩,?_⟩
   rw [show cM.ae (some (A,c),some (B,d))=[.flat false na 6 ga,.flat false nb 6 gb] from by rw [aV,bo,aZ,bA]; rfl,show cM.val (some (A,c),some (B,d))=.bool q from by rw [hq]; rfl,show cM.new (some (A,c),some (B,d))=none from rfl]
   conv=>whnf
   refine ⟨aA.aM (fun h=>h) (fun r hr=>by rw [bo]; rfl),aA.aM (fun h=>h) (fun r hr=>by rw [bA]; rfl),?_⟩
   conv=>whnf
   refine ⟨_,rfl,?_⟩
   cases q with
   | false =>
    conv=>whnf
    rw [hK]
    exact fin jq 1 (tK fun h=>by rw [decide_eq_true h] at hq; cases hq)
   | true =>
    have hk:=of_decide_eq_true hq.symm
    have xt:=jd hk.1
    have xu:=jd hk.2
    conv=>whnf
    obtain ⟨z,hz⟩:∃ z,z=jt true (ay A) (ay B):=⟨_,rfl⟩
    refine ⟨(((A,c),(B,d)),true),[0,1],by rw [show eK.args (((A,c),(B,d)),true)=[.slice (some ⟨0,0,none⟩) na c,.slice (some ⟨1,0,none⟩) nb d,.bool true] from by rw [aV,aZ]; rfl]; rfl,⟨⟨by show A.length≤_; omega,cC⟩,by show B.length≤_; omega,cA⟩,?_⟩
    rw [show eK.ae (((A,c),(B,d)),true)=[.flat false na 6 ga,.flat false nb 6 gb] from by rw [aV,aZ,bo,bA]; rfl,show eK.val (((A,c),(B,d)),true)=.int .i64 z from by rw [hz]; rfl,show eK.new (((A,c),(B,d)),true)=none from rfl]
    conv=>whnf
    refine ⟨aA.aM (fun h=>h) (fun r hr=>by rw [bo]; rfl),aA.aM (fun h=>h) (fun r hr=>by rw [bA]; rfl),?_⟩
    conv=>whnf
    refine ⟨_,rfl,?_⟩
    conv=>whnf
    rcases EC true (ay A) (ay B) with ⟨h1,J⟩ | ⟨j,e,h1,hj,e9,J⟩
    ·obtain rfl:z=-1:=hz.trans h1
     conv=>whnf
     obtain ⟨w,hw⟩:∃ z,z=jt true (ay B) (ay A):=⟨_,rfl⟩
     refine ⟨(((B,d),(A,c)),true),[1,0],by rw [show eK.args (((B,d),(A,c)),true)=[.slice (some ⟨0,0,none⟩) nb d,.slice (some ⟨1,0,none⟩) na c,.bool true] from by rw [aZ,aV]; rfl]; rfl,⟨⟨by show B.length≤_; omega,cA⟩,by show A.length≤_; omega,cC⟩,?_⟩
     rw [show eK.ae (((B,d),(A,c)),true)=[.flat false nb 6 gb,.flat false na 6 ga] from by rw [aZ,aV,bA,bo]; rfl,show eK.val (((B,d),(A,c)),true)=.int .i64 w from by rw [hw]; rfl,show eK.new (((B,d),(A,c)),true)=none from rfl]
     conv=>whnf
     refine ⟨aA.aM (fun h=>h) (fun r hr=>by rw [bA]; rfl),aA.aM (fun h=>h) (fun r hr=>by rw [bo]; rfl),?_⟩
     conv=>whnf
     refine ⟨_,rfl,?_⟩
     conv=>whnf
     rcases EC true (ay B) (ay A) with ⟨h3,h4⟩ | ⟨j,e,h3,hj,e9,h4⟩
     ·obtain rfl:w=-1:=hw.trans h3
      conv=>whnf
      rw [hK]
      exact fin jq 6 (U2 hk J h4)
     ·obtain rfl:w=(j:Int):=hw.trans h3
      obtain ⟨a,b,ra,rb,⟨ma,mb⟩,CA,cl,_,_⟩:=nm aZ (show j < nb by rw [b8] at hj; omega)
      obtain rfl:(a.p,b.p)=e:=Option.some.inj (CA.symm.trans e9)
      have cD:=jO (show j < nb by rw [b8] at hj; omega) (by omega)
      obtain ⟨u,hu⟩:∃ u,u=bd nb j:=⟨_,rfl⟩
      rw [← hu] at cD cl rb
      rw [← bA] at ra rb
      rw [b8,← aZ] at hj
      conv=>whnf
      rw [decide_eq_true (show (j:Int) ≥ 0 by omega)]
      conv=>whnf
      refine .inl ⟨12,[[],[],[0,1],[0,1,2],[],[],[5],[],[7],[5,6,7,8],[4,5,6,7,8,9],[4,5,6,7,8,9,10],[0,1,2,3,4,5,6,7,8,9,10,11],[0,1,2,3,4,5,6,7,8,9,10,11,12],[0,1,2,3,4,5,6,7,8,9,10,11,12,13]],by kernel_rfl,?_⟩
      conv=>whnf
      refine ⟨⟨by omega,by omega⟩,?_⟩
      simp only [toNat_cast,aq,Nat.zero_add]
      conv=>whnf
      refine ⟨by show j < nb; omega,?_⟩
      conv=>whnf
      rw [ra]
      conv=>whnf
      rw [show decide ((nb:Int)≠0)=true from decide_eq_true (by omega)]
      conv=>whnf
      rw [cD]
      refine ⟨⟨by omega,by omega⟩,?_⟩
      simp only [toNat_cast,aq,Nat.zero_add]
      conv=>whnf
      refine ⟨by show u < nb; omega,?_⟩
      conv=>whnf
      rw [rb]
      conv=>whnf
      trace_state
      rw [hK]
      exact fin (a,b) 0 (Wm hk ma mb J h4)
    ·obtain rfl:z=(j:Int):=hz.trans h1
     obtain ⟨a,b,ra,rb,⟨ma,mb⟩,CA,cl,_,_⟩:=nm aV (show j < na by rw [b8] at hj; omega)
     obtain rfl:(a.p,b.p)=e:=Option.some.inj (CA.symm.trans e9)
     have cD:=jO (show j < na by rw [b8] at hj; omega) (by omega)
     obtain ⟨u,hu⟩:∃ u,u=bd na j:=⟨_,rfl⟩
     rw [← hu] at cD cl rb
     rw [← bo] at ra rb
     rw [b8,← aV] at hj
     conv=>whnf
     rw [decide_eq_true (show (j:Int) ≥ 0 by omega)]
     conv=>whnf
     refine .inl ⟨12,[[],[],[0,1],[0,1,2],[],[],[5],[],[7],[5,6,7,8],[4,5,6,7,8,9],[4,5,6,7,8,9,10],[0,1,2,3,4,5,6,7,8,9,10,11],[0,1,2,3,4,5,6,7,8,9,10,11,12],[0,1,2,3,4,5,6,7,8,9,10,11,12,13]],by kernel_rfl,?_⟩
     conv=>whnf
     refine ⟨⟨by omega,by omega⟩,?_⟩
     simp only [toNat_cast,aq,Nat.zero_add]
     conv=>whnf
     refine ⟨by show j < na; omega,?_⟩
     conv=>whnf
     rw [ra]
     conv=>whnf
     rw [show decide ((na:Int)≠0)=true from decide_eq_true (by omega)]
     conv=>whnf
     rw [cD]
     refine ⟨⟨by omega,by omega⟩,?_⟩
     simp only [toNat_cast,aq,Nat.zero_add]
     conv=>whnf
     refine ⟨by show u < na; omega,?_⟩
     conv=>whnf
     rw [rb]
     conv=>whnf
     rw [hK]
     exact fin (a,b) 0 (Wl hk ma mb J)
end Go.Proofs.YtlapbjdhekcipaaGreat
/- Convex: what the laws call. -/
set_option maxRecDepth 20000
set_option maxHeartbeats 4000000
namespace Go.Proofs.YtlapbjdhekcipaaGreat
open Go Go.Ae
def Ea1:Env:=En [(55,.p pV)]
theorem abU:EnvOk Tryz.prog Ea1:=bL ⟨NA,trivial⟩ trivial
theorem TP:cZ Tryz.prog 54 ic:=by
 refine dt abU aO Tryz.func54 (enters_of Tryz.func54 (by kernel_rfl) rfl) ?_ ?_ ?_
 ·intro i b hb; simp [ic] at hb; rw [hb]; rfl
 ·intro i b hb; simp [ic] at hb; rw [← hb]; rfl
 intro (L:II) hp
 have hp:(0 < L.length∧L.length≤1000000)∧∀ x∈L,x.1.natAbs < 256∧x.2.natAbs < 256:=hp
 obtain ⟨⟨h0,hlen⟩,P5⟩:=hp
 obtain ⟨n,hn⟩:∃ n,n=L.length:=⟨_,rfl⟩
 obtain ⟨m,hm⟩:∃ m,m=2*n:=⟨_,rfl⟩
 obtain ⟨g,hg⟩:∃ g,g=mU L:=⟨_,rfl⟩
 obtain ⟨K,hK⟩:∃ K,K=gQ ic L:=⟨_,rfl⟩
 rw [show ic.ae L=[.flat false m 1 g] from by rw [hm,hn,hg]; rfl,show ic.args L=[.slice (some ⟨0,0,none⟩) m m] from by rw [hm,hn]; rfl,← hK]
 rw [← hn] at hlen h0
 conv=>whnf
 refine .inl ⟨fun mm tz hz=>∃ (j:Nat) (i:Nat) (O:List Q2) (q:Nat) (F:Nat→List Value),bE (some (.slice (some ⟨0,0,none⟩) m m)::aD 2 (some (eU 1 q)::some (.int .i64 i)::aD 21 [])) tz∧hz=[some (.flat false m 1 g)]++yU 6 F q∧n - j=mm∧((j≤n∧q=j∧i=2*j∧q=O.length)∧O=bB (L.take j)∧(∀ r,r < q→F r=cc O r)),.inr ⟨[0],[0,3,4],?_⟩,?_⟩
 ·conv=>whnf
  intro _
  conv=>whnf
  refine ⟨_,0,0,[],0,fun _=>[],(.aa (.sk 2 (.aa (.aa (.sk 21 .nil rfl))) rfl)),rfl,rfl,?_⟩
  exact ⟨⟨Nat.zero_le _,rfl,rfl,rfl⟩,rfl,fun r hr=>absurd hr (Nat.not_lt_zero r)⟩
 rintro mm aT _ ⟨j,i,O,q,F,ar,rfl,rfl,⟨⟨hj,P6,hi,hq⟩,hO,hF⟩⟩
 obtain ⟨az,rfl⟩:∃ az:Nat→Value,aT=.slice (some ⟨0,0,none⟩) m m::zs az 1 2 (eU 1 q::.int .i64 i::zs az 5 21 []):=bK ar
 clear ar
 obtain ⟨k,hk⟩:∃ k,k=i+1:=⟨_,rfl⟩
 have e1:IntKind.i64.wrap ((i:Int)+1)=(k:Int):=by rw [au (by omega) (by omega),hk]; rfl
 have e2:IntKind.i64.wrap ((i:Int)+2)=((i+2:Nat):Int):=by rw [au (by omega) (by omega)]; rfl
 cases q with
 | zero =>
  obtain rfl:O=[]:=List.eq_nil_of_length_eq_zero hq.symm
  conv=>whnf
  rw [e1]
  refine aL (fun h1=>?_) (fun h1=>?_)
  ·have h1:j < n:=by
    have:=of_decide_eq_true h1
    omega
   obtain ⟨x,hx⟩:∃ x,x=qF L j:=⟨_,rfl⟩
   have gG:=MV (l:=L) (j:=j) (by omega)
   rw [← hx] at gG
   have ra:g i=[.int .i64 x.1]:=by rw [hg,hi]; exact Mf hx
   have rb:g k=[.int .i64 x.2]:=by rw [hk,hg,hi]; exact Mg hx
   have ao:=Mh gG.2
   rw [← hO] at ao
   have hs:=P5 x gG.1
   conv=>whnf
   refine .inl ⟨12,[[],[],[],[1,2],[1,2,3],[],[],[6],[5,6,7],[5,6,7,8],[1,2,3,4,5,6,7,8,9],[1,2,3,4,5,6,7,8,9,10],[0,1,2,3,4,5,6,7,8,9,10,11],[0,1,2,3,4,5,6,7,8,9,10,11,12]],by kernel_rfl,?_⟩
   conv=>whnf
   refine ⟨⟨by omega,by omega⟩,?_⟩
   simp only [toNat_cast,aq,Nat.zero_add]
   conv=>whnf
   refine ⟨by show i < m; omega,?_⟩
   conv=>whnf
   rw [ra]
   conv=>whnf
   rw [e1]
   refine ⟨⟨by omega,by omega⟩,?_⟩
   simp only [toNat_cast,aq,Nat.zero_add]
   conv=>whnf
   refine ⟨by show k < m; omega,?_⟩
   conv=>whnf
   rw [rb]
   conv=>whnf
   obtain ⟨u,cu,eu,pu,su,qu⟩:=wo (uo x.1 x.2 hs.1 hs.2)
   refine ⟨(x.1,x.2),rfl,⟨⟨by show -9223372036854775808≤x.1; omega,by show x.1 < 9223372036854775808; omega⟩,⟨by show -9223372036854775808≤x.2; omega,by show x.2 < 9223372036854775808; omega⟩⟩,?_⟩
   rw [show pV.val (x.1,x.2)=u.v from eu]
   conv=>whnf
   refine ⟨by show (0+1)*80≤140737488355328; decide,?_⟩
   conv=>whnf
   rw [e2]
   refine .inr ⟨[0,13],[0,3,4],?_⟩
   conv=>whnf
   intro _
   conv=>whnf
   refine ⟨_,?_,j+1,i+2,[iq x],1,_,(.aa (.sk 2 (.aa (.aa (.sk 21 .nil rfl))) rfl)),rfl,rfl,?_⟩
   ·omega
   ·exact ⟨⟨by omega,by omega,by omega,rfl⟩,by rw [ao]; rfl,vP cu rfl⟩
  ·exfalso
   have:=of_decide_eq_false h1
   omega
 | succ q =>
  have e0:i≠0:=by omega
  conv=>whnf
  rw [e1]
  refine aL (fun h1=>?_) (fun h1=>?_)
  ·have h1:j < n:=by
    have:=of_decide_eq_true h1
    omega
   obtain ⟨x,hx⟩:∃ x,x=qF L j:=⟨_,rfl⟩
   have gG:=MV (l:=L) (j:=j) (by omega)
   rw [← hx] at gG
   have ra:g i=[.int .i64 x.1]:=by rw [hg,hi]; exact Mf hx
   have rb:g k=[.int .i64 x.2]:=by rw [hk,hg,hi]; exact Mg hx
   have ao:=Mh gG.2
   rw [← hO] at ao
   have hs:=P5 x gG.1
   conv=>whnf
   refine .inl ⟨12,[[],[],[],[1,2],[1,2,3],[],[],[6],[5,6,7],[5,6,7,8],[1,2,3,4,5,6,7,8,9],[1,2,3,4,5,6,7,8,9,10],[0,1,2,3,4,5,6,7,8,9,10,11],[0,1,2,3,4,5,6,7,8,9,10,11,12]],by kernel_rfl,?_⟩
   conv=>whnf
   refine ⟨⟨by omega,by omega⟩,?_⟩
   simp only [toNat_cast,aq,Nat.zero_add]
   conv=>whnf
   refine ⟨by show i < m; omega,?_⟩
   conv=>whnf
   rw [ra]
   conv=>whnf
   rw [e1]
   refine ⟨⟨by omega,by omega⟩,?_⟩
   simp only [toNat_cast,aq,Nat.zero_add]
   conv=>whnf
   refine ⟨by show k < m; omega,?_⟩
   conv=>whnf
   rw [rb]
   conv=>whnf
   obtain ⟨u,cu,eu,pu,su,qu⟩:=wo (uo x.1 x.2 hs.1 hs.2)
   refine ⟨(x.1,x.2),rfl,⟨⟨by show -9223372036854775808≤x.1; omega,by show x.1 < 9223372036854775808; omega⟩,⟨by show -9223372036854775808≤x.2; omega,by show x.2 < 9223372036854775808; omega⟩⟩,?_⟩
   rw [show pV.val (x.1,x.2)=u.v from eu]
   conv=>whnf
   refine ⟨⟨by show 1≤1; decide,rfl,by show (q+1+1)*80≤140737488355328; omega⟩,?_⟩
   conv=>whnf
   refine ⟨[0,4],?_⟩
   conv=>whnf
   intro _
   conv=>whnf
   rw [e2]
   refine .inr ⟨[0,1],[0,3,4],?_⟩
   conv=>whnf
   intro _
   conv=>whnf
   refine ⟨_,?_,j+1,i+2,O++[iq x],q+1+1,_,(.aa (.sk 2 (.aa (.aa (.sk 21 .nil rfl))) rfl)),rfl,rfl,?_⟩
   ·omega
   ·exact ⟨⟨by omega,by omega,by omega,by rw [List.length_append,← hq]; rfl⟩,ao.symm,q9 hq hF cu rfl⟩
  ·have h1:j=n:=by
    have:=of_decide_eq_false h1
    omega
   subst h1
   have hE:bB L=O:=by rw [hO,hn,List.take_length]
   have I8:O.length=(bB L).length:=by rw [hE]
   conv=>whnf
   rw [hK]
   unfold gQ
   rw [show ic.new L=some (.flat true (q+1) 6 (cc O)) from by show some (ai.flat true L.length 6 (cc (bB L)))=_; rw [← hn,hE,← P6],show ic.val L=.slice (some ⟨1,0,none⟩) (q+1) aN from by show Value.slice (some ⟨1,0,none⟩) L.length aN=_; rw [← hn,← P6]]
   refine ⟨1,?_⟩
   conv=>whnf
   exact ⟨⟨rfl,aA.qV (fun h=>h) hF (fun r hr=>rfl)⟩,_,rfl,.refl _⟩
end Go.Proofs.YtlapbjdhekcipaaGreat
