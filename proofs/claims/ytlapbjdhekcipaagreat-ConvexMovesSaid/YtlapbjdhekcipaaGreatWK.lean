import Derived.Test.YtlapbjdhekcipaaGreatWJ
set_option linter.unusedVariables false
set_option linter.unusedSimpArgs false
set_option maxRecDepth 20000
set_option maxHeartbeats 4000000
namespace Go.Proofs.YtlapbjdhekcipaaGreat
open Go Go.Ae
def Eu5:Env:=En [(144,.q kd)]
theorem adw:EnvOk Tryz.prog Eu5:=bK ⟨Vq,trivial⟩ trivial
theorem Ss:dq Tryz.prog 100 iX:=by
 refine eJ adw aQ Tryz.func100 (enters_of Tryz.func100 (by kernel_rfl) rfl) ?_ ?_ ?_
 ·intro i b hb; simp [iX,xT] at hb; rcases hb with rfl | rfl <;> rfl
 ·intro i b hb; simp [iX,xT] at hb
 intro ⟨⟨⟨A,c⟩,⟨B,d⟩⟩,f,s⟩ hp;have hp:((f,s)=(101,true)∨(f,s)=(103,false)∨(f,s)=(105,true))∧(A.length≤1073741824∧∀ v∈A,Q2.sz 2048 v)∧B.length≤1073741824∧∀ v∈B,Q2.sz 2048 v:=hp;obtain ⟨vL,tJ,c4⟩:=hp;obtain ⟨n,hn⟩:∃ n,n=A.length:=⟨_,rfl⟩;obtain ⟨g,hg⟩:∃ g,g=bI A:=⟨_,rfl⟩;obtain ⟨m,hm⟩:∃ n,n=B.length:=⟨_,rfl⟩;obtain ⟨k,hk⟩:∃ g,g=bI B:=⟨_,rfl⟩;have fin:∀ (x:XV) (z:Bool),ff (eW s A B)=(x,z)→∃ v',cT (List.range 2) 3 (iX.val (((A,c),(B,d)),(f,s)))=some v'∧fp (.tuple ⟨[x.v,.bool z]⟩) v':=fun x z h=>⟨_,by rw [show iX.val (((A,c),(B,d)),(f,s))=.tuple ⟨[x.v,.bool z]⟩ from by show Value.tuple ⟨[(ff (eW s A B)).1.v,.bool (ff (eW s A B)).2]⟩=_; rw [h]]; rfl,.refl _⟩
 rw [show iX.ah (((A,c),(B,d)),(f,s))=[.flat false n 6 g,.flat false m 6 k] from by rw [hn,hg,hm,hk]; rfl,show iX.args (((A,c),(B,d)),(f,s))=[.slice (some ⟨0,0,none⟩) n c,.slice (some ⟨1,0,none⟩) m d,.func (.func f) #[] #[]] from by rw [hn,hm]; rfl]
 conv=>whnf
 obtain ⟨⟨x,z⟩,hx⟩:∃ x,ff (fE s A B)=x:=⟨_,rfl⟩;refine ⟨(((A,c),(B,d)),(f,s)),[0,1],by rw [show kd.args (((A,c),(B,d)),(f,s))=[.slice (some ⟨0,0,none⟩) n c,.slice (some ⟨1,0,none⟩) m d,.func (.func f) #[] #[]] from by rw [hn,hm]; rfl]; rfl,⟨vL,tJ,c4⟩,?_⟩
 rw [show kd.ah (((A,c),(B,d)),(f,s))=[.flat false n 6 g,.flat false m 6 k] from by rw [hn,hm,hg,hk]; rfl,show kd.val (((A,c),(B,d)),(f,s))=.tuple ⟨[x.v,.bool z]⟩ from by show Value.tuple ⟨[(ff (fE s A B)).1.v,.bool (ff (fE s A B)).2]⟩=_; rw [hx],show kd.new (((A,c),(B,d)),(f,s))=none from rfl]
 conv=>whnf
 refine ⟨aD.aP (fun h=>h) (fun r hr=>by rw [hg]; rfl),aD.aP (fun h=>h) (fun r hr=>by rw [hk]; rfl),?_⟩
 conv=>whnf
 refine ⟨_,rfl,?_⟩;conv=>whnf
 cases z with
 | true =>
  conv=>whnf
  exact fin x true (XQ hx)
 | false =>
  conv=>whnf
  obtain ⟨⟨y,w⟩,hy⟩:∃ x,ff (fE s B A)=x:=⟨_,rfl⟩;refine ⟨(((B,d),(A,c)),(f,s)),[1,0],by rw [show kd.args (((B,d),(A,c)),(f,s))=[.slice (some ⟨0,0,none⟩) m d,.slice (some ⟨1,0,none⟩) n c,.func (.func f) #[] #[]] from by rw [hm,hn]; rfl]; rfl,⟨vL,c4,tJ⟩,?_⟩
  rw [show kd.ah (((B,d),(A,c)),(f,s))=[.flat false m 6 k,.flat false n 6 g] from by rw [hm,hn,hk,hg]; rfl,show kd.val (((B,d),(A,c)),(f,s))=.tuple ⟨[y.v,.bool w]⟩ from by show Value.tuple ⟨[(ff (fE s B A)).1.v,.bool (ff (fE s B A)).2]⟩=_; rw [hy],show kd.new (((B,d),(A,c)),(f,s))=none from rfl]
  conv=>whnf
  refine ⟨aD.aP (fun h=>h) (fun r hr=>by rw [hk]; rfl),aD.aP (fun h=>h) (fun r hr=>by rw [hg]; rfl),?_⟩
  conv=>whnf
  refine ⟨_,rfl,?_⟩;conv=>whnf
  exact fin y w ((XR hx).trans hy)
def Eu6:Env:=En [(23,.q aV),(100,.q iX)]
theorem HU:EnvOk Tryz.prog Eu6:=bK ⟨B5,Ss,trivial⟩ trivial
theorem Ui:dq Tryz.prog 40 (dj true):=by
 refine eJ HU aQ Tryz.func40 (enters_of Tryz.func40 (by kernel_rfl) rfl) ?_ ?_ ?_
 ·intro ⟨i,k⟩ B hb;cases i <;> cases k <;> simp [dj,cB,PL.ah] at hb
  ·rw [hb]; rfl
  ·rw [hb]; rfl
  ·rcases hb with rfl | rfl <;> rfl
 ·intro i b hb; simp [dj,cB] at hb
 intro ⟨i,k⟩ hp;have hp:(i.list.length≤1099511627776∧∀ v∈i.list,v.sz 2048)∧k.list.length≤1099511627776∧∀ v∈k.list,v.sz 2048:=hp;obtain ⟨⟨ji,ie⟩,kU,gI⟩:=hp;cases i with
 | none =>
  cases k with
  | none =>
   conv=>whnf
   refine ⟨none,[],rfl,⟨Nat.zero_le _,fun v hv=>nomatch hv⟩,?_⟩
   rw [show aV.ah none=[] from rfl,show aV.val none=.int .i64 4 from rfl,show aV.new none=none from rfl]
   conv=>whnf
   refine ⟨_,rfl,?_⟩;conv=>whnf
   exact ⟨_,rfl,.refl _⟩
  | some k =>
   conv=>whnf
   refine ⟨none,[],rfl,⟨Nat.zero_le _,fun v hv=>nomatch hv⟩,?_⟩
   rw [show aV.ah none=[] from rfl,show aV.val none=.int .i64 4 from rfl,show aV.new none=none from rfl]
   conv=>whnf
   refine ⟨_,rfl,?_⟩;conv=>whnf
   exact ⟨_,rfl,.refl _⟩
 | some i =>
  obtain ⟨A,c⟩:=i;have ji:A.length≤1099511627776:=ji;have ie:∀ v∈A,PV.sz 2048 v:=ie;obtain ⟨na,bA⟩:∃ n,n=A.length:=⟨_,rfl⟩;obtain ⟨ga,bX⟩:∃ g,g=di A:=⟨_,rfl⟩;have fin:∀ (k:PL) (B:List PV) (x:Bool) (e:Int) (n:Nat),k.list=B→gH true A B=(x,e)→∃ v',cT (List.range n) 3 (aY.val (dj true) (some (A,c),k))=some v'∧fp (.tuple ⟨[.bool x,.int .i64 e]⟩) v':=fun k B x e n hk h=>⟨.tuple ⟨[.bool x,.int .i64 e]⟩,by
   subst hk;rw [show aY.val (dj true) (some (A,c),k)=.tuple ⟨[.bool x,.int .i64 e]⟩ from by show Value.tuple ⟨[.bool (gH true A k.list).1,.int .i64 (gH true A k.list).2]⟩=_; rw [h]]; rfl,.refl _⟩
  cases k with
  | none =>
   rw [show aY.ah (dj true) (some (A,c),none)=[.flat false na 6 ga] from by rw [bA,bX]; rfl,show aY.args (dj true) (some (A,c),none)=[.slice (some ⟨0,0,none⟩) na c,.slice none 0 0] from by rw [bA]; rfl]
   rw [← bA] at ji;conv=>whnf
   refine ⟨some (A,c),[0],by rw [show aV.args (some (A,c))=[.slice (some ⟨0,0,none⟩) na c] from by rw [bA]; rfl]; rfl,⟨by show A.length≤_; omega,ie⟩,?_⟩
   rw [show aV.ah (some (A,c))=[.flat false na 6 ga] from by rw [bA,bX]; rfl,show aV.val (some (A,c))=.int .i64 (bh A) from rfl,show aV.new (some (A,c))=none from rfl]
   conv=>whnf
   refine ⟨aD.aP (fun h=>h) (fun r hr=>by rw [bX]; rfl),?_⟩
   conv=>whnf
   refine ⟨_,rfl,?_⟩;obtain ⟨e,he⟩:∃ z,z=bh A:=⟨_,rfl⟩;rw [← he];conv=>whnf
   by_cases h1:e=0
   ·rw [show (e != 0)=false from by simp [h1]]
    conv=>whnf
    refine ⟨none,[],rfl,⟨Nat.zero_le _,fun v hv=>nomatch hv⟩,?_⟩
    rw [show aV.ah none=[] from rfl,show aV.val none=.int .i64 4 from rfl,show aV.new none=none from rfl]
    conv=>whnf
    refine ⟨_,rfl,?_⟩;conv=>whnf
    exact fin none [] false 1 _ rfl (si fun e=>by have:=e.2; cases this)
   ·rw [show (e != 0)=true from by simp [h1]]
    conv=>whnf
    exact fin none [] false 1 _ rfl (si fun e=>by have:=e.2; cases this)
  | some k =>
   obtain ⟨B,d⟩:=k;have kU:B.length≤1099511627776:=kU;have gI:∀ v∈B,PV.sz 2048 v:=gI;obtain ⟨nb,bJ⟩:∃ n,n=B.length:=⟨_,rfl⟩;obtain ⟨gb,cO⟩:∃ g,g=di B:=⟨_,rfl⟩;rw [show aY.ah (dj true) (some (A,c),some (B,d))=[.flat false na 6 ga,.flat false nb 6 gb] from by rw [bA,bX,bJ,cO]; rfl,show aY.args (dj true) (some (A,c),some (B,d))=[.slice (some ⟨0,0,none⟩) na c,.slice (some ⟨1,0,none⟩) nb d] from by rw [bA,bJ]; rfl]
   rw [← bA] at ji;rw [← bJ] at kU;have fin:=fun (x:Bool) (e:Int)=>fin (some (B,d)) B x e 2 rfl
   conv=>whnf
   refine ⟨some (A,c),[0],by rw [show aV.args (some (A,c))=[.slice (some ⟨0,0,none⟩) na c] from by rw [bA]; rfl]; rfl,⟨by show A.length≤_; omega,ie⟩,?_⟩
   rw [show aV.ah (some (A,c))=[.flat false na 6 ga] from by rw [bA,bX]; rfl,show aV.val (some (A,c))=.int .i64 (bh A) from rfl,show aV.new (some (A,c))=none from rfl]
   conv=>whnf
   refine ⟨aD.aP (fun h=>h) (fun r hr=>by rw [bX]; rfl),?_⟩
   conv=>whnf
   refine ⟨_,rfl,?_⟩;obtain ⟨e,he⟩:∃ z,z=bh A:=⟨_,rfl⟩;rw [← he];conv=>whnf
   by_cases h1:e=0
   ·rw [show (e != 0)=false from by simp [h1]]
    conv=>whnf
    refine ⟨some (B,d),[1],by rw [show aV.args (some (B,d))=[.slice (some ⟨0,0,none⟩) nb d] from by rw [bJ]; rfl]; rfl,⟨by show B.length≤_; omega,gI⟩,?_⟩
    rw [show aV.ah (some (B,d))=[.flat false nb 6 gb] from by rw [bJ,cO]; rfl,show aV.val (some (B,d))=.int .i64 (bh B) from rfl,show aV.new (some (B,d))=none from rfl]
    conv=>whnf
    refine ⟨aD.aP (fun h=>h) (fun r hr=>by rw [cO]; rfl),?_⟩
    conv=>whnf
    refine ⟨_,rfl,?_⟩;obtain ⟨e2,bW⟩:∃ z,z=bh B:=⟨_,rfl⟩;rw [← bW];conv=>whnf
    by_cases J:e2=0
    ·rw [show (e2 != 0)=false from by simp [J]]
     have hk:bh A=0∧bh B=0:=⟨by rw [← he]; exact h1,by rw [← bW]; exact J⟩
     have JW:=iY hk.1;have JX:=iY hk.2;conv=>whnf
     obtain ⟨⟨x,z⟩,hx⟩:∃ x,ff (eW true (aL A) (aL B))=x:=⟨_,rfl⟩;refine ⟨(((aL A,c),(aL B,d)),(101,true)),[0,1],by rw [show iX.args (((aL A,c),(aL B,d)),(101,true))=[.slice (some ⟨0,0,none⟩) na c,.slice (some ⟨1,0,none⟩) nb d,.func (.func 101) #[] #[]] from by rw [bA,bJ,← cm A,← cm B]; rfl]; rfl,⟨by simp,⟨by show (aL A).length≤_; rw [cm]; omega,iz ie (by decide)⟩,by show (aL B).length≤_; rw [cm]; omega,iz gI (by decide)⟩,?_⟩
     rw [show iX.ah (((aL A,c),(aL B,d)),(101,true))=[.flat false na 6 ga,.flat false nb 6 gb] from by rw [bA,bJ,bX,cO,← cm A,← cm B,← uq hk.1,← uq hk.2]; rfl,show iX.val (((aL A,c),(aL B,d)),(101,true))=.tuple ⟨[x.v,.bool z]⟩ from by show Value.tuple ⟨[(ff (eW true (aL A) (aL B))).1.v,.bool (ff (eW true (aL A) (aL B))).2]⟩=_; rw [hx],show iX.new (((aL A,c),(aL B,d)),(101,true))=none from rfl]
     conv=>whnf
     refine ⟨aD.aP (fun h=>h) (fun r hr=>by rw [bX]; rfl),aD.aP (fun h=>h) (fun r hr=>by rw [cO]; rfl),?_⟩
     conv=>whnf
     refine ⟨_,rfl,?_⟩;conv=>whnf
     have hv:=Oa hk hx;cases z with
     | false =>
      conv=>whnf
      exact fin _ _ hv
     | true =>
      conv=>whnf
      exact fin _ _ hv
    ·rw [show (e2 != 0)=true from by simp [J]]
     conv=>whnf
     exact fin false 1 (si fun h=>J (by rw [bW]; exact h.2))
   ·rw [show (e != 0)=true from by simp [h1]]
    conv=>whnf
    exact fin false 1 (si fun h=>h1 (by rw [he]; exact h.1))
theorem W3:dq Tryz.prog 42 (dj false):=by
 refine eJ HU aQ Tryz.func42 (enters_of Tryz.func42 (by kernel_rfl) rfl) ?_ ?_ ?_
 ·intro ⟨i,k⟩ B hb;cases i <;> cases k <;> simp [dj,cB,PL.ah] at hb
  ·rw [hb]; rfl
  ·rw [hb]; rfl
  ·rcases hb with rfl | rfl <;> rfl
 ·intro i b hb; simp [dj,cB] at hb
 intro ⟨i,k⟩ hp;have hp:(i.list.length≤1099511627776∧∀ v∈i.list,v.sz 2048)∧k.list.length≤1099511627776∧∀ v∈k.list,v.sz 2048:=hp;obtain ⟨⟨ji,ie⟩,kU,gI⟩:=hp;cases i with
 | none =>
  cases k with
  | none =>
   conv=>whnf
   refine ⟨none,[],rfl,⟨Nat.zero_le _,fun v hv=>nomatch hv⟩,?_⟩
   rw [show aV.ah none=[] from rfl,show aV.val none=.int .i64 4 from rfl,show aV.new none=none from rfl]
   conv=>whnf
   refine ⟨_,rfl,?_⟩;conv=>whnf
   exact ⟨_,rfl,.refl _⟩
  | some k =>
   conv=>whnf
   refine ⟨none,[],rfl,⟨Nat.zero_le _,fun v hv=>nomatch hv⟩,?_⟩
   rw [show aV.ah none=[] from rfl,show aV.val none=.int .i64 4 from rfl,show aV.new none=none from rfl]
   conv=>whnf
   refine ⟨_,rfl,?_⟩;conv=>whnf
   exact ⟨_,rfl,.refl _⟩
 | some i =>
  obtain ⟨A,c⟩:=i;have ji:A.length≤1099511627776:=ji;have ie:∀ v∈A,PV.sz 2048 v:=ie;obtain ⟨na,bA⟩:∃ n,n=A.length:=⟨_,rfl⟩;obtain ⟨ga,bX⟩:∃ g,g=di A:=⟨_,rfl⟩;have fin:∀ (k:PL) (B:List PV) (x:Bool) (e:Int) (n:Nat),k.list=B→gH false A B=(x,e)→∃ v',cT (List.range n) 3 (aY.val (dj false) (some (A,c),k))=some v'∧fp (.tuple ⟨[.bool x,.int .i64 e]⟩) v':=fun k B x e n hk h=>⟨.tuple ⟨[.bool x,.int .i64 e]⟩,by
   subst hk;rw [show aY.val (dj false) (some (A,c),k)=.tuple ⟨[.bool x,.int .i64 e]⟩ from by show Value.tuple ⟨[.bool (gH false A k.list).1,.int .i64 (gH false A k.list).2]⟩=_; rw [h]]; rfl,.refl _⟩
  cases k with
  | none =>
   rw [show aY.ah (dj false) (some (A,c),none)=[.flat false na 6 ga] from by rw [bA,bX]; rfl,show aY.args (dj false) (some (A,c),none)=[.slice (some ⟨0,0,none⟩) na c,.slice none 0 0] from by rw [bA]; rfl]
   rw [← bA] at ji;conv=>whnf
   refine ⟨some (A,c),[0],by rw [show aV.args (some (A,c))=[.slice (some ⟨0,0,none⟩) na c] from by rw [bA]; rfl]; rfl,⟨by show A.length≤_; omega,ie⟩,?_⟩
   rw [show aV.ah (some (A,c))=[.flat false na 6 ga] from by rw [bA,bX]; rfl,show aV.val (some (A,c))=.int .i64 (bh A) from rfl,show aV.new (some (A,c))=none from rfl]
   conv=>whnf
   refine ⟨aD.aP (fun h=>h) (fun r hr=>by rw [bX]; rfl),?_⟩
   conv=>whnf
   refine ⟨_,rfl,?_⟩;obtain ⟨e,he⟩:∃ z,z=bh A:=⟨_,rfl⟩;rw [← he];conv=>whnf
   by_cases h1:e=0
   ·rw [show (e != 0)=false from by simp [h1]]
    conv=>whnf
    refine ⟨none,[],rfl,⟨Nat.zero_le _,fun v hv=>nomatch hv⟩,?_⟩
    rw [show aV.ah none=[] from rfl,show aV.val none=.int .i64 4 from rfl,show aV.new none=none from rfl]
    conv=>whnf
    refine ⟨_,rfl,?_⟩;conv=>whnf
    exact fin none [] false 1 _ rfl (si fun e=>by have:=e.2; cases this)
   ·rw [show (e != 0)=true from by simp [h1]]
    conv=>whnf
    exact fin none [] false 1 _ rfl (si fun e=>by have:=e.2; cases this)
  | some k =>
   obtain ⟨B,d⟩:=k;have kU:B.length≤1099511627776:=kU;have gI:∀ v∈B,PV.sz 2048 v:=gI;obtain ⟨nb,bJ⟩:∃ n,n=B.length:=⟨_,rfl⟩;obtain ⟨gb,cO⟩:∃ g,g=di B:=⟨_,rfl⟩;rw [show aY.ah (dj false) (some (A,c),some (B,d))=[.flat false na 6 ga,.flat false nb 6 gb] from by rw [bA,bX,bJ,cO]; rfl,show aY.args (dj false) (some (A,c),some (B,d))=[.slice (some ⟨0,0,none⟩) na c,.slice (some ⟨1,0,none⟩) nb d] from by rw [bA,bJ]; rfl]
   rw [← bA] at ji;rw [← bJ] at kU;have fin:=fun (x:Bool) (e:Int)=>fin (some (B,d)) B x e 2 rfl
   conv=>whnf
   refine ⟨some (A,c),[0],by rw [show aV.args (some (A,c))=[.slice (some ⟨0,0,none⟩) na c] from by rw [bA]; rfl]; rfl,⟨by show A.length≤_; omega,ie⟩,?_⟩
   rw [show aV.ah (some (A,c))=[.flat false na 6 ga] from by rw [bA,bX]; rfl,show aV.val (some (A,c))=.int .i64 (bh A) from rfl,show aV.new (some (A,c))=none from rfl]
   conv=>whnf
   refine ⟨aD.aP (fun h=>h) (fun r hr=>by rw [bX]; rfl),?_⟩
   conv=>whnf
   refine ⟨_,rfl,?_⟩;obtain ⟨e,he⟩:∃ z,z=bh A:=⟨_,rfl⟩;rw [← he];conv=>whnf
   by_cases h1:e=0
   ·rw [show (e != 0)=false from by simp [h1]]
    conv=>whnf
    refine ⟨some (B,d),[1],by rw [show aV.args (some (B,d))=[.slice (some ⟨0,0,none⟩) nb d] from by rw [bJ]; rfl]; rfl,⟨by show B.length≤_; omega,gI⟩,?_⟩
    rw [show aV.ah (some (B,d))=[.flat false nb 6 gb] from by rw [bJ,cO]; rfl,show aV.val (some (B,d))=.int .i64 (bh B) from rfl,show aV.new (some (B,d))=none from rfl]
    conv=>whnf
    refine ⟨aD.aP (fun h=>h) (fun r hr=>by rw [cO]; rfl),?_⟩
    conv=>whnf
    refine ⟨_,rfl,?_⟩;obtain ⟨e2,bW⟩:∃ z,z=bh B:=⟨_,rfl⟩;rw [← bW];conv=>whnf
    by_cases J:e2=0
    ·rw [show (e2 != 0)=false from by simp [J]]
     have hk:bh A=0∧bh B=0:=⟨by rw [← he]; exact h1,by rw [← bW]; exact J⟩
     have JW:=iY hk.1;have JX:=iY hk.2;conv=>whnf
     obtain ⟨⟨x,z⟩,hx⟩:∃ x,ff (eW false (aL A) (aL B))=x:=⟨_,rfl⟩;refine ⟨(((aL A,c),(aL B,d)),(103,false)),[0,1],by rw [show iX.args (((aL A,c),(aL B,d)),(103,false))=[.slice (some ⟨0,0,none⟩) na c,.slice (some ⟨1,0,none⟩) nb d,.func (.func 103) #[] #[]] from by rw [bA,bJ,← cm A,← cm B]; rfl]; rfl,⟨by simp,⟨by show (aL A).length≤_; rw [cm]; omega,iz ie (by decide)⟩,by show (aL B).length≤_; rw [cm]; omega,iz gI (by decide)⟩,?_⟩
     rw [show iX.ah (((aL A,c),(aL B,d)),(103,false))=[.flat false na 6 ga,.flat false nb 6 gb] from by rw [bA,bJ,bX,cO,← cm A,← cm B,← uq hk.1,← uq hk.2]; rfl,show iX.val (((aL A,c),(aL B,d)),(103,false))=.tuple ⟨[x.v,.bool z]⟩ from by show Value.tuple ⟨[(ff (eW false (aL A) (aL B))).1.v,.bool (ff (eW false (aL A) (aL B))).2]⟩=_; rw [hx],show iX.new (((aL A,c),(aL B,d)),(103,false))=none from rfl]
     conv=>whnf
     refine ⟨aD.aP (fun h=>h) (fun r hr=>by rw [bX]; rfl),aD.aP (fun h=>h) (fun r hr=>by rw [cO]; rfl),?_⟩
     conv=>whnf
     refine ⟨_,rfl,?_⟩;conv=>whnf
     have hv:=Oa hk hx;cases z with
     | false =>
      conv=>whnf
      exact fin _ _ hv
     | true =>
      conv=>whnf
      exact fin _ _ hv
    ·rw [show (e2 != 0)=true from by simp [J]]
     conv=>whnf
     exact fin false 1 (si fun h=>J (by rw [bW]; exact h.2))
   ·rw [show (e != 0)=true from by simp [h1]]
    conv=>whnf
    exact fin false 1 (si fun h=>h1 (by rw [he]; exact h.1))
theorem Ou:dq Tryz.prog 44 cB:=by
 refine eJ HU aQ Tryz.func44 (enters_of Tryz.func44 (by kernel_rfl) rfl) ?_ ?_ ?_
 ·intro ⟨i,k⟩ B hb;cases i <;> cases k <;> simp [dj,cB,PL.ah] at hb
  ·rw [hb]; rfl
  ·rw [hb]; rfl
  ·rcases hb with rfl | rfl <;> rfl
 ·intro i b hb; simp [dj,cB] at hb
 intro ⟨i,k⟩ hp;have hp:(i.list.length≤1099511627776∧∀ v∈i.list,v.sz 2048)∧k.list.length≤1099511627776∧∀ v∈k.list,v.sz 2048:=hp;obtain ⟨⟨ji,ie⟩,kU,gI⟩:=hp;cases i with
 | none =>
  cases k with
  | none =>
   conv=>whnf
   refine ⟨none,[],rfl,⟨Nat.zero_le _,fun v hv=>nomatch hv⟩,?_⟩
   rw [show aV.ah none=[] from rfl,show aV.val none=.int .i64 4 from rfl,show aV.new none=none from rfl]
   conv=>whnf
   refine ⟨_,rfl,?_⟩;conv=>whnf
   exact ⟨_,rfl,.refl _⟩
  | some k =>
   conv=>whnf
   refine ⟨none,[],rfl,⟨Nat.zero_le _,fun v hv=>nomatch hv⟩,?_⟩
   rw [show aV.ah none=[] from rfl,show aV.val none=.int .i64 4 from rfl,show aV.new none=none from rfl]
   conv=>whnf
   refine ⟨_,rfl,?_⟩;conv=>whnf
   exact ⟨_,rfl,.refl _⟩
 | some i =>
  obtain ⟨A,c⟩:=i;have ji:A.length≤1099511627776:=ji;have ie:∀ v∈A,PV.sz 2048 v:=ie;obtain ⟨na,bA⟩:∃ n,n=A.length:=⟨_,rfl⟩;obtain ⟨ga,bX⟩:∃ g,g=di A:=⟨_,rfl⟩;have fin:∀ (k:PL) (B:List PV) (x:XV) (e:Int) (n:Nat),k.list=B→eG A B=(x,e)→∃ v',cT (List.range n) 3 (aY.val cB (some (A,c),k))=some v'∧fp (.tuple ⟨[x.v,.int .i64 e]⟩) v':=fun k B x e n hk h=>⟨.tuple ⟨[x.v,.int .i64 e]⟩,by
   subst hk;rw [show aY.val cB (some (A,c),k)=.tuple ⟨[x.v,.int .i64 e]⟩ from by show Value.tuple ⟨[(eG A k.list).1.v,.int .i64 (eG A k.list).2]⟩=_; rw [h]]; rfl,.refl _⟩
  cases k with
  | none =>
   rw [show aY.ah cB (some (A,c),none)=[.flat false na 6 ga] from by rw [bA,bX]; rfl,show aY.args cB (some (A,c),none)=[.slice (some ⟨0,0,none⟩) na c,.slice none 0 0] from by rw [bA]; rfl]
   rw [← bA] at ji;conv=>whnf
   refine ⟨some (A,c),[0],by rw [show aV.args (some (A,c))=[.slice (some ⟨0,0,none⟩) na c] from by rw [bA]; rfl]; rfl,⟨by show A.length≤_; omega,ie⟩,?_⟩
   rw [show aV.ah (some (A,c))=[.flat false na 6 ga] from by rw [bA,bX]; rfl,show aV.val (some (A,c))=.int .i64 (bh A) from rfl,show aV.new (some (A,c))=none from rfl]
   conv=>whnf
   refine ⟨aD.aP (fun h=>h) (fun r hr=>by rw [bX]; rfl),?_⟩
   conv=>whnf
   refine ⟨_,rfl,?_⟩;obtain ⟨e,he⟩:∃ z,z=bh A:=⟨_,rfl⟩;rw [← he];conv=>whnf
   by_cases h1:e=0
   ·rw [show (e != 0)=false from by simp [h1]]
    conv=>whnf
    refine ⟨none,[],rfl,⟨Nat.zero_le _,fun v hv=>nomatch hv⟩,?_⟩
    rw [show aV.ah none=[] from rfl,show aV.val none=.int .i64 4 from rfl,show aV.new none=none from rfl]
    conv=>whnf
    refine ⟨_,rfl,?_⟩;conv=>whnf
    exact fin none [] ko 1 _ rfl (CM fun e=>by have:=e.2; cases this)
   ·rw [show (e != 0)=true from by simp [h1]]
    conv=>whnf
    exact fin none [] ko 1 _ rfl (CM fun e=>by have:=e.2; cases this)
  | some k =>
   obtain ⟨B,d⟩:=k;have kU:B.length≤1099511627776:=kU;have gI:∀ v∈B,PV.sz 2048 v:=gI;obtain ⟨nb,bJ⟩:∃ n,n=B.length:=⟨_,rfl⟩;obtain ⟨gb,cO⟩:∃ g,g=di B:=⟨_,rfl⟩;rw [show aY.ah cB (some (A,c),some (B,d))=[.flat false na 6 ga,.flat false nb 6 gb] from by rw [bA,bX,bJ,cO]; rfl,show aY.args cB (some (A,c),some (B,d))=[.slice (some ⟨0,0,none⟩) na c,.slice (some ⟨1,0,none⟩) nb d] from by rw [bA,bJ]; rfl]
   rw [← bA] at ji;rw [← bJ] at kU;have fin:=fun (x:XV) (e:Int)=>fin (some (B,d)) B x e 2 rfl
   conv=>whnf
   refine ⟨some (A,c),[0],by rw [show aV.args (some (A,c))=[.slice (some ⟨0,0,none⟩) na c] from by rw [bA]; rfl]; rfl,⟨by show A.length≤_; omega,ie⟩,?_⟩
   rw [show aV.ah (some (A,c))=[.flat false na 6 ga] from by rw [bA,bX]; rfl,show aV.val (some (A,c))=.int .i64 (bh A) from rfl,show aV.new (some (A,c))=none from rfl]
   conv=>whnf
   refine ⟨aD.aP (fun h=>h) (fun r hr=>by rw [bX]; rfl),?_⟩
   conv=>whnf
   refine ⟨_,rfl,?_⟩;obtain ⟨e,he⟩:∃ z,z=bh A:=⟨_,rfl⟩;rw [← he];conv=>whnf
   by_cases h1:e=0
   ·rw [show (e != 0)=false from by simp [h1]]
    conv=>whnf
    refine ⟨some (B,d),[1],by rw [show aV.args (some (B,d))=[.slice (some ⟨0,0,none⟩) nb d] from by rw [bJ]; rfl]; rfl,⟨by show B.length≤_; omega,gI⟩,?_⟩
    rw [show aV.ah (some (B,d))=[.flat false nb 6 gb] from by rw [bJ,cO]; rfl,show aV.val (some (B,d))=.int .i64 (bh B) from rfl,show aV.new (some (B,d))=none from rfl]
    conv=>whnf
    refine ⟨aD.aP (fun h=>h) (fun r hr=>by rw [cO]; rfl),?_⟩
    conv=>whnf
    refine ⟨_,rfl,?_⟩;obtain ⟨e2,bW⟩:∃ z,z=bh B:=⟨_,rfl⟩;rw [← bW];conv=>whnf
    by_cases J:e2=0
    ·rw [show (e2 != 0)=false from by simp [J]]
     have hk:bh A=0∧bh B=0:=⟨by rw [← he]; exact h1,by rw [← bW]; exact J⟩
     have JW:=iY hk.1;have JX:=iY hk.2;conv=>whnf
     obtain ⟨⟨x,z⟩,hx⟩:∃ x,ff (eW true (aL A) (aL B))=x:=⟨_,rfl⟩;refine ⟨(((aL A,c),(aL B,d)),(105,true)),[0,1],by rw [show iX.args (((aL A,c),(aL B,d)),(105,true))=[.slice (some ⟨0,0,none⟩) na c,.slice (some ⟨1,0,none⟩) nb d,.func (.func 105) #[] #[]] from by rw [bA,bJ,← cm A,← cm B]; rfl]; rfl,⟨by simp,⟨by show (aL A).length≤_; rw [cm]; omega,iz ie (by decide)⟩,by show (aL B).length≤_; rw [cm]; omega,iz gI (by decide)⟩,?_⟩
     rw [show iX.ah (((aL A,c),(aL B,d)),(105,true))=[.flat false na 6 ga,.flat false nb 6 gb] from by rw [bA,bJ,bX,cO,← cm A,← cm B,← uq hk.1,← uq hk.2]; rfl,show iX.val (((aL A,c),(aL B,d)),(105,true))=.tuple ⟨[x.v,.bool z]⟩ from by show Value.tuple ⟨[(ff (eW true (aL A) (aL B))).1.v,.bool (ff (eW true (aL A) (aL B))).2]⟩=_; rw [hx],show iX.new (((aL A,c),(aL B,d)),(105,true))=none from rfl]
     conv=>whnf
     refine ⟨aD.aP (fun h=>h) (fun r hr=>by rw [bX]; rfl),aD.aP (fun h=>h) (fun r hr=>by rw [cO]; rfl),?_⟩
     conv=>whnf
     refine ⟨_,rfl,?_⟩;conv=>whnf
     have hv:=XT hk hx;cases z with
     | false =>
      conv=>whnf
      exact fin _ _ hv
     | true =>
      conv=>whnf
      exact fin _ _ hv
    ·rw [show (e2 != 0)=true from by simp [J]]
     conv=>whnf
     exact fin ko 1 (CM fun h=>J (by rw [bW]; exact h.2))
   ·rw [show (e != 0)=true from by simp [h1]]
    conv=>whnf
    exact fin ko 1 (CM fun h=>h1 (by rw [he]; exact h.1))
open Go Go.Ae
def RK:Env:=En [(23,.q aV),(56,.q fF),(70,.p qj),(34,.p iO),(38,.p gZ),(71,.p qK),(33,.p mM),(35,.p jT)] [(64,cD nL cR Tryz.f64)] [(118,xd)]
theorem adx:EnvOk Tryz.prog RK:=bK ⟨B5,KL,MR,Gn,xc,Ot,zj,On,trivial⟩ ⟨yR,trivial⟩
theorem ab7:iC Tryz.prog RK:=yc ⟨yD,trivial⟩
theorem ZU:dq Tryz.prog 21 mD:=by
 refine eJ adx aQ Tryz.func21 (enters_of Tryz.func21 (by kernel_rfl) rfl) ?_ ?_ ?_ (hI:=ab7)
 ·intro ⟨i,_⟩ b hb;cases i with
  | none=>simp [mD,PL.ah] at hb
  | some i=>simp [mD,PL.ah] at hb; rw [hb]; rfl
 ·intro i b hb; simp [mD] at hb
 intro ⟨i,⟨p,q⟩⟩ hp;have hp:(i.list.length≤1099511627776∧∀ v∈i.list,v.sz 2048)∧p.sz 2048∧q.sz 2048:=hp;obtain ⟨⟨hlen,bm⟩,sp,sq⟩:=hp;have qp:=PV.cV sp (by decide)
 have qq:=PV.cV sq (by decide)
 cases i with
 | none =>
  conv=>whnf
  refine ⟨none,[],rfl,⟨Nat.zero_le _,fun v hv=>nomatch hv⟩,?_⟩
  rw [show aV.ah none=[] from rfl,show aV.val none=.int .i64 4 from rfl,show aV.new none=none from rfl]
  conv=>whnf
  refine ⟨_,rfl,?_⟩;conv=>whnf
  exact ⟨_,rfl,.refl _⟩
 | some i =>
  obtain ⟨L,c⟩:=i;have hlen:L.length≤1099511627776:=hlen;have bm:∀ v∈L,PV.sz 2048 v:=bm;obtain ⟨n,hn⟩:∃ n,n=L.length:=⟨_,rfl⟩;obtain ⟨g,hg⟩:∃ g,g=di L:=⟨_,rfl⟩;obtain ⟨K,hK⟩:∃ K,K=hJ mD (some (L,c),(p,q)):=⟨_,rfl⟩;have fin:∀ (x y:RV) (z:Bool) (e:Int) (H:ay),ic L (p,q)=((x,y),z,e)→K (.tuple ⟨[x.v,y.v,.bool z,.int .i64 e]⟩) H:=fun x y z e H h=>by
   rw [hK];unfold hJ;rw [show mD.new (some (L,c),(p,q))=none from rfl,show mD.val (some (L,c),(p,q))=.tuple ⟨[x.v,y.v,.bool z,.int .i64 e]⟩ from by show Value.tuple ⟨[(ic L (p,q)).1.1.v,(ic L (p,q)).1.2.v,.bool (ic L (p,q)).2.1,.int .i64 (ic L (p,q)).2.2]⟩=_; rw [h]]
   exact ⟨_,rfl,.refl _⟩
  rw [show mD.ah (some (L,c),(p,q))=[.flat false n 6 g] from by rw [hn,hg]; rfl,show mD.args (some (L,c),(p,q))=[.slice (some ⟨0,0,none⟩) n c,XV.v (p,q)] from by rw [hn]; rfl,← hK]
  rw [← hn] at hlen;conv=>whnf
  refine ⟨some (L,c),[0],by rw [show aV.args (some (L,c))=[.slice (some ⟨0,0,none⟩) n c] from by rw [hn]; rfl]; rfl,⟨by show L.length≤_; omega,bm⟩,?_⟩
  rw [show aV.ah (some (L,c))=[.flat false n 6 g] from by rw [hn,hg]; rfl,show aV.val (some (L,c))=.int .i64 (bh L) from rfl,show aV.new (some (L,c))=none from rfl]
  conv=>whnf
  refine ⟨aD.aP (fun h=>h) (fun r hr=>by rw [hg]; rfl),?_⟩
  conv=>whnf
  refine ⟨_,rfl,?_⟩;obtain ⟨e,he⟩:∃ z,z=bh L:=⟨_,rfl⟩;rw [← he];conv=>whnf
  by_cases h1:e=0
  ·rw [show (e != 0)=false from by simp [h1]]
   conv=>whnf
   refine ⟨some ([p,q],2),[6],rfl,⟨by show 2≤1099511627776; decide,(fun v hv=>by rcases List.mem_cons.1 hv with rfl | hv; exact sp; rw [List.mem_singleton.1 hv]; exact sq)⟩,?_⟩
   rw [show fF.ah (some ([p,q],2))=[.flat false 2 6 (di [p,q])] from rfl,show fF.val (some ([p,q],2))=.bool (!fw [p,q]) from rfl,show fF.new (some ([p,q],2))=none from rfl]
   conv=>whnf
   refine ⟨Xt [p,q],?_⟩;conv=>whnf
   refine ⟨_,rfl,?_⟩;obtain ⟨r,hr⟩:∃ z,z=fw [p,q]:=⟨_,rfl⟩;rw [← hr];conv=>whnf
   cases r with
   | true =>
    conv=>whnf
    exact fin dp dp false 1 _ (OY fun h=>aeq hr h.2.1 h.2.2)
   | false =>
    conv=>whnf
    have hk:bh L=0∧p.canon∧q.canon:=⟨by rw [← he]; exact h1,acN hr⟩
    have hz:=iY hk.1;obtain ⟨o,eo,po,so,qo⟩:=g0 (q:=(0:Rat)) (AG (Nat.le_refl 1));refine ⟨(0:Int),rfl,⟨by decide,by decide⟩,?_⟩
    rw [show mM.val (0:Int)=o.v from eo]
    conv=>whnf
    obtain ⟨l,el,pl,sl,ql⟩:=g0 (q:=(1:Rat)) (Go.Ae.qb1 (Nat.le_refl 1));refine ⟨(1:Int),rfl,⟨by decide,by decide⟩,?_⟩
    rw [show mM.val (1:Int)=l.v from el]
    conv=>whnf
    intro yl nu fn tm df;conv=>whnf
    refine .inl ⟨fun mm tz hz=>∃ (j:Nat) (lo:RV) (hi:RV),bC (some (.func (.yield yl) #[] #[])::some (.pointer (some ⟨9,0,none⟩))::aF 3 (some (.slice (some ⟨0,0,none⟩) n c)::some (.int .i64 n)::some (.int .i64 j)::aF 17 [])) tz∧hz=[some (.flat false n 6 g),some (.aS true 12 [XV.cells (p,q)]),some (.aS true 3 [dp.c1]),some (.aS true 3 [dp.c1]),some (.aS true 1 [[.bool false]]),some (.aS true 1 [[.int .i64 0]]),some (.aS true 6 [p.cells,q.cells]),some (.aS true 3 [lo.c1]),some (.aS true 3 [hi.c1]),some (.aS true 1 [[.slice (some ⟨0,0,none⟩) n c]]),some (.cj (sT Tryz.f21 fn tm df))]∧n - j=mm∧((j≤n∧u9 (aL L) p.p q.p j=some (lo.q,hi.q))∧(lo=RV.of lo.q∧hi=RV.of hi.q)∧(lo.sz 65536∧hi.sz 65536)∧QB lo.q 65536∧QB hi.q 65536),.inr ⟨[0,1,2,3,4,5,6,7,8,9,10],[0,1,5,6,7],?_⟩,?_⟩
    ·conv=>whnf
     intro _;conv=>whnf
     refine ⟨_,0,o,l,(.aa (.aa (.sk 3 (.aa (.aa (.aa (.sk 17 .nil rfl)))) rfl))),rfl,rfl,?_⟩;exact ⟨⟨Nat.zero_le _,by rw [po,pl]; rfl⟩,⟨by rw [po]; exact (RV.j3 eo).symm,by rw [pl]; exact (RV.j3 el).symm⟩,⟨RV.aX so (by decide),RV.aX sl (by decide)⟩,qo.mono (by decide),ql.mono (by decide)⟩
    rintro mm aW _ ⟨j,lo,hi,aB,rfl,rfl,⟨⟨hj,hU⟩,⟨tK,tL⟩,⟨tM,v5⟩,AT,AU⟩⟩
    obtain ⟨az,rfl⟩:∃ az:Nat→Value,aW=.func (.yield yl) #[] #[]::.pointer (some ⟨9,0,none⟩)::zs az 2 3 (.slice (some ⟨0,0,none⟩) n c::.int .i64 n::.int .i64 j::zs az 8 17 []):=bL aB;clear aB;conv=>whnf
    refine aN (fun h3=>?_) (fun h3=>?_)
    ·have h3:j < n:=by
      have:=of_decide_eq_true h3;omega
     have e7:IntKind.i64.wrap ((j:Int)+1)=((j+1:Nat):Int):=by rw [ax (by omega) (by omega)]; rfl
     obtain ⟨a,b,ra,rb,⟨ma,mb⟩,iV,cL,_,_⟩:=wF hn h3;have sa:=bm a ma;have sb:=bm b mb;have qa:=PV.cV sa (by decide)
     have qb:=PV.cV sb (by decide)
     have c7:=mC h3 (by omega)
     obtain ⟨u,hu⟩:∃ u,u=aZ n j:=⟨_,rfl⟩;rw [← hu] at c7 cL rb;rw [← hg] at ra rb;conv=>whnf
     refine ⟨⟨by omega,by omega⟩,?_⟩
     simp only [toNat_cast,aA,Nat.zero_add];conv=>whnf
     refine ⟨by show j < n; omega,?_⟩
     conv=>whnf
     rw [ra];conv=>whnf
     refine .inl ⟨10,[[],[],[],[],[3],[],[5],[3,4,5,6],[2,3,4,5,6,7],[2,3,4,5,6,7,8],[0,1,2,3,4,5,6,7,8,9],[0,1,2,3,4,5,6,7,8,9,10]],by kernel_rfl,?_⟩
     conv=>whnf
     rw [show decide ((n:Int)≠0)=true from decide_eq_true (by omega)]
     conv=>whnf
     rw [c7];refine ⟨⟨by omega,by omega⟩,?_⟩
     simp only [toNat_cast,aA,Nat.zero_add];conv=>whnf
     refine ⟨by show u < n; omega,?_⟩
     conv=>whnf
     rw [rb];conv=>whnf
     refine ⟨rfl,?_⟩;conv=>whnf
     refine ⟨rfl,?_⟩;conv=>whnf
     refine ⟨rfl,?_⟩;conv=>whnf
     refine .inl ⟨12,[[],[],[],[2],[0,1,2,3],[],[],[],[7],[0,1,2,3,4,5,6,7,8],[],[],[0,1,2,3,4,5,6,7,8,9,10,11],[0,1,2,3,4,5,6,7,8,9,10,11,12]],by kernel_rfl,?_⟩
     conv=>whnf
     obtain ⟨x,ex,px,sx,qx⟩:=g0 (xG qa qb qp);refine ⟨(a,b,p),rfl,⟨PV.aX sa (by decide),PV.aX sb (by decide),PV.aX sp (by decide)⟩,?_⟩
     rw [show qj.val (a,b,p)=x.v from ex]
     conv=>whnf
     obtain ⟨y,ey,py,sy,qy⟩:=g0 (xG qa qb qq);refine ⟨(a,b,q),rfl,⟨PV.aX sa (by decide),PV.aX sb (by decide),PV.aX sq (by decide)⟩,?_⟩
     rw [show qj.val (a,b,q)=y.v from ey]
     conv=>whnf
     have aw:=T1 hU iV px py;refine .inl ⟨7,[[],[0],[0,1],[],[0,1,3],[0,1,3,4],[0,1,2,3,4],[0,1,2,3,4,5,6]],by kernel_rfl,?_⟩
     conv=>whnf
     obtain ⟨zx,ezx,pzx⟩:=fc (ba x.q 0);refine ⟨x,rfl,RV.b6 sx (by decide),?_⟩
     rw [show iO.val x=.int .i64 zx from ezx]
     conv=>whnf
     obtain ⟨zy,ezy,pzy⟩:=fc (ba y.q 0);refine ⟨y,rfl,RV.b6 sy (by decide),?_⟩
     rw [show iO.val y=.int .i64 zy from ezy]
     conv=>whnf
     have cx:zx > 0↔0 < x.q:=by rw [pzx]; exact ui
     have cy:zy > 0↔0 < y.q:=by rw [pzy]; exact ui
     by_cases hx:zx > 0
     ·rw [show decide (zx > 0)=true from decide_eq_true hx]
      have hx:=cx.1 hx;by_cases hy:zy > 0
      ·rw [show decide (zy > 0)=true from decide_eq_true hy]
       have hy:=cy.1 hy;rw [if_neg (fun e=>Rat.not_lt.2 e.1 hx),if_pos ⟨hx,hy⟩] at aw
       conv=>whnf
       refine ⟨rfl,?_⟩;conv=>whnf
       rw [e7];refine .inr ⟨[0,1,2,3,4,5,6,7,8,9,10],[0,1,5,6,7],?_⟩;conv=>whnf
       intro _;conv=>whnf
       refine ⟨_,?_,j+1,lo,hi,(.aa (.aa (.sk 3 (.aa (.aa (.aa (.sk 17 .nil rfl)))) rfl))),rfl,rfl,?_⟩
       ·omega
       ·exact ⟨⟨by omega,aw⟩,⟨tK,tL⟩,⟨tM,v5⟩,AT,AU⟩
      ·rw [show decide (zy > 0)=false from decide_eq_false hy]
       have hy:¬ 0 < y.q:=fun e=>hy (cy.2 e)
       rw [if_neg (fun e=>Rat.not_lt.2 e.1 hx),if_neg (fun e=>hy e.2),if_neg hy] at aw
       conv=>whnf
       refine .inr (.inr (.inl ⟨9,1,[[],[],[],[1,2],[0,1,2,3],[0,1,2,3,4],[0,1,2,3,4,5],[0,1,2,3,4,5],[],[0,1,2,3,4,5,6,8],[0,1,2,3,4,5,6,7,8,9]],[7],by kernel_rfl,?_⟩))
       conv=>whnf
       obtain ⟨d,ed,pd,sd,qd⟩:=g0 (QB.sub qx qy);refine ⟨(x,y),rfl,⟨RV.b6 sx (by decide),RV.b6 sy (by decide)⟩,?_⟩
       rw [show gZ.val (x,y)=d.v from ed]
       conv=>whnf
       obtain ⟨t,et,pt,st,qt⟩:=g0 (QB.div qx qd (by decide))
       obtain ⟨e3,J4,pe3⟩:=fc (if d.q=0 then 10 else 0)
       refine ⟨(x,d),rfl,⟨RV.b6 sx (by decide),RV.b6 sd (by decide)⟩,?_⟩
       rw [show qK.val (x,d)=.tuple ⟨[t.v,.int .i64 e3]⟩ from by rw [← et,← J4]; rfl]
       conv=>whnf
       have ct:=(RV.j3 et).symm;rw [← pt] at ct;rw [pd] at pt;rw [← pt] at aw;obtain ⟨z,ez,pz⟩:=fc (ba t.q hi.q);refine ⟨(t,hi),rfl,⟨RV.b6 st (by decide),RV.b6 v5 (by decide)⟩,?_⟩
       rw [show jT.val (t,hi)=.int .i64 z from ez]
       conv=>whnf
       have cz:z < 0↔t.q < hi.q:=by rw [pz]; exact Gb
       by_cases h5:z < 0
       ·rw [show decide (z < 0)=true from decide_eq_true h5]
        conv=>whnf
        refine ⟨rfl,?_⟩;conv=>whnf
        rw [e7];refine .inr ⟨[0,1,2,3,4,5,6,7,8,9,10],[0,1,5,6,7],?_⟩;conv=>whnf
        intro _;conv=>whnf
        refine ⟨_,?_,j+1,lo,t,(.aa (.aa (.sk 3 (.aa (.aa (.aa (.sk 17 .nil rfl)))) rfl))),rfl,rfl,?_⟩
        ·omega
        ·exact ⟨⟨by omega,by rw [aw]; unfold lW; rw [if_pos (cz.1 h5)]⟩,⟨tK,ct⟩,⟨tM,RV.aX st (by decide)⟩,AT,qt.mono (by decide)⟩
       ·rw [show decide (z < 0)=false from decide_eq_false h5]
        conv=>whnf
        refine ⟨rfl,?_⟩;conv=>whnf
        rw [e7];refine .inr ⟨[0,1,2,3,4,5,6,7,8,9,10],[0,1,5,6,7],?_⟩;conv=>whnf
        intro _;conv=>whnf
        refine ⟨_,?_,j+1,lo,hi,(.aa (.aa (.sk 3 (.aa (.aa (.aa (.sk 17 .nil rfl)))) rfl))),rfl,rfl,?_⟩
        ·omega
        ·exact ⟨⟨by omega,by rw [aw]; unfold lW; rw [if_neg (fun e=>h5 (cz.2 e))]⟩,⟨tK,tL⟩,⟨tM,v5⟩,AT,AU⟩
     ·rw [show decide (zx > 0)=false from decide_eq_false hx]
      have hx:¬ 0 < x.q:=fun e=>hx (cx.2 e)
      by_cases hy:zy > 0
      ·rw [show decide (zy > 0)=true from decide_eq_true hy]
       have hy:=cy.1 hy;rw [if_neg (fun e=>Rat.not_lt.2 e.2 hy),if_neg (fun e=>hx e.1),if_pos hy] at aw
       conv=>whnf
       refine .inr (.inr (.inl ⟨9,1,[[],[],[],[1,2],[0,1,2,3],[0,1,2,3,4],[0,1,2,3,4,5],[0,1,2,3,4,5],[],[0,1,2,3,4,5,6,8],[0,1,2,3,4,5,6,7,8,9]],[7],by kernel_rfl,?_⟩))
       conv=>whnf
       obtain ⟨d,ed,pd,sd,qd⟩:=g0 (QB.sub qx qy);refine ⟨(x,y),rfl,⟨RV.b6 sx (by decide),RV.b6 sy (by decide)⟩,?_⟩
       rw [show gZ.val (x,y)=d.v from ed]
       conv=>whnf
       obtain ⟨t,et,pt,st,qt⟩:=g0 (QB.div qx qd (by decide))
       obtain ⟨e3,J4,pe3⟩:=fc (if d.q=0 then 10 else 0)
       refine ⟨(x,d),rfl,⟨RV.b6 sx (by decide),RV.b6 sd (by decide)⟩,?_⟩
       rw [show qK.val (x,d)=.tuple ⟨[t.v,.int .i64 e3]⟩ from by rw [← et,← J4]; rfl]
       conv=>whnf
       have ct:=(RV.j3 et).symm;rw [← pt] at ct;rw [pd] at pt;rw [← pt] at aw;obtain ⟨z,ez,pz⟩:=fc (ba t.q lo.q);refine ⟨(t,lo),rfl,⟨RV.b6 st (by decide),RV.b6 tM (by decide)⟩,?_⟩
       rw [show jT.val (t,lo)=.int .i64 z from ez]
       conv=>whnf
       have cz:z > 0↔lo.q < t.q:=by rw [pz]; exact ui
       by_cases h5:z > 0
       ·rw [show decide (z > 0)=true from decide_eq_true h5]
        conv=>whnf
        refine ⟨rfl,?_⟩;conv=>whnf
        rw [e7];refine .inr ⟨[0,1,2,3,4,5,6,7,8,9,10],[0,1,5,6,7],?_⟩;conv=>whnf
        intro _;conv=>whnf
        refine ⟨_,?_,j+1,t,hi,(.aa (.aa (.sk 3 (.aa (.aa (.aa (.sk 17 .nil rfl)))) rfl))),rfl,rfl,?_⟩
        ·omega
        ·exact ⟨⟨by omega,by rw [aw]; unfold lV; rw [if_pos (cz.1 h5)]⟩,⟨ct,tL⟩,⟨RV.aX st (by decide),v5⟩,qt.mono (by decide),AU⟩
       ·rw [show decide (z > 0)=false from decide_eq_false h5]
        conv=>whnf
        refine ⟨rfl,?_⟩;conv=>whnf
        rw [e7];refine .inr ⟨[0,1,2,3,4,5,6,7,8,9,10],[0,1,5,6,7],?_⟩;conv=>whnf
        intro _;conv=>whnf
        refine ⟨_,?_,j+1,lo,hi,(.aa (.aa (.sk 3 (.aa (.aa (.aa (.sk 17 .nil rfl)))) rfl))),rfl,rfl,?_⟩
        ·omega
        ·exact ⟨⟨by omega,by rw [aw]; unfold lV; rw [if_neg (fun e=>h5 (cz.2 e))]⟩,⟨tK,tL⟩,⟨tM,v5⟩,AT,AU⟩
      ·rw [show decide (zy > 0)=false from decide_eq_false hy]
       have hy:¬ 0 < y.q:=fun e=>hy (cy.2 e)
       rw [if_pos ⟨Rat.not_lt.1 hx,Rat.not_lt.1 hy⟩] at aw;conv=>whnf
       refine ⟨rfl,?_⟩;conv=>whnf
       exact fin dp dp false 0 _ (Od hk (T2 aw))
    ·have h3:j=n:=by
      have:=of_decide_eq_false h3;omega
     subst h3;have hE:=Vd (a:=p.p) (b:=q.p) (show j=(aL L).length by rw [cm]; exact hn)
     rw [hU] at hE;conv=>whnf
     obtain ⟨z,ez,pz⟩:=fc (ba lo.q hi.q);refine ⟨(lo,hi),rfl,⟨RV.b6 tM (by decide),RV.b6 v5 (by decide)⟩,?_⟩
     rw [show jT.val (lo,hi)=.int .i64 z from ez]
     conv=>whnf
     by_cases h5:hi.q≤lo.q
     ·rw [show decide (z ≥ 0)=true from decide_eq_true (by rw [pz]; exact nO.2 h5)]
      conv=>whnf
      exact fin dp dp false 0 _ (Od hk (hE.symm.trans (WA h5)))
     ·rw [show decide (z ≥ 0)=false from decide_eq_false (by rw [pz]; exact fun e=>h5 (nO.1 e))]
      conv=>whnf
      have gw:ic L (p,q)=((lo,hi),true,0):=XY hk (hE.symm.trans (WB h5)) tK tL;refine .inr (.inl ⟨(.br 0 (.br 1 (.br 2 (.br 3 (.br 4 (.br 5 .leaf .leaf) .leaf) .leaf) .leaf) (.br 2 (.br 1 (.br 3 (.br 4 (.br 5 .leaf .leaf) .leaf) .leaf) .leaf) .leaf)) (.br 1 (.br 0 (.br 2 (.br 3 (.br 4 (.br 5 .leaf .leaf) .leaf) .leaf) .leaf) .leaf) .leaf)),by kernel_rfl,?_⟩)
      repeat' ((conv=>whnf); first | exact True.intro | refine And.intro ?_ ?_)
      all_goals conv=>whnf
      all_goals exact fin lo hi true 0 _ gw
  ·rw [show (e != 0)=true from by simp [h1]]
   conv=>whnf
   exact fin dp dp false 1 _ (OY fun h=>h1 (by rw [he]; exact h.1))
set_option maxHeartbeats 1000000
open Go Go.Ae
open Go Go.Ae
def Eqs:Env:=En [(128,.p jT),(157,.p nS),(156,.p lL)]
theorem ady:EnvOk Tryz.prog Eqs:=bK ⟨Gp,NA,NC,trivial⟩ trivial
theorem Vr:bk Tryz.prog 123 iO:=by
 refine bn ady aQ Tryz.func123 (enters_of Tryz.func123 (by kernel_rfl) rfl) (fun _=>rfl) (fun _=>rfl) ?_
 intro (r:RV) hp;have hp:r.ok:=hp;obtain ⟨x,hx⟩:∃ x,x=ba r.q 0:=⟨_,rfl⟩;conv=>whnf
 refine ⟨(r,dp),rfl,⟨hp,RV.b6 (uj 0) (by decide)⟩,?_⟩
 rw [show jT.val (r,dp)=.int .i64 x from by rw [hx]; show Value.int .i64 (ba r.q dp.q)=_; rw [Xs]]
 conv=>whnf
 show Value.int .i64 x=Value.int .i64 (ba r.q 0)
 rw [hx]
open Go Go.Ae
set_option maxHeartbeats 4000000
open Go Go.Ae
open Go Go.Ae
open Go Go.Ae
def Er0:Env:=En [(121,.p kS),(122,.p qf),(123,.p iO)]
theorem adz:EnvOk Tryz.prog Er0:=bK ⟨WZ,Ud,Vr,trivial⟩ trivial
theorem LW:bk Tryz.prog 77 nP:=by
 refine bn adz aQ Tryz.func77 (enters_of Tryz.func77 (by kernel_rfl) rfl) (fun _=>rfl) (fun _=>rfl) ?_
 intro ⟨a,b,c⟩ hp;have hp:a.sz 1048576∧b.sz 1048576∧c.sz 1048576:=hp;obtain ⟨sa,sb,sc⟩:=hp;have qa:=PV.cV sa (by decide)
 have qb:=PV.cV sb (by decide)
 have qc:=PV.cV sc (by decide)
 conv=>whnf
 refine .inl ⟨5,[[],[],[0,1],[],[],[0,1,2,3,4],[0,1,2,3,4,5],[0,1,2,3,4,5,6],[0,1,2,3,4,5,6,7]],by kernel_rfl,?_⟩
 conv=>whnf
 obtain ⟨u,eu,pu,su,qu⟩:=lN (oZ qb qa);refine ⟨(b,a),rfl,⟨PV.aX sb (by decide),PV.aX sa (by decide)⟩,?_⟩
 rw [show kS.val (b,a)=u.v from eu]
 conv=>whnf
 obtain ⟨v,ev,pv,sv,qv⟩:=lN (oZ qc qa);refine ⟨(c,a),rfl,⟨PV.aX sc (by decide),PV.aX sa (by decide)⟩,?_⟩
 rw [show kS.val (c,a)=v.v from ev]
 conv=>whnf
 obtain ⟨w,ew,pw,sw,qw⟩:=g0 (yJ qu qv);refine ⟨(u,v),rfl,⟨PV.aX su (by decide),PV.aX sv (by decide)⟩,?_⟩
 rw [show qf.val (u,v)=w.v from ew]
 conv=>whnf
 obtain ⟨n,en,pn⟩:=fc (ba w.q 0);refine ⟨w,rfl,RV.b6 sw (by decide),?_⟩
 rw [show iO.val w=.int .i64 n from en]
 conv=>whnf
 show Value.int .i64 n=Value.int .i64 (ba (ao a.p b.p c.p) 0)
 rw [pn,pw,pu,pv]
 rfl
def Er1:Env:=En [(68,.p kh)]
theorem adA:EnvOk Tryz.prog Er1:=bK ⟨Ue,trivial⟩ trivial
theorem Uj:dq Tryz.prog 61 fF:=by
 refine eJ adA aQ Tryz.func61 (enters_of Tryz.func61 (by kernel_rfl) rfl) ?_ ?_ ?_
 ·intro i b hb;cases i with
  | none=>simp [fF,PL.ah] at hb
  | some i=>simp [fF,PL.ah] at hb; rw [hb]; rfl
 ·intro i b hb; simp [fF] at hb
 intro i hp;have hp:i.list.length≤1099511627776∧∀ v∈i.list,v.sz 2048:=hp;obtain ⟨hlen,bm⟩:=hp;cases i with
 | none =>
  conv=>whnf
  refine .inr ⟨1,?_⟩;conv=>whnf
  exact ⟨.bool true,rfl,.refl _⟩
 | some i =>
  obtain ⟨L,c⟩:=i;have hlen:L.length≤1099511627776:=hlen;have bm:∀ v∈L,PV.sz 2048 v:=bm;obtain ⟨n,hn⟩:∃ n,n=L.length:=⟨_,rfl⟩;obtain ⟨g,hg⟩:∃ g,g=di L:=⟨_,rfl⟩;have fin:∀ z:Bool,z=!fw L→∃ v',cT (List.range 1) 3 (fF.val (some (L,c)))=some v'∧fp (.bool z) v':=fun z h=>⟨.bool z,by rw [h]; rfl,.refl _⟩
  rw [show fF.ah (some (L,c))=[.flat false n 6 g] from by rw [hn,hg]; rfl,show fF.args (some (L,c))=[.slice (some ⟨0,0,none⟩) n c] from by rw [hn]; rfl]
  rw [← hn] at hlen;conv=>whnf
  refine .inl ⟨fun mm tz hz=>∃ (i:Nat),bC (some (.slice (some ⟨0,0,none⟩) n c)::aF 2 (some (.int .i64 i)::aF 12 [])) tz∧hz=[some (.flat false n 6 g)]∧n - i=mm∧(i≤n∧u7 L i),.inr ⟨[0],[0,3],?_⟩,?_⟩
  ·conv=>whnf
   intro _;conv=>whnf
   refine ⟨_,0,(.aa (.sk 2 (.aa (.sk 12 .nil rfl)) rfl)),rfl,rfl,?_⟩;exact ⟨Nat.zero_le _,K5 _⟩
  rintro mm aW _ ⟨i,aB,rfl,rfl,⟨hi,hU⟩⟩
  obtain ⟨az,rfl⟩:∃ az:Nat→Value,aW=.slice (some ⟨0,0,none⟩) n c::zs az 1 2 (.int .i64 i::zs az 4 12 []):=bL aB;clear aB;conv=>whnf
  refine aN (fun h3=>?_) (fun h3=>?_)
  ·have h3:i < n:=by
    have:=of_decide_eq_true h3;omega
   have e7:IntKind.i64.wrap ((i:Int)+1)=((i+1:Nat):Int):=by rw [ax (by omega) (by omega)]; rfl
   obtain ⟨m,ll,mU,a8⟩:=rS (l:=L) (i:=i) (by omega)
   rw [← hg] at a8;conv=>whnf
   refine ⟨⟨by omega,by omega⟩,?_⟩
   simp only [toNat_cast,aA,Nat.zero_add];conv=>whnf
   refine ⟨by show i < n; omega,?_⟩
   conv=>whnf
   rw [a8];conv=>whnf
   refine ⟨m,rfl,PV.aX (bm m mU) (by decide),?_⟩
   by_cases h4:m.canon
   ·rw [show kh.val m=.int .i64 0 from congrArg (Value.int .i64) (if_pos h4)]
    conv=>whnf
    rw [e7];refine .inr ⟨[0],[0,3],?_⟩;conv=>whnf
    intro _;conv=>whnf
    refine ⟨_,?_,i+1,(.aa (.sk 2 (.aa (.sk 12 .nil rfl)) rfl)),rfl,rfl,?_⟩
    ·omega
    ·exact ⟨by omega,LN hU ll h4⟩
   ·rw [show kh.val m=.int .i64 1 from congrArg (Value.int .i64) (if_neg h4)]
    conv=>whnf
    exact fin false (by rw [show fw L=true from List.any_eq_true.2 ⟨m,mU,decide_eq_true h4⟩]; rfl)
  ·have h3:i=n:=by
    have:=of_decide_eq_false h3;omega
   subst h3;conv=>whnf
   exact fin true (by rw [MA (by rw [← hn]; exact hU)]; rfl)
def Er2:Env:=En [(61,.q fF),(76,.p pf),(77,.p nP)]
theorem adB:EnvOk Tryz.prog Er2:=bK ⟨Uj,W0,LW,trivial⟩ trivial
theorem Uk:dq Tryz.prog 24 aV:=by
 refine eJ adB aQ Tryz.func24 (enters_of Tryz.func24 (by kernel_rfl) rfl) ?_ ?_ ?_
 ·intro i b hb;cases i with
  | none=>simp [aV,PL.ah] at hb
  | some i=>simp [aV,PL.ah] at hb; rw [hb]; rfl
 ·intro i b hb; simp [aV] at hb
 intro i hp;have hp:i.list.length≤1099511627776∧∀ v∈i.list,v.sz 2048:=hp;obtain ⟨hlen,bm⟩:=hp;cases i with
 | none =>
  conv=>whnf
  exact ⟨.int .i64 4,rfl,.refl _⟩
 | some i =>
  obtain ⟨L,c⟩:=i;have hlen:L.length≤1099511627776:=hlen;have bm:∀ v∈L,PV.sz 2048 v:=bm;obtain ⟨n,hn⟩:∃ n,n=L.length:=⟨_,rfl⟩;obtain ⟨g,hg⟩:∃ g,g=di L:=⟨_,rfl⟩;have fin:∀ z:Int,bh L=z→∃ v',cT (List.range 1) 3 (aV.val (some (L,c)))=some v'∧fp (.int .i64 z) v':=fun z h=>⟨.int .i64 z,by rw [← h]; rfl,.refl _⟩
  rw [show aV.ah (some (L,c))=[.flat false n 6 g] from by rw [hn,hg]; rfl,show aV.args (some (L,c))=[.slice (some ⟨0,0,none⟩) n c] from by rw [hn]; rfl]
  rw [← hn] at hlen;conv=>whnf
  by_cases h1:n < 3
  ·rw [show decide ((n:Int) < 3)=true from decide_eq_true (by omega)]
   conv=>whnf
   exact fin 4 (Cl (.inl (by omega)))
  rw [show decide ((n:Int) < 3)=false from decide_eq_false (by omega)]
  conv=>whnf
  by_cases J:64 < n
  ·rw [show decide ((n:Int) > 64)=true from decide_eq_true (by omega)]
   conv=>whnf
   exact fin 4 (Cl (.inr (by omega)))
  rw [show decide ((n:Int) > 64)=false from decide_eq_false (by omega)]
  conv=>whnf
  obtain ⟨z,hz⟩:∃ z,z=fw L:=⟨_,rfl⟩;refine ⟨some (L,c),[0],by rw [show fF.args (some (L,c))=[.slice (some ⟨0,0,none⟩) n c] from by rw [hn]; rfl]; rfl,⟨by show L.length≤_; omega,bm⟩,?_⟩
  rw [show fF.ah (some (L,c))=[.flat false n 6 g] from by rw [hn,hg]; rfl,show fF.val (some (L,c))=.bool (!z) from by rw [hz]; rfl,show fF.new (some (L,c))=none from rfl]
  conv=>whnf
  refine ⟨aD.aP (fun h=>h) (fun r hr=>by rw [hg]; rfl),?_⟩
  conv=>whnf
  refine ⟨_,rfl,?_⟩;conv=>whnf
  cases z with
  | true =>
   conv=>whnf
   exact fin 1 (N8 (by omega) hz.symm)
  | false =>
   conv=>whnf
   have qX:fw L=false:=hz.symm;have h0:=oQ (L:=L) (k:=0) (by omega)
   have so:=bm _ (m6 (L:=L) (k:=0) (by omega))
   have po:=kq (L:=L) (k:=0) (by omega)
   obtain ⟨o,ho⟩:∃ o,o=il L 0:=⟨_,rfl⟩;rw [← ho] at h0 so po;rw [← hg] at h0;have qo:=PV.cV so (by decide)
   have z7:g (Int.toNat 0)=o.cells:=h0;refine .inl ⟨fun mm tz hz=>∃ (i:Nat),bC (some (.slice (some ⟨0,0,none⟩) n c)::aF 2 (some (.int .i64 n)::some (.int .i64 ((i+1:Nat):Int))::aF 79 [])) tz∧hz=[some (.flat false n 6 g)]∧n - i=mm∧(i+1≤n∧xF (aL L) i),.inr ⟨[0],[0,3,4],?_⟩,?_⟩
   ·conv=>whnf
    intro _;conv=>whnf
    refine ⟨_,0,(.aa (.sk 2 (.aa (.aa (.sk 79 .nil rfl))) rfl)),rfl,rfl,?_⟩;exact ⟨by omega,K6 _⟩
   rintro mm aW _ ⟨i,aB,rfl,rfl,⟨hi,hU⟩⟩
   obtain ⟨az,rfl⟩:∃ az:Nat→Value,aW=.slice (some ⟨0,0,none⟩) n c::zs az 1 2 (.int .i64 n::.int .i64 ((i+1:Nat):Int)::zs az 5 79 []):=bL aB;clear aB;conv=>whnf
   refine aN (fun h3=>?_) (fun h3=>?_)
   ·have h3:i+1 < n:=by
     have:=of_decide_eq_true h3;omega
    have e7:IntKind.i64.wrap (((i+1:Nat):Int)+1)=((i+1+1:Nat):Int):=by rw [ax (by omega) (by omega)]; rfl
    have ra:=oQ (L:=L) (k:=i+1) (by omega)
    have sa:=bm _ (m6 (L:=L) (k:=i+1) (by omega))
    have pa:=kq (L:=L) (k:=i+1) (by omega)
    obtain ⟨a,ha⟩:∃ o,o=il L (i+1):=⟨_,rfl⟩;rw [← ha] at ra sa pa;rw [← hg] at ra;have qa:=PV.cV sa (by decide)
    obtain ⟨k,hk⟩:∃ k,k=i+1:=⟨_,rfl⟩;rw [← hk] at ra e7 h3 ⊢;conv=>whnf
    refine .inl ⟨7,[[],[0],[0,1],[],[],[3,4],[3,4,5],[0,1,2,3,4,5,6],[0,1,2,3,4,5,6,7]],by kernel_rfl,?_⟩
    conv=>whnf
    refine ⟨⟨by omega,by omega⟩,?_⟩
    simp only [toNat_cast,aA,Nat.zero_add];conv=>whnf
    refine ⟨by show 0 < n; omega,?_⟩
    conv=>whnf
    rw [z7];conv=>whnf
    refine ⟨⟨by omega,by omega⟩,?_⟩
    simp only [toNat_cast,aA,Nat.zero_add];conv=>whnf
    refine ⟨by show k < n; omega,?_⟩
    conv=>whnf
    rw [ra];conv=>whnf
    obtain ⟨z,ez,pz⟩:=fc (fR o.p a.p);refine ⟨(o,a),rfl,⟨PV.aX so (by decide),PV.aX sa (by decide)⟩,?_⟩
    rw [show pf.val (o,a)=.int .i64 z from ez]
    conv=>whnf
    rw [pa,po] at pz;by_cases h4:fK (au (aL L) 0) (au (aL L) (i+1))
    ·have:=yV.2 h4;rw [show decide (z ≥ 0)=false from decide_eq_false (by omega)]
     conv=>whnf
     rw [e7,hk];refine .inr ⟨[0],[0,3,4],?_⟩;conv=>whnf
     intro _;conv=>whnf
     refine ⟨_,?_,i+1,(.aa (.sk 2 (.aa (.aa (.sk 79 .nil rfl))) rfl)),rfl,rfl,?_⟩
     ·omega
     ·exact ⟨by omega,LO hU h4⟩
    ·have:¬ fR (au (aL L) 0) (au (aL L) (i+1)) < 0:=fun e=>h4 (yV.1 e)
     rw [show decide (z ≥ 0)=true from decide_eq_true (by omega)]
     conv=>whnf
     exact fin 8 (N9 (by omega) qX fun e=>h4 (e (i+1) (by omega) (by rw [cm]; omega)))
   ·have h3:i+1=n:=by
     have:=of_decide_eq_false h3;omega
    have oe:=MB hU (by rw [cm]; omega)
    have yf:3≤(aL L).length:=by rw [cm]; omega
    conv=>whnf
    skip
    refine .inl ⟨fun mm tz hz=>∃ (j:Nat),bC (some (.slice (some ⟨0,0,none⟩) n c)::aF 2 (some (.int .i64 n)::aF 1 (some (.int .i64 j)::aF 78 []))) tz∧hz=[some (.flat false n 6 g)]∧n - j=mm∧(j≤n∧∀ k,k < j→¬ mz (aL L) k),.inr ⟨[0],[0,3,5],?_⟩,?_⟩
    ·conv=>whnf
     intro _;conv=>whnf
     refine ⟨_,0,(.aa (.sk 2 (.aa (.sk 1 (.aa (.sk 78 .nil rfl)) rfl)) rfl)),rfl,rfl,?_⟩;exact ⟨Nat.zero_le _,fun k hk=>absurd hk (Nat.not_lt_zero k)⟩
    rintro mm aW _ ⟨j,aB,rfl,rfl,⟨hj,hB⟩⟩
    obtain ⟨az,rfl⟩:∃ az:Nat→Value,aW=.slice (some ⟨0,0,none⟩) n c::zs az 1 2 (.int .i64 n::zs az 4 1 (.int .i64 j::zs az 6 78 [])):=bL aB;clear aB;conv=>whnf
    refine aN (fun h3=>?_) (fun h3=>?_)
    ·have h3:j < n:=by
      have:=of_decide_eq_true h3;omega
     have e7:IntKind.i64.wrap ((j:Int)+1)=((j+1:Nat):Int):=by rw [ax (by omega) (by omega)]; rfl
     obtain ⟨a,b,ra,rb,⟨ma,mb⟩,_,cL,ha,hb⟩:=wF hn h3;have sa:=bm a ma;have sb:=bm b mb;have qa:=PV.cV sa (by decide)
     have qb:=PV.cV sb (by decide)
     have Qx:=cJ cL;have rd:=oQ (L:=L) (k:=aZ n (aZ n j)) (by omega)
     have sd:=bm _ (m6 (L:=L) (k:=aZ n (aZ n j)) (by omega))
     have pd:=kq (L:=L) (k:=aZ n (aZ n j)) (by omega)
     obtain ⟨d,hd⟩:∃ o,o=il L (aZ n (aZ n j)):=⟨_,rfl⟩;rw [← hd] at rd sd pd;have qd:=PV.cV sd (by decide)
     have pa:a.p=au (aL L) j:=by rw [ha]; exact kq (by omega)
     have pb:b.p=au (aL L) (aZ n j):=by rw [hb]; exact kq (by omega)
     have c7:=mC h3 (by omega)
     have IM:=aas h3 (by omega)
     have gj:n=(aL L).length:=by rw [cm,hn]
     have z5:mz (aL L) j↔ao a.p b.p d.p≤0∨(0 < j∧j+1 < n∧ao (au (aL L) 0) (au (aL L) j) (au (aL L) (j+1))≤0):=by
      unfold mz;rw [← gj,pa,pb,pd]
     obtain ⟨u,hu⟩:∃ u,u=aZ n j:=⟨_,rfl⟩;rw [← hu] at c7 cL rb Qx IM rd;obtain ⟨w,hw⟩:∃ w,w=aZ n u:=⟨_,rfl⟩;rw [← hw] at Qx IM rd;rw [← hg] at ra rb rd;conv=>whnf
     refine .inl ⟨42,[[],[],[0,1],[0,1,2],[],[],[5],[],[5,6,7],[4,5,6,7,8],[4,5,6,7,8,9],[],[],[12],[],[12,13,14],[11,12,13,14,15],[11,12,13,14,15,16],[0,1,2,3,4,5,6,7,8,9,10,11,12,13,14,15,16,17],[0,1,2,3,4,5,6,7,8,9,10,11,12,13,14,15,16,17,18],[0,1,2,3,4,5,6,7,8,9,10,11,12,13,14,15,16,17,18,19],[0,1,2,3,4,5,6,7,8,9,10,11,12,13,14,15,16,17,18,19,20],[0,1,2,3,4,5,6,7,8,9,10,11,12,13,14,15,16,17,18,19,20,21],[0,1,2,3,4,5,6,7,8,9,10,11,12,13,14,15,16,17,18,19,20,21,22],[0,1,2,3,4,5,6,7,8,9,10,11,12,13,14,15,16,17,18,19,20,21,22,23],[0,1,2,3,4,5,6,7,8,9,10,11,12,13,14,15,16,17,18,19,20,21,22,23,24],[0,1,2,3,4,5,6,7,8,9,10,11,12,13,14,15,16,17,18,19,20,21,22,23],[0,1,2,3,4,5,6,7,8,9,10,11,12,13,14,15,16,17,18,19,20,21,22,23,24,25,26],[0,1,2,3,4,5,6,7,8,9,10,11,12,13,14,15,16,17,18,19,20,21,22,23,24,25,26,27],[0,1,2,3,4,5,6,7,8,9,10,11,12,13,14,15,16,17,18,19,20,21,22,23,24,25,26,27,28],[0,1,2,3,4,5,6,7,8,9,10,11,12,13,14,15,16,17,18,19,20,21,22,23,24,25,26,27,28,29],[0,1,2,3,4,5,6,7,8,9,10,11,12,13,14,15,16,17,18,19,20,21,22,23,24,25,26,27,28,29,30],[0,1,2,3,4,5,6,7,8,9,10,11,12,13,14,15,16,17,18,19,20,21,22,23,24,25,26,27,28,29,30,31],[0,1,2,3,4,5,6,7,8,9,10,11,12,13,14,15,16,17,18,19,20,21,22,23,24,25,26,27,28,29],[0,1,2,3,4,5,6,7,8,9,10,11,12,13,14,15,16,17,18,19,20,21,22,23,24,25,26,27,28,29],[0,1,2,3,4,5,6,7,8,9,10,11,12,13,14,15,16,17,18,19,20,21,22,23,24,25,26,27,28,29,33,34],[0,1,2,3,4,5,6,7,8,9,10,11,12,13,14,15,16,17,18,19,20,21,22,23,24,25,26,27,28,29,33,34,35],[0,1,2,3,4,5,6,7,8,9,10,11,12,13,14,15,16,17,18,19,20,21,22,23,24,25,26,27,28,29],[0,1,2,3,4,5,6,7,8,9,10,11,12,13,14,15,16,17,18,19,20,21,22,23,24,25,26,27,28,29],[0,1,2,3,4,5,6,7,8,9,10,11,12,13,14,15,16,17,18,19,20,21,22,23,24,25,26,27,28,29,38],[0,1,2,3,4,5,6,7,8,9,10,11,12,13,14,15,16,17,18,19,20,21,22,23,24,25,26,27,28,29,37,38,39],[0,1,2,3,4,5,6,7,8,9,10,11,12,13,14,15,16,17,18,19,20,21,22,23,24,25,26,27,28,29,37,38,39,40],[0,1,2,3,4,5,6,7,8,9,10,11,12,13,14,15,16,17,18,19,20,21,22,23,24,25,26,27,28,29,30,31,32,33,34,35,36,37,38,39,40,41],[0,1,2,3,4,5,6,7,8,9,10,11,12,13,14,15,16,17,18,19,20,21,22,23,24,25,26,27,28,29,30,31,32,33,34,35,36,37,38,39,40,41,42],[0,1,2,3,4,5,6,7,8,9,10,11,12,13,14,15,16,17,18,19,20,21,22,23,24,25,26,27,28,29,30,31,32,33,34,35,36,37,38,39,40,41,42,43],[0,1,2,3,4,5,6,7,8,9,10,11,12,13,14,15,16,17,18,19,20,21,22,23,24,25,26,27,28,29,30,31,32,33,34,35,36,37,38,39,40,41,42,43,44]],by kernel_rfl,?_⟩
     conv=>whnf
     refine ⟨⟨by omega,by omega⟩,?_⟩
     simp only [toNat_cast,aA,Nat.zero_add];conv=>whnf
     refine ⟨by show j < n; omega,?_⟩
     conv=>whnf
     rw [ra];conv=>whnf
     rw [show decide ((n:Int)≠0)=true from decide_eq_true (by omega)]
     conv=>whnf
     rw [c7];refine ⟨⟨by omega,by omega⟩,?_⟩
     simp only [toNat_cast,aA,Nat.zero_add];conv=>whnf
     refine ⟨by show u < n; omega,?_⟩
     conv=>whnf
     rw [rb];conv=>whnf
     rw [show decide ((n:Int)≠0)=true from decide_eq_true (by omega)]
     conv=>whnf
     rw [IM];refine ⟨⟨by omega,by omega⟩,?_⟩
     simp only [toNat_cast,aA,Nat.zero_add];conv=>whnf
     refine ⟨by show w < n; omega,?_⟩
     conv=>whnf
     rw [rd];conv=>whnf
     obtain ⟨z,ez,pz⟩:=fc (ba (ao a.p b.p d.p) 0);refine ⟨(a,b,d),rfl,⟨PV.aX sa (by decide),PV.aX sb (by decide),PV.aX sd (by decide)⟩,?_⟩
     rw [show nP.val (a,b,d)=.int .i64 z from ez]
     conv=>whnf
     have cz:z≤0↔ao a.p b.p d.p≤0:=by rw [pz]; exact GM
     by_cases h4:z≤0
     ·rw [show decide (z≤0)=true from decide_eq_true h4]
      conv=>whnf
      exact fin 15 (GP (by omega) qX oe fun e=>(uo yf oe).1 e j (by rw [cm]; omega) (z5.2 (.inl (cz.1 h4))))
     ·rw [show decide (z≤0)=false from decide_eq_false h4]
      have next:¬ mz (aL L) j→∀ k,k < j+1→¬ mz (aL L) k:=fun hb k hk=>by
       rcases Nat.lt_or_eq_of_le (Nat.le_of_lt_succ hk) with e | e
       ·exact hB k e
       ·rw [e]; exact hb
      conv=>whnf
      by_cases h5:0 < j
      ·rw [show decide ((j:Int) > 0)=true from decide_eq_true (by omega)]
       conv=>whnf
       rw [e7];by_cases h6:j+1 < n
       ·rw [show decide (((j+1:Nat):Int) < (n:Int))=true from decide_eq_true (by omega)]
        have rv:=oQ (L:=L) (k:=j+1) (by omega)
        have sv:=bm _ (m6 (L:=L) (k:=j+1) (by omega))
        have pv:=kq (L:=L) (k:=j+1) (by omega)
        obtain ⟨v,hv⟩:∃ o,o=il L (j+1):=⟨_,rfl⟩;rw [← hv] at rv sv pv;rw [← hg] at rv;have qv:=PV.cV sv (by decide)
        obtain ⟨k,hk⟩:∃ k,k=j+1:=⟨_,rfl⟩;rw [← hk] at rv;conv=>whnf
        refine ⟨⟨by omega,by omega⟩,?_⟩
        simp only [toNat_cast,aA,Nat.zero_add];conv=>whnf
        refine ⟨by show 0 < n; omega,?_⟩
        conv=>whnf
        rw [z7];conv=>whnf
        refine ⟨⟨by omega,by omega⟩,?_⟩
        simp only [toNat_cast,aA,Nat.zero_add];conv=>whnf
        refine ⟨by show j < n; omega,?_⟩
        conv=>whnf
        rw [ra];conv=>whnf
        rw [e7,← hk];refine ⟨⟨by omega,by omega⟩,?_⟩
        simp only [toNat_cast,aA,Nat.zero_add];conv=>whnf
        refine ⟨by show k < n; omega,?_⟩
        conv=>whnf
        rw [rv];conv=>whnf
        obtain ⟨y,ey,py⟩:=fc (ba (ao o.p a.p v.p) 0);refine ⟨(o,a,v),rfl,⟨PV.aX so (by decide),PV.aX sa (by decide),PV.aX sv (by decide)⟩,?_⟩
        rw [show nP.val (o,a,v)=.int .i64 y from ey]
        conv=>whnf
        have cy:y≤0↔ao o.p a.p v.p≤0:=by rw [py]; exact GM
        rw [pa,po,pv] at cy;by_cases h7:y≤0
        ·rw [show decide (y≤0)=true from decide_eq_true h7]
         conv=>whnf
         exact fin 15 (GP (by omega) qX oe fun e=>(uo yf oe).1 e j (by rw [cm]; omega) (z5.2 (.inr ⟨h5,h6,cy.1 h7⟩)))
        ·rw [show decide (y≤0)=false from decide_eq_false h7]
         conv=>whnf
         rw [e7];refine .inr ⟨[0],[0,3,5],?_⟩;conv=>whnf
         intro _;conv=>whnf
         refine ⟨_,?_,j+1,(.aa (.sk 2 (.aa (.sk 1 (.aa (.sk 78 .nil rfl)) rfl)) rfl)),rfl,rfl,?_⟩
         ·omega
         ·exact ⟨by omega,next fun e=>(z5.1 e).elim (fun e=>h4 (cz.2 e)) fun e=>h7 (cy.2 e.2.2)⟩
       ·rw [show decide (((j+1:Nat):Int) < (n:Int))=false from decide_eq_false (by omega)]
        conv=>whnf
        rw [e7];refine .inr ⟨[0],[0,3,5],?_⟩;conv=>whnf
        intro _;conv=>whnf
        refine ⟨_,?_,j+1,(.aa (.sk 2 (.aa (.sk 1 (.aa (.sk 78 .nil rfl)) rfl)) rfl)),rfl,rfl,?_⟩
        ·omega
        ·exact ⟨by omega,next fun e=>(z5.1 e).elim (fun e=>h4 (cz.2 e)) fun e=>h6 e.2.1⟩
      ·rw [show decide ((j:Int) > 0)=false from decide_eq_false (by omega)]
       conv=>whnf
       rw [e7];refine .inr ⟨[0],[0,3,5],?_⟩;conv=>whnf
       intro _;conv=>whnf
       refine ⟨_,?_,j+1,(.aa (.sk 2 (.aa (.sk 1 (.aa (.sk 78 .nil rfl)) rfl)) rfl)),rfl,rfl,?_⟩
       ·omega
       ·exact ⟨by omega,next fun e=>(z5.1 e).elim (fun e=>h4 (cz.2 e)) fun e=>h5 e.1⟩
    ·have h3:j=n:=by
      have:=of_decide_eq_false h3;omega
     subst h3;conv=>whnf
     exact fin 0 (Nm (by omega) qX oe ((uo yf oe).2 fun k hk=>hB k (by rw [cm] at hk; omega)))
def Er3:Env:=En [(77,.p nP)]
theorem adC:EnvOk Tryz.prog Er3:=bK ⟨LW,trivial⟩ trivial
open Go Go.Ae
theorem O6:bk Tryz.prog 79 ob:=by
 refine bn adC aQ Tryz.func79 (enters_of Tryz.func79 (by kernel_rfl) rfl) (fun _=>rfl) (fun _=>rfl) ?_
 intro ⟨⟨n1,a1,b1⟩,⟨n2,a2,b2⟩⟩ _;have Az:∀ x:ByteArray,12 < x.size→decide ((x.size:Int) > 12)=true:=fun x h=>decide_eq_true (by omega)
 have small:∀ x:ByteArray,¬ 12 < x.size→decide ((x.size:Int) > 12)=false:=fun x h=>decide_eq_false (by omega)
 conv=>whnf
 by_cases h1:12 < a1.size
 ·rw [Az _ h1];conv=>whnf
  exact Cm (by omega)
 rw [small _ h1];conv=>whnf
 by_cases J:12 < b1.size
 ·rw [Az _ J];conv=>whnf
  exact Cm (by omega)
 rw [small _ J];conv=>whnf
 by_cases h3:12 < a2.size
 ·rw [Az _ h3];conv=>whnf
  exact Cm (by omega)
 rw [small _ h3];conv=>whnf
 by_cases h4:12 < b2.size
 ·rw [Az _ h4];exact Cm (by omega)
 rw [small _ h4];exact aaw (by omega)
def Es1:Env:=En [(79,.p ob)]
theorem adD:EnvOk Tryz.prog Es1:=bK ⟨O6,trivial⟩ trivial
theorem Ul:dq Tryz.prog 53 kO:=by
 refine eJ adD aQ Tryz.func53 (enters_of Tryz.func53 (by kernel_rfl) rfl) ?_ ?_ ?_
 ·intro i b hb;cases i with
  | none=>simp [kO,PL.ah] at hb
  | some i=>simp [kO,PL.ah] at hb; rw [hb]; rfl
 ·intro i b hb; simp [kO] at hb
 intro i hp;have hp:i.list.length≤9223372036854775807:=hp;cases i with
 | none =>
  conv=>whnf
  refine .inr ⟨1,?_⟩;conv=>whnf
  exact ⟨.bool false,rfl,.refl _⟩
 | some i =>
  obtain ⟨L,c⟩:=i;have hlen:L.length≤9223372036854775807:=hp;obtain ⟨n,hn⟩:∃ n,n=L.length:=⟨_,rfl⟩;obtain ⟨g,hg⟩:∃ g,g=di L:=⟨_,rfl⟩;have fin:∀ z:Bool,m9 L=z→∃ v',cT (List.range 1) 3 (kO.val (some (L,c)))=some v'∧fp (.bool z) v':=fun z h=>⟨.bool z,by rw [← h]; rfl,.refl _⟩
  rw [show kO.ah (some (L,c))=[.flat false n 6 g] from by rw [hn,hg]; rfl,show kO.args (some (L,c))=[.slice (some ⟨0,0,none⟩) n c] from by rw [hn]; rfl]
  rw [← hn] at hlen;conv=>whnf
  by_cases J:66 < n
  ·rw [show decide ((n:Int) > 10)=true from decide_eq_true (by omega)]
   conv=>whnf
   rw [show decide ((n:Int) < 63)=false from decide_eq_false (by omega)]
   conv=>whnf
   rw [show decide ((n:Int) > 66)=true from decide_eq_true (by omega)]
   conv=>whnf
   exact fin true (LP (.inr (by omega)))
  by_cases h1:10 < n∧n < 63
  ·rw [show decide ((n:Int) > 10)=true from decide_eq_true (by omega)]
   conv=>whnf
   rw [show decide ((n:Int) < 63)=true from decide_eq_true (by omega)]
   conv=>whnf
   exact fin true (LP (.inl (by omega)))
  have aeH:=T0 (L:=L) (by omega)
  have fin:=fun (z:Bool) (h:uM 12 L=z)=>fin z (aeH.trans h)
  by_cases h3:10 < n
  ·rw [show decide ((n:Int) > 10)=true from decide_eq_true (by omega)]
   conv=>whnf
   rw [show decide ((n:Int) < 63)=false from decide_eq_false (by omega)]
   conv=>whnf
   rw [show decide ((n:Int) > 66)=false from decide_eq_false (by omega)]
   conv=>whnf
   refine .inl ⟨fun mm tz hz=>∃ (i:Nat),bC (some (.slice (some ⟨0,0,none⟩) n c)::aF 2 (some (.int .i64 i)::aF 24 [])) tz∧hz=[some (.flat false n 6 g)]∧n - i=mm∧(i≤n∧uB 12 L i),.inr ⟨[0],[0,3],?_⟩,?_⟩
   ·conv=>whnf
    intro _;conv=>whnf
    refine ⟨_,0,(.aa (.sk 2 (.aa (.sk 24 .nil rfl)) rfl)),rfl,rfl,?_⟩;exact ⟨Nat.zero_le _,Kn _ _⟩
   rintro mm aW _ ⟨i,aB,rfl,rfl,⟨hi,hU⟩⟩
   obtain ⟨az,rfl⟩:∃ az:Nat→Value,aW=.slice (some ⟨0,0,none⟩) n c::zs az 1 2 (.int .i64 i::zs az 4 24 []):=bL aB;clear aB;conv=>whnf
   refine aN (fun h3=>?_) (fun h3=>?_)
   ·have h3:i < n:=by
     have:=of_decide_eq_true h3;omega
    have e7:IntKind.i64.wrap ((i:Int)+1)=((i+1:Nat):Int):=by rw [ax (by omega) (by omega)]; rfl
    obtain ⟨m,ll,mU,a8⟩:=rS (l:=L) (i:=i) (by omega)
    rw [← hg] at a8;conv=>whnf
    refine ⟨⟨by omega,by omega⟩,?_⟩
    simp only [toNat_cast,aA,Nat.zero_add];conv=>whnf
    refine ⟨by show i < n; omega,?_⟩
    conv=>whnf
    rw [a8];conv=>whnf
    refine ⟨m,rfl,trivial,?_⟩;by_cases h4:m.sz 12
    ·rw [show ob.val m=.bool false from congrArg Value.bool (decide_eq_false fun e=>e h4)]
     conv=>whnf
     rw [e7];refine .inr ⟨[0],[0,3],?_⟩;conv=>whnf
     intro _;conv=>whnf
     refine ⟨_,?_,i+1,(.aa (.sk 2 (.aa (.sk 24 .nil rfl)) rfl)),rfl,rfl,?_⟩
     ·omega
     ·exact ⟨by omega,KD hU ll h4⟩
    ·rw [show ob.val m=.bool true from congrArg Value.bool (decide_eq_true h4)]
     conv=>whnf
     exact fin true (ES mU h4)
   ·have h3:i=n:=by
     have:=of_decide_eq_false h3;omega
    subst h3;conv=>whnf
    exact fin false (K1 (by rw [← hn]; exact hU))
  ·rw [show decide ((n:Int) > 10)=false from decide_eq_false (by omega)]
   conv=>whnf
   rw [show decide ((n:Int) > 66)=false from decide_eq_false (by omega)]
   conv=>whnf
   refine .inl ⟨fun mm tz hz=>∃ (i:Nat),bC (some (.slice (some ⟨0,0,none⟩) n c)::aF 2 (some (.int .i64 i)::aF 24 [])) tz∧hz=[some (.flat false n 6 g)]∧n - i=mm∧(i≤n∧uB 12 L i),.inr ⟨[0],[0,3],?_⟩,?_⟩
   ·conv=>whnf
    intro _;conv=>whnf
    refine ⟨_,0,(.aa (.sk 2 (.aa (.sk 24 .nil rfl)) rfl)),rfl,rfl,?_⟩;exact ⟨Nat.zero_le _,Kn _ _⟩
   rintro mm aW _ ⟨i,aB,rfl,rfl,⟨hi,hU⟩⟩
   obtain ⟨az,rfl⟩:∃ az:Nat→Value,aW=.slice (some ⟨0,0,none⟩) n c::zs az 1 2 (.int .i64 i::zs az 4 24 []):=bL aB;clear aB;conv=>whnf
   refine aN (fun h3=>?_) (fun h3=>?_)
   ·have h3:i < n:=by
     have:=of_decide_eq_true h3;omega
    have e7:IntKind.i64.wrap ((i:Int)+1)=((i+1:Nat):Int):=by rw [ax (by omega) (by omega)]; rfl
    obtain ⟨m,ll,mU,a8⟩:=rS (l:=L) (i:=i) (by omega)
    rw [← hg] at a8;conv=>whnf
    refine ⟨⟨by omega,by omega⟩,?_⟩
    simp only [toNat_cast,aA,Nat.zero_add];conv=>whnf
    refine ⟨by show i < n; omega,?_⟩
    conv=>whnf
    rw [a8];conv=>whnf
    refine ⟨m,rfl,trivial,?_⟩;by_cases h4:m.sz 12
    ·rw [show ob.val m=.bool false from congrArg Value.bool (decide_eq_false fun e=>e h4)]
     conv=>whnf
     rw [e7];refine .inr ⟨[0],[0,3],?_⟩;conv=>whnf
     intro _;conv=>whnf
     refine ⟨_,?_,i+1,(.aa (.sk 2 (.aa (.sk 24 .nil rfl)) rfl)),rfl,rfl,?_⟩
     ·omega
     ·exact ⟨by omega,KD hU ll h4⟩
    ·rw [show ob.val m=.bool true from congrArg Value.bool (decide_eq_true h4)]
     conv=>whnf
     exact fin true (ES mU h4)
   ·have h3:i=n:=by
     have:=of_decide_eq_false h3;omega
    subst h3;conv=>whnf
    exact fin false (K1 (by rw [← hn]; exact hU))
open Go Go.Ae
open Go Go.Ae
open Go Go.Ae
def Ea1:Env:=En [(55,.p qS)]
theorem adE:EnvOk Tryz.prog Ea1:=bK ⟨O5,trivial⟩ trivial
theorem Vs:dq Tryz.prog 54 iB:=by
 refine eJ adE aQ Tryz.func54 (enters_of Tryz.func54 (by kernel_rfl) rfl) ?_ ?_ ?_
 ·intro i b hb; simp [iB] at hb; rw [hb]; rfl
 ·intro i b hb; simp [iB] at hb; rw [← hb]; rfl
 intro (L:II) hp;have hp:(0 < L.length∧L.length≤1000000)∧∀ x∈L,x.1.natAbs < 256∧x.2.natAbs < 256:=hp;obtain ⟨⟨h0,hlen⟩,RL⟩:=hp;obtain ⟨n,hn⟩:∃ n,n=L.length:=⟨_,rfl⟩;obtain ⟨m,hm⟩:∃ m,m=2*n:=⟨_,rfl⟩;obtain ⟨g,hg⟩:∃ g,g=nm L:=⟨_,rfl⟩;obtain ⟨K,hK⟩:∃ K,K=hJ iB L:=⟨_,rfl⟩;rw [show iB.ah L=[.flat false m 1 g] from by rw [hm,hn,hg]; rfl,show iB.args L=[.slice (some ⟨0,0,none⟩) m m] from by rw [hm,hn]; rfl,← hK]
 rw [← hn] at hlen h0;conv=>whnf
 refine .inl ⟨fun mm tz hz=>∃ (j:Nat) (i:Nat) (O:List Q2) (q:Nat) (F:Nat→List Value),bC (some (.slice (some ⟨0,0,none⟩) m m)::aF 2 (some (cW 1 q)::some (.int .i64 i)::aF 21 [])) tz∧hz=[some (.flat false m 1 g)]++xO 6 F q∧n - j=mm∧((j≤n∧q=j∧i=2*j∧q=O.length)∧O=bw (L.take j)∧(∀ r,r < q→F r=bI O r)),.inr ⟨[0],[0,3,4],?_⟩,?_⟩
 ·conv=>whnf
  intro _;conv=>whnf
  refine ⟨_,0,0,[],0,fun _=>[],(.aa (.sk 2 (.aa (.aa (.sk 21 .nil rfl))) rfl)),rfl,rfl,?_⟩
  exact ⟨⟨Nat.zero_le _,rfl,rfl,rfl⟩,rfl,fun r hr=>absurd hr (Nat.not_lt_zero r)⟩
 rintro mm aW _ ⟨j,i,O,q,F,aB,rfl,rfl,⟨⟨hj,AV,hi,hq⟩,hO,hF⟩⟩
 obtain ⟨az,rfl⟩:∃ az:Nat→Value,aW=.slice (some ⟨0,0,none⟩) m m::zs az 1 2 (cW 1 q::.int .i64 i::zs az 5 21 []):=bL aB;clear aB;obtain ⟨k,hk⟩:∃ k,k=i+1:=⟨_,rfl⟩;have e1:IntKind.i64.wrap ((i:Int)+1)=(k:Int):=by rw [ax (by omega) (by omega),hk]; rfl
 have e2:IntKind.i64.wrap ((i:Int)+2)=((i+2:Nat):Int):=by rw [ax (by omega) (by omega)]; rfl
 cases q with
 | zero =>
  obtain rfl:O=[]:=List.eq_nil_of_length_eq_zero hq.symm;conv=>whnf
  rw [e1];refine aN (fun h1=>?_) (fun h1=>?_)
  ·have h1:j < n:=by
    have:=of_decide_eq_true h1;omega
   obtain ⟨x,hx⟩:∃ x,x=rD L j:=⟨_,rfl⟩;have gV:=Oe (l:=L) (j:=j) (by omega)
   rw [← hx] at gV;have ra:g i=[.int .i64 x.1]:=by rw [hg,hi]; exact Nr hx
   have rb:g k=[.int .i64 x.2]:=by rw [hk,hg,hi]; exact Ns hx
   have aw:=Nt gV.2;rw [← hO] at aw;have hs:=RL x gV.1;conv=>whnf
   refine .inl ⟨12,[[],[],[],[1,2],[1,2,3],[],[],[6],[5,6,7],[5,6,7,8],[1,2,3,4,5,6,7,8,9],[1,2,3,4,5,6,7,8,9,10],[0,1,2,3,4,5,6,7,8,9,10,11],[0,1,2,3,4,5,6,7,8,9,10,11,12]],by kernel_rfl,?_⟩
   conv=>whnf
   refine ⟨⟨by omega,by omega⟩,?_⟩
   simp only [toNat_cast,aA,Nat.zero_add];conv=>whnf
   refine ⟨by show i < m; omega,?_⟩
   conv=>whnf
   rw [ra];conv=>whnf
   rw [e1];refine ⟨⟨by omega,by omega⟩,?_⟩
   simp only [toNat_cast,aA,Nat.zero_add];conv=>whnf
   refine ⟨by show k < m; omega,?_⟩
   conv=>whnf
   rw [rb];conv=>whnf
   obtain ⟨u,cu,eu,pu,su,qu⟩:=xl (vn x.1 x.2 hs.1 hs.2);refine ⟨(x.1,x.2),rfl,⟨⟨by show -9223372036854775808≤x.1; omega,by show x.1 < 9223372036854775808; omega⟩,⟨by show -9223372036854775808≤x.2; omega,by show x.2 < 9223372036854775808; omega⟩⟩,?_⟩
   rw [show qS.val (x.1,x.2)=u.v from eu]
   conv=>whnf
   refine ⟨by show (0+1)*80≤140737488355328; decide,?_⟩
   conv=>whnf
   rw [e2];refine .inr ⟨[0,13],[0,3,4],?_⟩;conv=>whnf
   intro _;conv=>whnf
   refine ⟨_,?_,j+1,i+2,[iq x],1,_,(.aa (.sk 2 (.aa (.aa (.sk 21 .nil rfl))) rfl)),rfl,rfl,?_⟩
   ·omega
   ·exact ⟨⟨by omega,by omega,by omega,rfl⟩,by rw [aw]; rfl,um cu rfl⟩
  ·exfalso;have:=of_decide_eq_false h1;omega
 | succ q =>
  have e0:i≠0:=by omega
  conv=>whnf
  rw [e1];refine aN (fun h1=>?_) (fun h1=>?_)
  ·have h1:j < n:=by
    have:=of_decide_eq_true h1;omega
   obtain ⟨x,hx⟩:∃ x,x=rD L j:=⟨_,rfl⟩;have gV:=Oe (l:=L) (j:=j) (by omega)
   rw [← hx] at gV;have ra:g i=[.int .i64 x.1]:=by rw [hg,hi]; exact Nr hx
   have rb:g k=[.int .i64 x.2]:=by rw [hk,hg,hi]; exact Ns hx
   have aw:=Nt gV.2;rw [← hO] at aw;have hs:=RL x gV.1;conv=>whnf
   refine .inl ⟨12,[[],[],[],[1,2],[1,2,3],[],[],[6],[5,6,7],[5,6,7,8],[1,2,3,4,5,6,7,8,9],[1,2,3,4,5,6,7,8,9,10],[0,1,2,3,4,5,6,7,8,9,10,11],[0,1,2,3,4,5,6,7,8,9,10,11,12]],by kernel_rfl,?_⟩
   conv=>whnf
   refine ⟨⟨by omega,by omega⟩,?_⟩
   simp only [toNat_cast,aA,Nat.zero_add];conv=>whnf
   refine ⟨by show i < m; omega,?_⟩
   conv=>whnf
   rw [ra];conv=>whnf
   rw [e1];refine ⟨⟨by omega,by omega⟩,?_⟩
   simp only [toNat_cast,aA,Nat.zero_add];conv=>whnf
   refine ⟨by show k < m; omega,?_⟩
   conv=>whnf
   rw [rb];conv=>whnf
   obtain ⟨u,cu,eu,pu,su,qu⟩:=xl (vn x.1 x.2 hs.1 hs.2);refine ⟨(x.1,x.2),rfl,⟨⟨by show -9223372036854775808≤x.1; omega,by show x.1 < 9223372036854775808; omega⟩,⟨by show -9223372036854775808≤x.2; omega,by show x.2 < 9223372036854775808; omega⟩⟩,?_⟩
   rw [show qS.val (x.1,x.2)=u.v from eu]
   conv=>whnf
   refine ⟨⟨by show 1≤1; decide,rfl,by show (q+1+1)*80≤140737488355328; omega⟩,?_⟩
   conv=>whnf
   refine ⟨[0,4],?_⟩;conv=>whnf
   intro _;conv=>whnf
   rw [e2];refine .inr ⟨[0,1],[0,3,4],?_⟩;conv=>whnf
   intro _;conv=>whnf
   refine ⟨_,?_,j+1,i+2,O++[iq x],q+1+1,_,(.aa (.sk 2 (.aa (.aa (.sk 21 .nil rfl))) rfl)),rfl,rfl,?_⟩
   ·omega
   ·exact ⟨⟨by omega,by omega,by omega,by rw [List.length_append,← hq]; rfl⟩,aw.symm,p5 hq hF cu rfl⟩
  ·have h1:j=n:=by
    have:=of_decide_eq_false h1;omega
   subst h1;have hE:bw L=O:=by rw [hO,hn,List.take_length]
   have J5:O.length=(bw L).length:=by rw [hE]
   conv=>whnf
   rw [hK];unfold hJ;rw [show iB.new L=some (.flat true (q+1) 6 (bI O)) from by show some (ai.flat true L.length 6 (bI (bw L)))=_; rw [← hn,hE,← AV],show iB.val L=.slice (some ⟨1,0,none⟩) (q+1) aO from by show Value.slice (some ⟨1,0,none⟩) L.length aO=_; rw [← hn,← AV]]
   refine ⟨1,?_⟩;conv=>whnf
   exact ⟨⟨rfl,aD.pW (fun h=>h) hF (fun r hr=>rfl)⟩,_,rfl,.refl _⟩
open Go Go.Ae
def Edz:Env:=tH [(33,.p mM)]
theorem adF:EnvOk Tryz.prog Edz:=vw ⟨zj,trivial⟩ trivial
theorem NF:dq Tryz.prog 18 fN:=by
 refine eJ adF aQ Tryz.func18 (enters_of Tryz.func18 (by kernel_rfl) rfl) ?_ ?_ ?_
 ·intro ⟨i,j⟩ b hb;cases i <;> cases j <;> simp [fN,PL.ah] at hb <;> (try rcases hb with rfl | rfl) <;> (try subst hb) <;> first | rfl | skip
 ·intro i b hb; simp [fN] at hb
 intro ⟨i,j⟩ hp;have hp:i.list.length≤1099511627776∧j.list.length≤1099511627776:=hp;obtain ⟨RM,Q6⟩:=hp;cases i with
 | none =>
  cases j with
  | none =>
   conv=>whnf
   refine .inr ⟨1,?_⟩;conv=>whnf
   exact ⟨.bool true,rfl,.refl _⟩
  | some j =>
   obtain ⟨m,c⟩:=j;obtain ⟨n,hn⟩:∃ n,n=m.length:=⟨_,rfl⟩;obtain ⟨g,hg⟩:∃ g,g=di m:=⟨_,rfl⟩;have fin:∀ b:Bool,b=decide ([]=m)→∃ v',cT (List.range 1) 3 (fN.val (none,some (m,c)))=some v'∧fp (.bool b) v':=fun b h=>⟨.bool b,by rw [h]; rfl,.refl _⟩
   rw [show fN.ah (none,some (m,c))=[.flat false n 6 g] from by rw [hn,hg]; rfl,show fN.args (none,some (m,c))=[.slice none 0 0,.slice (some ⟨0,0,none⟩) n c] from by rw [hn]; rfl]
   by_cases h0:n=0
   ·have hm:m=[]:=List.length_eq_zero_iff.1 (hn.symm.trans h0);subst h0;conv=>whnf
    refine .inr ⟨1,?_⟩;conv=>whnf
    exact fin true (by rw [hm]; rfl)
   ·conv=>whnf
    rw [show (((0:Nat):Int) != ((n:Nat):Int))=true from by simp; omega]
    conv=>whnf
    exact fin false (by cases m with | nil=>exact absurd hn h0 | cons a m=>rfl)
 | some i =>
  obtain ⟨l,c⟩:=i;obtain ⟨k,hk⟩:∃ n,n=l.length:=⟨_,rfl⟩;obtain ⟨f,hf⟩:∃ g,g=di l:=⟨_,rfl⟩;have RM:k≤1099511627776:=by rw [hk]; exact RM
  cases j with
  | none =>
   have fin:∀ b:Bool,b=decide (l=[])→∃ v',cT (List.range 1) 3 (fN.val (some (l,c),none))=some v'∧fp (.bool b) v':=fun b h=>⟨.bool b,by rw [h]; rfl,.refl _⟩
   rw [show fN.ah (some (l,c),none)=[.flat false k 6 f] from by rw [hk,hf]; rfl,show fN.args (some (l,c),none)=[.slice (some ⟨0,0,none⟩) k c,.slice none 0 0] from by rw [hk]; rfl]
   by_cases h0:k=0
   ·have hm:l=[]:=List.length_eq_zero_iff.1 (hk.symm.trans h0);subst h0;conv=>whnf
    refine .inr ⟨1,?_⟩;conv=>whnf
    exact fin true (by rw [hm]; rfl)
   ·conv=>whnf
    rw [show (((k:Nat):Int) != ((0:Nat):Int))=true from by simp; omega]
    conv=>whnf
    exact fin false (by cases l with | nil=>exact absurd hk h0 | cons a m=>rfl)
  | some j =>
   obtain ⟨m,d⟩:=j;obtain ⟨n,hn⟩:∃ n,n=m.length:=⟨_,rfl⟩;obtain ⟨g,hg⟩:∃ g,g=di m:=⟨_,rfl⟩;have fin:∀ b:Bool,b=decide (l=m)→∃ v',cT (List.range 2) 3 (fN.val (some (l,c),some (m,d)))=some v'∧fp (.bool b) v':=fun b h=>⟨.bool b,by rw [h]; rfl,.refl _⟩
   rw [show fN.ah (some (l,c),some (m,d))=[.flat false k 6 f,.flat false n 6 g] from by rw [hk,hf,hn,hg]; rfl,show fN.args (some (l,c),some (m,d))=[.slice (some ⟨0,0,none⟩) k c,.slice (some ⟨1,0,none⟩) n d] from by rw [hk,hn]; rfl]
   by_cases h0:k=n
   ·obtain rfl:=h0;conv=>whnf
    rw [show ((k:Int) != (k:Int))=false from by simp]
    conv=>whnf
    refine .inl ⟨fun mm tz hz=>∃ (i:Nat),bC (some (.slice (some ⟨0,0,none⟩) k c)::some (.slice (some ⟨1,0,none⟩) k d)::aF 10 (some (.int .i64 k)::some (.int .i64 i)::aF 12 [])) tz∧hz=[some (.flat false k 6 f),some (.flat false k 6 g)]∧k - i=mm∧(i≤k∧vo l m i),.inr ⟨[0,1],[0,1,12,13],?_⟩,?_⟩
    ·conv=>whnf
     intro _;conv=>whnf
     refine ⟨_,0,(.aa (.aa (.sk 10 (.aa (.aa (.sk 12 .nil rfl))) rfl))),rfl,rfl,?_⟩;exact ⟨Nat.zero_le _,TF _ _⟩
    rintro mm aW _ ⟨i,aB,rfl,rfl,⟨hi,hN⟩⟩
    obtain ⟨az,rfl⟩:∃ az:Nat→Value,aW=.slice (some ⟨0,0,none⟩) k c::.slice (some ⟨1,0,none⟩) k d::zs az 2 10 (.int .i64 k::.int .i64 i::zs az 14 12 []):=bL aB;clear aB;conv=>whnf
    refine aN (fun h1=>?_) (fun h1=>?_)
    ·have h1:i < k:=by
      have:=of_decide_eq_true h1;omega
     obtain ⟨p,lh,_,a8⟩:=rS (l:=l) (i:=i) (by omega)
     obtain ⟨q,J5,_,PH⟩:=rS (l:=m) (i:=i) (by omega)
     rw [← hf] at a8;rw [← hg] at PH;have e7:IntKind.i64.wrap ((i:Int)+1)=((i+1:Nat):Int):=by rw [ax (by omega) (by omega)]; rfl
     conv=>whnf
     refine .inl ⟨8,[[],[],[0,1],[0,1,2],[],[],[4,5],[4,5,6],[0,1,2,3,4,5,6,7]],by kernel_rfl,?_⟩
     conv=>whnf
     refine ⟨⟨by omega,by omega⟩,?_⟩
     simp only [toNat_cast,aA,Nat.zero_add];conv=>whnf
     refine ⟨by show i < k; omega,?_⟩
     conv=>whnf
     rw [a8];conv=>whnf
     refine ⟨⟨by omega,by omega⟩,?_⟩
     simp only [toNat_cast,aA,Nat.zero_add];conv=>whnf
     refine ⟨by show i < k; omega,?_⟩
     conv=>whnf
     rw [PH];conv=>whnf
     rw [Dv p q];by_cases J:p=q
     ·rw [decide_eq_true J];conv=>whnf
      rw [e7];refine .inr ⟨[0,1],[0,1,12,13],?_⟩;conv=>whnf
      intro _;conv=>whnf
      refine ⟨_,?_,i+1,(.aa (.aa (.sk 10 (.aa (.aa (.sk 12 .nil rfl))) rfl))),rfl,rfl,?_⟩
      ·omega
      ·exact ⟨by omega,UY hN lh J5 J⟩
     ·rw [decide_eq_false J];conv=>whnf
      exact fin false (decide_eq_false (acK lh J5 J)).symm
    ·have h1:i=k:=by
      have:=of_decide_eq_false h1;omega
     subst h1;conv=>whnf
     exact fin true (decide_eq_true (V7 (by rw [← hk]; exact hN) (hk.symm.trans hn))).symm
   ·conv=>whnf
    rw [show ((k:Int) != (n:Int))=true from by simp; omega]
    conv=>whnf
    exact fin false (decide_eq_false (fun e=>h0 (by rw [hk,hn,e]))).symm
open Go Go.Ae
def Ea2:Env:=tH [(54,.q iB),(16,.q dn),(44,.q cB),(21,.q mD),(55,.p qS),(30,.p GK),(33,.p mM),(38,.p gZ),(18,.q fN)]
theorem adG:EnvOk Tryz.prog Ea2:=vw ⟨Vs,ND,Ou,ZU,O5,Vk,zj,xc,NF,trivial⟩ trivial
theorem Um:bk Tryz.prog 13 ON:=by
 refine bn adG aQ Tryz.func13 (enters_of Tryz.func13 (by kernel_rfl) rfl) (fun _=>rfl) (fun _=>rfl) ?_
 intro _ hp;obtain ⟨cu,dQ⟩:∃ cu,cu=aO:=⟨_,rfl⟩;obtain ⟨gS,v7⟩:∃ g,g=bI (bw dw):=⟨_,rfl⟩;obtain ⟨gT,J6⟩:∃ g,g=bI (bw jG):=⟨_,rfl⟩;obtain ⟨gU,J7⟩:∃ g,g=bI (bw kc):=⟨_,rfl⟩;obtain ⟨gM,AW⟩:∃ g,g=bI (bw jH):=⟨_,rfl⟩;have fS:PL.fit (some (ak (bw dw),cu)):=Hk (by decide) (by decide)
 have fT:PL.fit (some (ak (bw jG),cu)):=Hk (by decide) (by decide)
 have fU:PL.fit (some (ak (bw kc),cu)):=Hk (by decide) (by decide)
 conv=>whnf
 refine ⟨dw,[0],rfl,⟨by decide,by decide⟩,?_⟩
 rw [show iB.ah dw=[.flat false 8 1 (nm dw)] from rfl,show iB.val dw=.slice (some ⟨1,0,none⟩) 4 cu from by rw [dQ]; rfl,show iB.new dw=some (.flat true 4 6 gS) from by rw [v7]; rfl]
 conv=>whnf
 refine ⟨BY dw _ rfl,?_⟩;conv=>whnf
 refine ⟨_,rfl,?_⟩;conv=>whnf
 refine ⟨jG,[2],rfl,⟨by decide,by decide⟩,?_⟩
 rw [show iB.ah jG=[.flat false 6 1 (nm jG)] from rfl,show iB.val jG=.slice (some ⟨1,0,none⟩) 3 cu from by rw [dQ]; rfl,show iB.new jG=some (.flat true 3 6 gT) from by rw [J6]; rfl]
 conv=>whnf
 refine ⟨BY jG _ rfl,?_⟩;conv=>whnf
 refine ⟨_,rfl,?_⟩;conv=>whnf
 refine ⟨(some (ak (bw dw),cu),some (ak (bw jG),cu)),[1,3],rfl,⟨⟨fS,fT⟩,HO (HP (by decide)) (HP (by decide))⟩,?_⟩
 rw [show dn.ah (some (ak (bw dw),cu),some (ak (bw jG),cu))=[.flat false 4 6 gS,.flat false 3 6 gT] from by rw [v7,J6]; rfl,Nv.1,Nv.2,← AW,← dQ]
 conv=>whnf
 refine ⟨aD.aP (fun h=>by cases h) (fun r hr=>by rw [v7]; rfl),aD.aP (fun h=>by cases h) (fun r hr=>by rw [J6]; rfl),?_⟩
 conv=>whnf
 refine ⟨_,rfl,?_⟩;conv=>whnf
 refine ⟨kc,[5],rfl,⟨by decide,by decide⟩,?_⟩
 rw [show iB.ah kc=[.flat false 6 1 (nm kc)] from rfl,show iB.val kc=.slice (some ⟨1,0,none⟩) 3 cu from by rw [dQ]; rfl,show iB.new kc=some (.flat true 3 6 gU) from by rw [J7]; rfl]
 conv=>whnf
 refine ⟨BY kc _ rfl,?_⟩;conv=>whnf
 refine ⟨_,rfl,?_⟩;conv=>whnf
 obtain ⟨sa,AS⟩:∃ u,u=bP (iq (4,0)):=⟨_,rfl⟩;obtain ⟨sb,Et⟩:∃ u,u=bP (iq (4,4)):=⟨_,rfl⟩;refine ⟨(some (ak (bw dw),cu),some (ak (bw kc),cu)),[1,6],rfl,⟨fS,fU⟩,?_⟩;rw [show cB.ah (some (ak (bw dw),cu),some (ak (bw kc),cu))=[.flat false 4 6 gS,.flat false 3 6 gU] from by rw [v7,J7]; rfl,X1 AS Et,show cB.new (some (ak (bw dw),cu),some (ak (bw kc),cu))=none from rfl]
 conv=>whnf
 refine ⟨aD.aP (fun h=>by cases h) (fun r hr=>by rw [v7]; rfl),aD.aP (fun h=>by cases h) (fun r hr=>by rw [J7]; rfl),?_⟩
 conv=>whnf
 refine ⟨_,rfl,?_⟩;conv=>whnf
 obtain ⟨p1,cp1,ep1,pp1,sp1,qp1⟩:=xl (vn (-2) (1) (by decide) (by decide))
 refine ⟨(((-2:Int),(1:Int)):Int × Int),rfl,⟨⟨by decide,by decide⟩,⟨by decide,by decide⟩⟩,?_⟩
 rw [show qS.val (((-2:Int),(1:Int)):Int × Int)=p1.v from ep1]
 conv=>whnf
 obtain ⟨p2,cp2,ep2,pp2,sp2,qp2⟩:=xl (vn (6) (1) (by decide) (by decide))
 refine ⟨(((6:Int),(1:Int)):Int × Int),rfl,⟨⟨by decide,by decide⟩,⟨by decide,by decide⟩⟩,?_⟩
 rw [show qS.val (((6:Int),(1:Int)):Int × Int)=p2.v from ep2]
 conv=>whnf
 obtain ⟨lo,tK,elo,plo,tM,AT⟩:=Hh (q:=1 / 4) (k:=1) ⟨gX (show _ < C ^ 1 by decide +kernel),gX (show _ < C ^ 1 by decide +kernel)⟩
 obtain ⟨hi,tL,ehi,phi,v5,AU⟩:=Hh (q:=3 / 4) (k:=1) ⟨gX (show _ < C ^ 1 by decide +kernel),gX (show _ < C ^ 1 by decide +kernel)⟩
 refine ⟨(some (ak (bw dw),cu),(p1,p2)),[1],rfl,⟨fS,PV.aX sp1 (by decide),PV.aX sp2 (by decide)⟩,?_⟩
 rw [show mD.ah (some (ak (bw dw),cu),(p1,p2))=[.flat false 4 6 gS] from by rw [v7]; rfl,X2 cp1 cp2 tK tL,show mD.new (some (ak (bw dw),cu),(p1,p2))=none from rfl]
 conv=>whnf
 refine ⟨aD.aP (fun h=>by cases h) (fun r hr=>by rw [v7]; rfl),?_⟩
 conv=>whnf
 refine ⟨_,rfl,?_⟩;conv=>whnf
 refine ⟨(1,4),rfl,⟨by show vN 1; decide,by show vN 4; decide⟩,?_⟩
 rw [show GK.val (1,4)=.tuple ⟨[lo.v,.int .i64 0]⟩ from by show lU 1 4=_; unfold lU; rw [show Rat.divInt 1 4=1 / 4 by decide +kernel,tK]; rfl]
 conv=>whnf
 refine .inl ⟨36,[[],[0],[0,1],[0,1,2],[0,1,2,3],[0,1,2,3,4],[0,1,2,3,4,5],[0,1,2,3,4,5,6],[0,1,2,3,4,5,6,7],[0,1,2,3,4,5,6,7,8],[0,1,2,3,4,5,6,7,8,9],[0,1,2,3,4,5,6,7,8,9,10],[0,1,2,3,4,5,6,7,8,9,10],[0,1,2,3,4,5,6,7,8,9,10,12],[0,1,2,3,4,5,6,7,8,9,10,11,12,13],[0,1,2,3,4,5,6,7,8,9,10,11,12,13,14],[0,1,2,3,4,5,6,7,8,9,10,11,12,13,14,15],[0,1,2,3,4,5,6,7,8,9,10,11,12,13,14,15,16],[0,1,2,3,4,5,6,7,8,9,10,11,12,13,14,15,16],[0,1,2,3,4,5,6,7,8,9,10,11,12,13,14,15,16,18],[0,1,2,3,4,5,6,7,8,9,10,11,12,13,14,15,16,18,19],[0,1,2,3,4,5,6,7,8,9,10,11,12,13,14,15,16,17,18,19,20],[0,1,2,3,4,5,6,7,8,9,10,11,12,13,14,15,16,17,18,19,20,21],[0,1,2,3,4,5,6,7,8,9,10,11,12,13,14,15,16,17,18,19,20,21,22],[0,1,2,3,4,5,6,7,8,9,10,11,12,13,14,15,16,17,18,19,20,21,22,23],[0,1,2,3,4,5,6,7,8,9,10,11,12,13,14,15,16,17,18,19,20,21,22,23,24],[0,1,2,3,4,5,6,7,8,9,10,11,12,13,14,15,16,17,18,19,20,21,22,23,24,25],[0,1,2,3,4,5,6,7,8,9,10,11,12,13,14,15,16,17,18,19,20,21,22,23,24,25,26],[0,1,2,3,4,5,6,7,8,9,10,11,12,13,14,15,16,17,18,19,20,21,22,23,24,25,26],[0,1,2,3,4,5,6,7,8,9,10,11,12,13,14,15,16,17,18,19,20,21,22,23,24,25,26,27,28],[0,1,2,3,4,5,6,7,8,9,10,11,12,13,14,15,16,17,18,19,20,21,22,23,24,25,26,27,28,29],[0,1,2,3,4,5,6,7,8,9,10,11,12,13,14,15,16,17,18,19,20,21,22,23,24,25,26,27,28,29,30],[0,1,2,3,4,5,6,7,8,9,10,11,12,13,14,15,16,17,18,19,20,21,22,23,24,25,26,27,28,29,30,31],[0,1,2,3,4,5,6,7,8,9,10,11,12,13,14,15,16,17,18,19,20,21,22,23,24,25,26,27,28,29,30,31],[0,1,2,3,4,5,6,7,8,9,10,11,12,13,14,15,16,17,18,19,20,21,22,23,24,25,26,27,28,29,30,31],[0,1,2,3,4,5,6,7,8,9,10,11,12,13,14,15,16,17,18,19,20,21,22,23,24,25,26,27,28,29,30,31,33,34],[0,1,2,3,4,5,6,7,8,9,10,11,12,13,14,15,16,17,18,19,20,21,22,23,24,25,26,27,28,29,30,31,32,33,34,35],[0,1,2,3,4,5,6,7,8,9,10,11,12,13,14,15,16,17,18,19,20,21,22,23,24,25,26,27,28,29,30,31,32,33,34,35,36],[0,1,2,3,4,5,6,7,8,9,10,11,12,13,14,15,16,17,18,19,20,21,22,23,24,25,26,27,28,29,30,31,32,33,34,35,36,37]],by kernel_rfl,?_⟩
 conv=>whnf
 refine ⟨jH,[23],rfl,⟨by decide,by decide⟩,?_⟩
 rw [show iB.ah jH=[.flat false 8 1 (nm jH)] from rfl,show iB.val jH=.slice (some ⟨1,0,none⟩) 4 cu from by rw [dQ]; rfl,show iB.new jH=some (.flat true 4 6 gM) from by rw [AW]; rfl]
 conv=>whnf
 refine ⟨BY jH _ rfl,?_⟩;conv=>whnf
 refine ⟨_,rfl,?_⟩;conv=>whnf
 refine ⟨(some (ak (bw jH),cu),some (ak (bw jH),cu)),[4,24],rfl,⟨by show 4≤1099511627776; decide,by show 4≤1099511627776; decide⟩,?_⟩
 rw [show fN.ah (some (ak (bw jH),cu),some (ak (bw jH),cu))=[.flat false 4 6 gM,.flat false 4 6 gM] from by rw [AW]; rfl,show fN.val (some (ak (bw jH),cu),some (ak (bw jH),cu))=.bool true from congrArg Value.bool (decide_eq_true rfl),show fN.new (some (ak (bw jH),cu),some (ak (bw jH),cu))=none from rfl]
 conv=>whnf
 refine ⟨aD.aP (fun h=>by cases h) (fun r hr=>by rw [AW]; rfl),aD.aP (fun h=>by cases h) (fun r hr=>by rw [AW]; rfl),?_⟩
 conv=>whnf
 refine ⟨.bool true,rfl,?_⟩;conv=>whnf
 obtain ⟨q1,cq1,eq1,pq1,sq1,qq1⟩:=xl (vn (4) (0) (by decide) (by decide))
 refine ⟨(((4:Int),(0:Int)):Int × Int),rfl,⟨⟨by decide,by decide⟩,⟨by decide,by decide⟩⟩,?_⟩
 rw [show qS.val (((4:Int),(0:Int)):Int × Int)=q1.v from eq1]
 conv=>whnf
 obtain ⟨q2,cq2,eq2,pq2,sq2,qq2⟩:=xl (vn (4) (4) (by decide) (by decide))
 refine ⟨(((4:Int),(4:Int)):Int × Int),rfl,⟨⟨by decide,by decide⟩,⟨by decide,by decide⟩⟩,?_⟩
 rw [show qS.val (((4:Int),(4:Int)):Int × Int)=q2.v from eq2]
 conv=>whnf
 obtain rfl:sa=q1:=AS.trans cq1.symm;obtain rfl:sb=q2:=Et.trans cq2.symm;rw [AB (sa,sb)];conv=>whnf
 rw [Rg lo];conv=>whnf
 obtain ⟨o,co,eo,po,so,qo⟩:=Hh (q:=((1:Int):Rat)) (QB.of_int (n:=1) (k:=1) (gX (show Int.natAbs 1 < C ^ 1 by decide)) (by decide))
 refine ⟨(1:Int),rfl,⟨by decide,by decide⟩,?_⟩
 rw [show mM.val (1:Int)=o.v from eo]
 conv=>whnf
 refine ⟨(o,lo),rfl,⟨RV.b6 so (by decide),RV.b6 tM (by decide)⟩,?_⟩
 rw [show gZ.val (o,lo)=hi.v from by show (RV.of (o.q - lo.q)).v=_; rw [po,plo,show ((1:Int):Rat) - 1 / 4=3 / 4 by decide +kernel,tL]]
 conv=>whnf
 show Value.bool (eU _ _)=Value.bool true
 exact congrArg Value.bool (Rg hi)
open Go Go.Ae
def Ee1:Env:=En [(53,.q kO),(24,.q aV)]
theorem adH:EnvOk Tryz.prog Ee1:=bK ⟨Ul,Uk,trivial⟩ trivial
theorem W4:dq Tryz.prog 78 fj:=by
 refine eJ adH aQ Tryz.func78 (enters_of Tryz.func78 (by kernel_rfl) rfl) ?_ ?_ ?_
 ·intro i b hb;cases i <;> simp [fj,PL.ah] at hb
  rw [hb]; rfl
 ·intro i b hb; simp [fj] at hb
 intro i hp;have hp:i.list.length≤9223372036854775807:=hp;have fin:∀ (z:Bool) n,z=ku i.list→∃ v',cT (List.range n) 3 (fj.val i)=some v'∧fp (.bool z) v':=fun z n h=>⟨.bool z,by rw [h]; rfl,.refl _⟩
 cases i with
 | none =>
  conv=>whnf
  refine ⟨none,[],rfl,hp,?_⟩;rw [show kO.ah none=[] from rfl,show kO.val none=.bool false from rfl,show kO.new none=none from rfl]
  conv=>whnf
  refine ⟨_,rfl,?_⟩;conv=>whnf
  refine ⟨none,[],rfl,⟨Nat.zero_le _,fun v hv=>nomatch hv⟩,?_⟩
  rw [show aV.ah none=[] from rfl,show aV.val none=.int .i64 4 from rfl,show aV.new none=none from rfl]
  conv=>whnf
  refine ⟨_,rfl,?_⟩;conv=>whnf
  exact fin true _ rfl
 | some i =>
  obtain ⟨A,c⟩:=i;have hp:A.length≤9223372036854775807:=hp;have fin:=fun z=>fin z 1
  have fin:∀ z:Bool,z=ku A→∃ v',cT (List.range 1) 3 (fj.val (some (A,c)))=some v'∧fp (.bool z) v':=fin;obtain ⟨n,hn⟩:∃ n,n=A.length:=⟨_,rfl⟩;obtain ⟨g,hg⟩:∃ g,g=di A:=⟨_,rfl⟩;obtain ⟨G,hG⟩:∃ G,G=m9 A:=⟨_,rfl⟩;rw [show fj.ah (some (A,c))=[.flat false n 6 g] from by rw [hn,hg]; rfl,show fj.args (some (A,c))=[.slice (some ⟨0,0,none⟩) n c] from by rw [hn]; rfl]
  conv=>whnf
  refine ⟨some (A,c),[0],by rw [show kO.args (some (A,c))=[.slice (some ⟨0,0,none⟩) n c] from by rw [hn]; rfl]; rfl,hp,?_⟩
  rw [show kO.ah (some (A,c))=[.flat false n 6 g] from by rw [hn,hg]; rfl,show kO.val (some (A,c))=.bool G from by rw [hG]; rfl,show kO.new (some (A,c))=none from rfl]
  conv=>whnf
  refine ⟨aD.aP (fun h=>h) (fun r hr=>by rw [hg]; rfl),?_⟩
  conv=>whnf
  refine ⟨_,rfl,?_⟩;conv=>whnf
  cases G with
  | true =>
   conv=>whnf
   exact fin true (X4 hG.symm).symm
  | false =>
   have hs:=MF hG.symm;conv=>whnf
   by_cases J:10 < n
   ·rw [show decide ((n:Int) > 10)=true from decide_eq_true (by omega)]
    conv=>whnf
    exact fin true (WD (by omega)).symm
   ·rw [show decide ((n:Int) > 10)=false from decide_eq_false (by omega)]
    conv=>whnf
    obtain ⟨e,he⟩:∃ z,z=bh A:=⟨_,rfl⟩;refine ⟨some (A,c),[0],by rw [show aV.args (some (A,c))=[.slice (some ⟨0,0,none⟩) n c] from by rw [hn]; rfl]; rfl,⟨by show A.length≤_; omega,Dy hs.2⟩,?_⟩
    rw [show aV.ah (some (A,c))=[.flat false n 6 g] from by rw [hn,hg]; rfl,show aV.val (some (A,c))=.int .i64 e from by rw [he]; rfl,show aV.new (some (A,c))=none from rfl]
    conv=>whnf
    refine ⟨aD.aP (fun h=>h) (fun r hr=>by rw [hg]; rfl),?_⟩
    conv=>whnf
    refine ⟨_,rfl,?_⟩;conv=>whnf
    by_cases h3:e=0
    ·rw [show (e != 0)=false from by simp [h3]]
     exact fin false (X5 hG.symm (by omega) (by rw [← he]; exact h3)).symm
    ·rw [show (e != 0)=true from by simp [h3]]
     exact fin true (WE (by rw [← he]; exact h3)).symm
def Ee2:Env:=En [(79,.p ob),(80,.p kh)]
theorem adI:EnvOk Tryz.prog Ee2:=bK ⟨O6,MP,trivial⟩ trivial
theorem Un:bk Tryz.prog 26 Dz:=by
 refine bn adI aQ Tryz.func26 (enters_of Tryz.func26 (by kernel_rfl) rfl) (fun _=>rfl) (fun _=>rfl) ?_
 intro ((a,b):PV) _;have fin:∀ z:Bool,(z=true↔PV.sz 12 (a,b)∧PV.canon (a,b))→Value.bool z=Dz.val (a,b):=fun z h=>congrArg Value.bool (by rw [Bool.eq_iff_iff,h,decide_eq_true_eq])
 conv=>whnf
 refine ⟨((a,b):PV),rfl,trivial,?_⟩;by_cases h1:PV.sz 12 (a,b)
 ·rw [show ob.val (a,b)=.bool false from congrArg Value.bool (decide_eq_false fun h=>h h1)]
  conv=>whnf
  obtain ⟨e,he⟩:∃ e:Int,e=if PV.canon (a,b) then 0 else 1:=⟨_,rfl⟩
  refine ⟨((a,b):PV),rfl,PV.aX h1 (by decide),?_⟩
  rw [show kh.val (a,b)=.int .i64 e from by rw [he]; rfl]
  conv=>whnf
  refine fin _ ?_;by_cases J:PV.canon (a,b)
  ·rw [he,if_pos J]; exact ⟨fun _=>⟨h1,J⟩,fun _=>rfl⟩
  ·rw [he,if_neg J]; exact ⟨(fun h=>nomatch h),fun h=>absurd h.2 J⟩
 ·rw [show ob.val (a,b)=.bool true from congrArg Value.bool (decide_eq_true h1)]
  conv=>whnf
  exact fin _ ⟨(fun h=>nomatch h),fun h=>absurd h.1 h1⟩
open Go Go.Ae
def J8:Env:=En [(78,.q fj)]
theorem adJ:EnvOk Tryz.prog J8:=bK ⟨W4,trivial⟩ trivial
theorem Vt:gu Tryz.prog 107 (cD J8 cR Tryz.f107):=by
 exact jw adJ aQ Tryz.func107 (enters_of Tryz.func107 (by kernel_rfl) rfl)
def J9:Env:=En [] [(107,cD J8 cR Tryz.f107)]
theorem adK:EnvOk Tryz.prog J9:=bK trivial ⟨Vt,trivial⟩
theorem St:gu Tryz.prog 52 (cD J9 cR Tryz.f52):=by
 exact jw adK aQ Tryz.func52 (enters_of Tryz.func52 (by kernel_rfl) rfl)
def Ka:Env:=En [] [(52,cD J9 cR Tryz.f52)]
theorem adL:EnvOk Tryz.prog Ka:=bK trivial ⟨St,trivial⟩
theorem ZV:gu Tryz.prog 25 (cD Ka cR Tryz.f25):=by
 exact jw adL aQ Tryz.func25 (enters_of Tryz.func25 (by kernel_rfl) rfl)
open Go Go.Ae
def Eh1:Env:=En [(29,.p nZ)]
theorem adM:EnvOk Tryz.prog Eh1:=bK ⟨GX,trivial⟩ trivial
theorem W5:dq Tryz.prog 46 eM:=by
 refine eJ adM aQ Tryz.func46 (enters_of Tryz.func46 (by kernel_rfl) rfl) ?_ ?_ ?_
 ·intro ⟨i,w⟩ B hb;cases i <;> simp [eM,PL.ah] at hb
  ·rw [hb]; rfl
  ·rcases hb with rfl | rfl <;> rfl
 ·intro i B hb; exact yO hb
 intro ⟨i,w⟩ hp;have hp:i.list.length≤1000000∧(∀ v∈i.list,v.sz 1024)∧w.sz 1024:=hp;obtain ⟨hlen,bm,sw⟩:=hp;have qw:=PV.cV sw (by decide)
 cases i with
 | none =>
  conv=>whnf
  refine .inr ⟨1,?_⟩;conv=>whnf
  exact ⟨_,rfl,.refl _⟩
 | some i =>
  obtain ⟨L,c⟩:=i;have hlen:L.length≤1000000:=hlen;have bm:∀ v∈L,PV.sz 1024 v:=bm;obtain ⟨n,hn⟩:∃ n,n=L.length:=⟨_,rfl⟩;obtain ⟨g,hg⟩:∃ g,g=di L:=⟨_,rfl⟩;obtain ⟨K,hK⟩:∃ K,K=hJ eM (some (L,c),w):=⟨_,rfl⟩;rw [show eM.ah (some (L,c),w)=[.flat false n 6 g,.flat false 1 6 (fun _=>w.cells)] from by rw [hn,hg]; rfl,show eM.args (some (L,c),w)=[.slice (some ⟨0,0,none⟩) n c,.pointer (some ⟨1,0,none⟩)] from by rw [hn]; rfl,← hK]
  rw [← hn] at hlen;conv=>whnf
  refine .inl ⟨fun mm tz hz=>∃ (j:Nat) (q:Nat) (F:Nat→List Value),bC (aF 1 (some (.pointer (some ⟨1,0,none⟩))::aF 2 (some (cW 2 q)::aF 2 (some (.slice (some ⟨0,0,none⟩) n c)::some (.int .i64 n)::some (.int .i64 j)::aF 11 [])))) tz∧hz=[some (.flat false n 6 g),some (.flat false 1 6 (fun _=>w.cells))]++xO 6 F q∧n - j=mm∧((j≤n∧q=j)∧(∀ r,r < q→F r=bI (oc L w j) r)),.inr ⟨[0,1],[1,4,7,8,9],?_⟩,?_⟩
  ·conv=>whnf
   intro _;conv=>whnf
   refine ⟨_,0,0,fun _=>[],(.sk 1 (.aa (.sk 2 (.aa (.sk 2 (.aa (.aa (.aa (.sk 11 .nil rfl)))) rfl)) rfl)) rfl),rfl,rfl,?_⟩
   exact ⟨⟨Nat.zero_le _,rfl⟩,fun r hr=>absurd hr (Nat.not_lt_zero r)⟩
  rintro mm aW _ ⟨j,q,F,aB,rfl,rfl,⟨⟨hj,AV⟩,hF⟩⟩
  obtain ⟨az,rfl⟩:∃ az:Nat→Value,aW=zs az 0 1 (.pointer (some ⟨1,0,none⟩)::zs az 2 2 (cW 2 q::zs az 5 2 (.slice (some ⟨0,0,none⟩) n c::.int .i64 n::.int .i64 j::zs az 10 11 []))):=bL aB;clear aB;have e7:IntKind.i64.wrap ((j:Int)+1)=((j+1:Nat):Int):=by rw [ax (by omega) (by omega)]; rfl
  cases q with
  | zero =>
   conv=>whnf
   refine aN (fun h1=>?_) (fun h1=>?_)
   ·have h1:j < n:=by
     have:=of_decide_eq_true h1;omega
    obtain ⟨a,ha⟩:∃ a,a=il L j:=⟨_,rfl⟩;have ra:g j=a.cells:=by rw [hg,ha]; exact oQ (by omega)
    have aw:=MJ (w:=w) (Ok (L:=L) (j:=j) (by omega))
    rw [← ha] at aw;have sa:=bm a (by rw [ha]; exact m6 (by omega))
    have qa:=PV.cV sa (by decide)
    have Eu:=Gl (L:=L) (w:=w) (j:=j) (by omega)
    conv=>whnf
    refine ⟨⟨by omega,by omega⟩,?_⟩
    simp only [toNat_cast,aA,Nat.zero_add];conv=>whnf
    refine ⟨by show j < n; omega,?_⟩
    conv=>whnf
    rw [ra];conv=>whnf
    refine ⟨by decide,?_⟩
    conv=>whnf
    obtain ⟨b,eb,pb,sb,qb⟩:=lN (uL qa qw);refine ⟨(a,w),rfl,⟨PV.aX sa (by decide),PV.aX sw (by decide)⟩,?_⟩
    rw [show nZ.val (a,w)=b.v from eb]
    conv=>whnf
    have cb:b=bP (bH w.p a.p):=(PV.j3 eb).symm;refine ⟨by show (0+1)*80≤140737488355328; decide,?_⟩
    conv=>whnf
    rw [e7];have hz:oc L w j=[]:=List.eq_nil_of_length_eq_zero (by omega)
    rw [hz] at aw;refine .inr ⟨[0,1,4],[1,4,7,8,9],?_⟩;conv=>whnf
    intro _;conv=>whnf
    refine ⟨_,?_,j+1,1,_,(.sk 1 (.aa (.sk 2 (.aa (.sk 2 (.aa (.aa (.aa (.sk 11 .nil rfl)))) rfl)) rfl)) rfl),rfl,rfl,?_⟩
    ·omega
    ·exact ⟨⟨by omega,by omega⟩,by rw [aw]; exact um cb rfl⟩
   ·have h1:j=n:=by
     have:=of_decide_eq_false h1;omega
    have hE:aG L w=[]:=List.eq_nil_of_length_eq_zero (by rw [lF]; omega)
    conv=>whnf
    rw [hK];unfold hJ;rw [show eM.new (some (L,c),w)=none from by show cl (aG L w)=none; rw [hE]; rfl,show eM.val (some (L,c),w)=.slice none 0 0 from by show cW _ (aG L w).length=_; rw [hE]; rfl]
    exact ⟨_,rfl,.refl _⟩
  | succ q =>
   conv=>whnf
   refine aN (fun h1=>?_) (fun h1=>?_)
   ·have h1:j < n:=by
     have:=of_decide_eq_true h1;omega
    obtain ⟨a,ha⟩:∃ a,a=il L j:=⟨_,rfl⟩;have ra:g j=a.cells:=by rw [hg,ha]; exact oQ (by omega)
    have aw:=MJ (w:=w) (Ok (L:=L) (j:=j) (by omega))
    rw [← ha] at aw;have sa:=bm a (by rw [ha]; exact m6 (by omega))
    have qa:=PV.cV sa (by decide)
    have Eu:=Gl (L:=L) (w:=w) (j:=j) (by omega)
    conv=>whnf
    refine ⟨⟨by omega,by omega⟩,?_⟩
    simp only [toNat_cast,aA,Nat.zero_add];conv=>whnf
    refine ⟨by show j < n; omega,?_⟩
    conv=>whnf
    rw [ra];conv=>whnf
    refine ⟨by decide,?_⟩
    conv=>whnf
    obtain ⟨b,eb,pb,sb,qb⟩:=lN (uL qa qw);refine ⟨(a,w),rfl,⟨PV.aX sa (by decide),PV.aX sw (by decide)⟩,?_⟩
    rw [show nZ.val (a,w)=b.v from eb]
    conv=>whnf
    have cb:b=bP (bH w.p a.p):=(PV.j3 eb).symm;refine ⟨⟨by show 2≤2; decide,rfl,by show (q+1+1)*80≤140737488355328; omega⟩,?_⟩
    conv=>whnf
    refine ⟨[1,7,8,9],?_⟩;conv=>whnf
    intro _;conv=>whnf
    rw [e7];refine .inr ⟨[0,1,2],[1,4,7,8,9],?_⟩;conv=>whnf
    intro _;conv=>whnf
    refine ⟨_,?_,j+1,q+1+1,_,(.sk 1 (.aa (.sk 2 (.aa (.sk 2 (.aa (.aa (.aa (.sk 11 .nil rfl)))) rfl)) rfl)) rfl),rfl,rfl,?_⟩
    ·omega
    ·exact ⟨⟨by omega,by omega⟩,by rw [aw]; exact p5 (by omega) hF cb rfl⟩
   ·have h1:j=n:=by
     have:=of_decide_eq_false h1;omega
    have hE:aG L w=oc L w j:=by rw [h1,hn,WI]
    have Eu:=Gl (L:=L) (w:=w) (j:=j) (by omega)
    conv=>whnf
    rw [hK];unfold hJ;rw [show eM.new (some (L,c),w)=some (.flat true (q+1) 6 (bI (oc L w j))) from by show cl (aG L w)=_; rw [hE]; unfold cl; rw [Eu,← AV],show eM.val (some (L,c),w)=.slice (some ⟨2,0,none⟩) (q+1) aO from by show cW _ (aG L w).length=_; rw [hE,Eu,← AV]; rfl]
    refine ⟨2,?_⟩;conv=>whnf
    exact ⟨⟨rfl,aD.pW (fun h=>h) hF (fun r hr=>rfl)⟩,_,rfl,.refl _⟩
end Go.Proofs.YtlapbjdhekcipaaGreat
