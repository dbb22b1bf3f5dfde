import Derived.Test.YtlapbjdhekcipaaGreatXJ
set_option linter.unusedVariables false
set_option linter.unusedSimpArgs false
set_option maxRecDepth 20000
set_option maxHeartbeats 4000000
namespace Go.Proofs.YtlapbjdhekcipaaGreat
open Go Go.Ae
def Eu5:Env:=En [(144,.q j6)]
theorem adU:EnvOk Tryz.prog Eu5:=bD ⟨VE,trivial⟩ trivial
theorem SC:cU Tryz.prog 100 iU:=by
 refine dh adU aN Tryz.func100 (enters_of Tryz.func100 (by kernel_rfl) rfl) ?_ ?_ ?_
 ·intro i b hb; simp [iU,x0] at hb; rcases hb with rfl | rfl <;> rfl
 ·intro i b hb; simp [iU,x0] at hb
 intro ⟨⟨⟨A,c⟩,⟨B,d⟩⟩,f,s⟩ hp;have hp:((f,s)=(101,true)∨(f,s)=(103,false)∨(f,s)=(105,true))∧(A.length≤1073741824∧∀ v∈A,Q2.sz 2048 v)∧B.length≤1073741824∧∀ v∈B,Q2.sz 2048 v:=hp;obtain ⟨vI,RR,dG⟩:=hp;obtain ⟨n,hn⟩:∃ n,n=A.length:=⟨_,rfl⟩;obtain ⟨g,hg⟩:∃ g,g=bS A:=⟨_,rfl⟩;obtain ⟨m,hm⟩:∃ n,n=B.length:=⟨_,rfl⟩;obtain ⟨k,hk⟩:∃ g,g=bS B:=⟨_,rfl⟩;have fin:∀ (x:XV) (z:Bool),fc (eK s A B)=(x,z)→∃ v',cM (List.range 2) 3 (iU.val (((A,c),(B,d)),(f,s)))=some v'∧eG (.tuple ⟨[x.v,.bool z]⟩) v':=fun x z h=>⟨_,by rw [show iU.val (((A,c),(B,d)),(f,s))=.tuple ⟨[x.v,.bool z]⟩ from by show Value.tuple ⟨[(fc (eK s A B)).1.v,.bool (fc (eK s A B)).2]⟩=_; rw [h]]; rfl,.refl _⟩
 rw [show iU.ae (((A,c),(B,d)),(f,s))=[.flat false n 6 g,.flat false m 6 k] from by rw [hn,hg,hm,hk]; rfl,show iU.args (((A,c),(B,d)),(f,s))=[.slice (some ⟨0,0,none⟩) n c,.slice (some ⟨1,0,none⟩) m d,.func (.func f) #[] #[]] from by rw [hn,hm]; rfl]
 conv=>whnf
 obtain ⟨⟨x,z⟩,hx⟩:∃ x,fc (fa s A B)=x:=⟨_,rfl⟩;refine ⟨(((A,c),(B,d)),(f,s)),[0,1],by rw [show j6.args (((A,c),(B,d)),(f,s))=[.slice (some ⟨0,0,none⟩) n c,.slice (some ⟨1,0,none⟩) m d,.func (.func f) #[] #[]] from by rw [hn,hm]; rfl]; rfl,⟨vI,RR,dG⟩,?_⟩
 rw [show j6.ae (((A,c),(B,d)),(f,s))=[.flat false n 6 g,.flat false m 6 k] from by rw [hn,hm,hg,hk]; rfl,show j6.val (((A,c),(B,d)),(f,s))=.tuple ⟨[x.v,.bool z]⟩ from by show Value.tuple ⟨[(fc (fa s A B)).1.v,.bool (fc (fa s A B)).2]⟩=_; rw [hx],show j6.new (((A,c),(B,d)),(f,s))=none from rfl]
 conv=>whnf
 refine ⟨aG.aR (fun h=>h) (fun r hr=>by rw [hg]; rfl),aG.aR (fun h=>h) (fun r hr=>by rw [hk]; rfl),?_⟩
 conv=>whnf
 refine ⟨_,rfl,?_⟩;conv=>whnf
 cases z with
 | true =>
  conv=>whnf
  exact fin x true (X3 hx)
 | false =>
  conv=>whnf
  obtain ⟨⟨y,w⟩,hy⟩:∃ x,fc (fa s B A)=x:=⟨_,rfl⟩;refine ⟨(((B,d),(A,c)),(f,s)),[1,0],by rw [show j6.args (((B,d),(A,c)),(f,s))=[.slice (some ⟨0,0,none⟩) m d,.slice (some ⟨1,0,none⟩) n c,.func (.func f) #[] #[]] from by rw [hm,hn]; rfl]; rfl,⟨vI,dG,RR⟩,?_⟩
  rw [show j6.ae (((B,d),(A,c)),(f,s))=[.flat false m 6 k,.flat false n 6 g] from by rw [hm,hn,hk,hg]; rfl,show j6.val (((B,d),(A,c)),(f,s))=.tuple ⟨[y.v,.bool w]⟩ from by show Value.tuple ⟨[(fc (fa s B A)).1.v,.bool (fc (fa s B A)).2]⟩=_; rw [hy],show j6.new (((B,d),(A,c)),(f,s))=none from rfl]
  conv=>whnf
  refine ⟨aG.aR (fun h=>h) (fun r hr=>by rw [hk]; rfl),aG.aR (fun h=>h) (fun r hr=>by rw [hg]; rfl),?_⟩
  conv=>whnf
  refine ⟨_,rfl,?_⟩;conv=>whnf
  exact fin y w ((X4 hx).trans hy)
def Eu6:Env:=En [(23,.q aV),(100,.q iU)]
theorem HZ:EnvOk Tryz.prog Eu6:=bD ⟨Cd,SC,trivial⟩ trivial
theorem Uz:cU Tryz.prog 40 (dk true):=by
 refine dh HZ aN Tryz.func40 (enters_of Tryz.func40 (by kernel_rfl) rfl) ?_ ?_ ?_
 ·intro ⟨i,k⟩ B hb;cases i <;> cases k <;> simp [dk,fO,PL.ae] at hb
  ·rw [hb]; rfl
  ·rw [hb]; rfl
  ·rcases hb with rfl | rfl <;> rfl
 ·intro i b hb; simp [dk,fO] at hb
 intro ⟨i,k⟩ hp;have hp:(i.list.length≤1099511627776∧∀ v∈i.list,v.sz 2048)∧k.list.length≤1099511627776∧∀ v∈k.list,v.sz 2048:=hp;obtain ⟨⟨jf,g0⟩,kY,gx⟩:=hp;cases i with
 | none =>
  cases k with
  | none =>
   conv=>whnf
   refine ⟨none,[],rfl,⟨Nat.zero_le _,fun v hv=>nomatch hv⟩,?_⟩
   rw [show aV.ae none=[] from rfl,show aV.val none=.int .i64 4 from rfl,show aV.new none=none from rfl]
   conv=>whnf
   refine ⟨_,rfl,?_⟩;conv=>whnf
   exact ⟨_,rfl,.refl _⟩
  | some k =>
   conv=>whnf
   refine ⟨none,[],rfl,⟨Nat.zero_le _,fun v hv=>nomatch hv⟩,?_⟩
   rw [show aV.ae none=[] from rfl,show aV.val none=.int .i64 4 from rfl,show aV.new none=none from rfl]
   conv=>whnf
   refine ⟨_,rfl,?_⟩;conv=>whnf
   exact ⟨_,rfl,.refl _⟩
 | some i =>
  obtain ⟨A,c⟩:=i;have jf:A.length≤1099511627776:=jf;have g0:∀ v∈A,PV.sz 2048 v:=g0;obtain ⟨na,bw⟩:∃ n,n=A.length:=⟨_,rfl⟩;obtain ⟨ga,bP⟩:∃ g,g=cB A:=⟨_,rfl⟩;have fin:∀ (k:PL) (B:List PV) (x:Bool) (e:Int) (n:Nat),k.list=B→gw true A B=(x,e)→∃ v',cM (List.range n) 3 (a9.val (dk true) (some (A,c),k))=some v'∧eG (.tuple ⟨[.bool x,.int .i64 e]⟩) v':=fun k B x e n hk h=>⟨.tuple ⟨[.bool x,.int .i64 e]⟩,by
   subst hk;rw [show a9.val (dk true) (some (A,c),k)=.tuple ⟨[.bool x,.int .i64 e]⟩ from by show Value.tuple ⟨[.bool (gw true A k.list).1,.int .i64 (gw true A k.list).2]⟩=_; rw [h]]; rfl,.refl _⟩
  cases k with
  | none =>
   rw [show a9.ae (dk true) (some (A,c),none)=[.flat false na 6 ga] from by rw [bw,bP]; rfl,show a9.args (dk true) (some (A,c),none)=[.slice (some ⟨0,0,none⟩) na c,.slice none 0 0] from by rw [bw]; rfl]
   rw [← bw] at jf;conv=>whnf
   refine ⟨some (A,c),[0],by rw [show aV.args (some (A,c))=[.slice (some ⟨0,0,none⟩) na c] from by rw [bw]; rfl]; rfl,⟨by show A.length≤_; omega,g0⟩,?_⟩
   rw [show aV.ae (some (A,c))=[.flat false na 6 ga] from by rw [bw,bP]; rfl,show aV.val (some (A,c))=.int .i64 (bg A) from rfl,show aV.new (some (A,c))=none from rfl]
   conv=>whnf
   refine ⟨aG.aR (fun h=>h) (fun r hr=>by rw [bP]; rfl),?_⟩
   conv=>whnf
   refine ⟨_,rfl,?_⟩;obtain ⟨e,he⟩:∃ z,z=bg A:=⟨_,rfl⟩;rw [← he];conv=>whnf
   by_cases h1:e=0
   ·rw [show (e != 0)=false from by simp [h1]]
    conv=>whnf
    refine ⟨none,[],rfl,⟨Nat.zero_le _,fun v hv=>nomatch hv⟩,?_⟩
    rw [show aV.ae none=[] from rfl,show aV.val none=.int .i64 4 from rfl,show aV.new none=none from rfl]
    conv=>whnf
    refine ⟨_,rfl,?_⟩;conv=>whnf
    exact fin none [] false 1 _ rfl (sC fun e=>by have:=e.2; cases this)
   ·rw [show (e != 0)=true from by simp [h1]]
    conv=>whnf
    exact fin none [] false 1 _ rfl (sC fun e=>by have:=e.2; cases this)
  | some k =>
   obtain ⟨B,d⟩:=k;have kY:B.length≤1099511627776:=kY;have gx:∀ v∈B,PV.sz 2048 v:=gx;obtain ⟨nb,bJ⟩:∃ n,n=B.length:=⟨_,rfl⟩;obtain ⟨gb,cD⟩:∃ g,g=cB B:=⟨_,rfl⟩;rw [show a9.ae (dk true) (some (A,c),some (B,d))=[.flat false na 6 ga,.flat false nb 6 gb] from by rw [bw,bP,bJ,cD]; rfl,show a9.args (dk true) (some (A,c),some (B,d))=[.slice (some ⟨0,0,none⟩) na c,.slice (some ⟨1,0,none⟩) nb d] from by rw [bw,bJ]; rfl]
   rw [← bw] at jf;rw [← bJ] at kY;have fin:=fun (x:Bool) (e:Int)=>fin (some (B,d)) B x e 2 rfl
   conv=>whnf
   refine ⟨some (A,c),[0],by rw [show aV.args (some (A,c))=[.slice (some ⟨0,0,none⟩) na c] from by rw [bw]; rfl]; rfl,⟨by show A.length≤_; omega,g0⟩,?_⟩
   rw [show aV.ae (some (A,c))=[.flat false na 6 ga] from by rw [bw,bP]; rfl,show aV.val (some (A,c))=.int .i64 (bg A) from rfl,show aV.new (some (A,c))=none from rfl]
   conv=>whnf
   refine ⟨aG.aR (fun h=>h) (fun r hr=>by rw [bP]; rfl),?_⟩
   conv=>whnf
   refine ⟨_,rfl,?_⟩;obtain ⟨e,he⟩:∃ z,z=bg A:=⟨_,rfl⟩;rw [← he];conv=>whnf
   by_cases h1:e=0
   ·rw [show (e != 0)=false from by simp [h1]]
    conv=>whnf
    refine ⟨some (B,d),[1],by rw [show aV.args (some (B,d))=[.slice (some ⟨0,0,none⟩) nb d] from by rw [bJ]; rfl]; rfl,⟨by show B.length≤_; omega,gx⟩,?_⟩
    rw [show aV.ae (some (B,d))=[.flat false nb 6 gb] from by rw [bJ,cD]; rfl,show aV.val (some (B,d))=.int .i64 (bg B) from rfl,show aV.new (some (B,d))=none from rfl]
    conv=>whnf
    refine ⟨aG.aR (fun h=>h) (fun r hr=>by rw [cD]; rfl),?_⟩
    conv=>whnf
    refine ⟨_,rfl,?_⟩;obtain ⟨e2,bO⟩:∃ z,z=bg B:=⟨_,rfl⟩;rw [← bO];conv=>whnf
    by_cases J:e2=0
    ·rw [show (e2 != 0)=false from by simp [J]]
     have hk:bg A=0∧bg B=0:=⟨by rw [← he]; exact h1,by rw [← bO]; exact J⟩
     have J1:=j8 hk.1;have J2:=j8 hk.2;conv=>whnf
     obtain ⟨⟨x,z⟩,hx⟩:∃ x,fc (eK true (aD A) (aD B))=x:=⟨_,rfl⟩;refine ⟨(((aD A,c),(aD B,d)),(101,true)),[0,1],by rw [show iU.args (((aD A,c),(aD B,d)),(101,true))=[.slice (some ⟨0,0,none⟩) na c,.slice (some ⟨1,0,none⟩) nb d,.func (.func 101) #[] #[]] from by rw [bw,bJ,← cA A,← cA B]; rfl]; rfl,⟨by simp,⟨by show (aD A).length≤_; rw [cA]; omega,lM g0 (by decide)⟩,by show (aD B).length≤_; rw [cA]; omega,lM gx (by decide)⟩,?_⟩
     rw [show iU.ae (((aD A,c),(aD B,d)),(101,true))=[.flat false na 6 ga,.flat false nb 6 gb] from by rw [bw,bJ,bP,cD,← cA A,← cA B,← uq hk.1,← uq hk.2]; rfl,show iU.val (((aD A,c),(aD B,d)),(101,true))=.tuple ⟨[x.v,.bool z]⟩ from by show Value.tuple ⟨[(fc (eK true (aD A) (aD B))).1.v,.bool (fc (eK true (aD A) (aD B))).2]⟩=_; rw [hx],show iU.new (((aD A,c),(aD B,d)),(101,true))=none from rfl]
     conv=>whnf
     refine ⟨aG.aR (fun h=>h) (fun r hr=>by rw [bP]; rfl),aG.aR (fun h=>h) (fun r hr=>by rw [cD]; rfl),?_⟩
     conv=>whnf
     refine ⟨_,rfl,?_⟩;conv=>whnf
     have hv:=Og hk hx;cases z with
     | false =>
      conv=>whnf
      exact fin _ _ hv
     | true =>
      conv=>whnf
      exact fin _ _ hv
    ·rw [show (e2 != 0)=true from by simp [J]]
     conv=>whnf
     exact fin false 1 (sC fun h=>J (by rw [bO]; exact h.2))
   ·rw [show (e != 0)=true from by simp [h1]]
    conv=>whnf
    exact fin false 1 (sC fun h=>h1 (by rw [he]; exact h.1))
theorem Xe:cU Tryz.prog 42 (dk false):=by
 refine dh HZ aN Tryz.func42 (enters_of Tryz.func42 (by kernel_rfl) rfl) ?_ ?_ ?_
 ·intro ⟨i,k⟩ B hb;cases i <;> cases k <;> simp [dk,fO,PL.ae] at hb
  ·rw [hb]; rfl
  ·rw [hb]; rfl
  ·rcases hb with rfl | rfl <;> rfl
 ·intro i b hb; simp [dk,fO] at hb
 intro ⟨i,k⟩ hp;have hp:(i.list.length≤1099511627776∧∀ v∈i.list,v.sz 2048)∧k.list.length≤1099511627776∧∀ v∈k.list,v.sz 2048:=hp;obtain ⟨⟨jf,g0⟩,kY,gx⟩:=hp;cases i with
 | none =>
  cases k with
  | none =>
   conv=>whnf
   refine ⟨none,[],rfl,⟨Nat.zero_le _,fun v hv=>nomatch hv⟩,?_⟩
   rw [show aV.ae none=[] from rfl,show aV.val none=.int .i64 4 from rfl,show aV.new none=none from rfl]
   conv=>whnf
   refine ⟨_,rfl,?_⟩;conv=>whnf
   exact ⟨_,rfl,.refl _⟩
  | some k =>
   conv=>whnf
   refine ⟨none,[],rfl,⟨Nat.zero_le _,fun v hv=>nomatch hv⟩,?_⟩
   rw [show aV.ae none=[] from rfl,show aV.val none=.int .i64 4 from rfl,show aV.new none=none from rfl]
   conv=>whnf
   refine ⟨_,rfl,?_⟩;conv=>whnf
   exact ⟨_,rfl,.refl _⟩
 | some i =>
  obtain ⟨A,c⟩:=i;have jf:A.length≤1099511627776:=jf;have g0:∀ v∈A,PV.sz 2048 v:=g0;obtain ⟨na,bw⟩:∃ n,n=A.length:=⟨_,rfl⟩;obtain ⟨ga,bP⟩:∃ g,g=cB A:=⟨_,rfl⟩;have fin:∀ (k:PL) (B:List PV) (x:Bool) (e:Int) (n:Nat),k.list=B→gw false A B=(x,e)→∃ v',cM (List.range n) 3 (a9.val (dk false) (some (A,c),k))=some v'∧eG (.tuple ⟨[.bool x,.int .i64 e]⟩) v':=fun k B x e n hk h=>⟨.tuple ⟨[.bool x,.int .i64 e]⟩,by
   subst hk;rw [show a9.val (dk false) (some (A,c),k)=.tuple ⟨[.bool x,.int .i64 e]⟩ from by show Value.tuple ⟨[.bool (gw false A k.list).1,.int .i64 (gw false A k.list).2]⟩=_; rw [h]]; rfl,.refl _⟩
  cases k with
  | none =>
   rw [show a9.ae (dk false) (some (A,c),none)=[.flat false na 6 ga] from by rw [bw,bP]; rfl,show a9.args (dk false) (some (A,c),none)=[.slice (some ⟨0,0,none⟩) na c,.slice none 0 0] from by rw [bw]; rfl]
   rw [← bw] at jf;conv=>whnf
   refine ⟨some (A,c),[0],by rw [show aV.args (some (A,c))=[.slice (some ⟨0,0,none⟩) na c] from by rw [bw]; rfl]; rfl,⟨by show A.length≤_; omega,g0⟩,?_⟩
   rw [show aV.ae (some (A,c))=[.flat false na 6 ga] from by rw [bw,bP]; rfl,show aV.val (some (A,c))=.int .i64 (bg A) from rfl,show aV.new (some (A,c))=none from rfl]
   conv=>whnf
   refine ⟨aG.aR (fun h=>h) (fun r hr=>by rw [bP]; rfl),?_⟩
   conv=>whnf
   refine ⟨_,rfl,?_⟩;obtain ⟨e,he⟩:∃ z,z=bg A:=⟨_,rfl⟩;rw [← he];conv=>whnf
   by_cases h1:e=0
   ·rw [show (e != 0)=false from by simp [h1]]
    conv=>whnf
    refine ⟨none,[],rfl,⟨Nat.zero_le _,fun v hv=>nomatch hv⟩,?_⟩
    rw [show aV.ae none=[] from rfl,show aV.val none=.int .i64 4 from rfl,show aV.new none=none from rfl]
    conv=>whnf
    refine ⟨_,rfl,?_⟩;conv=>whnf
    exact fin none [] false 1 _ rfl (sC fun e=>by have:=e.2; cases this)
   ·rw [show (e != 0)=true from by simp [h1]]
    conv=>whnf
    exact fin none [] false 1 _ rfl (sC fun e=>by have:=e.2; cases this)
  | some k =>
   obtain ⟨B,d⟩:=k;have kY:B.length≤1099511627776:=kY;have gx:∀ v∈B,PV.sz 2048 v:=gx;obtain ⟨nb,bJ⟩:∃ n,n=B.length:=⟨_,rfl⟩;obtain ⟨gb,cD⟩:∃ g,g=cB B:=⟨_,rfl⟩;rw [show a9.ae (dk false) (some (A,c),some (B,d))=[.flat false na 6 ga,.flat false nb 6 gb] from by rw [bw,bP,bJ,cD]; rfl,show a9.args (dk false) (some (A,c),some (B,d))=[.slice (some ⟨0,0,none⟩) na c,.slice (some ⟨1,0,none⟩) nb d] from by rw [bw,bJ]; rfl]
   rw [← bw] at jf;rw [← bJ] at kY;have fin:=fun (x:Bool) (e:Int)=>fin (some (B,d)) B x e 2 rfl
   conv=>whnf
   refine ⟨some (A,c),[0],by rw [show aV.args (some (A,c))=[.slice (some ⟨0,0,none⟩) na c] from by rw [bw]; rfl]; rfl,⟨by show A.length≤_; omega,g0⟩,?_⟩
   rw [show aV.ae (some (A,c))=[.flat false na 6 ga] from by rw [bw,bP]; rfl,show aV.val (some (A,c))=.int .i64 (bg A) from rfl,show aV.new (some (A,c))=none from rfl]
   conv=>whnf
   refine ⟨aG.aR (fun h=>h) (fun r hr=>by rw [bP]; rfl),?_⟩
   conv=>whnf
   refine ⟨_,rfl,?_⟩;obtain ⟨e,he⟩:∃ z,z=bg A:=⟨_,rfl⟩;rw [← he];conv=>whnf
   by_cases h1:e=0
   ·rw [show (e != 0)=false from by simp [h1]]
    conv=>whnf
    refine ⟨some (B,d),[1],by rw [show aV.args (some (B,d))=[.slice (some ⟨0,0,none⟩) nb d] from by rw [bJ]; rfl]; rfl,⟨by show B.length≤_; omega,gx⟩,?_⟩
    rw [show aV.ae (some (B,d))=[.flat false nb 6 gb] from by rw [bJ,cD]; rfl,show aV.val (some (B,d))=.int .i64 (bg B) from rfl,show aV.new (some (B,d))=none from rfl]
    conv=>whnf
    refine ⟨aG.aR (fun h=>h) (fun r hr=>by rw [cD]; rfl),?_⟩
    conv=>whnf
    refine ⟨_,rfl,?_⟩;obtain ⟨e2,bO⟩:∃ z,z=bg B:=⟨_,rfl⟩;rw [← bO];conv=>whnf
    by_cases J:e2=0
    ·rw [show (e2 != 0)=false from by simp [J]]
     have hk:bg A=0∧bg B=0:=⟨by rw [← he]; exact h1,by rw [← bO]; exact J⟩
     have J1:=j8 hk.1;have J2:=j8 hk.2;conv=>whnf
     obtain ⟨⟨x,z⟩,hx⟩:∃ x,fc (eK false (aD A) (aD B))=x:=⟨_,rfl⟩;refine ⟨(((aD A,c),(aD B,d)),(103,false)),[0,1],by rw [show iU.args (((aD A,c),(aD B,d)),(103,false))=[.slice (some ⟨0,0,none⟩) na c,.slice (some ⟨1,0,none⟩) nb d,.func (.func 103) #[] #[]] from by rw [bw,bJ,← cA A,← cA B]; rfl]; rfl,⟨by simp,⟨by show (aD A).length≤_; rw [cA]; omega,lM g0 (by decide)⟩,by show (aD B).length≤_; rw [cA]; omega,lM gx (by decide)⟩,?_⟩
     rw [show iU.ae (((aD A,c),(aD B,d)),(103,false))=[.flat false na 6 ga,.flat false nb 6 gb] from by rw [bw,bJ,bP,cD,← cA A,← cA B,← uq hk.1,← uq hk.2]; rfl,show iU.val (((aD A,c),(aD B,d)),(103,false))=.tuple ⟨[x.v,.bool z]⟩ from by show Value.tuple ⟨[(fc (eK false (aD A) (aD B))).1.v,.bool (fc (eK false (aD A) (aD B))).2]⟩=_; rw [hx],show iU.new (((aD A,c),(aD B,d)),(103,false))=none from rfl]
     conv=>whnf
     refine ⟨aG.aR (fun h=>h) (fun r hr=>by rw [bP]; rfl),aG.aR (fun h=>h) (fun r hr=>by rw [cD]; rfl),?_⟩
     conv=>whnf
     refine ⟨_,rfl,?_⟩;conv=>whnf
     have hv:=Og hk hx;cases z with
     | false =>
      conv=>whnf
      exact fin _ _ hv
     | true =>
      conv=>whnf
      exact fin _ _ hv
    ·rw [show (e2 != 0)=true from by simp [J]]
     conv=>whnf
     exact fin false 1 (sC fun h=>J (by rw [bO]; exact h.2))
   ·rw [show (e != 0)=true from by simp [h1]]
    conv=>whnf
    exact fin false 1 (sC fun h=>h1 (by rw [he]; exact h.1))
theorem Ow:cU Tryz.prog 44 fO:=by
 refine dh HZ aN Tryz.func44 (enters_of Tryz.func44 (by kernel_rfl) rfl) ?_ ?_ ?_
 ·intro ⟨i,k⟩ B hb;cases i <;> cases k <;> simp [dk,fO,PL.ae] at hb
  ·rw [hb]; rfl
  ·rw [hb]; rfl
  ·rcases hb with rfl | rfl <;> rfl
 ·intro i b hb; simp [dk,fO] at hb
 intro ⟨i,k⟩ hp;have hp:(i.list.length≤1099511627776∧∀ v∈i.list,v.sz 2048)∧k.list.length≤1099511627776∧∀ v∈k.list,v.sz 2048:=hp;obtain ⟨⟨jf,g0⟩,kY,gx⟩:=hp;cases i with
 | none =>
  cases k with
  | none =>
   conv=>whnf
   refine ⟨none,[],rfl,⟨Nat.zero_le _,fun v hv=>nomatch hv⟩,?_⟩
   rw [show aV.ae none=[] from rfl,show aV.val none=.int .i64 4 from rfl,show aV.new none=none from rfl]
   conv=>whnf
   refine ⟨_,rfl,?_⟩;conv=>whnf
   exact ⟨_,rfl,.refl _⟩
  | some k =>
   conv=>whnf
   refine ⟨none,[],rfl,⟨Nat.zero_le _,fun v hv=>nomatch hv⟩,?_⟩
   rw [show aV.ae none=[] from rfl,show aV.val none=.int .i64 4 from rfl,show aV.new none=none from rfl]
   conv=>whnf
   refine ⟨_,rfl,?_⟩;conv=>whnf
   exact ⟨_,rfl,.refl _⟩
 | some i =>
  obtain ⟨A,c⟩:=i;have jf:A.length≤1099511627776:=jf;have g0:∀ v∈A,PV.sz 2048 v:=g0;obtain ⟨na,bw⟩:∃ n,n=A.length:=⟨_,rfl⟩;obtain ⟨ga,bP⟩:∃ g,g=cB A:=⟨_,rfl⟩;have fin:∀ (k:PL) (B:List PV) (x:XV) (e:Int) (n:Nat),k.list=B→jh A B=(x,e)→∃ v',cM (List.range n) 3 (a9.val fO (some (A,c),k))=some v'∧eG (.tuple ⟨[x.v,.int .i64 e]⟩) v':=fun k B x e n hk h=>⟨.tuple ⟨[x.v,.int .i64 e]⟩,by
   subst hk;rw [show a9.val fO (some (A,c),k)=.tuple ⟨[x.v,.int .i64 e]⟩ from by show Value.tuple ⟨[(jh A k.list).1.v,.int .i64 (jh A k.list).2]⟩=_; rw [h]]; rfl,.refl _⟩
  cases k with
  | none =>
   rw [show a9.ae fO (some (A,c),none)=[.flat false na 6 ga] from by rw [bw,bP]; rfl,show a9.args fO (some (A,c),none)=[.slice (some ⟨0,0,none⟩) na c,.slice none 0 0] from by rw [bw]; rfl]
   rw [← bw] at jf;conv=>whnf
   refine ⟨some (A,c),[0],by rw [show aV.args (some (A,c))=[.slice (some ⟨0,0,none⟩) na c] from by rw [bw]; rfl]; rfl,⟨by show A.length≤_; omega,g0⟩,?_⟩
   rw [show aV.ae (some (A,c))=[.flat false na 6 ga] from by rw [bw,bP]; rfl,show aV.val (some (A,c))=.int .i64 (bg A) from rfl,show aV.new (some (A,c))=none from rfl]
   conv=>whnf
   refine ⟨aG.aR (fun h=>h) (fun r hr=>by rw [bP]; rfl),?_⟩
   conv=>whnf
   refine ⟨_,rfl,?_⟩;obtain ⟨e,he⟩:∃ z,z=bg A:=⟨_,rfl⟩;rw [← he];conv=>whnf
   by_cases h1:e=0
   ·rw [show (e != 0)=false from by simp [h1]]
    conv=>whnf
    refine ⟨none,[],rfl,⟨Nat.zero_le _,fun v hv=>nomatch hv⟩,?_⟩
    rw [show aV.ae none=[] from rfl,show aV.val none=.int .i64 4 from rfl,show aV.new none=none from rfl]
    conv=>whnf
    refine ⟨_,rfl,?_⟩;conv=>whnf
    exact fin none [] lT 1 _ rfl (CU fun e=>by have:=e.2; cases this)
   ·rw [show (e != 0)=true from by simp [h1]]
    conv=>whnf
    exact fin none [] lT 1 _ rfl (CU fun e=>by have:=e.2; cases this)
  | some k =>
   obtain ⟨B,d⟩:=k;have kY:B.length≤1099511627776:=kY;have gx:∀ v∈B,PV.sz 2048 v:=gx;obtain ⟨nb,bJ⟩:∃ n,n=B.length:=⟨_,rfl⟩;obtain ⟨gb,cD⟩:∃ g,g=cB B:=⟨_,rfl⟩;rw [show a9.ae fO (some (A,c),some (B,d))=[.flat false na 6 ga,.flat false nb 6 gb] from by rw [bw,bP,bJ,cD]; rfl,show a9.args fO (some (A,c),some (B,d))=[.slice (some ⟨0,0,none⟩) na c,.slice (some ⟨1,0,none⟩) nb d] from by rw [bw,bJ]; rfl]
   rw [← bw] at jf;rw [← bJ] at kY;have fin:=fun (x:XV) (e:Int)=>fin (some (B,d)) B x e 2 rfl
   conv=>whnf
   refine ⟨some (A,c),[0],by rw [show aV.args (some (A,c))=[.slice (some ⟨0,0,none⟩) na c] from by rw [bw]; rfl]; rfl,⟨by show A.length≤_; omega,g0⟩,?_⟩
   rw [show aV.ae (some (A,c))=[.flat false na 6 ga] from by rw [bw,bP]; rfl,show aV.val (some (A,c))=.int .i64 (bg A) from rfl,show aV.new (some (A,c))=none from rfl]
   conv=>whnf
   refine ⟨aG.aR (fun h=>h) (fun r hr=>by rw [bP]; rfl),?_⟩
   conv=>whnf
   refine ⟨_,rfl,?_⟩;obtain ⟨e,he⟩:∃ z,z=bg A:=⟨_,rfl⟩;rw [← he];conv=>whnf
   by_cases h1:e=0
   ·rw [show (e != 0)=false from by simp [h1]]
    conv=>whnf
    refine ⟨some (B,d),[1],by rw [show aV.args (some (B,d))=[.slice (some ⟨0,0,none⟩) nb d] from by rw [bJ]; rfl]; rfl,⟨by show B.length≤_; omega,gx⟩,?_⟩
    rw [show aV.ae (some (B,d))=[.flat false nb 6 gb] from by rw [bJ,cD]; rfl,show aV.val (some (B,d))=.int .i64 (bg B) from rfl,show aV.new (some (B,d))=none from rfl]
    conv=>whnf
    refine ⟨aG.aR (fun h=>h) (fun r hr=>by rw [cD]; rfl),?_⟩
    conv=>whnf
    refine ⟨_,rfl,?_⟩;obtain ⟨e2,bO⟩:∃ z,z=bg B:=⟨_,rfl⟩;rw [← bO];conv=>whnf
    by_cases J:e2=0
    ·rw [show (e2 != 0)=false from by simp [J]]
     have hk:bg A=0∧bg B=0:=⟨by rw [← he]; exact h1,by rw [← bO]; exact J⟩
     have J1:=j8 hk.1;have J2:=j8 hk.2;conv=>whnf
     obtain ⟨⟨x,z⟩,hx⟩:∃ x,fc (eK true (aD A) (aD B))=x:=⟨_,rfl⟩;refine ⟨(((aD A,c),(aD B,d)),(105,true)),[0,1],by rw [show iU.args (((aD A,c),(aD B,d)),(105,true))=[.slice (some ⟨0,0,none⟩) na c,.slice (some ⟨1,0,none⟩) nb d,.func (.func 105) #[] #[]] from by rw [bw,bJ,← cA A,← cA B]; rfl]; rfl,⟨by simp,⟨by show (aD A).length≤_; rw [cA]; omega,lM g0 (by decide)⟩,by show (aD B).length≤_; rw [cA]; omega,lM gx (by decide)⟩,?_⟩
     rw [show iU.ae (((aD A,c),(aD B,d)),(105,true))=[.flat false na 6 ga,.flat false nb 6 gb] from by rw [bw,bJ,bP,cD,← cA A,← cA B,← uq hk.1,← uq hk.2]; rfl,show iU.val (((aD A,c),(aD B,d)),(105,true))=.tuple ⟨[x.v,.bool z]⟩ from by show Value.tuple ⟨[(fc (eK true (aD A) (aD B))).1.v,.bool (fc (eK true (aD A) (aD B))).2]⟩=_; rw [hx],show iU.new (((aD A,c),(aD B,d)),(105,true))=none from rfl]
     conv=>whnf
     refine ⟨aG.aR (fun h=>h) (fun r hr=>by rw [bP]; rfl),aG.aR (fun h=>h) (fun r hr=>by rw [cD]; rfl),?_⟩
     conv=>whnf
     refine ⟨_,rfl,?_⟩;conv=>whnf
     have hv:=X5 hk hx;cases z with
     | false =>
      conv=>whnf
      exact fin _ _ hv
     | true =>
      conv=>whnf
      exact fin _ _ hv
    ·rw [show (e2 != 0)=true from by simp [J]]
     conv=>whnf
     exact fin lT 1 (CU fun h=>J (by rw [bO]; exact h.2))
   ·rw [show (e != 0)=true from by simp [h1]]
    conv=>whnf
    exact fin lT 1 (CU fun h=>h1 (by rw [he]; exact h.1))
open Go Go.Ae
def RS:Env:=En [(23,.q aV),(56,.q eL),(70,.p qz),(34,.p iJ),(38,.p gQ),(71,.p qN),(33,.p mU),(35,.p jQ)] [(64,ck nf cI Tryz.f64)] [(118,uD)]
theorem adV:EnvOk Tryz.prog RS:=bD ⟨Cd,EP,MT,Gp,xl,Ov,zj,Oq,trivial⟩ ⟨wY,trivial⟩
theorem acu:gP Tryz.prog RS:=vP ⟨wJ,trivial⟩
theorem aaa:cU Tryz.prog 21 mL:=by
 refine dh adV aN Tryz.func21 (enters_of Tryz.func21 (by kernel_rfl) rfl) ?_ ?_ ?_ (hI:=acu)
 ·intro ⟨i,_⟩ b hb;cases i with
  | none=>simp [mL,PL.ae] at hb
  | some i=>simp [mL,PL.ae] at hb; rw [hb]; rfl
 ·intro i b hb; simp [mL] at hb
 intro ⟨i,⟨p,q⟩⟩ hp;have hp:(i.list.length≤1099511627776∧∀ v∈i.list,v.sz 2048)∧p.sz 2048∧q.sz 2048:=hp;obtain ⟨⟨hlen,ba⟩,sp,sq⟩:=hp;have qp:=PV.dg sp (by decide)
 have qq:=PV.dg sq (by decide)
 cases i with
 | none =>
  conv=>whnf
  refine ⟨none,[],rfl,⟨Nat.zero_le _,fun v hv=>nomatch hv⟩,?_⟩
  rw [show aV.ae none=[] from rfl,show aV.val none=.int .i64 4 from rfl,show aV.new none=none from rfl]
  conv=>whnf
  refine ⟨_,rfl,?_⟩;conv=>whnf
  exact ⟨_,rfl,.refl _⟩
 | some i =>
  obtain ⟨L,c⟩:=i;have hlen:L.length≤1099511627776:=hlen;have ba:∀ v∈L,PV.sz 2048 v:=ba;obtain ⟨n,hn⟩:∃ n,n=L.length:=⟨_,rfl⟩;obtain ⟨g,hg⟩:∃ g,g=cB L:=⟨_,rfl⟩;obtain ⟨K,hK⟩:∃ K,K=gJ mL (some (L,c),(p,q)):=⟨_,rfl⟩;have fin:∀ (x y:RV) (z:Bool) (e:Int) (H:aA),gZ L (p,q)=((x,y),z,e)→K (.tuple ⟨[x.v,y.v,.bool z,.int .i64 e]⟩) H:=fun x y z e H h=>by
   rw [hK];unfold gJ;rw [show mL.new (some (L,c),(p,q))=none from rfl,show mL.val (some (L,c),(p,q))=.tuple ⟨[x.v,y.v,.bool z,.int .i64 e]⟩ from by show Value.tuple ⟨[(gZ L (p,q)).1.1.v,(gZ L (p,q)).1.2.v,.bool (gZ L (p,q)).2.1,.int .i64 (gZ L (p,q)).2.2]⟩=_; rw [h]]
   exact ⟨_,rfl,.refl _⟩
  rw [show mL.ae (some (L,c),(p,q))=[.flat false n 6 g] from by rw [hn,hg]; rfl,show mL.args (some (L,c),(p,q))=[.slice (some ⟨0,0,none⟩) n c,XV.v (p,q)] from by rw [hn]; rfl,← hK]
  rw [← hn] at hlen;conv=>whnf
  refine ⟨some (L,c),[0],by rw [show aV.args (some (L,c))=[.slice (some ⟨0,0,none⟩) n c] from by rw [hn]; rfl]; rfl,⟨by show L.length≤_; omega,ba⟩,?_⟩
  rw [show aV.ae (some (L,c))=[.flat false n 6 g] from by rw [hn,hg]; rfl,show aV.val (some (L,c))=.int .i64 (bg L) from rfl,show aV.new (some (L,c))=none from rfl]
  conv=>whnf
  refine ⟨aG.aR (fun h=>h) (fun r hr=>by rw [hg]; rfl),?_⟩
  conv=>whnf
  refine ⟨_,rfl,?_⟩;obtain ⟨e,he⟩:∃ z,z=bg L:=⟨_,rfl⟩;rw [← he];conv=>whnf
  by_cases h1:e=0
  ·rw [show (e != 0)=false from by simp [h1]]
   conv=>whnf
   refine ⟨some ([p,q],2),[6],rfl,⟨by show 2≤1099511627776; decide,(fun v hv=>by rcases List.mem_cons.1 hv with rfl | hv; exact sp; rw [List.mem_singleton.1 hv]; exact sq)⟩,?_⟩
   rw [show eL.ae (some ([p,q],2))=[.flat false 2 6 (cB [p,q])] from rfl,show eL.val (some ([p,q],2))=.bool (!dL [p,q]) from rfl,show eL.new (some ([p,q],2))=none from rfl]
   conv=>whnf
   refine ⟨N5 [p,q],?_⟩;conv=>whnf
   refine ⟨_,rfl,?_⟩;obtain ⟨r,hr⟩:∃ z,z=dL [p,q]:=⟨_,rfl⟩;rw [← hr];conv=>whnf
   cases r with
   | true =>
    conv=>whnf
    exact fin dp dp false 1 _ (O0 fun h=>aeR hr h.2.1 h.2.2)
   | false =>
    conv=>whnf
    have hk:bg L=0∧p.canon∧q.canon:=⟨by rw [← he]; exact h1,ac9 hr⟩
    have hz:=j8 hk.1;obtain ⟨o,eo,po,so,qo⟩:=gR (q:=(0:Rat)) (qb0 (Nat.le_refl 1));refine ⟨(0:Int),rfl,⟨by decide,by decide⟩,?_⟩
    rw [show mU.val (0:Int)=o.v from eo]
    conv=>whnf
    obtain ⟨l,el,pl,sl,ql⟩:=gR (q:=(1:Rat)) (Go.Ae.qb1 (Nat.le_refl 1));refine ⟨(1:Int),rfl,⟨by decide,by decide⟩,?_⟩
    rw [show mU.val (1:Int)=l.v from el]
    conv=>whnf
    intro yl nu fn tm df;conv=>whnf
    refine .inl ⟨fun mm tz hz=>∃ (j:Nat) (lo:RV) (hi:RV),bA (some (.func (.yield yl) #[] #[])::some (.pointer (some ⟨9,0,none⟩))::aF 3 (some (.slice (some ⟨0,0,none⟩) n c)::some (.int .i64 n)::some (.int .i64 j)::aF 17 [])) tz∧hz=[some (.flat false n 6 g),some (.aO true 12 [XV.cells (p,q)]),some (.aO true 3 [dp.c1]),some (.aO true 3 [dp.c1]),some (.aO true 1 [[.bool false]]),some (.aO true 1 [[.int .i64 0]]),some (.aO true 6 [p.cells,q.cells]),some (.aO true 3 [lo.c1]),some (.aO true 3 [hi.c1]),some (.aO true 1 [[.slice (some ⟨0,0,none⟩) n c]]),some (.cg (qV Tryz.f21 fn tm df))]∧n - j=mm∧((j≤n∧u3 (aD L) p.p q.p j=some (lo.q,hi.q))∧(lo=RV.of lo.q∧hi=RV.of hi.q)∧(lo.sz 65536∧hi.sz 65536)∧QB lo.q 65536∧QB hi.q 65536),.inr ⟨[0,1,2,3,4,5,6,7,8,9,10],[0,1,5,6,7],?_⟩,?_⟩
    ·conv=>whnf
     intro _;conv=>whnf
     refine ⟨_,0,o,l,(.aa (.aa (.sk 3 (.aa (.aa (.aa (.sk 17 .nil rfl)))) rfl))),rfl,rfl,?_⟩;exact ⟨⟨Nat.zero_le _,by rw [po,pl]; rfl⟩,⟨by rw [po]; exact (RV.oq eo).symm,by rw [pl]; exact (RV.oq el).symm⟩,⟨RV.aY so (by decide),RV.aY sl (by decide)⟩,qo.mono (by decide),ql.mono (by decide)⟩
    rintro mm aT _ ⟨j,lo,hi,aw,rfl,rfl,⟨⟨hj,hU⟩,⟨tI,tJ⟩,⟨tK,v8⟩,AY,AZ⟩⟩
    obtain ⟨az,rfl⟩:∃ az:Nat→Value,aT=.func (.yield yl) #[] #[]::.pointer (some ⟨9,0,none⟩)::zs az 2 3 (.slice (some ⟨0,0,none⟩) n c::.int .i64 n::.int .i64 j::zs az 8 17 []):=bI aw;clear aw;conv=>whnf
    refine aK (fun h3=>?_) (fun h3=>?_)
    ·have h3:j < n:=by
      have:=of_decide_eq_true h3;omega
     have e7:IntKind.i64.wrap ((j:Int)+1)=((j+1:Nat):Int):=by rw [ax (by omega) (by omega)]; rfl
     obtain ⟨a,b,ra,rb,⟨ma,mb⟩,ib,cG,_,_⟩:=tZ hn h3;have sa:=ba a ma;have sb:=ba b mb;have qa:=PV.dg sa (by decide)
     have qb:=PV.dg sb (by decide)
     have cV:=lV h3 (by omega)
     obtain ⟨u,hu⟩:∃ u,u=aX n j:=⟨_,rfl⟩;rw [← hu] at cV cG rb;rw [← hg] at ra rb;conv=>whnf
     refine ⟨⟨by omega,by omega⟩,?_⟩
     simp only [toNat_cast,ay,Nat.zero_add];conv=>whnf
     refine ⟨by show j < n; omega,?_⟩
     conv=>whnf
     rw [ra];conv=>whnf
     refine .inl ⟨10,[[],[],[],[],[3],[],[5],[3,4,5,6],[2,3,4,5,6,7],[2,3,4,5,6,7,8],[0,1,2,3,4,5,6,7,8,9],[0,1,2,3,4,5,6,7,8,9,10]],by kernel_rfl,?_⟩
     conv=>whnf
     rw [show decide ((n:Int)≠0)=true from decide_eq_true (by omega)]
     conv=>whnf
     rw [cV];refine ⟨⟨by omega,by omega⟩,?_⟩
     simp only [toNat_cast,ay,Nat.zero_add];conv=>whnf
     refine ⟨by show u < n; omega,?_⟩
     conv=>whnf
     rw [rb];conv=>whnf
     refine ⟨rfl,?_⟩;conv=>whnf
     refine ⟨rfl,?_⟩;conv=>whnf
     refine ⟨rfl,?_⟩;conv=>whnf
     refine .inl ⟨12,[[],[],[],[2],[0,1,2,3],[],[],[],[7],[0,1,2,3,4,5,6,7,8],[],[],[0,1,2,3,4,5,6,7,8,9,10,11],[0,1,2,3,4,5,6,7,8,9,10,11,12]],by kernel_rfl,?_⟩
     conv=>whnf
     obtain ⟨x,ex,px,sx,qx⟩:=gR (xN qa qb qp);refine ⟨(a,b,p),rfl,⟨PV.aY sa (by decide),PV.aY sb (by decide),PV.aY sp (by decide)⟩,?_⟩
     rw [show qz.val (a,b,p)=x.v from ex]
     conv=>whnf
     obtain ⟨y,ey,py,sy,qy⟩:=gR (xN qa qb qq);refine ⟨(a,b,q),rfl,⟨PV.aY sa (by decide),PV.aY sb (by decide),PV.aY sq (by decide)⟩,?_⟩
     rw [show qz.val (a,b,q)=y.v from ey]
     conv=>whnf
     have au:=Ui hU ib px py;refine .inl ⟨7,[[],[0],[0,1],[],[0,1,3],[0,1,3,4],[0,1,2,3,4],[0,1,2,3,4,5,6]],by kernel_rfl,?_⟩
     conv=>whnf
     obtain ⟨zx,ezx,pzx⟩:=ef (aW x.q 0);refine ⟨x,rfl,RV.bZ sx (by decide),?_⟩
     rw [show iJ.val x=.int .i64 zx from ezx]
     conv=>whnf
     obtain ⟨zy,ezy,pzy⟩:=ef (aW y.q 0);refine ⟨y,rfl,RV.bZ sy (by decide),?_⟩
     rw [show iJ.val y=.int .i64 zy from ezy]
     conv=>whnf
     have cx:zx > 0↔0 < x.q:=by rw [pzx]; exact uh
     have cy:zy > 0↔0 < y.q:=by rw [pzy]; exact uh
     by_cases hx:zx > 0
     ·rw [show decide (zx > 0)=true from decide_eq_true hx]
      have hx:=cx.1 hx;by_cases hy:zy > 0
      ·rw [show decide (zy > 0)=true from decide_eq_true hy]
       have hy:=cy.1 hy;rw [if_neg (fun e=>Rat.not_lt.2 e.1 hx),if_pos ⟨hx,hy⟩] at au
       conv=>whnf
       refine ⟨rfl,?_⟩;conv=>whnf
       rw [e7];refine .inr ⟨[0,1,2,3,4,5,6,7,8,9,10],[0,1,5,6,7],?_⟩;conv=>whnf
       intro _;conv=>whnf
       refine ⟨_,?_,j+1,lo,hi,(.aa (.aa (.sk 3 (.aa (.aa (.aa (.sk 17 .nil rfl)))) rfl))),rfl,rfl,?_⟩
       ·omega
       ·exact ⟨⟨by omega,au⟩,⟨tI,tJ⟩,⟨tK,v8⟩,AY,AZ⟩
      ·rw [show decide (zy > 0)=false from decide_eq_false hy]
       have hy:¬ 0 < y.q:=fun e=>hy (cy.2 e)
       rw [if_neg (fun e=>Rat.not_lt.2 e.1 hx),if_neg (fun e=>hy e.2),if_neg hy] at au
       conv=>whnf
       refine .inr (.inr (.inl ⟨9,1,[[],[],[],[1,2],[0,1,2,3],[0,1,2,3,4],[0,1,2,3,4,5],[0,1,2,3,4,5],[],[0,1,2,3,4,5,6,8],[0,1,2,3,4,5,6,7,8,9]],[7],by kernel_rfl,?_⟩))
       conv=>whnf
       obtain ⟨d,ed,pd,sd,qd⟩:=gR (QB.sub qx qy);refine ⟨(x,y),rfl,⟨RV.bZ sx (by decide),RV.bZ sy (by decide)⟩,?_⟩
       rw [show gQ.val (x,y)=d.v from ed]
       conv=>whnf
       obtain ⟨t,et,pt,st,qt⟩:=gR (QB.div qx qd (by decide))
       obtain ⟨e3,J9,pe3⟩:=ef (if d.q=0 then 10 else 0)
       refine ⟨(x,d),rfl,⟨RV.bZ sx (by decide),RV.bZ sd (by decide)⟩,?_⟩
       rw [show qN.val (x,d)=.tuple ⟨[t.v,.int .i64 e3]⟩ from by rw [← et,← J9]; rfl]
       conv=>whnf
       have ct:=(RV.oq et).symm;rw [← pt] at ct;rw [pd] at pt;rw [← pt] at au;obtain ⟨z,ez,pz⟩:=ef (aW t.q hi.q);refine ⟨(t,hi),rfl,⟨RV.bZ st (by decide),RV.bZ v8 (by decide)⟩,?_⟩
       rw [show jQ.val (t,hi)=.int .i64 z from ez]
       conv=>whnf
       have cz:z < 0↔t.q < hi.q:=by rw [pz]; exact B0
       by_cases h5:z < 0
       ·rw [show decide (z < 0)=true from decide_eq_true h5]
        conv=>whnf
        refine ⟨rfl,?_⟩;conv=>whnf
        rw [e7];refine .inr ⟨[0,1,2,3,4,5,6,7,8,9,10],[0,1,5,6,7],?_⟩;conv=>whnf
        intro _;conv=>whnf
        refine ⟨_,?_,j+1,lo,t,(.aa (.aa (.sk 3 (.aa (.aa (.aa (.sk 17 .nil rfl)))) rfl))),rfl,rfl,?_⟩
        ·omega
        ·exact ⟨⟨by omega,by rw [au]; unfold me; rw [if_pos (cz.1 h5)]⟩,⟨tI,ct⟩,⟨tK,RV.aY st (by decide)⟩,AY,qt.mono (by decide)⟩
       ·rw [show decide (z < 0)=false from decide_eq_false h5]
        conv=>whnf
        refine ⟨rfl,?_⟩;conv=>whnf
        rw [e7];refine .inr ⟨[0,1,2,3,4,5,6,7,8,9,10],[0,1,5,6,7],?_⟩;conv=>whnf
        intro _;conv=>whnf
        refine ⟨_,?_,j+1,lo,hi,(.aa (.aa (.sk 3 (.aa (.aa (.aa (.sk 17 .nil rfl)))) rfl))),rfl,rfl,?_⟩
        ·omega
        ·exact ⟨⟨by omega,by rw [au]; unfold me; rw [if_neg (fun e=>h5 (cz.2 e))]⟩,⟨tI,tJ⟩,⟨tK,v8⟩,AY,AZ⟩
     ·rw [show decide (zx > 0)=false from decide_eq_false hx]
      have hx:¬ 0 < x.q:=fun e=>hx (cx.2 e)
      by_cases hy:zy > 0
      ·rw [show decide (zy > 0)=true from decide_eq_true hy]
       have hy:=cy.1 hy;rw [if_neg (fun e=>Rat.not_lt.2 e.2 hy),if_neg (fun e=>hx e.1),if_pos hy] at au
       conv=>whnf
       refine .inr (.inr (.inl ⟨9,1,[[],[],[],[1,2],[0,1,2,3],[0,1,2,3,4],[0,1,2,3,4,5],[0,1,2,3,4,5],[],[0,1,2,3,4,5,6,8],[0,1,2,3,4,5,6,7,8,9]],[7],by kernel_rfl,?_⟩))
       conv=>whnf
       obtain ⟨d,ed,pd,sd,qd⟩:=gR (QB.sub qx qy);refine ⟨(x,y),rfl,⟨RV.bZ sx (by decide),RV.bZ sy (by decide)⟩,?_⟩
       rw [show gQ.val (x,y)=d.v from ed]
       conv=>whnf
       obtain ⟨t,et,pt,st,qt⟩:=gR (QB.div qx qd (by decide))
       obtain ⟨e3,J9,pe3⟩:=ef (if d.q=0 then 10 else 0)
       refine ⟨(x,d),rfl,⟨RV.bZ sx (by decide),RV.bZ sd (by decide)⟩,?_⟩
       rw [show qN.val (x,d)=.tuple ⟨[t.v,.int .i64 e3]⟩ from by rw [← et,← J9]; rfl]
       conv=>whnf
       have ct:=(RV.oq et).symm;rw [← pt] at ct;rw [pd] at pt;rw [← pt] at au;obtain ⟨z,ez,pz⟩:=ef (aW t.q lo.q);refine ⟨(t,lo),rfl,⟨RV.bZ st (by decide),RV.bZ tK (by decide)⟩,?_⟩
       rw [show jQ.val (t,lo)=.int .i64 z from ez]
       conv=>whnf
       have cz:z > 0↔lo.q < t.q:=by rw [pz]; exact uh
       by_cases h5:z > 0
       ·rw [show decide (z > 0)=true from decide_eq_true h5]
        conv=>whnf
        refine ⟨rfl,?_⟩;conv=>whnf
        rw [e7];refine .inr ⟨[0,1,2,3,4,5,6,7,8,9,10],[0,1,5,6,7],?_⟩;conv=>whnf
        intro _;conv=>whnf
        refine ⟨_,?_,j+1,t,hi,(.aa (.aa (.sk 3 (.aa (.aa (.aa (.sk 17 .nil rfl)))) rfl))),rfl,rfl,?_⟩
        ·omega
        ·exact ⟨⟨by omega,by rw [au]; unfold mc; rw [if_pos (cz.1 h5)]⟩,⟨ct,tJ⟩,⟨RV.aY st (by decide),v8⟩,qt.mono (by decide),AZ⟩
       ·rw [show decide (z > 0)=false from decide_eq_false h5]
        conv=>whnf
        refine ⟨rfl,?_⟩;conv=>whnf
        rw [e7];refine .inr ⟨[0,1,2,3,4,5,6,7,8,9,10],[0,1,5,6,7],?_⟩;conv=>whnf
        intro _;conv=>whnf
        refine ⟨_,?_,j+1,lo,hi,(.aa (.aa (.sk 3 (.aa (.aa (.aa (.sk 17 .nil rfl)))) rfl))),rfl,rfl,?_⟩
        ·omega
        ·exact ⟨⟨by omega,by rw [au]; unfold mc; rw [if_neg (fun e=>h5 (cz.2 e))]⟩,⟨tI,tJ⟩,⟨tK,v8⟩,AY,AZ⟩
      ·rw [show decide (zy > 0)=false from decide_eq_false hy]
       have hy:¬ 0 < y.q:=fun e=>hy (cy.2 e)
       rw [if_pos ⟨Rat.not_lt.1 hx,Rat.not_lt.1 hy⟩] at au;conv=>whnf
       refine ⟨rfl,?_⟩;conv=>whnf
       exact fin dp dp false 0 _ (Oi hk (Uj au))
    ·have h3:j=n:=by
      have:=of_decide_eq_false h3;omega
     subst h3;have hE:=Vo (a:=p.p) (b:=q.p) (show j=(aD L).length by rw [cA]; exact hn)
     rw [hU] at hE;conv=>whnf
     obtain ⟨z,ez,pz⟩:=ef (aW lo.q hi.q);refine ⟨(lo,hi),rfl,⟨RV.bZ tK (by decide),RV.bZ v8 (by decide)⟩,?_⟩
     rw [show jQ.val (lo,hi)=.int .i64 z from ez]
     conv=>whnf
     by_cases h5:hi.q≤lo.q
     ·rw [show decide (z ≥ 0)=true from decide_eq_true (by rw [pz]; exact mF.2 h5)]
      conv=>whnf
      exact fin dp dp false 0 _ (Oi hk (hE.symm.trans (WQ h5)))
     ·rw [show decide (z ≥ 0)=false from decide_eq_false (by rw [pz]; exact fun e=>h5 (mF.1 e))]
      conv=>whnf
      have gi:gZ L (p,q)=((lo,hi),true,0):=X9 hk (hE.symm.trans (WR h5)) tI tJ;refine .inr (.inl ⟨(.br 0 (.br 1 (.br 2 (.br 3 (.br 4 (.br 5 .leaf .leaf) .leaf) .leaf) .leaf) (.br 2 (.br 1 (.br 3 (.br 4 (.br 5 .leaf .leaf) .leaf) .leaf) .leaf) .leaf)) (.br 1 (.br 0 (.br 2 (.br 3 (.br 4 (.br 5 .leaf .leaf) .leaf) .leaf) .leaf) .leaf) .leaf)),by kernel_rfl,?_⟩)
      repeat' ((conv=>whnf); first | exact True.intro | refine And.intro ?_ ?_)
      all_goals conv=>whnf
      all_goals exact fin lo hi true 0 _ gi
  ·rw [show (e != 0)=true from by simp [h1]]
   conv=>whnf
   exact fin dp dp false 1 _ (O0 fun h=>h1 (by rw [he]; exact h.1))
set_option maxHeartbeats 1000000
open Go Go.Ae
open Go Go.Ae
def Eqs:Env:=En [(128,.p jQ),(157,.p n7),(156,.p lS)]
theorem adW:EnvOk Tryz.prog Eqs:=bD ⟨Gq,NF,NH,trivial⟩ trivial
theorem VF:bh Tryz.prog 123 iJ:=by
 refine bk adW aN Tryz.func123 (enters_of Tryz.func123 (by kernel_rfl) rfl) (fun _=>rfl) (fun _=>rfl) ?_
 intro (r:RV) hp;have hp:r.ok:=hp;obtain ⟨x,hx⟩:∃ x,x=aW r.q 0:=⟨_,rfl⟩;conv=>whnf
 refine ⟨(r,dp),rfl,⟨hp,RV.bZ (ui 0) (by decide)⟩,?_⟩
 rw [show jQ.val (r,dp)=.int .i64 x from by rw [hx]; show Value.int .i64 (aW r.q dp.q)=_; rw [XE]]
 conv=>whnf
 show Value.int .i64 x=Value.int .i64 (aW r.q 0)
 rw [hx]
open Go Go.Ae
set_option maxHeartbeats 4000000
open Go Go.Ae
open Go Go.Ae
open Go Go.Ae
def Er0:Env:=En [(121,.p kW),(122,.p qn),(123,.p iJ)]
theorem adX:EnvOk Tryz.prog Er0:=bD ⟨Xb,Uu,VF,trivial⟩ trivial
theorem LY:bh Tryz.prog 77 kd:=by
 refine bk adX aN Tryz.func77 (enters_of Tryz.func77 (by kernel_rfl) rfl) (fun _=>rfl) (fun _=>rfl) ?_
 intro ⟨a,b,c⟩ hp;have hp:a.sz 1048576∧b.sz 1048576∧c.sz 1048576:=hp;obtain ⟨sa,sb,sc⟩:=hp;have qa:=PV.dg sa (by decide)
 have qb:=PV.dg sb (by decide)
 have qc:=PV.dg sc (by decide)
 conv=>whnf
 refine .inl ⟨5,[[],[],[0,1],[],[],[0,1,2,3,4],[0,1,2,3,4,5],[0,1,2,3,4,5,6],[0,1,2,3,4,5,6,7]],by kernel_rfl,?_⟩
 conv=>whnf
 obtain ⟨u,eu,pu,su,qu⟩:=sL (pr qb qa);refine ⟨(b,a),rfl,⟨PV.aY sb (by decide),PV.aY sa (by decide)⟩,?_⟩
 rw [show kW.val (b,a)=u.v from eu]
 conv=>whnf
 obtain ⟨v,ev,pv,sv,qv⟩:=sL (pr qc qa);refine ⟨(c,a),rfl,⟨PV.aY sc (by decide),PV.aY sa (by decide)⟩,?_⟩
 rw [show kW.val (c,a)=v.v from ev]
 conv=>whnf
 obtain ⟨w,ew,pw,sw,qw⟩:=gR (yL qu qv);refine ⟨(u,v),rfl,⟨PV.aY su (by decide),PV.aY sv (by decide)⟩,?_⟩
 rw [show qn.val (u,v)=w.v from ew]
 conv=>whnf
 obtain ⟨n,en,pn⟩:=ef (aW w.q 0);refine ⟨w,rfl,RV.bZ sw (by decide),?_⟩
 rw [show iJ.val w=.int .i64 n from en]
 conv=>whnf
 show Value.int .i64 n=Value.int .i64 (aW (ak a.p b.p c.p) 0)
 rw [pn,pw,pu,pv]
 rfl
def Er1:Env:=En [(68,.p lK)]
theorem adY:EnvOk Tryz.prog Er1:=bD ⟨Uv,trivial⟩ trivial
theorem UA:cU Tryz.prog 61 eL:=by
 refine dh adY aN Tryz.func61 (enters_of Tryz.func61 (by kernel_rfl) rfl) ?_ ?_ ?_
 ·intro i b hb;cases i with
  | none=>simp [eL,PL.ae] at hb
  | some i=>simp [eL,PL.ae] at hb; rw [hb]; rfl
 ·intro i b hb; simp [eL] at hb
 intro i hp;have hp:i.list.length≤1099511627776∧∀ v∈i.list,v.sz 2048:=hp;obtain ⟨hlen,ba⟩:=hp;cases i with
 | none =>
  conv=>whnf
  refine .inr ⟨1,?_⟩;conv=>whnf
  exact ⟨.bool true,rfl,.refl _⟩
 | some i =>
  obtain ⟨L,c⟩:=i;have hlen:L.length≤1099511627776:=hlen;have ba:∀ v∈L,PV.sz 2048 v:=ba;obtain ⟨n,hn⟩:∃ n,n=L.length:=⟨_,rfl⟩;obtain ⟨g,hg⟩:∃ g,g=cB L:=⟨_,rfl⟩;have fin:∀ z:Bool,z=!dL L→∃ v',cM (List.range 1) 3 (eL.val (some (L,c)))=some v'∧eG (.bool z) v':=fun z h=>⟨.bool z,by rw [h]; rfl,.refl _⟩
  rw [show eL.ae (some (L,c))=[.flat false n 6 g] from by rw [hn,hg]; rfl,show eL.args (some (L,c))=[.slice (some ⟨0,0,none⟩) n c] from by rw [hn]; rfl]
  rw [← hn] at hlen;conv=>whnf
  refine .inl ⟨fun mm tz hz=>∃ (i:Nat),bA (some (.slice (some ⟨0,0,none⟩) n c)::aF 2 (some (.int .i64 i)::aF 12 [])) tz∧hz=[some (.flat false n 6 g)]∧n - i=mm∧(i≤n∧u2 L i),.inr ⟨[0],[0,3],?_⟩,?_⟩
  ·conv=>whnf
   intro _;conv=>whnf
   refine ⟨_,0,(.aa (.sk 2 (.aa (.sk 12 .nil rfl)) rfl)),rfl,rfl,?_⟩;exact ⟨Nat.zero_le _,K6 _⟩
  rintro mm aT _ ⟨i,aw,rfl,rfl,⟨hi,hU⟩⟩
  obtain ⟨az,rfl⟩:∃ az:Nat→Value,aT=.slice (some ⟨0,0,none⟩) n c::zs az 1 2 (.int .i64 i::zs az 4 12 []):=bI aw;clear aw;conv=>whnf
  refine aK (fun h3=>?_) (fun h3=>?_)
  ·have h3:i < n:=by
    have:=of_decide_eq_true h3;omega
   have e7:IntKind.i64.wrap ((i:Int)+1)=((i+1:Nat):Int):=by rw [ax (by omega) (by omega)]; rfl
   obtain ⟨m,lH,m7,aZ⟩:=rT (l:=L) (i:=i) (by omega)
   rw [← hg] at aZ;conv=>whnf
   refine ⟨⟨by omega,by omega⟩,?_⟩
   simp only [toNat_cast,ay,Nat.zero_add];conv=>whnf
   refine ⟨by show i < n; omega,?_⟩
   conv=>whnf
   rw [aZ];conv=>whnf
   refine ⟨m,rfl,PV.aY (ba m m7) (by decide),?_⟩
   by_cases h4:m.canon
   ·rw [show lK.val m=.int .i64 0 from congrArg (Value.int .i64) (if_pos h4)]
    conv=>whnf
    rw [e7];refine .inr ⟨[0],[0,3],?_⟩;conv=>whnf
    intro _;conv=>whnf
    refine ⟨_,?_,i+1,(.aa (.sk 2 (.aa (.sk 12 .nil rfl)) rfl)),rfl,rfl,?_⟩
    ·omega
    ·exact ⟨by omega,LP hU lH h4⟩
   ·rw [show lK.val m=.int .i64 1 from congrArg (Value.int .i64) (if_neg h4)]
    conv=>whnf
    exact fin false (by rw [show dL L=true from List.any_eq_true.2 ⟨m,m7,decide_eq_true h4⟩]; rfl)
  ·have h3:i=n:=by
    have:=of_decide_eq_false h3;omega
   subst h3;conv=>whnf
   exact fin true (by rw [ME (by rw [← hn]; exact hU)]; rfl)
def Er2:Env:=En [(61,.q eL),(76,.p pG),(77,.p kd)]
theorem adZ:EnvOk Tryz.prog Er2:=bD ⟨UA,Xc,LY,trivial⟩ trivial
theorem UB:cU Tryz.prog 24 aV:=by
 refine dh adZ aN Tryz.func24 (enters_of Tryz.func24 (by kernel_rfl) rfl) ?_ ?_ ?_
 ·intro i b hb;cases i with
  | none=>simp [aV,PL.ae] at hb
  | some i=>simp [aV,PL.ae] at hb; rw [hb]; rfl
 ·intro i b hb; simp [aV] at hb
 intro i hp;have hp:i.list.length≤1099511627776∧∀ v∈i.list,v.sz 2048:=hp;obtain ⟨hlen,ba⟩:=hp;cases i with
 | none =>
  conv=>whnf
  exact ⟨.int .i64 4,rfl,.refl _⟩
 | some i =>
  obtain ⟨L,c⟩:=i;have hlen:L.length≤1099511627776:=hlen;have ba:∀ v∈L,PV.sz 2048 v:=ba;obtain ⟨n,hn⟩:∃ n,n=L.length:=⟨_,rfl⟩;obtain ⟨g,hg⟩:∃ g,g=cB L:=⟨_,rfl⟩;have fin:∀ z:Int,bg L=z→∃ v',cM (List.range 1) 3 (aV.val (some (L,c)))=some v'∧eG (.int .i64 z) v':=fun z h=>⟨.int .i64 z,by rw [← h]; rfl,.refl _⟩
  rw [show aV.ae (some (L,c))=[.flat false n 6 g] from by rw [hn,hg]; rfl,show aV.args (some (L,c))=[.slice (some ⟨0,0,none⟩) n c] from by rw [hn]; rfl]
  rw [← hn] at hlen;conv=>whnf
  by_cases h1:n < 3
  ·rw [show decide ((n:Int) < 3)=true from decide_eq_true (by omega)]
   conv=>whnf
   exact fin 4 (Cs (.inl (by omega)))
  rw [show decide ((n:Int) < 3)=false from decide_eq_false (by omega)]
  conv=>whnf
  by_cases J:64 < n
  ·rw [show decide ((n:Int) > 64)=true from decide_eq_true (by omega)]
   conv=>whnf
   exact fin 4 (Cs (.inr (by omega)))
  rw [show decide ((n:Int) > 64)=false from decide_eq_false (by omega)]
  conv=>whnf
  obtain ⟨z,hz⟩:∃ z,z=dL L:=⟨_,rfl⟩;refine ⟨some (L,c),[0],by rw [show eL.args (some (L,c))=[.slice (some ⟨0,0,none⟩) n c] from by rw [hn]; rfl]; rfl,⟨by show L.length≤_; omega,ba⟩,?_⟩
  rw [show eL.ae (some (L,c))=[.flat false n 6 g] from by rw [hn,hg]; rfl,show eL.val (some (L,c))=.bool (!z) from by rw [hz]; rfl,show eL.new (some (L,c))=none from rfl]
  conv=>whnf
  refine ⟨aG.aR (fun h=>h) (fun r hr=>by rw [hg]; rfl),?_⟩
  conv=>whnf
  refine ⟨_,rfl,?_⟩;conv=>whnf
  cases z with
  | true =>
   conv=>whnf
   exact fin 1 (Oa (by omega) hz.symm)
  | false =>
   conv=>whnf
   have re:dL L=false:=hz.symm;have h0:=o5 (L:=L) (k:=0) (by omega)
   have so:=ba _ (np (L:=L) (k:=0) (by omega))
   have po:=ku (L:=L) (k:=0) (by omega)
   obtain ⟨o,ho⟩:∃ o,o=iC L 0:=⟨_,rfl⟩;rw [← ho] at h0 so po;rw [← hg] at h0;have qo:=PV.dg so (by decide)
   have Ad:g (Int.toNat 0)=o.cells:=h0;refine .inl ⟨fun mm tz hz=>∃ (i:Nat),bA (some (.slice (some ⟨0,0,none⟩) n c)::aF 2 (some (.int .i64 n)::some (.int .i64 ((i+1:Nat):Int))::aF 79 [])) tz∧hz=[some (.flat false n 6 g)]∧n - i=mm∧(i+1≤n∧xM (aD L) i),.inr ⟨[0],[0,3,4],?_⟩,?_⟩
   ·conv=>whnf
    intro _;conv=>whnf
    refine ⟨_,0,(.aa (.sk 2 (.aa (.aa (.sk 79 .nil rfl))) rfl)),rfl,rfl,?_⟩;exact ⟨by omega,K7 _⟩
   rintro mm aT _ ⟨i,aw,rfl,rfl,⟨hi,hU⟩⟩
   obtain ⟨az,rfl⟩:∃ az:Nat→Value,aT=.slice (some ⟨0,0,none⟩) n c::zs az 1 2 (.int .i64 n::.int .i64 ((i+1:Nat):Int)::zs az 5 79 []):=bI aw;clear aw;conv=>whnf
   refine aK (fun h3=>?_) (fun h3=>?_)
   ·have h3:i+1 < n:=by
     have:=of_decide_eq_true h3;omega
    have e7:IntKind.i64.wrap (((i+1:Nat):Int)+1)=((i+1+1:Nat):Int):=by rw [ax (by omega) (by omega)]; rfl
    have ra:=o5 (L:=L) (k:=i+1) (by omega)
    have sa:=ba _ (np (L:=L) (k:=i+1) (by omega))
    have pa:=ku (L:=L) (k:=i+1) (by omega)
    obtain ⟨a,ha⟩:∃ o,o=iC L (i+1):=⟨_,rfl⟩;rw [← ha] at ra sa pa;rw [← hg] at ra;have qa:=PV.dg sa (by decide)
    obtain ⟨k,hk⟩:∃ k,k=i+1:=⟨_,rfl⟩;rw [← hk] at ra e7 h3 ⊢;conv=>whnf
    refine .inl ⟨7,[[],[0],[0,1],[],[],[3,4],[3,4,5],[0,1,2,3,4,5,6],[0,1,2,3,4,5,6,7]],by kernel_rfl,?_⟩
    conv=>whnf
    refine ⟨⟨by omega,by omega⟩,?_⟩
    simp only [toNat_cast,ay,Nat.zero_add];conv=>whnf
    refine ⟨by show 0 < n; omega,?_⟩
    conv=>whnf
    rw [Ad];conv=>whnf
    refine ⟨⟨by omega,by omega⟩,?_⟩
    simp only [toNat_cast,ay,Nat.zero_add];conv=>whnf
    refine ⟨by show k < n; omega,?_⟩
    conv=>whnf
    rw [ra];conv=>whnf
    obtain ⟨z,ez,pz⟩:=ef (fH o.p a.p);refine ⟨(o,a),rfl,⟨PV.aY so (by decide),PV.aY sa (by decide)⟩,?_⟩
    rw [show pG.val (o,a)=.int .i64 z from ez]
    conv=>whnf
    rw [pa,po] at pz;by_cases h4:iS (ar (aD L) 0) (ar (aD L) (i+1))
    ·have:=yV.2 h4;rw [show decide (z ≥ 0)=false from decide_eq_false (by omega)]
     conv=>whnf
     rw [e7,hk];refine .inr ⟨[0],[0,3,4],?_⟩;conv=>whnf
     intro _;conv=>whnf
     refine ⟨_,?_,i+1,(.aa (.sk 2 (.aa (.aa (.sk 79 .nil rfl))) rfl)),rfl,rfl,?_⟩
     ·omega
     ·exact ⟨by omega,LQ hU h4⟩
    ·have:¬ fH (ar (aD L) 0) (ar (aD L) (i+1)) < 0:=fun e=>h4 (yV.1 e)
     rw [show decide (z ≥ 0)=true from decide_eq_true (by omega)]
     conv=>whnf
     exact fin 8 (Ob (by omega) re fun e=>h4 (e (i+1) (by omega) (by rw [cA]; omega)))
   ·have h3:i+1=n:=by
     have:=of_decide_eq_false h3;omega
    have ow:=MG hU (by rw [cA]; omega)
    have yn:3≤(aD L).length:=by rw [cA]; omega
    conv=>whnf
    skip
    refine .inl ⟨fun mm tz hz=>∃ (j:Nat),bA (some (.slice (some ⟨0,0,none⟩) n c)::aF 2 (some (.int .i64 n)::aF 1 (some (.int .i64 j)::aF 78 []))) tz∧hz=[some (.flat false n 6 g)]∧n - j=mm∧(j≤n∧∀ k,k < j→¬ pA (aD L) k),.inr ⟨[0],[0,3,5],?_⟩,?_⟩
    ·conv=>whnf
     intro _;conv=>whnf
     refine ⟨_,0,(.aa (.sk 2 (.aa (.sk 1 (.aa (.sk 78 .nil rfl)) rfl)) rfl)),rfl,rfl,?_⟩;exact ⟨Nat.zero_le _,fun k hk=>absurd hk (Nat.not_lt_zero k)⟩
    rintro mm aT _ ⟨j,aw,rfl,rfl,⟨hj,hB⟩⟩
    obtain ⟨az,rfl⟩:∃ az:Nat→Value,aT=.slice (some ⟨0,0,none⟩) n c::zs az 1 2 (.int .i64 n::zs az 4 1 (.int .i64 j::zs az 6 78 [])):=bI aw;clear aw;conv=>whnf
    refine aK (fun h3=>?_) (fun h3=>?_)
    ·have h3:j < n:=by
      have:=of_decide_eq_true h3;omega
     have e7:IntKind.i64.wrap ((j:Int)+1)=((j+1:Nat):Int):=by rw [ax (by omega) (by omega)]; rfl
     obtain ⟨a,b,ra,rb,⟨ma,mb⟩,_,cG,ha,hb⟩:=tZ hn h3;have sa:=ba a ma;have sb:=ba b mb;have qa:=PV.dg sa (by decide)
     have qb:=PV.dg sb (by decide)
     have QD:=cL cG;have rd:=o5 (L:=L) (k:=aX n (aX n j)) (by omega)
     have sd:=ba _ (np (L:=L) (k:=aX n (aX n j)) (by omega))
     have pd:=ku (L:=L) (k:=aX n (aX n j)) (by omega)
     obtain ⟨d,hd⟩:∃ o,o=iC L (aX n (aX n j)):=⟨_,rfl⟩;rw [← hd] at rd sd pd;have qd:=PV.dg sd (by decide)
     have pa:a.p=ar (aD L) j:=by rw [ha]; exact ku (by omega)
     have pb:b.p=ar (aD L) (aX n j):=by rw [hb]; exact ku (by omega)
     have cV:=lV h3 (by omega)
     have IS:=aaL h3 (by omega)
     have fV:n=(aD L).length:=by rw [cA,hn]
     have Ab:pA (aD L) j↔ak a.p b.p d.p≤0∨(0 < j∧j+1 < n∧ak (ar (aD L) 0) (ar (aD L) j) (ar (aD L) (j+1))≤0):=by
      unfold pA;rw [← fV,pa,pb,pd]
     obtain ⟨u,hu⟩:∃ u,u=aX n j:=⟨_,rfl⟩;rw [← hu] at cV cG rb QD IS rd;obtain ⟨w,hw⟩:∃ w,w=aX n u:=⟨_,rfl⟩;rw [← hw] at QD IS rd;rw [← hg] at ra rb rd;conv=>whnf
     refine .inl ⟨42,[[],[],[0,1],[0,1,2],[],[],[5],[],[5,6,7],[4,5,6,7,8],[4,5,6,7,8,9],[],[],[12],[],[12,13,14],[11,12,13,14,15],[11,12,13,14,15,16],[0,1,2,3,4,5,6,7,8,9,10,11,12,13,14,15,16,17],[0,1,2,3,4,5,6,7,8,9,10,11,12,13,14,15,16,17,18],[0,1,2,3,4,5,6,7,8,9,10,11,12,13,14,15,16,17,18,19],[0,1,2,3,4,5,6,7,8,9,10,11,12,13,14,15,16,17,18,19,20],[0,1,2,3,4,5,6,7,8,9,10,11,12,13,14,15,16,17,18,19,20,21],[0,1,2,3,4,5,6,7,8,9,10,11,12,13,14,15,16,17,18,19,20,21,22],[0,1,2,3,4,5,6,7,8,9,10,11,12,13,14,15,16,17,18,19,20,21,22,23],[0,1,2,3,4,5,6,7,8,9,10,11,12,13,14,15,16,17,18,19,20,21,22,23,24],[0,1,2,3,4,5,6,7,8,9,10,11,12,13,14,15,16,17,18,19,20,21,22,23],[0,1,2,3,4,5,6,7,8,9,10,11,12,13,14,15,16,17,18,19,20,21,22,23,24,25,26],[0,1,2,3,4,5,6,7,8,9,10,11,12,13,14,15,16,17,18,19,20,21,22,23,24,25,26,27],[0,1,2,3,4,5,6,7,8,9,10,11,12,13,14,15,16,17,18,19,20,21,22,23,24,25,26,27,28],[0,1,2,3,4,5,6,7,8,9,10,11,12,13,14,15,16,17,18,19,20,21,22,23,24,25,26,27,28,29],[0,1,2,3,4,5,6,7,8,9,10,11,12,13,14,15,16,17,18,19,20,21,22,23,24,25,26,27,28,29,30],[0,1,2,3,4,5,6,7,8,9,10,11,12,13,14,15,16,17,18,19,20,21,22,23,24,25,26,27,28,29,30,31],[0,1,2,3,4,5,6,7,8,9,10,11,12,13,14,15,16,17,18,19,20,21,22,23,24,25,26,27,28,29],[0,1,2,3,4,5,6,7,8,9,10,11,12,13,14,15,16,17,18,19,20,21,22,23,24,25,26,27,28,29],[0,1,2,3,4,5,6,7,8,9,10,11,12,13,14,15,16,17,18,19,20,21,22,23,24,25,26,27,28,29,33,34],[0,1,2,3,4,5,6,7,8,9,10,11,12,13,14,15,16,17,18,19,20,21,22,23,24,25,26,27,28,29,33,34,35],[0,1,2,3,4,5,6,7,8,9,10,11,12,13,14,15,16,17,18,19,20,21,22,23,24,25,26,27,28,29],[0,1,2,3,4,5,6,7,8,9,10,11,12,13,14,15,16,17,18,19,20,21,22,23,24,25,26,27,28,29],[0,1,2,3,4,5,6,7,8,9,10,11,12,13,14,15,16,17,18,19,20,21,22,23,24,25,26,27,28,29,38],[0,1,2,3,4,5,6,7,8,9,10,11,12,13,14,15,16,17,18,19,20,21,22,23,24,25,26,27,28,29,37,38,39],[0,1,2,3,4,5,6,7,8,9,10,11,12,13,14,15,16,17,18,19,20,21,22,23,24,25,26,27,28,29,37,38,39,40],[0,1,2,3,4,5,6,7,8,9,10,11,12,13,14,15,16,17,18,19,20,21,22,23,24,25,26,27,28,29,30,31,32,33,34,35,36,37,38,39,40,41],[0,1,2,3,4,5,6,7,8,9,10,11,12,13,14,15,16,17,18,19,20,21,22,23,24,25,26,27,28,29,30,31,32,33,34,35,36,37,38,39,40,41,42],[0,1,2,3,4,5,6,7,8,9,10,11,12,13,14,15,16,17,18,19,20,21,22,23,24,25,26,27,28,29,30,31,32,33,34,35,36,37,38,39,40,41,42,43],[0,1,2,3,4,5,6,7,8,9,10,11,12,13,14,15,16,17,18,19,20,21,22,23,24,25,26,27,28,29,30,31,32,33,34,35,36,37,38,39,40,41,42,43,44]],by kernel_rfl,?_⟩
     conv=>whnf
     refine ⟨⟨by omega,by omega⟩,?_⟩
     simp only [toNat_cast,ay,Nat.zero_add];conv=>whnf
     refine ⟨by show j < n; omega,?_⟩
     conv=>whnf
     rw [ra];conv=>whnf
     rw [show decide ((n:Int)≠0)=true from decide_eq_true (by omega)]
     conv=>whnf
     rw [cV];refine ⟨⟨by omega,by omega⟩,?_⟩
     simp only [toNat_cast,ay,Nat.zero_add];conv=>whnf
     refine ⟨by show u < n; omega,?_⟩
     conv=>whnf
     rw [rb];conv=>whnf
     rw [show decide ((n:Int)≠0)=true from decide_eq_true (by omega)]
     conv=>whnf
     rw [IS];refine ⟨⟨by omega,by omega⟩,?_⟩
     simp only [toNat_cast,ay,Nat.zero_add];conv=>whnf
     refine ⟨by show w < n; omega,?_⟩
     conv=>whnf
     rw [rd];conv=>whnf
     obtain ⟨z,ez,pz⟩:=ef (aW (ak a.p b.p d.p) 0);refine ⟨(a,b,d),rfl,⟨PV.aY sa (by decide),PV.aY sb (by decide),PV.aY sd (by decide)⟩,?_⟩
     rw [show kd.val (a,b,d)=.int .i64 z from ez]
     conv=>whnf
     have cz:z≤0↔ak a.p b.p d.p≤0:=by rw [pz]; exact xh
     by_cases h4:z≤0
     ·rw [show decide (z≤0)=true from decide_eq_true h4]
      conv=>whnf
      exact fin 15 (GP (by omega) re ow fun e=>(yO yn ow).1 e j (by rw [cA]; omega) (Ab.2 (.inl (cz.1 h4))))
     ·rw [show decide (z≤0)=false from decide_eq_false h4]
      have next:¬ pA (aD L) j→∀ k,k < j+1→¬ pA (aD L) k:=fun hb k hk=>by
       rcases Nat.lt_or_eq_of_le (Nat.le_of_lt_succ hk) with e | e
       ·exact hB k e
       ·rw [e]; exact hb
      conv=>whnf
      by_cases h5:0 < j
      ·rw [show decide ((j:Int) > 0)=true from decide_eq_true (by omega)]
       conv=>whnf
       rw [e7];by_cases h6:j+1 < n
       ·rw [show decide (((j+1:Nat):Int) < (n:Int))=true from decide_eq_true (by omega)]
        have rv:=o5 (L:=L) (k:=j+1) (by omega)
        have sv:=ba _ (np (L:=L) (k:=j+1) (by omega))
        have pv:=ku (L:=L) (k:=j+1) (by omega)
        obtain ⟨v,hv⟩:∃ o,o=iC L (j+1):=⟨_,rfl⟩;rw [← hv] at rv sv pv;rw [← hg] at rv;have qv:=PV.dg sv (by decide)
        obtain ⟨k,hk⟩:∃ k,k=j+1:=⟨_,rfl⟩;rw [← hk] at rv;conv=>whnf
        refine ⟨⟨by omega,by omega⟩,?_⟩
        simp only [toNat_cast,ay,Nat.zero_add];conv=>whnf
        refine ⟨by show 0 < n; omega,?_⟩
        conv=>whnf
        rw [Ad];conv=>whnf
        refine ⟨⟨by omega,by omega⟩,?_⟩
        simp only [toNat_cast,ay,Nat.zero_add];conv=>whnf
        refine ⟨by show j < n; omega,?_⟩
        conv=>whnf
        rw [ra];conv=>whnf
        rw [e7,← hk];refine ⟨⟨by omega,by omega⟩,?_⟩
        simp only [toNat_cast,ay,Nat.zero_add];conv=>whnf
        refine ⟨by show k < n; omega,?_⟩
        conv=>whnf
        rw [rv];conv=>whnf
        obtain ⟨y,ey,py⟩:=ef (aW (ak o.p a.p v.p) 0);refine ⟨(o,a,v),rfl,⟨PV.aY so (by decide),PV.aY sa (by decide),PV.aY sv (by decide)⟩,?_⟩
        rw [show kd.val (o,a,v)=.int .i64 y from ey]
        conv=>whnf
        have cy:y≤0↔ak o.p a.p v.p≤0:=by rw [py]; exact xh
        rw [pa,po,pv] at cy;by_cases h7:y≤0
        ·rw [show decide (y≤0)=true from decide_eq_true h7]
         conv=>whnf
         exact fin 15 (GP (by omega) re ow fun e=>(yO yn ow).1 e j (by rw [cA]; omega) (Ab.2 (.inr ⟨h5,h6,cy.1 h7⟩)))
        ·rw [show decide (y≤0)=false from decide_eq_false h7]
         conv=>whnf
         rw [e7];refine .inr ⟨[0],[0,3,5],?_⟩;conv=>whnf
         intro _;conv=>whnf
         refine ⟨_,?_,j+1,(.aa (.sk 2 (.aa (.sk 1 (.aa (.sk 78 .nil rfl)) rfl)) rfl)),rfl,rfl,?_⟩
         ·omega
         ·exact ⟨by omega,next fun e=>(Ab.1 e).elim (fun e=>h4 (cz.2 e)) fun e=>h7 (cy.2 e.2.2)⟩
       ·rw [show decide (((j+1:Nat):Int) < (n:Int))=false from decide_eq_false (by omega)]
        conv=>whnf
        rw [e7];refine .inr ⟨[0],[0,3,5],?_⟩;conv=>whnf
        intro _;conv=>whnf
        refine ⟨_,?_,j+1,(.aa (.sk 2 (.aa (.sk 1 (.aa (.sk 78 .nil rfl)) rfl)) rfl)),rfl,rfl,?_⟩
        ·omega
        ·exact ⟨by omega,next fun e=>(Ab.1 e).elim (fun e=>h4 (cz.2 e)) fun e=>h6 e.2.1⟩
      ·rw [show decide ((j:Int) > 0)=false from decide_eq_false (by omega)]
       conv=>whnf
       rw [e7];refine .inr ⟨[0],[0,3,5],?_⟩;conv=>whnf
       intro _;conv=>whnf
       refine ⟨_,?_,j+1,(.aa (.sk 2 (.aa (.sk 1 (.aa (.sk 78 .nil rfl)) rfl)) rfl)),rfl,rfl,?_⟩
       ·omega
       ·exact ⟨by omega,next fun e=>(Ab.1 e).elim (fun e=>h4 (cz.2 e)) fun e=>h5 e.1⟩
    ·have h3:j=n:=by
      have:=of_decide_eq_false h3;omega
     subst h3;conv=>whnf
     exact fin 0 (No (by omega) re ow ((yO yn ow).2 fun k hk=>hB k (by rw [cA] at hk; omega)))
def Er3:Env:=En [(77,.p kd)]
theorem ad0:EnvOk Tryz.prog Er3:=bD ⟨LY,trivial⟩ trivial
open Go Go.Ae
theorem acv:bh Tryz.prog 79 s5:=by
 refine bk ad0 aN Tryz.func79 (enters_of Tryz.func79 (by kernel_rfl) rfl) (fun _=>rfl) (fun _=>rfl) ?_
 intro ⟨⟨n1,a1,b1⟩,⟨n2,a2,b2⟩⟩ _;have AG:∀ x:ByteArray,12 < x.size→decide ((x.size:Int) > 12)=true:=fun x h=>decide_eq_true (by omega)
 have small:∀ x:ByteArray,¬ 12 < x.size→decide ((x.size:Int) > 12)=false:=fun x h=>decide_eq_false (by omega)
 conv=>whnf
 by_cases h1:12 < a1.size
 ·rw [AG _ h1];conv=>whnf
  exact Ct (by omega)
 rw [small _ h1];conv=>whnf
 by_cases J:12 < b1.size
 ·rw [AG _ J];conv=>whnf
  exact Ct (by omega)
 rw [small _ J];conv=>whnf
 by_cases h3:12 < a2.size
 ·rw [AG _ h3];conv=>whnf
  exact Ct (by omega)
 rw [small _ h3];conv=>whnf
 by_cases h4:12 < b2.size
 ·rw [AG _ h4];exact Ct (by omega)
 rw [small _ h4];exact aaP (by omega)
def Es1:Env:=En [(79,.p s5)]
theorem ad1:EnvOk Tryz.prog Es1:=bD ⟨acv,trivial⟩ trivial
theorem UC:cU Tryz.prog 53 kS:=by
 refine dh ad1 aN Tryz.func53 (enters_of Tryz.func53 (by kernel_rfl) rfl) ?_ ?_ ?_
 ·intro i b hb;cases i with
  | none=>simp [kS,PL.ae] at hb
  | some i=>simp [kS,PL.ae] at hb; rw [hb]; rfl
 ·intro i b hb; simp [kS] at hb
 intro i hp;have hp:i.list.length≤9223372036854775807:=hp;cases i with
 | none =>
  conv=>whnf
  refine .inr ⟨1,?_⟩;conv=>whnf
  exact ⟨.bool false,rfl,.refl _⟩
 | some i =>
  obtain ⟨L,c⟩:=i;have hlen:L.length≤9223372036854775807:=hp;obtain ⟨n,hn⟩:∃ n,n=L.length:=⟨_,rfl⟩;obtain ⟨g,hg⟩:∃ g,g=cB L:=⟨_,rfl⟩;have fin:∀ z:Bool,nv L=z→∃ v',cM (List.range 1) 3 (kS.val (some (L,c)))=some v'∧eG (.bool z) v':=fun z h=>⟨.bool z,by rw [← h]; rfl,.refl _⟩
  rw [show kS.ae (some (L,c))=[.flat false n 6 g] from by rw [hn,hg]; rfl,show kS.args (some (L,c))=[.slice (some ⟨0,0,none⟩) n c] from by rw [hn]; rfl]
  rw [← hn] at hlen;conv=>whnf
  by_cases J:66 < n
  ·rw [show decide ((n:Int) > 10)=true from decide_eq_true (by omega)]
   conv=>whnf
   rw [show decide ((n:Int) < 63)=false from decide_eq_false (by omega)]
   conv=>whnf
   rw [show decide ((n:Int) > 66)=true from decide_eq_true (by omega)]
   conv=>whnf
   exact fin true (LR (.inr (by omega)))
  by_cases h1:10 < n∧n < 63
  ·rw [show decide ((n:Int) > 10)=true from decide_eq_true (by omega)]
   conv=>whnf
   rw [show decide ((n:Int) < 63)=true from decide_eq_true (by omega)]
   conv=>whnf
   exact fin true (LR (.inl (by omega)))
  have ae9:=Uh (L:=L) (by omega)
  have fin:=fun (z:Bool) (h:uL 12 L=z)=>fin z (ae9.trans h)
  by_cases h3:10 < n
  ·rw [show decide ((n:Int) > 10)=true from decide_eq_true (by omega)]
   conv=>whnf
   rw [show decide ((n:Int) < 63)=false from decide_eq_false (by omega)]
   conv=>whnf
   rw [show decide ((n:Int) > 66)=false from decide_eq_false (by omega)]
   conv=>whnf
   refine .inl ⟨fun mm tz hz=>∃ (i:Nat),bA (some (.slice (some ⟨0,0,none⟩) n c)::aF 2 (some (.int .i64 i)::aF 24 [])) tz∧hz=[some (.flat false n 6 g)]∧n - i=mm∧(i≤n∧uB 12 L i),.inr ⟨[0],[0,3],?_⟩,?_⟩
   ·conv=>whnf
    intro _;conv=>whnf
    refine ⟨_,0,(.aa (.sk 2 (.aa (.sk 24 .nil rfl)) rfl)),rfl,rfl,?_⟩;exact ⟨Nat.zero_le _,Kq _ _⟩
   rintro mm aT _ ⟨i,aw,rfl,rfl,⟨hi,hU⟩⟩
   obtain ⟨az,rfl⟩:∃ az:Nat→Value,aT=.slice (some ⟨0,0,none⟩) n c::zs az 1 2 (.int .i64 i::zs az 4 24 []):=bI aw;clear aw;conv=>whnf
   refine aK (fun h3=>?_) (fun h3=>?_)
   ·have h3:i < n:=by
     have:=of_decide_eq_true h3;omega
    have e7:IntKind.i64.wrap ((i:Int)+1)=((i+1:Nat):Int):=by rw [ax (by omega) (by omega)]; rfl
    obtain ⟨m,lH,m7,aZ⟩:=rT (l:=L) (i:=i) (by omega)
    rw [← hg] at aZ;conv=>whnf
    refine ⟨⟨by omega,by omega⟩,?_⟩
    simp only [toNat_cast,ay,Nat.zero_add];conv=>whnf
    refine ⟨by show i < n; omega,?_⟩
    conv=>whnf
    rw [aZ];conv=>whnf
    refine ⟨m,rfl,trivial,?_⟩;by_cases h4:m.sz 12
    ·rw [show s5.val m=.bool false from congrArg Value.bool (decide_eq_false fun e=>e h4)]
     conv=>whnf
     rw [e7];refine .inr ⟨[0],[0,3],?_⟩;conv=>whnf
     intro _;conv=>whnf
     refine ⟨_,?_,i+1,(.aa (.sk 2 (.aa (.sk 24 .nil rfl)) rfl)),rfl,rfl,?_⟩
     ·omega
     ·exact ⟨by omega,KG hU lH h4⟩
    ·rw [show s5.val m=.bool true from congrArg Value.bool (decide_eq_true h4)]
     conv=>whnf
     exact fin true (EY m7 h4)
   ·have h3:i=n:=by
     have:=of_decide_eq_false h3;omega
    subst h3;conv=>whnf
    exact fin false (K3 (by rw [← hn]; exact hU))
  ·rw [show decide ((n:Int) > 10)=false from decide_eq_false (by omega)]
   conv=>whnf
   rw [show decide ((n:Int) > 66)=false from decide_eq_false (by omega)]
   conv=>whnf
   refine .inl ⟨fun mm tz hz=>∃ (i:Nat),bA (some (.slice (some ⟨0,0,none⟩) n c)::aF 2 (some (.int .i64 i)::aF 24 [])) tz∧hz=[some (.flat false n 6 g)]∧n - i=mm∧(i≤n∧uB 12 L i),.inr ⟨[0],[0,3],?_⟩,?_⟩
   ·conv=>whnf
    intro _;conv=>whnf
    refine ⟨_,0,(.aa (.sk 2 (.aa (.sk 24 .nil rfl)) rfl)),rfl,rfl,?_⟩;exact ⟨Nat.zero_le _,Kq _ _⟩
   rintro mm aT _ ⟨i,aw,rfl,rfl,⟨hi,hU⟩⟩
   obtain ⟨az,rfl⟩:∃ az:Nat→Value,aT=.slice (some ⟨0,0,none⟩) n c::zs az 1 2 (.int .i64 i::zs az 4 24 []):=bI aw;clear aw;conv=>whnf
   refine aK (fun h3=>?_) (fun h3=>?_)
   ·have h3:i < n:=by
     have:=of_decide_eq_true h3;omega
    have e7:IntKind.i64.wrap ((i:Int)+1)=((i+1:Nat):Int):=by rw [ax (by omega) (by omega)]; rfl
    obtain ⟨m,lH,m7,aZ⟩:=rT (l:=L) (i:=i) (by omega)
    rw [← hg] at aZ;conv=>whnf
    refine ⟨⟨by omega,by omega⟩,?_⟩
    simp only [toNat_cast,ay,Nat.zero_add];conv=>whnf
    refine ⟨by show i < n; omega,?_⟩
    conv=>whnf
    rw [aZ];conv=>whnf
    refine ⟨m,rfl,trivial,?_⟩;by_cases h4:m.sz 12
    ·rw [show s5.val m=.bool false from congrArg Value.bool (decide_eq_false fun e=>e h4)]
     conv=>whnf
     rw [e7];refine .inr ⟨[0],[0,3],?_⟩;conv=>whnf
     intro _;conv=>whnf
     refine ⟨_,?_,i+1,(.aa (.sk 2 (.aa (.sk 24 .nil rfl)) rfl)),rfl,rfl,?_⟩
     ·omega
     ·exact ⟨by omega,KG hU lH h4⟩
    ·rw [show s5.val m=.bool true from congrArg Value.bool (decide_eq_true h4)]
     conv=>whnf
     exact fin true (EY m7 h4)
   ·have h3:i=n:=by
     have:=of_decide_eq_false h3;omega
    subst h3;conv=>whnf
    exact fin false (K3 (by rw [← hn]; exact hU))
open Go Go.Ae
open Go Go.Ae
open Go Go.Ae
def Ea1:Env:=En [(55,.p qW)]
theorem ad2:EnvOk Tryz.prog Ea1:=bD ⟨O4,trivial⟩ trivial
theorem VG:cU Tryz.prog 54 im:=by
 refine dh ad2 aN Tryz.func54 (enters_of Tryz.func54 (by kernel_rfl) rfl) ?_ ?_ ?_
 ·intro i b hb; simp [im] at hb; rw [hb]; rfl
 ·intro i b hb; simp [im] at hb; rw [← hb]; rfl
 intro (L:II) hp;have hp:(0 < L.length∧L.length≤1000000)∧∀ x∈L,x.1.natAbs < 256∧x.2.natAbs < 256:=hp;obtain ⟨⟨h0,hlen⟩,RT⟩:=hp;obtain ⟨n,hn⟩:∃ n,n=L.length:=⟨_,rfl⟩;obtain ⟨m,hm⟩:∃ m,m=2*n:=⟨_,rfl⟩;obtain ⟨g,hg⟩:∃ g,g=nG L:=⟨_,rfl⟩;obtain ⟨K,hK⟩:∃ K,K=gJ im L:=⟨_,rfl⟩;rw [show im.ae L=[.flat false m 1 g] from by rw [hm,hn,hg]; rfl,show im.args L=[.slice (some ⟨0,0,none⟩) m m] from by rw [hm,hn]; rfl,← hK]
 rw [← hn] at hlen h0;conv=>whnf
 refine .inl ⟨fun mm tz hz=>∃ (j:Nat) (i:Nat) (O:List Q2) (q:Nat) (F:Nat→List Value),bA (some (.slice (some ⟨0,0,none⟩) m m)::aF 2 (some (eg 1 q)::some (.int .i64 i)::aF 21 [])) tz∧hz=[some (.flat false m 1 g)]++zU 6 F q∧n - j=mm∧((j≤n∧q=j∧i=2*j∧q=O.length)∧O=bt (L.take j)∧(∀ r,r < q→F r=bS O r)),.inr ⟨[0],[0,3,4],?_⟩,?_⟩
 ·conv=>whnf
  intro _;conv=>whnf
  refine ⟨_,0,0,[],0,fun _=>[],(.aa (.sk 2 (.aa (.aa (.sk 21 .nil rfl))) rfl)),rfl,rfl,?_⟩
  exact ⟨⟨Nat.zero_le _,rfl,rfl,rfl⟩,rfl,fun r hr=>absurd hr (Nat.not_lt_zero r)⟩
 rintro mm aT _ ⟨j,i,O,q,F,aw,rfl,rfl,⟨⟨hj,RU,hi,hq⟩,hO,hF⟩⟩
 obtain ⟨az,rfl⟩:∃ az:Nat→Value,aT=.slice (some ⟨0,0,none⟩) m m::zs az 1 2 (eg 1 q::.int .i64 i::zs az 5 21 []):=bI aw;clear aw;obtain ⟨k,hk⟩:∃ k,k=i+1:=⟨_,rfl⟩;have e1:IntKind.i64.wrap ((i:Int)+1)=(k:Int):=by rw [ax (by omega) (by omega),hk]; rfl
 have e2:IntKind.i64.wrap ((i:Int)+2)=((i+2:Nat):Int):=by rw [ax (by omega) (by omega)]; rfl
 cases q with
 | zero =>
  obtain rfl:O=[]:=List.eq_nil_of_length_eq_zero hq.symm;conv=>whnf
  rw [e1];refine aK (fun h1=>?_) (fun h1=>?_)
  ·have h1:j < n:=by
    have:=of_decide_eq_true h1;omega
   obtain ⟨x,hx⟩:∃ x,x=rG L j:=⟨_,rfl⟩;have gI:=Oj (l:=L) (j:=j) (by omega)
   rw [← hx] at gI;have ra:g i=[.int .i64 x.1]:=by rw [hg,hi]; exact Nt hx
   have rb:g k=[.int .i64 x.2]:=by rw [hk,hg,hi]; exact Nv hx
   have au:=Nw gI.2;rw [← hO] at au;have hs:=RT x gI.1;conv=>whnf
   refine .inl ⟨12,[[],[],[],[1,2],[1,2,3],[],[],[6],[5,6,7],[5,6,7,8],[1,2,3,4,5,6,7,8,9],[1,2,3,4,5,6,7,8,9,10],[0,1,2,3,4,5,6,7,8,9,10,11],[0,1,2,3,4,5,6,7,8,9,10,11,12]],by kernel_rfl,?_⟩
   conv=>whnf
   refine ⟨⟨by omega,by omega⟩,?_⟩
   simp only [toNat_cast,ay,Nat.zero_add];conv=>whnf
   refine ⟨by show i < m; omega,?_⟩
   conv=>whnf
   rw [ra];conv=>whnf
   rw [e1];refine ⟨⟨by omega,by omega⟩,?_⟩
   simp only [toNat_cast,ay,Nat.zero_add];conv=>whnf
   refine ⟨by show k < m; omega,?_⟩
   conv=>whnf
   rw [rb];conv=>whnf
   obtain ⟨u,cu,eu,pu,su,qu⟩:=xu (vi x.1 x.2 hs.1 hs.2);refine ⟨(x.1,x.2),rfl,⟨⟨by show -9223372036854775808≤x.1; omega,by show x.1 < 9223372036854775808; omega⟩,⟨by show -9223372036854775808≤x.2; omega,by show x.2 < 9223372036854775808; omega⟩⟩,?_⟩
   rw [show qW.val (x.1,x.2)=u.v from eu]
   conv=>whnf
   refine ⟨by show (0+1)*80≤140737488355328; decide,?_⟩
   conv=>whnf
   rw [e2];refine .inr ⟨[0,13],[0,3,4],?_⟩;conv=>whnf
   intro _;conv=>whnf
   refine ⟨_,?_,j+1,i+2,[iq x],1,_,(.aa (.sk 2 (.aa (.aa (.sk 21 .nil rfl))) rfl)),rfl,rfl,?_⟩
   ·omega
   ·exact ⟨⟨by omega,by omega,by omega,rfl⟩,by rw [au]; rfl,wX cu rfl⟩
  ·exfalso;have:=of_decide_eq_false h1;omega
 | succ q =>
  have e0:i≠0:=by omega
  conv=>whnf
  rw [e1];refine aK (fun h1=>?_) (fun h1=>?_)
  ·have h1:j < n:=by
    have:=of_decide_eq_true h1;omega
   obtain ⟨x,hx⟩:∃ x,x=rG L j:=⟨_,rfl⟩;have gI:=Oj (l:=L) (j:=j) (by omega)
   rw [← hx] at gI;have ra:g i=[.int .i64 x.1]:=by rw [hg,hi]; exact Nt hx
   have rb:g k=[.int .i64 x.2]:=by rw [hk,hg,hi]; exact Nv hx
   have au:=Nw gI.2;rw [← hO] at au;have hs:=RT x gI.1;conv=>whnf
   refine .inl ⟨12,[[],[],[],[1,2],[1,2,3],[],[],[6],[5,6,7],[5,6,7,8],[1,2,3,4,5,6,7,8,9],[1,2,3,4,5,6,7,8,9,10],[0,1,2,3,4,5,6,7,8,9,10,11],[0,1,2,3,4,5,6,7,8,9,10,11,12]],by kernel_rfl,?_⟩
   conv=>whnf
   refine ⟨⟨by omega,by omega⟩,?_⟩
   simp only [toNat_cast,ay,Nat.zero_add];conv=>whnf
   refine ⟨by show i < m; omega,?_⟩
   conv=>whnf
   rw [ra];conv=>whnf
   rw [e1];refine ⟨⟨by omega,by omega⟩,?_⟩
   simp only [toNat_cast,ay,Nat.zero_add];conv=>whnf
   refine ⟨by show k < m; omega,?_⟩
   conv=>whnf
   rw [rb];conv=>whnf
   obtain ⟨u,cu,eu,pu,su,qu⟩:=xu (vi x.1 x.2 hs.1 hs.2);refine ⟨(x.1,x.2),rfl,⟨⟨by show -9223372036854775808≤x.1; omega,by show x.1 < 9223372036854775808; omega⟩,⟨by show -9223372036854775808≤x.2; omega,by show x.2 < 9223372036854775808; omega⟩⟩,?_⟩
   rw [show qW.val (x.1,x.2)=u.v from eu]
   conv=>whnf
   refine ⟨⟨by show 1≤1; decide,rfl,by show (q+1+1)*80≤140737488355328; omega⟩,?_⟩
   conv=>whnf
   refine ⟨[0,4],?_⟩;conv=>whnf
   intro _;conv=>whnf
   rw [e2];refine .inr ⟨[0,1],[0,3,4],?_⟩;conv=>whnf
   intro _;conv=>whnf
   refine ⟨_,?_,j+1,i+2,O++[iq x],q+1+1,_,(.aa (.sk 2 (.aa (.aa (.sk 21 .nil rfl))) rfl)),rfl,rfl,?_⟩
   ·omega
   ·exact ⟨⟨by omega,by omega,by omega,by rw [List.length_append,← hq]; rfl⟩,au.symm,rX hq hF cu rfl⟩
  ·have h1:j=n:=by
    have:=of_decide_eq_false h1;omega
   subst h1;have hE:bt L=O:=by rw [hO,hn,List.take_length]
   have Ka:O.length=(bt L).length:=by rw [hE]
   conv=>whnf
   rw [hK];unfold gJ;rw [show im.new L=some (.flat true (q+1) 6 (bS O)) from by show some (aj.flat true L.length 6 (bS (bt L)))=_; rw [← hn,hE,← RU],show im.val L=.slice (some ⟨1,0,none⟩) (q+1) aM from by show Value.slice (some ⟨1,0,none⟩) L.length aM=_; rw [← hn,← RU]]
   refine ⟨1,?_⟩;conv=>whnf
   exact ⟨⟨rfl,aG.rU (fun h=>h) hF (fun r hr=>rfl)⟩,_,rfl,.refl _⟩
open Go Go.Ae
def Edz:Env:=tG [(33,.p mU)]
theorem ad3:EnvOk Tryz.prog Edz:=vo ⟨zj,trivial⟩ trivial
theorem Xf:cU Tryz.prog 18 kt:=by
 refine dh ad3 aN Tryz.func18 (enters_of Tryz.func18 (by kernel_rfl) rfl) ?_ ?_ ?_
 ·intro ⟨i,j⟩ b hb;cases i <;> cases j <;> simp [kt,PL.ae] at hb <;> (try rcases hb with rfl | rfl) <;> (try subst hb) <;> first | rfl | skip
 ·intro i b hb; simp [kt] at hb
 intro ⟨i,j⟩ hp;have hp:i.list.length≤1099511627776∧j.list.length≤1099511627776:=hp;obtain ⟨RW,Rc⟩:=hp;cases i with
 | none =>
  cases j with
  | none =>
   conv=>whnf
   refine .inr ⟨1,?_⟩;conv=>whnf
   exact ⟨.bool true,rfl,.refl _⟩
  | some j =>
   obtain ⟨m,c⟩:=j;obtain ⟨n,hn⟩:∃ n,n=m.length:=⟨_,rfl⟩;obtain ⟨g,hg⟩:∃ g,g=cB m:=⟨_,rfl⟩;have fin:∀ b:Bool,b=decide ([]=m)→∃ v',cM (List.range 1) 3 (kt.val (none,some (m,c)))=some v'∧eG (.bool b) v':=fun b h=>⟨.bool b,by rw [h]; rfl,.refl _⟩
   rw [show kt.ae (none,some (m,c))=[.flat false n 6 g] from by rw [hn,hg]; rfl,show kt.args (none,some (m,c))=[.slice none 0 0,.slice (some ⟨0,0,none⟩) n c] from by rw [hn]; rfl]
   by_cases h0:n=0
   ·have hm:m=[]:=List.length_eq_zero_iff.1 (hn.symm.trans h0);subst h0;conv=>whnf
    refine .inr ⟨1,?_⟩;conv=>whnf
    exact fin true (by rw [hm]; rfl)
   ·conv=>whnf
    rw [show (((0:Nat):Int) != ((n:Nat):Int))=true from by simp; omega]
    conv=>whnf
    exact fin false (by cases m with | nil=>exact absurd hn h0 | cons a m=>rfl)
 | some i =>
  obtain ⟨l,c⟩:=i;obtain ⟨k,hk⟩:∃ n,n=l.length:=⟨_,rfl⟩;obtain ⟨f,hf⟩:∃ g,g=cB l:=⟨_,rfl⟩;have RW:k≤1099511627776:=by rw [hk]; exact RW
  cases j with
  | none =>
   have fin:∀ b:Bool,b=decide (l=[])→∃ v',cM (List.range 1) 3 (kt.val (some (l,c),none))=some v'∧eG (.bool b) v':=fun b h=>⟨.bool b,by rw [h]; rfl,.refl _⟩
   rw [show kt.ae (some (l,c),none)=[.flat false k 6 f] from by rw [hk,hf]; rfl,show kt.args (some (l,c),none)=[.slice (some ⟨0,0,none⟩) k c,.slice none 0 0] from by rw [hk]; rfl]
   by_cases h0:k=0
   ·have hm:l=[]:=List.length_eq_zero_iff.1 (hk.symm.trans h0);subst h0;conv=>whnf
    refine .inr ⟨1,?_⟩;conv=>whnf
    exact fin true (by rw [hm]; rfl)
   ·conv=>whnf
    rw [show (((k:Nat):Int) != ((0:Nat):Int))=true from by simp; omega]
    conv=>whnf
    exact fin false (by cases l with | nil=>exact absurd hk h0 | cons a m=>rfl)
  | some j =>
   obtain ⟨m,d⟩:=j;obtain ⟨n,hn⟩:∃ n,n=m.length:=⟨_,rfl⟩;obtain ⟨g,hg⟩:∃ g,g=cB m:=⟨_,rfl⟩;have fin:∀ b:Bool,b=decide (l=m)→∃ v',cM (List.range 2) 3 (kt.val (some (l,c),some (m,d)))=some v'∧eG (.bool b) v':=fun b h=>⟨.bool b,by rw [h]; rfl,.refl _⟩
   rw [show kt.ae (some (l,c),some (m,d))=[.flat false k 6 f,.flat false n 6 g] from by rw [hk,hf,hn,hg]; rfl,show kt.args (some (l,c),some (m,d))=[.slice (some ⟨0,0,none⟩) k c,.slice (some ⟨1,0,none⟩) n d] from by rw [hk,hn]; rfl]
   by_cases h0:k=n
   ·obtain rfl:=h0;conv=>whnf
    rw [show ((k:Int) != (k:Int))=false from by simp]
    conv=>whnf
    refine .inl ⟨fun mm tz hz=>∃ (i:Nat),bA (some (.slice (some ⟨0,0,none⟩) k c)::some (.slice (some ⟨1,0,none⟩) k d)::aF 10 (some (.int .i64 k)::some (.int .i64 i)::aF 12 [])) tz∧hz=[some (.flat false k 6 f),some (.flat false k 6 g)]∧k - i=mm∧(i≤k∧vj l m i),.inr ⟨[0,1],[0,1,12,13],?_⟩,?_⟩
    ·conv=>whnf
     intro _;conv=>whnf
     refine ⟨_,0,(.aa (.aa (.sk 10 (.aa (.aa (.sk 12 .nil rfl))) rfl))),rfl,rfl,?_⟩;exact ⟨Nat.zero_le _,TY _ _⟩
    rintro mm aT _ ⟨i,aw,rfl,rfl,⟨hi,hN⟩⟩
    obtain ⟨az,rfl⟩:∃ az:Nat→Value,aT=.slice (some ⟨0,0,none⟩) k c::.slice (some ⟨1,0,none⟩) k d::zs az 2 10 (.int .i64 k::.int .i64 i::zs az 14 12 []):=bI aw;clear aw;conv=>whnf
    refine aK (fun h1=>?_) (fun h1=>?_)
    ·have h1:i < k:=by
      have:=of_decide_eq_true h1;omega
     obtain ⟨p,lE,_,aZ⟩:=rT (l:=l) (i:=i) (by omega)
     obtain ⟨q,Ka,_,PI⟩:=rT (l:=m) (i:=i) (by omega)
     rw [← hf] at aZ;rw [← hg] at PI;have e7:IntKind.i64.wrap ((i:Int)+1)=((i+1:Nat):Int):=by rw [ax (by omega) (by omega)]; rfl
     conv=>whnf
     refine .inl ⟨8,[[],[],[0,1],[0,1,2],[],[],[4,5],[4,5,6],[0,1,2,3,4,5,6,7]],by kernel_rfl,?_⟩
     conv=>whnf
     refine ⟨⟨by omega,by omega⟩,?_⟩
     simp only [toNat_cast,ay,Nat.zero_add];conv=>whnf
     refine ⟨by show i < k; omega,?_⟩
     conv=>whnf
     rw [aZ];conv=>whnf
     refine ⟨⟨by omega,by omega⟩,?_⟩
     simp only [toNat_cast,ay,Nat.zero_add];conv=>whnf
     refine ⟨by show i < k; omega,?_⟩
     conv=>whnf
     rw [PI];conv=>whnf
     rw [zV p q];by_cases J:p=q
     ·rw [decide_eq_true J];conv=>whnf
      rw [e7];refine .inr ⟨[0,1],[0,1,12,13],?_⟩;conv=>whnf
      intro _;conv=>whnf
      refine ⟨_,?_,i+1,(.aa (.aa (.sk 10 (.aa (.aa (.sk 12 .nil rfl))) rfl))),rfl,rfl,?_⟩
      ·omega
      ·exact ⟨by omega,Vd hN lE Ka J⟩
     ·rw [decide_eq_false J];conv=>whnf
      exact fin false (decide_eq_false (ac6 lE Ka J)).symm
    ·have h1:i=k:=by
      have:=of_decide_eq_false h1;omega
     subst h1;conv=>whnf
     exact fin true (decide_eq_true (Wm (by rw [← hk]; exact hN) (hk.symm.trans hn))).symm
   ·conv=>whnf
    rw [show ((k:Int) != (n:Int))=true from by simp; omega]
    conv=>whnf
    exact fin false (decide_eq_false (fun e=>h0 (by rw [hk,hn,e]))).symm
open Go Go.Ae
def Ea2:Env:=tG [(54,.q im),(16,.q fh),(44,.q fO),(21,.q mL),(55,.p qW),(30,.p GL),(33,.p mU),(38,.p gQ),(18,.q kt)]
theorem ad4:EnvOk Tryz.prog Ea2:=vo ⟨VG,NI,Ow,aaa,O4,Vw,zj,xl,Xf,trivial⟩ trivial
theorem UD:bh Tryz.prog 13 OP:=by
 refine bk ad4 aN Tryz.func13 (enters_of Tryz.func13 (by kernel_rfl) rfl) (fun _=>rfl) (fun _=>rfl) ?_
 intro _ hp;obtain ⟨cu,fm⟩:∃ cu,cu=aM:=⟨_,rfl⟩;obtain ⟨gS,v9⟩:∃ g,g=bS (bt dv):=⟨_,rfl⟩;obtain ⟨gT,Kb⟩:∃ g,g=bS (bt jF):=⟨_,rfl⟩;obtain ⟨gU,Kc⟩:∃ g,g=bS (bt j5):=⟨_,rfl⟩;obtain ⟨gM,A0⟩:∃ g,g=bS (bt jG):=⟨_,rfl⟩;have fS:PL.fit (some (bH (bt dv),cu)):=Hk (by decide) (by decide)
 have fT:PL.fit (some (bH (bt jF),cu)):=Hk (by decide) (by decide)
 have fU:PL.fit (some (bH (bt j5),cu)):=Hk (by decide) (by decide)
 conv=>whnf
 refine ⟨dv,[0],rfl,⟨by decide,by decide⟩,?_⟩
 rw [show im.ae dv=[.flat false 8 1 (nG dv)] from rfl,show im.val dv=.slice (some ⟨1,0,none⟩) 4 cu from by rw [fm]; rfl,show im.new dv=some (.flat true 4 6 gS) from by rw [v9]; rfl]
 conv=>whnf
 refine ⟨Ca dv _ rfl,?_⟩;conv=>whnf
 refine ⟨_,rfl,?_⟩;conv=>whnf
 refine ⟨jF,[2],rfl,⟨by decide,by decide⟩,?_⟩
 rw [show im.ae jF=[.flat false 6 1 (nG jF)] from rfl,show im.val jF=.slice (some ⟨1,0,none⟩) 3 cu from by rw [fm]; rfl,show im.new jF=some (.flat true 3 6 gT) from by rw [Kb]; rfl]
 conv=>whnf
 refine ⟨Ca jF _ rfl,?_⟩;conv=>whnf
 refine ⟨_,rfl,?_⟩;conv=>whnf
 refine ⟨(some (bH (bt dv),cu),some (bH (bt jF),cu)),[1,3],rfl,⟨⟨fS,fT⟩,HS (HT (by decide)) (HT (by decide))⟩,?_⟩
 rw [show fh.ae (some (bH (bt dv),cu),some (bH (bt jF),cu))=[.flat false 4 6 gS,.flat false 3 6 gT] from by rw [v9,Kb]; rfl,Nx.1,Nx.2,← A0,← fm]
 conv=>whnf
 refine ⟨aG.aR (fun h=>by cases h) (fun r hr=>by rw [v9]; rfl),aG.aR (fun h=>by cases h) (fun r hr=>by rw [Kb]; rfl),?_⟩
 conv=>whnf
 refine ⟨_,rfl,?_⟩;conv=>whnf
 refine ⟨j5,[5],rfl,⟨by decide,by decide⟩,?_⟩
 rw [show im.ae j5=[.flat false 6 1 (nG j5)] from rfl,show im.val j5=.slice (some ⟨1,0,none⟩) 3 cu from by rw [fm]; rfl,show im.new j5=some (.flat true 3 6 gU) from by rw [Kc]; rfl]
 conv=>whnf
 refine ⟨Ca j5 _ rfl,?_⟩;conv=>whnf
 refine ⟨_,rfl,?_⟩;conv=>whnf
 obtain ⟨sa,AX⟩:∃ u,u=cj (iq (4,0)):=⟨_,rfl⟩;obtain ⟨sb,Ex⟩:∃ u,u=cj (iq (4,4)):=⟨_,rfl⟩;refine ⟨(some (bH (bt dv),cu),some (bH (bt j5),cu)),[1,6],rfl,⟨fS,fU⟩,?_⟩;rw [show fO.ae (some (bH (bt dv),cu),some (bH (bt j5),cu))=[.flat false 4 6 gS,.flat false 3 6 gU] from by rw [v9,Kc]; rfl,Yc AX Ex,show fO.new (some (bH (bt dv),cu),some (bH (bt j5),cu))=none from rfl]
 conv=>whnf
 refine ⟨aG.aR (fun h=>by cases h) (fun r hr=>by rw [v9]; rfl),aG.aR (fun h=>by cases h) (fun r hr=>by rw [Kc]; rfl),?_⟩
 conv=>whnf
 refine ⟨_,rfl,?_⟩;conv=>whnf
 obtain ⟨p1,cp1,ep1,pp1,sp1,qp1⟩:=xu (vi (-2) (1) (by decide) (by decide))
 refine ⟨(((-2:Int),(1:Int)):Int × Int),rfl,⟨⟨by decide,by decide⟩,⟨by decide,by decide⟩⟩,?_⟩
 rw [show qW.val (((-2:Int),(1:Int)):Int × Int)=p1.v from ep1]
 conv=>whnf
 obtain ⟨p2,cp2,ep2,pp2,sp2,qp2⟩:=xu (vi (6) (1) (by decide) (by decide))
 refine ⟨(((6:Int),(1:Int)):Int × Int),rfl,⟨⟨by decide,by decide⟩,⟨by decide,by decide⟩⟩,?_⟩
 rw [show qW.val (((6:Int),(1:Int)):Int × Int)=p2.v from ep2]
 conv=>whnf
 obtain ⟨lo,tI,elo,plo,tK,AY⟩:=Hg (q:=1 / 4) (k:=1) ⟨gN (show _ < C ^ 1 by decide +kernel),gN (show _ < C ^ 1 by decide +kernel)⟩
 obtain ⟨hi,tJ,ehi,phi,v8,AZ⟩:=Hg (q:=3 / 4) (k:=1) ⟨gN (show _ < C ^ 1 by decide +kernel),gN (show _ < C ^ 1 by decide +kernel)⟩
 refine ⟨(some (bH (bt dv),cu),(p1,p2)),[1],rfl,⟨fS,PV.aY sp1 (by decide),PV.aY sp2 (by decide)⟩,?_⟩
 rw [show mL.ae (some (bH (bt dv),cu),(p1,p2))=[.flat false 4 6 gS] from by rw [v9]; rfl,Yd cp1 cp2 tI tJ,show mL.new (some (bH (bt dv),cu),(p1,p2))=none from rfl]
 conv=>whnf
 refine ⟨aG.aR (fun h=>by cases h) (fun r hr=>by rw [v9]; rfl),?_⟩
 conv=>whnf
 refine ⟨_,rfl,?_⟩;conv=>whnf
 refine ⟨(1,4),rfl,⟨by show vK 1; decide,by show vK 4; decide⟩,?_⟩
 rw [show GL.val (1,4)=.tuple ⟨[lo.v,.int .i64 0]⟩ from by show l9 1 4=_; unfold l9; rw [show Rat.divInt 1 4=1 / 4 by decide +kernel,tI]; rfl]
 conv=>whnf
 refine .inl ⟨36,[[],[0],[0,1],[0,1,2],[0,1,2,3],[0,1,2,3,4],[0,1,2,3,4,5],[0,1,2,3,4,5,6],[0,1,2,3,4,5,6,7],[0,1,2,3,4,5,6,7,8],[0,1,2,3,4,5,6,7,8,9],[0,1,2,3,4,5,6,7,8,9,10],[0,1,2,3,4,5,6,7,8,9,10],[0,1,2,3,4,5,6,7,8,9,10,12],[0,1,2,3,4,5,6,7,8,9,10,11,12,13],[0,1,2,3,4,5,6,7,8,9,10,11,12,13,14],[0,1,2,3,4,5,6,7,8,9,10,11,12,13,14,15],[0,1,2,3,4,5,6,7,8,9,10,11,12,13,14,15,16],[0,1,2,3,4,5,6,7,8,9,10,11,12,13,14,15,16],[0,1,2,3,4,5,6,7,8,9,10,11,12,13,14,15,16,18],[0,1,2,3,4,5,6,7,8,9,10,11,12,13,14,15,16,18,19],[0,1,2,3,4,5,6,7,8,9,10,11,12,13,14,15,16,17,18,19,20],[0,1,2,3,4,5,6,7,8,9,10,11,12,13,14,15,16,17,18,19,20,21],[0,1,2,3,4,5,6,7,8,9,10,11,12,13,14,15,16,17,18,19,20,21,22],[0,1,2,3,4,5,6,7,8,9,10,11,12,13,14,15,16,17,18,19,20,21,22,23],[0,1,2,3,4,5,6,7,8,9,10,11,12,13,14,15,16,17,18,19,20,21,22,23,24],[0,1,2,3,4,5,6,7,8,9,10,11,12,13,14,15,16,17,18,19,20,21,22,23,24,25],[0,1,2,3,4,5,6,7,8,9,10,11,12,13,14,15,16,17,18,19,20,21,22,23,24,25,26],[0,1,2,3,4,5,6,7,8,9,10,11,12,13,14,15,16,17,18,19,20,21,22,23,24,25,26],[0,1,2,3,4,5,6,7,8,9,10,11,12,13,14,15,16,17,18,19,20,21,22,23,24,25,26,27,28],[0,1,2,3,4,5,6,7,8,9,10,11,12,13,14,15,16,17,18,19,20,21,22,23,24,25,26,27,28,29],[0,1,2,3,4,5,6,7,8,9,10,11,12,13,14,15,16,17,18,19,20,21,22,23,24,25,26,27,28,29,30],[0,1,2,3,4,5,6,7,8,9,10,11,12,13,14,15,16,17,18,19,20,21,22,23,24,25,26,27,28,29,30,31],[0,1,2,3,4,5,6,7,8,9,10,11,12,13,14,15,16,17,18,19,20,21,22,23,24,25,26,27,28,29,30,31],[0,1,2,3,4,5,6,7,8,9,10,11,12,13,14,15,16,17,18,19,20,21,22,23,24,25,26,27,28,29,30,31],[0,1,2,3,4,5,6,7,8,9,10,11,12,13,14,15,16,17,18,19,20,21,22,23,24,25,26,27,28,29,30,31,33,34],[0,1,2,3,4,5,6,7,8,9,10,11,12,13,14,15,16,17,18,19,20,21,22,23,24,25,26,27,28,29,30,31,32,33,34,35],[0,1,2,3,4,5,6,7,8,9,10,11,12,13,14,15,16,17,18,19,20,21,22,23,24,25,26,27,28,29,30,31,32,33,34,35,36],[0,1,2,3,4,5,6,7,8,9,10,11,12,13,14,15,16,17,18,19,20,21,22,23,24,25,26,27,28,29,30,31,32,33,34,35,36,37]],by kernel_rfl,?_⟩
 conv=>whnf
 refine ⟨jG,[23],rfl,⟨by decide,by decide⟩,?_⟩
 rw [show im.ae jG=[.flat false 8 1 (nG jG)] from rfl,show im.val jG=.slice (some ⟨1,0,none⟩) 4 cu from by rw [fm]; rfl,show im.new jG=some (.flat true 4 6 gM) from by rw [A0]; rfl]
 conv=>whnf
 refine ⟨Ca jG _ rfl,?_⟩;conv=>whnf
 refine ⟨_,rfl,?_⟩;conv=>whnf
 refine ⟨(some (bH (bt jG),cu),some (bH (bt jG),cu)),[4,24],rfl,⟨by show 4≤1099511627776; decide,by show 4≤1099511627776; decide⟩,?_⟩
 rw [show kt.ae (some (bH (bt jG),cu),some (bH (bt jG),cu))=[.flat false 4 6 gM,.flat false 4 6 gM] from by rw [A0]; rfl,show kt.val (some (bH (bt jG),cu),some (bH (bt jG),cu))=.bool true from congrArg Value.bool (decide_eq_true rfl),show kt.new (some (bH (bt jG),cu),some (bH (bt jG),cu))=none from rfl]
 conv=>whnf
 refine ⟨aG.aR (fun h=>by cases h) (fun r hr=>by rw [A0]; rfl),aG.aR (fun h=>by cases h) (fun r hr=>by rw [A0]; rfl),?_⟩
 conv=>whnf
 refine ⟨.bool true,rfl,?_⟩;conv=>whnf
 obtain ⟨q1,cq1,eq1,pq1,sq1,qq1⟩:=xu (vi (4) (0) (by decide) (by decide))
 refine ⟨(((4:Int),(0:Int)):Int × Int),rfl,⟨⟨by decide,by decide⟩,⟨by decide,by decide⟩⟩,?_⟩
 rw [show qW.val (((4:Int),(0:Int)):Int × Int)=q1.v from eq1]
 conv=>whnf
 obtain ⟨q2,cq2,eq2,pq2,sq2,qq2⟩:=xu (vi (4) (4) (by decide) (by decide))
 refine ⟨(((4:Int),(4:Int)):Int × Int),rfl,⟨⟨by decide,by decide⟩,⟨by decide,by decide⟩⟩,?_⟩
 rw [show qW.val (((4:Int),(4:Int)):Int × Int)=q2.v from eq2]
 conv=>whnf
 obtain rfl:sa=q1:=AX.trans cq1.symm;obtain rfl:sb=q2:=Ex.trans cq2.symm;rw [eqX (sa,sb)];conv=>whnf
 rw [Rm lo];conv=>whnf
 obtain ⟨o,co,eo,po,so,qo⟩:=Hg (q:=((1:Int):Rat)) (QB.of_int (n:=1) (k:=1) (gN (show Int.natAbs 1 < C ^ 1 by decide)) (by decide))
 refine ⟨(1:Int),rfl,⟨by decide,by decide⟩,?_⟩
 rw [show mU.val (1:Int)=o.v from eo]
 conv=>whnf
 refine ⟨(o,lo),rfl,⟨RV.bZ so (by decide),RV.bZ tK (by decide)⟩,?_⟩
 rw [show gQ.val (o,lo)=hi.v from by show (RV.of (o.q - lo.q)).v=_; rw [po,plo,show ((1:Int):Rat) - 1 / 4=3 / 4 by decide +kernel,tJ]]
 conv=>whnf
 show Value.bool (eU _ _)=Value.bool true
 exact congrArg Value.bool (Rm hi)
open Go Go.Ae
def Ee1:Env:=En [(53,.q kS),(24,.q aV)]
theorem ad5:EnvOk Tryz.prog Ee1:=bD ⟨UC,UB,trivial⟩ trivial
theorem Xg:cU Tryz.prog 78 fi:=by
 refine dh ad5 aN Tryz.func78 (enters_of Tryz.func78 (by kernel_rfl) rfl) ?_ ?_ ?_
 ·intro i b hb;cases i <;> simp [fi,PL.ae] at hb
  rw [hb]; rfl
 ·intro i b hb; simp [fi] at hb
 intro i hp;have hp:i.list.length≤9223372036854775807:=hp;have fin:∀ (z:Bool) n,z=kz i.list→∃ v',cM (List.range n) 3 (fi.val i)=some v'∧eG (.bool z) v':=fun z n h=>⟨.bool z,by rw [h]; rfl,.refl _⟩
 cases i with
 | none =>
  conv=>whnf
  refine ⟨none,[],rfl,hp,?_⟩;rw [show kS.ae none=[] from rfl,show kS.val none=.bool false from rfl,show kS.new none=none from rfl]
  conv=>whnf
  refine ⟨_,rfl,?_⟩;conv=>whnf
  refine ⟨none,[],rfl,⟨Nat.zero_le _,fun v hv=>nomatch hv⟩,?_⟩
  rw [show aV.ae none=[] from rfl,show aV.val none=.int .i64 4 from rfl,show aV.new none=none from rfl]
  conv=>whnf
  refine ⟨_,rfl,?_⟩;conv=>whnf
  exact fin true _ rfl
 | some i =>
  obtain ⟨A,c⟩:=i;have hp:A.length≤9223372036854775807:=hp;have fin:=fun z=>fin z 1
  have fin:∀ z:Bool,z=kz A→∃ v',cM (List.range 1) 3 (fi.val (some (A,c)))=some v'∧eG (.bool z) v':=fin;obtain ⟨n,hn⟩:∃ n,n=A.length:=⟨_,rfl⟩;obtain ⟨g,hg⟩:∃ g,g=cB A:=⟨_,rfl⟩;obtain ⟨G,hG⟩:∃ G,G=nv A:=⟨_,rfl⟩;rw [show fi.ae (some (A,c))=[.flat false n 6 g] from by rw [hn,hg]; rfl,show fi.args (some (A,c))=[.slice (some ⟨0,0,none⟩) n c] from by rw [hn]; rfl]
  conv=>whnf
  refine ⟨some (A,c),[0],by rw [show kS.args (some (A,c))=[.slice (some ⟨0,0,none⟩) n c] from by rw [hn]; rfl]; rfl,hp,?_⟩
  rw [show kS.ae (some (A,c))=[.flat false n 6 g] from by rw [hn,hg]; rfl,show kS.val (some (A,c))=.bool G from by rw [hG]; rfl,show kS.new (some (A,c))=none from rfl]
  conv=>whnf
  refine ⟨aG.aR (fun h=>h) (fun r hr=>by rw [hg]; rfl),?_⟩
  conv=>whnf
  refine ⟨_,rfl,?_⟩;conv=>whnf
  cases G with
  | true =>
   conv=>whnf
   exact fin true (Ye hG.symm).symm
  | false =>
   have hs:=MK hG.symm;conv=>whnf
   by_cases J:10 < n
   ·rw [show decide ((n:Int) > 10)=true from decide_eq_true (by omega)]
    conv=>whnf
    exact fin true (WT (by omega)).symm
   ·rw [show decide ((n:Int) > 10)=false from decide_eq_false (by omega)]
    conv=>whnf
    obtain ⟨e,he⟩:∃ z,z=bg A:=⟨_,rfl⟩;refine ⟨some (A,c),[0],by rw [show aV.args (some (A,c))=[.slice (some ⟨0,0,none⟩) n c] from by rw [hn]; rfl]; rfl,⟨by show A.length≤_; omega,DF hs.2⟩,?_⟩
    rw [show aV.ae (some (A,c))=[.flat false n 6 g] from by rw [hn,hg]; rfl,show aV.val (some (A,c))=.int .i64 e from by rw [he]; rfl,show aV.new (some (A,c))=none from rfl]
    conv=>whnf
    refine ⟨aG.aR (fun h=>h) (fun r hr=>by rw [hg]; rfl),?_⟩
    conv=>whnf
    refine ⟨_,rfl,?_⟩;conv=>whnf
    by_cases h3:e=0
    ·rw [show (e != 0)=false from by simp [h3]]
     exact fin false (Yf hG.symm (by omega) (by rw [← he]; exact h3)).symm
    ·rw [show (e != 0)=true from by simp [h3]]
     exact fin true (WU (by rw [← he]; exact h3)).symm
def Ee3:Env:=En [(19,.q kR)]
theorem ad6:EnvOk Tryz.prog Ee3:=bD ⟨VC,trivial⟩ trivial
theorem Td:cU Tryz.prog 27 kX:=by
 refine dh ad6 aN Tryz.func27 (enters_of Tryz.func27 (by kernel_rfl) rfl) ?_ ?_ ?_
 ·intro ⟨i,_⟩ b hb;cases i <;> simp [kX,PL.ae] at hb
  rw [hb]; rfl
 ·intro i b hb; simp [kX] at hb
 intro ⟨i,p⟩ hp;have hp:i.fit∧p.sz 2048:=hp;obtain ⟨⟨a,e⟩,ha⟩:∃ x,x=qY i.list p:=⟨_,rfl⟩;have fin:∀ (z:Int) n,z=mf i.list p→∃ v',cM (List.range n) 3 (kX.val (i,p))=some v'∧eG (.int .i64 z) v':=fun z n h=>⟨.int .i64 z,by rw [h]; rfl,.refl _⟩
 have h5:e≠0→(5:Int)=mf i.list p:=fun h=>by unfold mf; rw [← ha]; exact (if_pos h).symm
 have h0:e=0→a=mf i.list p:=fun h=>by unfold mf; rw [← ha]; exact (if_neg (fun e=>e h)).symm
 have hv:kR.val (i,p)=.tuple ⟨[.int .i64 a,.int .i64 e]⟩:=by show ZE.v (qY i.list p)=_; rw [← ha]; rfl
 cases i with
 | none =>
  conv=>whnf
  refine ⟨(none,p),[],rfl,hp,?_⟩;rw [show kR.ae (none,p)=[] from rfl,hv,show kR.new (none,p)=none from rfl]
  conv=>whnf
  refine ⟨_,rfl,?_⟩;conv=>whnf
  by_cases h1:e=0
  ·rw [show (e != 0)=false from by simp [h1]]
   conv=>whnf
   exact fin a _ (h0 h1)
  ·rw [show (e != 0)=true from by simp [h1]]
   conv=>whnf
   exact fin 5 _ (h5 h1)
 | some i =>
  obtain ⟨A,c⟩:=i;obtain ⟨n,hn⟩:∃ n,n=A.length:=⟨_,rfl⟩;obtain ⟨g,hg⟩:∃ g,g=cB A:=⟨_,rfl⟩;rw [show kX.ae (some (A,c),p)=[.flat false n 6 g] from by rw [hn,hg]; rfl,show kX.args (some (A,c),p)=[.slice (some ⟨0,0,none⟩) n c,p.v] from by rw [hn]; rfl]
  conv=>whnf
  refine ⟨(some (A,c),p),[0],by rw [show kR.args (some (A,c),p)=[.slice (some ⟨0,0,none⟩) n c,p.v] from by rw [hn]; rfl]; rfl,hp,?_⟩
  rw [show kR.ae (some (A,c),p)=[.flat false n 6 g] from by rw [hn,hg]; rfl,hv,show kR.new (some (A,c),p)=none from rfl]
  conv=>whnf
  refine ⟨aG.aR (fun h=>h) (fun r hr=>by rw [hg]; rfl),?_⟩
  conv=>whnf
  refine ⟨_,rfl,?_⟩;conv=>whnf
  by_cases h1:e=0
  ·rw [show (e != 0)=false from by simp [h1]]
   conv=>whnf
   exact fin a _ (h0 h1)
  ·rw [show (e != 0)=true from by simp [h1]]
   conv=>whnf
   exact fin 5 _ (h5 h1)
open Go Go.Ae
def Kd:Env:=En [(78,.q fi)]
theorem ad7:EnvOk Tryz.prog Kd:=bD ⟨Xg,trivial⟩ trivial
theorem VH:fM Tryz.prog 107 (ck Kd cI Tryz.f107):=by
 exact jc ad7 aN Tryz.func107 (enters_of Tryz.func107 (by kernel_rfl) rfl)
def Ke:Env:=En [] [(107,ck Kd cI Tryz.f107)]
theorem ad8:EnvOk Tryz.prog Ke:=bD trivial ⟨VH,trivial⟩
theorem SD:fM Tryz.prog 52 (ck Ke cI Tryz.f52):=by
 exact jc ad8 aN Tryz.func52 (enters_of Tryz.func52 (by kernel_rfl) rfl)
def Kf:Env:=En [] [(52,ck Ke cI Tryz.f52)]
theorem ad9:EnvOk Tryz.prog Kf:=bD trivial ⟨SD,trivial⟩
theorem aab:fM Tryz.prog 25 (ck Kf cI Tryz.f25):=by
 exact jc ad9 aN Tryz.func25 (enters_of Tryz.func25 (by kernel_rfl) rfl)
end Go.Proofs.YtlapbjdhekcipaaGreat
