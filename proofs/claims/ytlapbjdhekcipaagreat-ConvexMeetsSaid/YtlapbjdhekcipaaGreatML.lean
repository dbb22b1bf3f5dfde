import Derived.Test.YtlapbjdhekcipaaGreatRows
import Derived.Test.YtlapbjdhekcipaaGreatMK
set_option linter.unusedVariables false
set_option linter.unusedSimpArgs false
set_option maxRecDepth 20000
set_option maxHeartbeats 4000000
namespace Go.Proofs.YtlapbjdhekcipaaGreat
open Go Go.Ae
def Eg8:Env:=th [(13,.p Ok),(26,.p Di),(27,.q aL),(16,.q bJ),(23,.q aX),(18,.q cm)] [(25,cl JU cK Tryz.f25)]
theorem adp:EnvOk Tryz.prog Eg8:=vf ⟨TW,TX,St,Ng,yC,Nh,trivial⟩ ⟨Zt,trivial⟩
theorem abH:dk Tryz.prog 6 qL:=by
 refine eI adp aP Tryz.func6 (enters_of Tryz.func6 (by kernel_rfl) rfl) ?_ ?_ ?_
 ·intro ⟨⟨i,k⟩,_⟩ B hb;cases i <;> cases k <;> simp [qL,PL.ae] at hb
  ·rw [hb]; rfl
  ·rw [hb]; rfl
  ·rcases hb with rfl | rfl <;> rfl
 ·intro i b hb; simp [qL] at hb
 intro ⟨⟨i,k⟩,p⟩ hp;have hp:i.list.length*80≤140737488351232∧k.list.length*80≤140737488351232:=hp;obtain ⟨tb,dS⟩:=hp;have fin:∀ n,∃ v',cR (List.range n) 3 (qL.val ((i,k),p))=some v'∧fe (.bool true) v':=fun n=>⟨.bool true,rfl,.refl _⟩
 cases i with
 | none =>
  cases k with
  | none =>
   conv=>whnf
   refine .inr ⟨3,?_⟩;conv=>whnf
   refine ⟨⟨by decide,by decide⟩,?_⟩
   conv=>whnf
   refine ⟨none,[],rfl,by show 0≤9223372036854775807; decide,?_⟩
   rw [show fg.ae none=[] from rfl,show fg.val none=.bool true from rfl,show fg.new none=none from rfl]
   conv=>whnf
   refine ⟨_,rfl,?_⟩;conv=>whnf
   conv=>whnf
   refine ⟨(),rfl,trivial,?_⟩;conv=>whnf
   exact fin _
  | some k =>
   obtain ⟨B,d⟩:=k;conv=>whnf
   refine .inr ⟨3,?_⟩;conv=>whnf
   refine ⟨⟨by decide,by decide⟩,?_⟩
   conv=>whnf
   refine ⟨none,[],rfl,by show 0≤9223372036854775807; decide,?_⟩
   rw [show fg.ae none=[] from rfl,show fg.val none=.bool true from rfl,show fg.new none=none from rfl]
   conv=>whnf
   refine ⟨_,rfl,?_⟩;conv=>whnf
   conv=>whnf
   refine ⟨(),rfl,trivial,?_⟩;conv=>whnf
   exact fin _
 | some i =>
  obtain ⟨A,c⟩:=i;have tb:A.length*80≤140737488351232:=tb;obtain ⟨na,bt⟩:∃ n,n=A.length:=⟨_,rfl⟩;obtain ⟨ga,bC⟩:∃ g,g=di A:=⟨_,rfl⟩;cases k with
  | none =>
   rw [show qL.ae ((some (A,c),none),p)=[.flat false na 6 ga] from by rw [bt,bC]; rfl,show qL.args ((some (A,c),none),p)=[.slice (some ⟨0,0,none⟩) na c,.slice none 0 0,p.v] from by rw [bt]; rfl]
   conv=>whnf
   refine .inr ⟨3,?_⟩;conv=>whnf
   refine ⟨⟨by decide,by decide⟩,?_⟩
   conv=>whnf
   obtain ⟨G,hG⟩:∃ G,G=j6 A:=⟨_,rfl⟩;refine ⟨some (A,c),[0],by rw [show fg.args (some (A,c))=[.slice (some ⟨0,0,none⟩) na c] from by rw [bt]; rfl]; rfl,by show List.length (A:List PV)≤9223372036854775807; omega,?_⟩
   rw [show fg.ae (some (A,c))=[.flat false na 6 ga] from by rw [bt,bC]; rfl,show fg.val (some (A,c))=.bool G from by rw [hG]; rfl,show fg.new (some (A,c))=none from rfl]
   conv=>whnf
   refine ⟨ar.aE (fun h=>h) (fun r hr=>by rw [bC]; rfl),?_⟩
   conv=>whnf
   refine ⟨_,rfl,?_⟩;conv=>whnf
   cases G with
   | true =>
    conv=>whnf
    conv=>whnf
    refine ⟨(),rfl,trivial,?_⟩;conv=>whnf
    exact fin _
   | false =>
    conv=>whnf
    refine ⟨⟨by decide,by decide⟩,?_⟩
    conv=>whnf
    refine ⟨none,[],rfl,by show 0≤9223372036854775807; decide,?_⟩
    rw [show fg.ae none=[] from rfl,show fg.val none=.bool true from rfl,show fg.new none=none from rfl]
    conv=>whnf
    refine ⟨_,rfl,?_⟩;conv=>whnf
    conv=>whnf
    refine ⟨(),rfl,trivial,?_⟩;conv=>whnf
    exact fin _
  | some k =>
   obtain ⟨B,d⟩:=k;have dS:B.length*80≤140737488351232:=dS;obtain ⟨nb,bX⟩:∃ n,n=B.length:=⟨_,rfl⟩;obtain ⟨gb,cU⟩:∃ g,g=di B:=⟨_,rfl⟩;rw [show qL.ae ((some (A,c),some (B,d)),p)=[.flat false na 6 ga,.flat false nb 6 gb] from by rw [bt,bC,bX,cU]; rfl,show qL.args ((some (A,c),some (B,d)),p)=[.slice (some ⟨0,0,none⟩) na c,.slice (some ⟨1,0,none⟩) nb d,p.v] from by rw [bt,bX]; rfl]
   conv=>whnf
   refine .inr ⟨3,?_⟩;conv=>whnf
   refine ⟨⟨by decide,by decide⟩,?_⟩
   conv=>whnf
   obtain ⟨G,hG⟩:∃ G,G=j6 A:=⟨_,rfl⟩;refine ⟨some (A,c),[0],by rw [show fg.args (some (A,c))=[.slice (some ⟨0,0,none⟩) na c] from by rw [bt]; rfl]; rfl,by show List.length (A:List PV)≤9223372036854775807; omega,?_⟩
   rw [show fg.ae (some (A,c))=[.flat false na 6 ga] from by rw [bt,bC]; rfl,show fg.val (some (A,c))=.bool G from by rw [hG]; rfl,show fg.new (some (A,c))=none from rfl]
   conv=>whnf
   refine ⟨ar.aE (fun h=>h) (fun r hr=>by rw [bC]; rfl),?_⟩
   conv=>whnf
   refine ⟨_,rfl,?_⟩;conv=>whnf
   cases G with
   | true =>
    conv=>whnf
    conv=>whnf
    refine ⟨(),rfl,trivial,?_⟩;conv=>whnf
    exact fin _
   | false =>
    obtain ⟨l10,xY,kA⟩:=NU hG.symm;conv=>whnf
    refine ⟨⟨by decide,by decide⟩,?_⟩
    conv=>whnf
    obtain ⟨H,hH⟩:∃ G,G=j6 B:=⟨_,rfl⟩;refine ⟨some (B,d),[1],by rw [show fg.args (some (B,d))=[.slice (some ⟨0,0,none⟩) nb d] from by rw [bX]; rfl]; rfl,by show List.length (B:List PV)≤9223372036854775807; omega,?_⟩
    rw [show fg.ae (some (B,d))=[.flat false nb 6 gb] from by rw [bX,cU]; rfl,show fg.val (some (B,d))=.bool H from by rw [hH]; rfl,show fg.new (some (B,d))=none from rfl]
    conv=>whnf
    refine ⟨ar.aE (fun h=>h) (fun r hr=>by rw [cU]; rfl),?_⟩
    conv=>whnf
    refine ⟨_,rfl,?_⟩;conv=>whnf
    cases H with
    | true =>
     conv=>whnf
     conv=>whnf
     refine ⟨(),rfl,trivial,?_⟩;conv=>whnf
     exact fin _
    | false =>
     obtain ⟨m10,xZ,kB⟩:=NU hH.symm;conv=>whnf
     obtain ⟨x,hx⟩:∃ x,x=decide (PV.sz 12 p∧p.canon):=⟨_,rfl⟩;refine ⟨p,rfl,trivial,?_⟩;rw [show Di.val p=.bool x from by rw [hx]; rfl]
     conv=>whnf
     cases x with
     | false =>
      conv=>whnf
      conv=>whnf
      refine ⟨(),rfl,trivial,?_⟩;conv=>whnf
      exact fin _
     | true =>
      obtain ⟨sp,cp⟩:=of_decide_eq_true hx.symm;obtain ⟨cu,dp⟩:∃ cu,cu=aO:=⟨_,rfl⟩;obtain ⟨R,hR⟩:∃ R,R=gK (aV A) (aV B):=⟨_,rfl⟩;obtain ⟨m,hm⟩:∃ m,m=R.length:=⟨_,rfl⟩;obtain ⟨v1,v2,aeD,cS⟩:=XC kA kB l10 m10 xY xZ hR;obtain ⟨x,mw⟩:∃ x,x=c8 (aV A) p.p:=⟨_,rfl⟩;obtain ⟨y,my⟩:∃ x,x=c8 (aV B) p.p:=⟨_,rfl⟩;have ix:nW A p=x:=by rw [GD kA cp,mw]
      have iy:nW B p=y:=by rw [GD kB cp,my]
      have fA:PL.fit (some (A,c)):=⟨by show A.length≤_; omega,Dh xY⟩
      have fB:PL.fit (some (B,d)):=⟨by show B.length≤_; omega,Dh xZ⟩
      conv=>whnf
      cases m with
      | zero =>
       obtain rfl:R=[]:=List.eq_nil_of_length_eq_zero hm.symm;have ob:¬ (x=1∧y=1):=by
        rcases cS with h | h
        ·rw [mw,my]; exact h.2 p.p
        ·exact absurd h.2.2.2.2.2.2 (by decide)
       rw [show nc []=([],11) from rfl] at v1 v2
       have e1:=zn (i:=some (A,c)) (k:=some (B,d)) v1.symm;have e2:=zn (i:=some (B,d)) (k:=some (A,c)) v2.symm;refine ⟨(some (A,c),some (B,d)),[0,1],by rw [show bJ.args (some (A,c),some (B,d))=[.slice (some ⟨0,0,none⟩) na c,.slice (some ⟨1,0,none⟩) nb d] from by rw [bt,bX]; rfl]; rfl,⟨⟨fA,fB⟩,zm xY xZ⟩,?_⟩
       rw [show bJ.ae (some (A,c),some (B,d))=[.flat false na 6 ga,.flat false nb 6 gb] from by rw [bt,bC,bX,cU]; rfl,show bJ.val (some (A,c),some (B,d))=.tuple ⟨[.slice none 0 0,.int .i64 11]⟩ from e1.1,show bJ.new (some (A,c),some (B,d))=none from e1.2.1]
       conv=>whnf
       refine ⟨ar.aE (fun h=>h) (fun r hr=>by rw [bC]; rfl),ar.aE (fun h=>h) (fun r hr=>by rw [cU]; rfl),?_⟩
       conv=>whnf
       refine ⟨_,rfl,?_⟩;conv=>whnf
       refine ⟨(some (B,d),some (A,c)),[1,0],by rw [show bJ.args (some (B,d),some (A,c))=[.slice (some ⟨0,0,none⟩) nb d,.slice (some ⟨1,0,none⟩) na c] from by rw [bX,bt]; rfl]; rfl,⟨⟨fB,fA⟩,zm xZ xY⟩,?_⟩
       rw [show bJ.ae (some (B,d),some (A,c))=[.flat false nb 6 gb,.flat false na 6 ga] from by rw [bX,cU,bt,bC]; rfl,show bJ.val (some (B,d),some (A,c))=.tuple ⟨[.slice none 0 0,.int .i64 11]⟩ from e2.1,show bJ.new (some (B,d),some (A,c))=none from e2.2.1]
       conv=>whnf
       refine ⟨ar.aE (fun h=>h) (fun r hr=>by rw [cU]; rfl),ar.aE (fun h=>h) (fun r hr=>by rw [bC]; rfl),?_⟩
       conv=>whnf
       refine ⟨_,rfl,?_⟩;conv=>whnf
       refine ⟨((none:PL),(none:PL)),[],rfl,⟨Nat.zero_le _,Nat.zero_le _⟩,?_⟩;rw [show cm.ae ((none:PL),(none:PL))=[] from rfl]
       conv=>whnf
       refine ⟨.bool true,rfl,?_⟩;conv=>whnf
       refine ⟨(some (A,c),p),[0],by rw [show aL.args (some (A,c),p)=[.slice (some ⟨0,0,none⟩) na c,p.v] from by rw [bt]; rfl]; rfl,⟨fA,PV.aQ sp (by decide)⟩,?_⟩
       rw [show aL.ae (some (A,c),p)=[.flat false na 6 ga] from by rw [bt,bC]; rfl,show aL.val (some (A,c),p)=.int .i64 x from congrArg (Value.int .i64) ix,show aL.new (some (A,c),p)=none from rfl]
       conv=>whnf
       refine ⟨ar.aE (fun h=>h) (fun r hr=>by rw [bC]; rfl),?_⟩
       conv=>whnf
       refine ⟨_,rfl,?_⟩;conv=>whnf
       by_cases h1:x=1
       ·rw [show (x == 1)=true from by simp [h1]]
        conv=>whnf
        refine ⟨(some (B,d),p),[1],by rw [show aL.args (some (B,d),p)=[.slice (some ⟨0,0,none⟩) nb d,p.v] from by rw [bX]; rfl]; rfl,⟨fB,PV.aQ sp (by decide)⟩,?_⟩
        rw [show aL.ae (some (B,d),p)=[.flat false nb 6 gb] from by rw [bX,cU]; rfl,show aL.val (some (B,d),p)=.int .i64 y from congrArg (Value.int .i64) iy,show aL.new (some (B,d),p)=none from rfl]
        conv=>whnf
        refine ⟨ar.aE (fun h=>h) (fun r hr=>by rw [cU]; rfl),?_⟩
        conv=>whnf
        refine ⟨_,rfl,?_⟩;conv=>whnf
        rw [show (y == 1)=false from by simpa using fun e=>ob ⟨h1,e⟩]
        conv=>whnf
        refine ⟨(),rfl,trivial,?_⟩;conv=>whnf
        exact fin _
       ·rw [show (x == 1)=false from by simp [h1]]
        conv=>whnf
        refine ⟨(),rfl,trivial,?_⟩;conv=>whnf
        exact fin _
      | succ m =>
       obtain ⟨hk,dH,h1s,szR,vN,vR,_⟩:=cS.resolve_left (fun h=>by rw [h.1] at hm; cases hm)
       rw [G4 (by omega) (by omega)] at v1 v2 vR
       have e1:=zn (i:=some (A,c)) (k:=some (B,d)) v1.symm;have e2:=zn (i:=some (B,d)) (k:=some (A,c)) v2.symm;have e3:=zn (i:=some (ai R,cu)) (k:=some (A,c)) vR.symm;obtain ⟨E,hE⟩:∃ F,F=bP R:=⟨_,rfl⟩;have hl:(ai R).length=m+1:=by rw [Bd,← hm]
       have fR:PL.fit (some (ai R,cu)):=⟨by show (ai R).length≤_; omega,szR⟩
       obtain ⟨z,hz⟩:∃ x,x=c8 R p.p:=⟨_,rfl⟩;have iz:nW (ai R) p=z:=by rw [GD hk cp,nF,hz]
       have z1:z=1↔x=1∧y=1:=by rw [hz,mw,my]; exact h1s p.p
       have z0:0≤z↔0≤x∧0≤y:=by rw [hz,mw,my]; exact dH p.p
       refine ⟨(some (A,c),some (B,d)),[0,1],by rw [show bJ.args (some (A,c),some (B,d))=[.slice (some ⟨0,0,none⟩) na c,.slice (some ⟨1,0,none⟩) nb d] from by rw [bt,bX]; rfl]; rfl,⟨⟨fA,fB⟩,zm xY xZ⟩,?_⟩
       rw [show bJ.ae (some (A,c),some (B,d))=[.flat false na 6 ga,.flat false nb 6 gb] from by rw [bt,bC,bX,cU]; rfl,show bJ.val (some (A,c),some (B,d))=.tuple ⟨[.slice (some ⟨2,0,none⟩) (m+1) cu,.int .i64 0]⟩ from by rw [dp,e1.1,← hm]; rfl,show bJ.new (some (A,c),some (B,d))=some (.flat true (m+1) 6 E) from by rw [e1.2.1]; unfold cg; rw [← hm,hE]]
       conv=>whnf
       refine ⟨ar.aE (fun h=>h) (fun r hr=>by rw [bC]; rfl),ar.aE (fun h=>h) (fun r hr=>by rw [cU]; rfl),?_⟩
       conv=>whnf
       refine ⟨_,rfl,?_⟩;conv=>whnf
       refine ⟨(some (B,d),some (A,c)),[1,0],by rw [show bJ.args (some (B,d),some (A,c))=[.slice (some ⟨0,0,none⟩) nb d,.slice (some ⟨1,0,none⟩) na c] from by rw [bX,bt]; rfl]; rfl,⟨⟨fB,fA⟩,zm xZ xY⟩,?_⟩
       rw [show bJ.ae (some (B,d),some (A,c))=[.flat false nb 6 gb,.flat false na 6 ga] from by rw [bX,cU,bt,bC]; rfl,show bJ.val (some (B,d),some (A,c))=.tuple ⟨[.slice (some ⟨2,0,none⟩) (m+1) cu,.int .i64 0]⟩ from by rw [dp,e2.1,← hm]; rfl,show bJ.new (some (B,d),some (A,c))=some (.flat true (m+1) 6 E) from by rw [e2.2.1]; unfold cg; rw [← hm,hE]]
       conv=>whnf
       refine ⟨ar.aE (fun h=>h) (fun r hr=>by rw [cU]; rfl),ar.aE (fun h=>h) (fun r hr=>by rw [bC]; rfl),?_⟩
       conv=>whnf
       refine ⟨_,rfl,?_⟩;conv=>whnf
       refine ⟨(some (ai R,cu),some (ai R,cu)),[4,5],by rw [show cm.args (some (ai R,cu),some (ai R,cu))=[.slice (some ⟨0,0,none⟩) (m+1) cu,.slice (some ⟨1,0,none⟩) (m+1) cu] from by rw [← hl]; rfl]; rfl,⟨by show (ai R).length≤_; omega,by show (ai R).length≤_; omega⟩,?_⟩
       rw [show cm.ae (some (ai R,cu),some (ai R,cu))=[.flat false (m+1) 6 E,.flat false (m+1) 6 E] from by rw [← hl,hE]; rfl,show cm.val (some (ai R,cu),some (ai R,cu))=.bool true from congrArg Value.bool (decide_eq_true rfl),show cm.new (some (ai R,cu),some (ai R,cu))=none from rfl]
       conv=>whnf
       refine ⟨ar.aE (fun h=>by cases h) (fun r hr=>by rw [hE]; rfl),ar.aE (fun h=>by cases h) (fun r hr=>by rw [hE]; rfl),?_⟩
       conv=>whnf
       refine ⟨.bool true,rfl,?_⟩;conv=>whnf
       have rx:=Be (aV A) p.p;have ry:=Be (aV B) p.p;have rz:=Be R p.p;rw [← mw] at rx;rw [← my] at ry;rw [← hz] at rz;rcases rx with jo | jo | jo
       ·have mJ:z=-1:=by omega
        subst jo;subst mJ;refine ⟨(some (A,c),p),[0],by rw [show aL.args (some (A,c),p)=[.slice (some ⟨0,0,none⟩) na c,p.v] from by rw [bt]; rfl]; rfl,⟨fA,PV.aQ sp (by decide)⟩,?_⟩
        rw [show aL.ae (some (A,c),p)=[.flat false na 6 ga] from by rw [bt,bC]; rfl,show aL.val (some (A,c),p)=.int .i64 (-1) from congrArg (Value.int .i64) ix,show aL.new (some (A,c),p)=none from rfl]
        conv=>whnf
        refine ⟨ar.aE (fun h=>h) (fun r hr=>by rw [bC]; rfl),?_⟩
        conv=>whnf
        refine ⟨_,rfl,?_⟩;conv=>whnf
        refine ⟨(some (ai R,cu),some (A,c)),[4,0],by rw [show bJ.args (some (ai R,cu),some (A,c))=[.slice (some ⟨0,0,none⟩) (m+1) cu,.slice (some ⟨1,0,none⟩) na c] from by rw [← hl,bt]; rfl]; rfl,⟨⟨fR,fA⟩,vN⟩,?_⟩
        rw [show bJ.ae (some (ai R,cu),some (A,c))=[.flat false (m+1) 6 E,.flat false na 6 ga] from by rw [← hl,hE,bt,bC]; rfl,show bJ.val (some (ai R,cu),some (A,c))=.tuple ⟨[.slice (some ⟨2,0,none⟩) (m+1) cu,.int .i64 0]⟩ from by rw [dp] at e3 ⊢; rw [e3.1,← hm]; rfl,show bJ.new (some (ai R,cu),some (A,c))=some (.flat true (m+1) 6 E) from by rw [e3.2.1]; unfold cg; rw [← hm,hE]]
        conv=>whnf
        refine ⟨ar.aE (fun h=>by cases h) (fun r hr=>by rw [hE]; rfl),ar.aE (fun h=>h) (fun r hr=>by rw [bC]; rfl),?_⟩
        conv=>whnf
        refine ⟨_,rfl,?_⟩;conv=>whnf
        refine .inl ⟨35,[[],[0],[0,1],[0,1,2],[0,1,2,3],[0,1,2,3],[0,1,2,3,4,5],[0,1,2,3,4,5,6],[0,1,2,3],[0,1,2,3,4,5,6,7,8],[0,1,2,3,4,5,6,7,8,9],[0,1,2,3,4,5,6,7,8,9,10],[0,1,2,3,4,5,6,7,8,9,10,11],[0,1,2,3,4,5,6,7,8,9,10,11],[0,1,2,3,4,5,6,7,8,9,10,11,12,13],[0,1,2,3,4,5,6,7,8,9,10,11,12,13,14],[0,1,2,3,4,5,6,7,8,9,10,11],[0,1,2,3,4,5,6,7,8,9,10,11],[0,1,2,3,4,5,6,7,8,9,10,11,12,13,14,16,17],[0,1,2,3,4,5,6,7,8,9,10,11,12,13,14,16,17,18],[0,1,2,3,4,5,6,7,8,9,10,11,12,13,14,16,17,18,19],[0,1,2,3,4,5,6,7,8,9,10,11,12,13,14,16,17,18,19,20],[0,1,2,3,4,5,6,7,8,9,10,11,12,13,14,16,17,18,19,20],[0,1,2,3,4,5,6,7,8,9,10,11,12,13,14,16,17,18,19,20,21,22],[0,1,2,3,4,5,6,7,8,9,10,11,12,13,14,16,17,18,19,20,21,22,23],[0,1,2,3,4,5,6,7,8,9,10,11,12,13,14,16,17,18,19,20,21,22,23,24],[0,1,2,3,4,5,6,7,8,9,10,11,12,13,14,15,16,17,18,19,20,21,22,23,24,25],[0,1,2,3,4,5,6,7,8,9,10,11,12,13,14,15,16,17,18,19,20,21,22,23,24,25,26],[0,1,2,3,4,5,6,7,8,9,10,11,12,13,14,15,16,17,18,19,20,21,22,23,24,25,26,27],[0,1,2,3,4,5,6,7,8,9,10,11,12,13,14,15,16,17,18,19,20,21,22,23,24,25,26,27,28],[0,1,2,3,4,5,6,7,8,9,10,11,12,13,14,15,16,17,18,19,20,21,22,23,24,25,26,27,28,29],[0,1,2,3,4,5,6,7,8,9,10,11,12,13,14,15,16,17,18,19,20,21,22,23,24,25,26,27,28,29,30],[0,1,2,3,4,5,6,7,8,9,10,11,12,13,14,15,16,17,18,19,20,21,22,23,24,25,26,27,28,29,30,31],[0,1,2,3,4,5,6,7,8,9,10,11,12,13,14,15,16,17,18,19,20,21,22,23,24,25,26,27,28,29,30,31,32],[0,1,2,3,4,5,6,7,8,9,10,11,12,13,14,15,16,17,18,19,20,21,22,23,24,25,26,27,28,29,30,31,32],[0,1,2,3,4,5,6,7,8,9,10,11,12,13,14,15,16,17,18,19,20,21,22,23,24,25,26,27,28,29,30,31,32,33,34],[0,1,2,3,4,5,6,7,8,9,10,11,12,13,14,15,16,17,18,19,20,21,22,23,24,25,26,27,28,29,30,31,32,33,34,35],[0,1,2,3,4,5,6,7,8,9,10,11,12,13,14,15,16,17,18,19,20,21,22,23,24,25,26,27,28,29,30,31,32,33,34,35,36],[0,1,2,3,4,5,6,7,8,9,10,11,12,13,14,15,16,17,18,19,20,21,22,23,24,25,26,27,28,29,30,31,32,33,34,35,36,37],[0,1,2,3,4,5,6,7,8,9,10,11,12,13,14,15,16,17,18,19,20,21,22,23,24,25,26,27,28,29,30,31,32,33,34,35,36,37,38],[0,1,2,3,4,5,6,7,8,9,10,11,12,13,14,15,16,17,18,19,20,21,22,23,24,25,26,27,28,29,30,31,32,33,34,35,36,37,38,39]],by kernel_rfl,?_⟩
        conv=>whnf
        refine ⟨some (ai R,cu),[4],by rw [show aX.args (some (ai R,cu))=[.slice (some ⟨0,0,none⟩) (m+1) cu] from by rw [← hl]; rfl]; rfl,fR,?_⟩
        rw [show aX.ae (some (ai R,cu))=[.flat false (m+1) 6 E] from by rw [← hl,hE]; rfl,show aX.val (some (ai R,cu))=.int .i64 0 from congrArg (Value.int .i64) hk,show aX.new (some (ai R,cu))=none from rfl]
        conv=>whnf
        refine ⟨ar.aE (fun h=>by cases h) (fun r hr=>by rw [hE]; rfl),?_⟩
        conv=>whnf
        refine ⟨_,rfl,?_⟩;conv=>whnf
        refine ⟨(some (ai R,cu),p),[4],by rw [show aL.args (some (ai R,cu),p)=[.slice (some ⟨0,0,none⟩) (m+1) cu,p.v] from by rw [← hl]; rfl]; rfl,⟨fR,PV.aQ sp (by decide)⟩,?_⟩
        rw [show aL.ae (some (ai R,cu),p)=[.flat false (m+1) 6 E] from by rw [← hl,hE]; rfl,show aL.val (some (ai R,cu),p)=.int .i64 (-1) from congrArg (Value.int .i64) iz,show aL.new (some (ai R,cu),p)=none from rfl]
        conv=>whnf
        refine ⟨ar.aE (fun h=>by cases h) (fun r hr=>by rw [hE]; rfl),?_⟩
        conv=>whnf
        refine ⟨_,rfl,?_⟩;conv=>whnf
        refine ⟨(some (ai R,cu),p),[4],by rw [show aL.args (some (ai R,cu),p)=[.slice (some ⟨0,0,none⟩) (m+1) cu,p.v] from by rw [← hl]; rfl]; rfl,⟨fR,PV.aQ sp (by decide)⟩,?_⟩
        rw [show aL.ae (some (ai R,cu),p)=[.flat false (m+1) 6 E] from by rw [← hl,hE]; rfl,show aL.val (some (ai R,cu),p)=.int .i64 (-1) from congrArg (Value.int .i64) iz,show aL.new (some (ai R,cu),p)=none from rfl]
        conv=>whnf
        refine ⟨ar.aE (fun h=>by cases h) (fun r hr=>by rw [hE]; rfl),?_⟩
        conv=>whnf
        refine ⟨_,rfl,?_⟩;conv=>whnf
        refine ⟨(some (A,c),p),[0],by rw [show aL.args (some (A,c),p)=[.slice (some ⟨0,0,none⟩) na c,p.v] from by rw [bt]; rfl]; rfl,⟨fA,PV.aQ sp (by decide)⟩,?_⟩
        rw [show aL.ae (some (A,c),p)=[.flat false na 6 ga] from by rw [bt,bC]; rfl,show aL.val (some (A,c),p)=.int .i64 (-1) from congrArg (Value.int .i64) ix,show aL.new (some (A,c),p)=none from rfl]
        conv=>whnf
        refine ⟨ar.aE (fun h=>h) (fun r hr=>by rw [bC]; rfl),?_⟩
        conv=>whnf
        refine ⟨_,rfl,?_⟩;conv=>whnf
        refine ⟨(some (ai R,cu),some (ai R,cu)),[6,4],by rw [show cm.args (some (ai R,cu),some (ai R,cu))=[.slice (some ⟨0,0,none⟩) (m+1) cu,.slice (some ⟨1,0,none⟩) (m+1) cu] from by rw [← hl]; rfl]; rfl,⟨by show (ai R).length≤_; omega,by show (ai R).length≤_; omega⟩,?_⟩
        rw [show cm.ae (some (ai R,cu),some (ai R,cu))=[.flat false (m+1) 6 E,.flat false (m+1) 6 E] from by rw [← hl,hE]; rfl,show cm.val (some (ai R,cu),some (ai R,cu))=.bool true from congrArg Value.bool (decide_eq_true rfl),show cm.new (some (ai R,cu),some (ai R,cu))=none from rfl]
        conv=>whnf
        refine ⟨ar.aE (fun h=>by cases h) (fun r hr=>by rw [hE]; rfl),ar.aE (fun h=>by cases h) (fun r hr=>by rw [hE]; rfl),?_⟩
        conv=>whnf
        refine ⟨.bool true,rfl,?_⟩;conv=>whnf
        conv=>whnf
        refine ⟨(),rfl,trivial,?_⟩;conv=>whnf
        exact fin _
       ·rcases ry with gq | gq | gq
        ·have mJ:z=-1:=by omega
         subst jo;subst gq;subst mJ;refine ⟨(some (A,c),p),[0],by rw [show aL.args (some (A,c),p)=[.slice (some ⟨0,0,none⟩) na c,p.v] from by rw [bt]; rfl]; rfl,⟨fA,PV.aQ sp (by decide)⟩,?_⟩
         rw [show aL.ae (some (A,c),p)=[.flat false na 6 ga] from by rw [bt,bC]; rfl,show aL.val (some (A,c),p)=.int .i64 0 from congrArg (Value.int .i64) ix,show aL.new (some (A,c),p)=none from rfl]
         conv=>whnf
         refine ⟨ar.aE (fun h=>h) (fun r hr=>by rw [bC]; rfl),?_⟩
         conv=>whnf
         refine ⟨_,rfl,?_⟩;conv=>whnf
         refine ⟨(some (ai R,cu),some (A,c)),[4,0],by rw [show bJ.args (some (ai R,cu),some (A,c))=[.slice (some ⟨0,0,none⟩) (m+1) cu,.slice (some ⟨1,0,none⟩) na c] from by rw [← hl,bt]; rfl]; rfl,⟨⟨fR,fA⟩,vN⟩,?_⟩
         rw [show bJ.ae (some (ai R,cu),some (A,c))=[.flat false (m+1) 6 E,.flat false na 6 ga] from by rw [← hl,hE,bt,bC]; rfl,show bJ.val (some (ai R,cu),some (A,c))=.tuple ⟨[.slice (some ⟨2,0,none⟩) (m+1) cu,.int .i64 0]⟩ from by rw [dp] at e3 ⊢; rw [e3.1,← hm]; rfl,show bJ.new (some (ai R,cu),some (A,c))=some (.flat true (m+1) 6 E) from by rw [e3.2.1]; unfold cg; rw [← hm,hE]]
         conv=>whnf
         refine ⟨ar.aE (fun h=>by cases h) (fun r hr=>by rw [hE]; rfl),ar.aE (fun h=>h) (fun r hr=>by rw [bC]; rfl),?_⟩
         conv=>whnf
         refine ⟨_,rfl,?_⟩;conv=>whnf
         refine .inl ⟨35,[[],[0],[0,1],[0,1,2],[0,1,2,3],[0,1,2,3],[0,1,2,3,4,5],[0,1,2,3,4,5,6],[0,1,2,3],[0,1,2,3,4,5,6,7,8],[0,1,2,3,4,5,6,7,8,9],[0,1,2,3,4,5,6,7,8,9,10],[0,1,2,3,4,5,6,7,8,9,10,11],[0,1,2,3,4,5,6,7,8,9,10,11],[0,1,2,3,4,5,6,7,8,9,10,11,12,13],[0,1,2,3,4,5,6,7,8,9,10,11,12,13,14],[0,1,2,3,4,5,6,7,8,9,10,11],[0,1,2,3,4,5,6,7,8,9,10,11],[0,1,2,3,4,5,6,7,8,9,10,11,12,13,14,16,17],[0,1,2,3,4,5,6,7,8,9,10,11,12,13,14,16,17,18],[0,1,2,3,4,5,6,7,8,9,10,11,12,13,14,16,17,18,19],[0,1,2,3,4,5,6,7,8,9,10,11,12,13,14,16,17,18,19,20],[0,1,2,3,4,5,6,7,8,9,10,11,12,13,14,16,17,18,19,20],[0,1,2,3,4,5,6,7,8,9,10,11,12,13,14,16,17,18,19,20,21,22],[0,1,2,3,4,5,6,7,8,9,10,11,12,13,14,16,17,18,19,20,21,22,23],[0,1,2,3,4,5,6,7,8,9,10,11,12,13,14,16,17,18,19,20,21,22,23,24],[0,1,2,3,4,5,6,7,8,9,10,11,12,13,14,15,16,17,18,19,20,21,22,23,24,25],[0,1,2,3,4,5,6,7,8,9,10,11,12,13,14,15,16,17,18,19,20,21,22,23,24,25,26],[0,1,2,3,4,5,6,7,8,9,10,11,12,13,14,15,16,17,18,19,20,21,22,23,24,25,26,27],[0,1,2,3,4,5,6,7,8,9,10,11,12,13,14,15,16,17,18,19,20,21,22,23,24,25,26,27,28],[0,1,2,3,4,5,6,7,8,9,10,11,12,13,14,15,16,17,18,19,20,21,22,23,24,25,26,27,28,29],[0,1,2,3,4,5,6,7,8,9,10,11,12,13,14,15,16,17,18,19,20,21,22,23,24,25,26,27,28,29,30],[0,1,2,3,4,5,6,7,8,9,10,11,12,13,14,15,16,17,18,19,20,21,22,23,24,25,26,27,28,29,30,31],[0,1,2,3,4,5,6,7,8,9,10,11,12,13,14,15,16,17,18,19,20,21,22,23,24,25,26,27,28,29,30,31,32],[0,1,2,3,4,5,6,7,8,9,10,11,12,13,14,15,16,17,18,19,20,21,22,23,24,25,26,27,28,29,30,31,32],[0,1,2,3,4,5,6,7,8,9,10,11,12,13,14,15,16,17,18,19,20,21,22,23,24,25,26,27,28,29,30,31,32,33,34],[0,1,2,3,4,5,6,7,8,9,10,11,12,13,14,15,16,17,18,19,20,21,22,23,24,25,26,27,28,29,30,31,32,33,34,35],[0,1,2,3,4,5,6,7,8,9,10,11,12,13,14,15,16,17,18,19,20,21,22,23,24,25,26,27,28,29,30,31,32,33,34,35,36],[0,1,2,3,4,5,6,7,8,9,10,11,12,13,14,15,16,17,18,19,20,21,22,23,24,25,26,27,28,29,30,31,32,33,34,35,36,37],[0,1,2,3,4,5,6,7,8,9,10,11,12,13,14,15,16,17,18,19,20,21,22,23,24,25,26,27,28,29,30,31,32,33,34,35,36,37,38],[0,1,2,3,4,5,6,7,8,9,10,11,12,13,14,15,16,17,18,19,20,21,22,23,24,25,26,27,28,29,30,31,32,33,34,35,36,37,38,39]],by kernel_rfl,?_⟩
         conv=>whnf
         refine ⟨some (ai R,cu),[4],by rw [show aX.args (some (ai R,cu))=[.slice (some ⟨0,0,none⟩) (m+1) cu] from by rw [← hl]; rfl]; rfl,fR,?_⟩
         rw [show aX.ae (some (ai R,cu))=[.flat false (m+1) 6 E] from by rw [← hl,hE]; rfl,show aX.val (some (ai R,cu))=.int .i64 0 from congrArg (Value.int .i64) hk,show aX.new (some (ai R,cu))=none from rfl]
         conv=>whnf
         refine ⟨ar.aE (fun h=>by cases h) (fun r hr=>by rw [hE]; rfl),?_⟩
         conv=>whnf
         refine ⟨_,rfl,?_⟩;conv=>whnf
         refine ⟨(some (ai R,cu),p),[4],by rw [show aL.args (some (ai R,cu),p)=[.slice (some ⟨0,0,none⟩) (m+1) cu,p.v] from by rw [← hl]; rfl]; rfl,⟨fR,PV.aQ sp (by decide)⟩,?_⟩
         rw [show aL.ae (some (ai R,cu),p)=[.flat false (m+1) 6 E] from by rw [← hl,hE]; rfl,show aL.val (some (ai R,cu),p)=.int .i64 (-1) from congrArg (Value.int .i64) iz,show aL.new (some (ai R,cu),p)=none from rfl]
         conv=>whnf
         refine ⟨ar.aE (fun h=>by cases h) (fun r hr=>by rw [hE]; rfl),?_⟩
         conv=>whnf
         refine ⟨_,rfl,?_⟩;conv=>whnf
         refine ⟨(some (ai R,cu),p),[4],by rw [show aL.args (some (ai R,cu),p)=[.slice (some ⟨0,0,none⟩) (m+1) cu,p.v] from by rw [← hl]; rfl]; rfl,⟨fR,PV.aQ sp (by decide)⟩,?_⟩
         rw [show aL.ae (some (ai R,cu),p)=[.flat false (m+1) 6 E] from by rw [← hl,hE]; rfl,show aL.val (some (ai R,cu),p)=.int .i64 (-1) from congrArg (Value.int .i64) iz,show aL.new (some (ai R,cu),p)=none from rfl]
         conv=>whnf
         refine ⟨ar.aE (fun h=>by cases h) (fun r hr=>by rw [hE]; rfl),?_⟩
         conv=>whnf
         refine ⟨_,rfl,?_⟩;conv=>whnf
         refine ⟨(some (A,c),p),[0],by rw [show aL.args (some (A,c),p)=[.slice (some ⟨0,0,none⟩) na c,p.v] from by rw [bt]; rfl]; rfl,⟨fA,PV.aQ sp (by decide)⟩,?_⟩
         rw [show aL.ae (some (A,c),p)=[.flat false na 6 ga] from by rw [bt,bC]; rfl,show aL.val (some (A,c),p)=.int .i64 0 from congrArg (Value.int .i64) ix,show aL.new (some (A,c),p)=none from rfl]
         conv=>whnf
         refine ⟨ar.aE (fun h=>h) (fun r hr=>by rw [bC]; rfl),?_⟩
         conv=>whnf
         refine ⟨_,rfl,?_⟩;conv=>whnf
         refine ⟨(some (B,d),p),[1],by rw [show aL.args (some (B,d),p)=[.slice (some ⟨0,0,none⟩) nb d,p.v] from by rw [bX]; rfl]; rfl,⟨fB,PV.aQ sp (by decide)⟩,?_⟩
         rw [show aL.ae (some (B,d),p)=[.flat false nb 6 gb] from by rw [bX,cU]; rfl,show aL.val (some (B,d),p)=.int .i64 (-1) from congrArg (Value.int .i64) iy,show aL.new (some (B,d),p)=none from rfl]
         conv=>whnf
         refine ⟨ar.aE (fun h=>h) (fun r hr=>by rw [cU]; rfl),?_⟩
         conv=>whnf
         refine ⟨_,rfl,?_⟩;conv=>whnf
         refine ⟨(some (ai R,cu),some (ai R,cu)),[6,4],by rw [show cm.args (some (ai R,cu),some (ai R,cu))=[.slice (some ⟨0,0,none⟩) (m+1) cu,.slice (some ⟨1,0,none⟩) (m+1) cu] from by rw [← hl]; rfl]; rfl,⟨by show (ai R).length≤_; omega,by show (ai R).length≤_; omega⟩,?_⟩
         rw [show cm.ae (some (ai R,cu),some (ai R,cu))=[.flat false (m+1) 6 E,.flat false (m+1) 6 E] from by rw [← hl,hE]; rfl,show cm.val (some (ai R,cu),some (ai R,cu))=.bool true from congrArg Value.bool (decide_eq_true rfl),show cm.new (some (ai R,cu),some (ai R,cu))=none from rfl]
         conv=>whnf
         refine ⟨ar.aE (fun h=>by cases h) (fun r hr=>by rw [hE]; rfl),ar.aE (fun h=>by cases h) (fun r hr=>by rw [hE]; rfl),?_⟩
         conv=>whnf
         refine ⟨.bool true,rfl,?_⟩;conv=>whnf
         conv=>whnf
         refine ⟨(),rfl,trivial,?_⟩;conv=>whnf
         exact fin _
        ·have mJ:z=0:=by omega
         subst jo;subst gq;subst mJ;refine ⟨(some (A,c),p),[0],by rw [show aL.args (some (A,c),p)=[.slice (some ⟨0,0,none⟩) na c,p.v] from by rw [bt]; rfl]; rfl,⟨fA,PV.aQ sp (by decide)⟩,?_⟩
         rw [show aL.ae (some (A,c),p)=[.flat false na 6 ga] from by rw [bt,bC]; rfl,show aL.val (some (A,c),p)=.int .i64 0 from congrArg (Value.int .i64) ix,show aL.new (some (A,c),p)=none from rfl]
         conv=>whnf
         refine ⟨ar.aE (fun h=>h) (fun r hr=>by rw [bC]; rfl),?_⟩
         conv=>whnf
         refine ⟨_,rfl,?_⟩;conv=>whnf
         refine ⟨(some (ai R,cu),some (A,c)),[4,0],by rw [show bJ.args (some (ai R,cu),some (A,c))=[.slice (some ⟨0,0,none⟩) (m+1) cu,.slice (some ⟨1,0,none⟩) na c] from by rw [← hl,bt]; rfl]; rfl,⟨⟨fR,fA⟩,vN⟩,?_⟩
         rw [show bJ.ae (some (ai R,cu),some (A,c))=[.flat false (m+1) 6 E,.flat false na 6 ga] from by rw [← hl,hE,bt,bC]; rfl,show bJ.val (some (ai R,cu),some (A,c))=.tuple ⟨[.slice (some ⟨2,0,none⟩) (m+1) cu,.int .i64 0]⟩ from by rw [dp] at e3 ⊢; rw [e3.1,← hm]; rfl,show bJ.new (some (ai R,cu),some (A,c))=some (.flat true (m+1) 6 E) from by rw [e3.2.1]; unfold cg; rw [← hm,hE]]
         conv=>whnf
         refine ⟨ar.aE (fun h=>by cases h) (fun r hr=>by rw [hE]; rfl),ar.aE (fun h=>h) (fun r hr=>by rw [bC]; rfl),?_⟩
         conv=>whnf
         refine ⟨_,rfl,?_⟩;conv=>whnf
         refine .inl ⟨35,[[],[0],[0,1],[0,1,2],[0,1,2,3],[0,1,2,3],[0,1,2,3,4,5],[0,1,2,3,4,5,6],[0,1,2,3],[0,1,2,3,4,5,6,7,8],[0,1,2,3,4,5,6,7,8,9],[0,1,2,3,4,5,6,7,8,9,10],[0,1,2,3,4,5,6,7,8,9,10,11],[0,1,2,3,4,5,6,7,8,9,10,11],[0,1,2,3,4,5,6,7,8,9,10,11,12,13],[0,1,2,3,4,5,6,7,8,9,10,11,12,13,14],[0,1,2,3,4,5,6,7,8,9,10,11],[0,1,2,3,4,5,6,7,8,9,10,11],[0,1,2,3,4,5,6,7,8,9,10,11,12,13,14,16,17],[0,1,2,3,4,5,6,7,8,9,10,11,12,13,14,16,17,18],[0,1,2,3,4,5,6,7,8,9,10,11,12,13,14,16,17,18,19],[0,1,2,3,4,5,6,7,8,9,10,11,12,13,14,16,17,18,19,20],[0,1,2,3,4,5,6,7,8,9,10,11,12,13,14,16,17,18,19,20],[0,1,2,3,4,5,6,7,8,9,10,11,12,13,14,16,17,18,19,20,21,22],[0,1,2,3,4,5,6,7,8,9,10,11,12,13,14,16,17,18,19,20,21,22,23],[0,1,2,3,4,5,6,7,8,9,10,11,12,13,14,16,17,18,19,20,21,22,23,24],[0,1,2,3,4,5,6,7,8,9,10,11,12,13,14,15,16,17,18,19,20,21,22,23,24,25],[0,1,2,3,4,5,6,7,8,9,10,11,12,13,14,15,16,17,18,19,20,21,22,23,24,25,26],[0,1,2,3,4,5,6,7,8,9,10,11,12,13,14,15,16,17,18,19,20,21,22,23,24,25,26,27],[0,1,2,3,4,5,6,7,8,9,10,11,12,13,14,15,16,17,18,19,20,21,22,23,24,25,26,27,28],[0,1,2,3,4,5,6,7,8,9,10,11,12,13,14,15,16,17,18,19,20,21,22,23,24,25,26,27,28,29],[0,1,2,3,4,5,6,7,8,9,10,11,12,13,14,15,16,17,18,19,20,21,22,23,24,25,26,27,28,29,30],[0,1,2,3,4,5,6,7,8,9,10,11,12,13,14,15,16,17,18,19,20,21,22,23,24,25,26,27,28,29,30,31],[0,1,2,3,4,5,6,7,8,9,10,11,12,13,14,15,16,17,18,19,20,21,22,23,24,25,26,27,28,29,30,31,32],[0,1,2,3,4,5,6,7,8,9,10,11,12,13,14,15,16,17,18,19,20,21,22,23,24,25,26,27,28,29,30,31,32],[0,1,2,3,4,5,6,7,8,9,10,11,12,13,14,15,16,17,18,19,20,21,22,23,24,25,26,27,28,29,30,31,32,33,34],[0,1,2,3,4,5,6,7,8,9,10,11,12,13,14,15,16,17,18,19,20,21,22,23,24,25,26,27,28,29,30,31,32,33,34,35],[0,1,2,3,4,5,6,7,8,9,10,11,12,13,14,15,16,17,18,19,20,21,22,23,24,25,26,27,28,29,30,31,32,33,34,35,36],[0,1,2,3,4,5,6,7,8,9,10,11,12,13,14,15,16,17,18,19,20,21,22,23,24,25,26,27,28,29,30,31,32,33,34,35,36,37],[0,1,2,3,4,5,6,7,8,9,10,11,12,13,14,15,16,17,18,19,20,21,22,23,24,25,26,27,28,29,30,31,32,33,34,35,36,37,38],[0,1,2,3,4,5,6,7,8,9,10,11,12,13,14,15,16,17,18,19,20,21,22,23,24,25,26,27,28,29,30,31,32,33,34,35,36,37,38,39]],by kernel_rfl,?_⟩
         conv=>whnf
         refine ⟨some (ai R,cu),[4],by rw [show aX.args (some (ai R,cu))=[.slice (some ⟨0,0,none⟩) (m+1) cu] from by rw [← hl]; rfl]; rfl,fR,?_⟩
         rw [show aX.ae (some (ai R,cu))=[.flat false (m+1) 6 E] from by rw [← hl,hE]; rfl,show aX.val (some (ai R,cu))=.int .i64 0 from congrArg (Value.int .i64) hk,show aX.new (some (ai R,cu))=none from rfl]
         conv=>whnf
         refine ⟨ar.aE (fun h=>by cases h) (fun r hr=>by rw [hE]; rfl),?_⟩
         conv=>whnf
         refine ⟨_,rfl,?_⟩;conv=>whnf
         refine ⟨(some (ai R,cu),p),[4],by rw [show aL.args (some (ai R,cu),p)=[.slice (some ⟨0,0,none⟩) (m+1) cu,p.v] from by rw [← hl]; rfl]; rfl,⟨fR,PV.aQ sp (by decide)⟩,?_⟩
         rw [show aL.ae (some (ai R,cu),p)=[.flat false (m+1) 6 E] from by rw [← hl,hE]; rfl,show aL.val (some (ai R,cu),p)=.int .i64 0 from congrArg (Value.int .i64) iz,show aL.new (some (ai R,cu),p)=none from rfl]
         conv=>whnf
         refine ⟨ar.aE (fun h=>by cases h) (fun r hr=>by rw [hE]; rfl),?_⟩
         conv=>whnf
         refine ⟨_,rfl,?_⟩;conv=>whnf
         refine ⟨(some (ai R,cu),p),[4],by rw [show aL.args (some (ai R,cu),p)=[.slice (some ⟨0,0,none⟩) (m+1) cu,p.v] from by rw [← hl]; rfl]; rfl,⟨fR,PV.aQ sp (by decide)⟩,?_⟩
         rw [show aL.ae (some (ai R,cu),p)=[.flat false (m+1) 6 E] from by rw [← hl,hE]; rfl,show aL.val (some (ai R,cu),p)=.int .i64 0 from congrArg (Value.int .i64) iz,show aL.new (some (ai R,cu),p)=none from rfl]
         conv=>whnf
         refine ⟨ar.aE (fun h=>by cases h) (fun r hr=>by rw [hE]; rfl),?_⟩
         conv=>whnf
         refine ⟨_,rfl,?_⟩;conv=>whnf
         refine ⟨(some (A,c),p),[0],by rw [show aL.args (some (A,c),p)=[.slice (some ⟨0,0,none⟩) na c,p.v] from by rw [bt]; rfl]; rfl,⟨fA,PV.aQ sp (by decide)⟩,?_⟩
         rw [show aL.ae (some (A,c),p)=[.flat false na 6 ga] from by rw [bt,bC]; rfl,show aL.val (some (A,c),p)=.int .i64 0 from congrArg (Value.int .i64) ix,show aL.new (some (A,c),p)=none from rfl]
         conv=>whnf
         refine ⟨ar.aE (fun h=>h) (fun r hr=>by rw [bC]; rfl),?_⟩
         conv=>whnf
         refine ⟨_,rfl,?_⟩;conv=>whnf
         refine ⟨(some (B,d),p),[1],by rw [show aL.args (some (B,d),p)=[.slice (some ⟨0,0,none⟩) nb d,p.v] from by rw [bX]; rfl]; rfl,⟨fB,PV.aQ sp (by decide)⟩,?_⟩
         rw [show aL.ae (some (B,d),p)=[.flat false nb 6 gb] from by rw [bX,cU]; rfl,show aL.val (some (B,d),p)=.int .i64 0 from congrArg (Value.int .i64) iy,show aL.new (some (B,d),p)=none from rfl]
         conv=>whnf
         refine ⟨ar.aE (fun h=>h) (fun r hr=>by rw [cU]; rfl),?_⟩
         conv=>whnf
         refine ⟨_,rfl,?_⟩;conv=>whnf
         refine ⟨(some (ai R,cu),some (ai R,cu)),[6,4],by rw [show cm.args (some (ai R,cu),some (ai R,cu))=[.slice (some ⟨0,0,none⟩) (m+1) cu,.slice (some ⟨1,0,none⟩) (m+1) cu] from by rw [← hl]; rfl]; rfl,⟨by show (ai R).length≤_; omega,by show (ai R).length≤_; omega⟩,?_⟩
         rw [show cm.ae (some (ai R,cu),some (ai R,cu))=[.flat false (m+1) 6 E,.flat false (m+1) 6 E] from by rw [← hl,hE]; rfl,show cm.val (some (ai R,cu),some (ai R,cu))=.bool true from congrArg Value.bool (decide_eq_true rfl),show cm.new (some (ai R,cu),some (ai R,cu))=none from rfl]
         conv=>whnf
         refine ⟨ar.aE (fun h=>by cases h) (fun r hr=>by rw [hE]; rfl),ar.aE (fun h=>by cases h) (fun r hr=>by rw [hE]; rfl),?_⟩
         conv=>whnf
         refine ⟨.bool true,rfl,?_⟩;conv=>whnf
         conv=>whnf
         refine ⟨(),rfl,trivial,?_⟩;conv=>whnf
         exact fin _
        ·have mJ:z=0:=by omega
         subst jo;subst gq;subst mJ;refine ⟨(some (A,c),p),[0],by rw [show aL.args (some (A,c),p)=[.slice (some ⟨0,0,none⟩) na c,p.v] from by rw [bt]; rfl]; rfl,⟨fA,PV.aQ sp (by decide)⟩,?_⟩
         rw [show aL.ae (some (A,c),p)=[.flat false na 6 ga] from by rw [bt,bC]; rfl,show aL.val (some (A,c),p)=.int .i64 0 from congrArg (Value.int .i64) ix,show aL.new (some (A,c),p)=none from rfl]
         conv=>whnf
         refine ⟨ar.aE (fun h=>h) (fun r hr=>by rw [bC]; rfl),?_⟩
         conv=>whnf
         refine ⟨_,rfl,?_⟩;conv=>whnf
         refine ⟨(some (ai R,cu),some (A,c)),[4,0],by rw [show bJ.args (some (ai R,cu),some (A,c))=[.slice (some ⟨0,0,none⟩) (m+1) cu,.slice (some ⟨1,0,none⟩) na c] from by rw [← hl,bt]; rfl]; rfl,⟨⟨fR,fA⟩,vN⟩,?_⟩
         rw [show bJ.ae (some (ai R,cu),some (A,c))=[.flat false (m+1) 6 E,.flat false na 6 ga] from by rw [← hl,hE,bt,bC]; rfl,show bJ.val (some (ai R,cu),some (A,c))=.tuple ⟨[.slice (some ⟨2,0,none⟩) (m+1) cu,.int .i64 0]⟩ from by rw [dp] at e3 ⊢; rw [e3.1,← hm]; rfl,show bJ.new (some (ai R,cu),some (A,c))=some (.flat true (m+1) 6 E) from by rw [e3.2.1]; unfold cg; rw [← hm,hE]]
         conv=>whnf
         refine ⟨ar.aE (fun h=>by cases h) (fun r hr=>by rw [hE]; rfl),ar.aE (fun h=>h) (fun r hr=>by rw [bC]; rfl),?_⟩
         conv=>whnf
         refine ⟨_,rfl,?_⟩;conv=>whnf
         refine .inl ⟨35,[[],[0],[0,1],[0,1,2],[0,1,2,3],[0,1,2,3],[0,1,2,3,4,5],[0,1,2,3,4,5,6],[0,1,2,3],[0,1,2,3,4,5,6,7,8],[0,1,2,3,4,5,6,7,8,9],[0,1,2,3,4,5,6,7,8,9,10],[0,1,2,3,4,5,6,7,8,9,10,11],[0,1,2,3,4,5,6,7,8,9,10,11],[0,1,2,3,4,5,6,7,8,9,10,11,12,13],[0,1,2,3,4,5,6,7,8,9,10,11,12,13,14],[0,1,2,3,4,5,6,7,8,9,10,11],[0,1,2,3,4,5,6,7,8,9,10,11],[0,1,2,3,4,5,6,7,8,9,10,11,12,13,14,16,17],[0,1,2,3,4,5,6,7,8,9,10,11,12,13,14,16,17,18],[0,1,2,3,4,5,6,7,8,9,10,11,12,13,14,16,17,18,19],[0,1,2,3,4,5,6,7,8,9,10,11,12,13,14,16,17,18,19,20],[0,1,2,3,4,5,6,7,8,9,10,11,12,13,14,16,17,18,19,20],[0,1,2,3,4,5,6,7,8,9,10,11,12,13,14,16,17,18,19,20,21,22],[0,1,2,3,4,5,6,7,8,9,10,11,12,13,14,16,17,18,19,20,21,22,23],[0,1,2,3,4,5,6,7,8,9,10,11,12,13,14,16,17,18,19,20,21,22,23,24],[0,1,2,3,4,5,6,7,8,9,10,11,12,13,14,15,16,17,18,19,20,21,22,23,24,25],[0,1,2,3,4,5,6,7,8,9,10,11,12,13,14,15,16,17,18,19,20,21,22,23,24,25,26],[0,1,2,3,4,5,6,7,8,9,10,11,12,13,14,15,16,17,18,19,20,21,22,23,24,25,26,27],[0,1,2,3,4,5,6,7,8,9,10,11,12,13,14,15,16,17,18,19,20,21,22,23,24,25,26,27,28],[0,1,2,3,4,5,6,7,8,9,10,11,12,13,14,15,16,17,18,19,20,21,22,23,24,25,26,27,28,29],[0,1,2,3,4,5,6,7,8,9,10,11,12,13,14,15,16,17,18,19,20,21,22,23,24,25,26,27,28,29,30],[0,1,2,3,4,5,6,7,8,9,10,11,12,13,14,15,16,17,18,19,20,21,22,23,24,25,26,27,28,29,30,31],[0,1,2,3,4,5,6,7,8,9,10,11,12,13,14,15,16,17,18,19,20,21,22,23,24,25,26,27,28,29,30,31,32],[0,1,2,3,4,5,6,7,8,9,10,11,12,13,14,15,16,17,18,19,20,21,22,23,24,25,26,27,28,29,30,31,32],[0,1,2,3,4,5,6,7,8,9,10,11,12,13,14,15,16,17,18,19,20,21,22,23,24,25,26,27,28,29,30,31,32,33,34],[0,1,2,3,4,5,6,7,8,9,10,11,12,13,14,15,16,17,18,19,20,21,22,23,24,25,26,27,28,29,30,31,32,33,34,35],[0,1,2,3,4,5,6,7,8,9,10,11,12,13,14,15,16,17,18,19,20,21,22,23,24,25,26,27,28,29,30,31,32,33,34,35,36],[0,1,2,3,4,5,6,7,8,9,10,11,12,13,14,15,16,17,18,19,20,21,22,23,24,25,26,27,28,29,30,31,32,33,34,35,36,37],[0,1,2,3,4,5,6,7,8,9,10,11,12,13,14,15,16,17,18,19,20,21,22,23,24,25,26,27,28,29,30,31,32,33,34,35,36,37,38],[0,1,2,3,4,5,6,7,8,9,10,11,12,13,14,15,16,17,18,19,20,21,22,23,24,25,26,27,28,29,30,31,32,33,34,35,36,37,38,39]],by kernel_rfl,?_⟩
         conv=>whnf
         refine ⟨some (ai R,cu),[4],by rw [show aX.args (some (ai R,cu))=[.slice (some ⟨0,0,none⟩) (m+1) cu] from by rw [← hl]; rfl]; rfl,fR,?_⟩
         rw [show aX.ae (some (ai R,cu))=[.flat false (m+1) 6 E] from by rw [← hl,hE]; rfl,show aX.val (some (ai R,cu))=.int .i64 0 from congrArg (Value.int .i64) hk,show aX.new (some (ai R,cu))=none from rfl]
         conv=>whnf
         refine ⟨ar.aE (fun h=>by cases h) (fun r hr=>by rw [hE]; rfl),?_⟩
         conv=>whnf
         refine ⟨_,rfl,?_⟩;conv=>whnf
         refine ⟨(some (ai R,cu),p),[4],by rw [show aL.args (some (ai R,cu),p)=[.slice (some ⟨0,0,none⟩) (m+1) cu,p.v] from by rw [← hl]; rfl]; rfl,⟨fR,PV.aQ sp (by decide)⟩,?_⟩
         rw [show aL.ae (some (ai R,cu),p)=[.flat false (m+1) 6 E] from by rw [← hl,hE]; rfl,show aL.val (some (ai R,cu),p)=.int .i64 0 from congrArg (Value.int .i64) iz,show aL.new (some (ai R,cu),p)=none from rfl]
         conv=>whnf
         refine ⟨ar.aE (fun h=>by cases h) (fun r hr=>by rw [hE]; rfl),?_⟩
         conv=>whnf
         refine ⟨_,rfl,?_⟩;conv=>whnf
         refine ⟨(some (ai R,cu),p),[4],by rw [show aL.args (some (ai R,cu),p)=[.slice (some ⟨0,0,none⟩) (m+1) cu,p.v] from by rw [← hl]; rfl]; rfl,⟨fR,PV.aQ sp (by decide)⟩,?_⟩
         rw [show aL.ae (some (ai R,cu),p)=[.flat false (m+1) 6 E] from by rw [← hl,hE]; rfl,show aL.val (some (ai R,cu),p)=.int .i64 0 from congrArg (Value.int .i64) iz,show aL.new (some (ai R,cu),p)=none from rfl]
         conv=>whnf
         refine ⟨ar.aE (fun h=>by cases h) (fun r hr=>by rw [hE]; rfl),?_⟩
         conv=>whnf
         refine ⟨_,rfl,?_⟩;conv=>whnf
         refine ⟨(some (A,c),p),[0],by rw [show aL.args (some (A,c),p)=[.slice (some ⟨0,0,none⟩) na c,p.v] from by rw [bt]; rfl]; rfl,⟨fA,PV.aQ sp (by decide)⟩,?_⟩
         rw [show aL.ae (some (A,c),p)=[.flat false na 6 ga] from by rw [bt,bC]; rfl,show aL.val (some (A,c),p)=.int .i64 0 from congrArg (Value.int .i64) ix,show aL.new (some (A,c),p)=none from rfl]
         conv=>whnf
         refine ⟨ar.aE (fun h=>h) (fun r hr=>by rw [bC]; rfl),?_⟩
         conv=>whnf
         refine ⟨_,rfl,?_⟩;conv=>whnf
         refine ⟨(some (B,d),p),[1],by rw [show aL.args (some (B,d),p)=[.slice (some ⟨0,0,none⟩) nb d,p.v] from by rw [bX]; rfl]; rfl,⟨fB,PV.aQ sp (by decide)⟩,?_⟩
         rw [show aL.ae (some (B,d),p)=[.flat false nb 6 gb] from by rw [bX,cU]; rfl,show aL.val (some (B,d),p)=.int .i64 1 from congrArg (Value.int .i64) iy,show aL.new (some (B,d),p)=none from rfl]
         conv=>whnf
         refine ⟨ar.aE (fun h=>h) (fun r hr=>by rw [cU]; rfl),?_⟩
         conv=>whnf
         refine ⟨_,rfl,?_⟩;conv=>whnf
         refine ⟨(some (ai R,cu),some (ai R,cu)),[6,4],by rw [show cm.args (some (ai R,cu),some (ai R,cu))=[.slice (some ⟨0,0,none⟩) (m+1) cu,.slice (some ⟨1,0,none⟩) (m+1) cu] from by rw [← hl]; rfl]; rfl,⟨by show (ai R).length≤_; omega,by show (ai R).length≤_; omega⟩,?_⟩
         rw [show cm.ae (some (ai R,cu),some (ai R,cu))=[.flat false (m+1) 6 E,.flat false (m+1) 6 E] from by rw [← hl,hE]; rfl,show cm.val (some (ai R,cu),some (ai R,cu))=.bool true from congrArg Value.bool (decide_eq_true rfl),show cm.new (some (ai R,cu),some (ai R,cu))=none from rfl]
         conv=>whnf
         refine ⟨ar.aE (fun h=>by cases h) (fun r hr=>by rw [hE]; rfl),ar.aE (fun h=>by cases h) (fun r hr=>by rw [hE]; rfl),?_⟩
         conv=>whnf
         refine ⟨.bool true,rfl,?_⟩;conv=>whnf
         conv=>whnf
         refine ⟨(),rfl,trivial,?_⟩;conv=>whnf
         exact fin _
       ·rcases ry with gq | gq | gq
        ·have mJ:z=-1:=by omega
         subst jo;subst gq;subst mJ;refine ⟨(some (A,c),p),[0],by rw [show aL.args (some (A,c),p)=[.slice (some ⟨0,0,none⟩) na c,p.v] from by rw [bt]; rfl]; rfl,⟨fA,PV.aQ sp (by decide)⟩,?_⟩
         rw [show aL.ae (some (A,c),p)=[.flat false na 6 ga] from by rw [bt,bC]; rfl,show aL.val (some (A,c),p)=.int .i64 1 from congrArg (Value.int .i64) ix,show aL.new (some (A,c),p)=none from rfl]
         conv=>whnf
         refine ⟨ar.aE (fun h=>h) (fun r hr=>by rw [bC]; rfl),?_⟩
         conv=>whnf
         refine ⟨_,rfl,?_⟩;conv=>whnf
         refine ⟨(some (B,d),p),[1],by rw [show aL.args (some (B,d),p)=[.slice (some ⟨0,0,none⟩) nb d,p.v] from by rw [bX]; rfl]; rfl,⟨fB,PV.aQ sp (by decide)⟩,?_⟩
         rw [show aL.ae (some (B,d),p)=[.flat false nb 6 gb] from by rw [bX,cU]; rfl,show aL.val (some (B,d),p)=.int .i64 (-1) from congrArg (Value.int .i64) iy,show aL.new (some (B,d),p)=none from rfl]
         conv=>whnf
         refine ⟨ar.aE (fun h=>h) (fun r hr=>by rw [cU]; rfl),?_⟩
         conv=>whnf
         refine ⟨_,rfl,?_⟩;conv=>whnf
         refine ⟨(some (ai R,cu),some (A,c)),[4,0],by rw [show bJ.args (some (ai R,cu),some (A,c))=[.slice (some ⟨0,0,none⟩) (m+1) cu,.slice (some ⟨1,0,none⟩) na c] from by rw [← hl,bt]; rfl]; rfl,⟨⟨fR,fA⟩,vN⟩,?_⟩
         rw [show bJ.ae (some (ai R,cu),some (A,c))=[.flat false (m+1) 6 E,.flat false na 6 ga] from by rw [← hl,hE,bt,bC]; rfl,show bJ.val (some (ai R,cu),some (A,c))=.tuple ⟨[.slice (some ⟨2,0,none⟩) (m+1) cu,.int .i64 0]⟩ from by rw [dp] at e3 ⊢; rw [e3.1,← hm]; rfl,show bJ.new (some (ai R,cu),some (A,c))=some (.flat true (m+1) 6 E) from by rw [e3.2.1]; unfold cg; rw [← hm,hE]]
         conv=>whnf
         refine ⟨ar.aE (fun h=>by cases h) (fun r hr=>by rw [hE]; rfl),ar.aE (fun h=>h) (fun r hr=>by rw [bC]; rfl),?_⟩
         conv=>whnf
         refine ⟨_,rfl,?_⟩;conv=>whnf
         refine .inl ⟨35,[[],[0],[0,1],[0,1,2],[0,1,2,3],[0,1,2,3],[0,1,2,3,4,5],[0,1,2,3,4,5,6],[0,1,2,3],[0,1,2,3,4,5,6,7,8],[0,1,2,3,4,5,6,7,8,9],[0,1,2,3,4,5,6,7,8,9,10],[0,1,2,3,4,5,6,7,8,9,10,11],[0,1,2,3,4,5,6,7,8,9,10,11],[0,1,2,3,4,5,6,7,8,9,10,11,12,13],[0,1,2,3,4,5,6,7,8,9,10,11,12,13,14],[0,1,2,3,4,5,6,7,8,9,10,11],[0,1,2,3,4,5,6,7,8,9,10,11],[0,1,2,3,4,5,6,7,8,9,10,11,12,13,14,16,17],[0,1,2,3,4,5,6,7,8,9,10,11,12,13,14,16,17,18],[0,1,2,3,4,5,6,7,8,9,10,11,12,13,14,16,17,18,19],[0,1,2,3,4,5,6,7,8,9,10,11,12,13,14,16,17,18,19,20],[0,1,2,3,4,5,6,7,8,9,10,11,12,13,14,16,17,18,19,20],[0,1,2,3,4,5,6,7,8,9,10,11,12,13,14,16,17,18,19,20,21,22],[0,1,2,3,4,5,6,7,8,9,10,11,12,13,14,16,17,18,19,20,21,22,23],[0,1,2,3,4,5,6,7,8,9,10,11,12,13,14,16,17,18,19,20,21,22,23,24],[0,1,2,3,4,5,6,7,8,9,10,11,12,13,14,15,16,17,18,19,20,21,22,23,24,25],[0,1,2,3,4,5,6,7,8,9,10,11,12,13,14,15,16,17,18,19,20,21,22,23,24,25,26],[0,1,2,3,4,5,6,7,8,9,10,11,12,13,14,15,16,17,18,19,20,21,22,23,24,25,26,27],[0,1,2,3,4,5,6,7,8,9,10,11,12,13,14,15,16,17,18,19,20,21,22,23,24,25,26,27,28],[0,1,2,3,4,5,6,7,8,9,10,11,12,13,14,15,16,17,18,19,20,21,22,23,24,25,26,27,28,29],[0,1,2,3,4,5,6,7,8,9,10,11,12,13,14,15,16,17,18,19,20,21,22,23,24,25,26,27,28,29,30],[0,1,2,3,4,5,6,7,8,9,10,11,12,13,14,15,16,17,18,19,20,21,22,23,24,25,26,27,28,29,30,31],[0,1,2,3,4,5,6,7,8,9,10,11,12,13,14,15,16,17,18,19,20,21,22,23,24,25,26,27,28,29,30,31,32],[0,1,2,3,4,5,6,7,8,9,10,11,12,13,14,15,16,17,18,19,20,21,22,23,24,25,26,27,28,29,30,31,32],[0,1,2,3,4,5,6,7,8,9,10,11,12,13,14,15,16,17,18,19,20,21,22,23,24,25,26,27,28,29,30,31,32,33,34],[0,1,2,3,4,5,6,7,8,9,10,11,12,13,14,15,16,17,18,19,20,21,22,23,24,25,26,27,28,29,30,31,32,33,34,35],[0,1,2,3,4,5,6,7,8,9,10,11,12,13,14,15,16,17,18,19,20,21,22,23,24,25,26,27,28,29,30,31,32,33,34,35,36],[0,1,2,3,4,5,6,7,8,9,10,11,12,13,14,15,16,17,18,19,20,21,22,23,24,25,26,27,28,29,30,31,32,33,34,35,36,37],[0,1,2,3,4,5,6,7,8,9,10,11,12,13,14,15,16,17,18,19,20,21,22,23,24,25,26,27,28,29,30,31,32,33,34,35,36,37,38],[0,1,2,3,4,5,6,7,8,9,10,11,12,13,14,15,16,17,18,19,20,21,22,23,24,25,26,27,28,29,30,31,32,33,34,35,36,37,38,39]],by kernel_rfl,?_⟩
         conv=>whnf
         refine ⟨some (ai R,cu),[4],by rw [show aX.args (some (ai R,cu))=[.slice (some ⟨0,0,none⟩) (m+1) cu] from by rw [← hl]; rfl]; rfl,fR,?_⟩
         rw [show aX.ae (some (ai R,cu))=[.flat false (m+1) 6 E] from by rw [← hl,hE]; rfl,show aX.val (some (ai R,cu))=.int .i64 0 from congrArg (Value.int .i64) hk,show aX.new (some (ai R,cu))=none from rfl]
         conv=>whnf
         refine ⟨ar.aE (fun h=>by cases h) (fun r hr=>by rw [hE]; rfl),?_⟩
         conv=>whnf
         refine ⟨_,rfl,?_⟩;conv=>whnf
         refine ⟨(some (ai R,cu),p),[4],by rw [show aL.args (some (ai R,cu),p)=[.slice (some ⟨0,0,none⟩) (m+1) cu,p.v] from by rw [← hl]; rfl]; rfl,⟨fR,PV.aQ sp (by decide)⟩,?_⟩
         rw [show aL.ae (some (ai R,cu),p)=[.flat false (m+1) 6 E] from by rw [← hl,hE]; rfl,show aL.val (some (ai R,cu),p)=.int .i64 (-1) from congrArg (Value.int .i64) iz,show aL.new (some (ai R,cu),p)=none from rfl]
         conv=>whnf
         refine ⟨ar.aE (fun h=>by cases h) (fun r hr=>by rw [hE]; rfl),?_⟩
         conv=>whnf
         refine ⟨_,rfl,?_⟩;conv=>whnf
         refine ⟨(some (ai R,cu),p),[4],by rw [show aL.args (some (ai R,cu),p)=[.slice (some ⟨0,0,none⟩) (m+1) cu,p.v] from by rw [← hl]; rfl]; rfl,⟨fR,PV.aQ sp (by decide)⟩,?_⟩
         rw [show aL.ae (some (ai R,cu),p)=[.flat false (m+1) 6 E] from by rw [← hl,hE]; rfl,show aL.val (some (ai R,cu),p)=.int .i64 (-1) from congrArg (Value.int .i64) iz,show aL.new (some (ai R,cu),p)=none from rfl]
         conv=>whnf
         refine ⟨ar.aE (fun h=>by cases h) (fun r hr=>by rw [hE]; rfl),?_⟩
         conv=>whnf
         refine ⟨_,rfl,?_⟩;conv=>whnf
         refine ⟨(some (A,c),p),[0],by rw [show aL.args (some (A,c),p)=[.slice (some ⟨0,0,none⟩) na c,p.v] from by rw [bt]; rfl]; rfl,⟨fA,PV.aQ sp (by decide)⟩,?_⟩
         rw [show aL.ae (some (A,c),p)=[.flat false na 6 ga] from by rw [bt,bC]; rfl,show aL.val (some (A,c),p)=.int .i64 1 from congrArg (Value.int .i64) ix,show aL.new (some (A,c),p)=none from rfl]
         conv=>whnf
         refine ⟨ar.aE (fun h=>h) (fun r hr=>by rw [bC]; rfl),?_⟩
         conv=>whnf
         refine ⟨_,rfl,?_⟩;conv=>whnf
         refine ⟨(some (B,d),p),[1],by rw [show aL.args (some (B,d),p)=[.slice (some ⟨0,0,none⟩) nb d,p.v] from by rw [bX]; rfl]; rfl,⟨fB,PV.aQ sp (by decide)⟩,?_⟩
         rw [show aL.ae (some (B,d),p)=[.flat false nb 6 gb] from by rw [bX,cU]; rfl,show aL.val (some (B,d),p)=.int .i64 (-1) from congrArg (Value.int .i64) iy,show aL.new (some (B,d),p)=none from rfl]
         conv=>whnf
         refine ⟨ar.aE (fun h=>h) (fun r hr=>by rw [cU]; rfl),?_⟩
         conv=>whnf
         refine ⟨_,rfl,?_⟩;conv=>whnf
         refine ⟨(some (ai R,cu),some (ai R,cu)),[6,4],by rw [show cm.args (some (ai R,cu),some (ai R,cu))=[.slice (some ⟨0,0,none⟩) (m+1) cu,.slice (some ⟨1,0,none⟩) (m+1) cu] from by rw [← hl]; rfl]; rfl,⟨by show (ai R).length≤_; omega,by show (ai R).length≤_; omega⟩,?_⟩
         rw [show cm.ae (some (ai R,cu),some (ai R,cu))=[.flat false (m+1) 6 E,.flat false (m+1) 6 E] from by rw [← hl,hE]; rfl,show cm.val (some (ai R,cu),some (ai R,cu))=.bool true from congrArg Value.bool (decide_eq_true rfl),show cm.new (some (ai R,cu),some (ai R,cu))=none from rfl]
         conv=>whnf
         refine ⟨ar.aE (fun h=>by cases h) (fun r hr=>by rw [hE]; rfl),ar.aE (fun h=>by cases h) (fun r hr=>by rw [hE]; rfl),?_⟩
         conv=>whnf
         refine ⟨.bool true,rfl,?_⟩;conv=>whnf
         conv=>whnf
         refine ⟨(),rfl,trivial,?_⟩;conv=>whnf
         exact fin _
        ·have mJ:z=0:=by omega
         subst jo;subst gq;subst mJ;refine ⟨(some (A,c),p),[0],by rw [show aL.args (some (A,c),p)=[.slice (some ⟨0,0,none⟩) na c,p.v] from by rw [bt]; rfl]; rfl,⟨fA,PV.aQ sp (by decide)⟩,?_⟩
         rw [show aL.ae (some (A,c),p)=[.flat false na 6 ga] from by rw [bt,bC]; rfl,show aL.val (some (A,c),p)=.int .i64 1 from congrArg (Value.int .i64) ix,show aL.new (some (A,c),p)=none from rfl]
         conv=>whnf
         refine ⟨ar.aE (fun h=>h) (fun r hr=>by rw [bC]; rfl),?_⟩
         conv=>whnf
         refine ⟨_,rfl,?_⟩;conv=>whnf
         refine ⟨(some (B,d),p),[1],by rw [show aL.args (some (B,d),p)=[.slice (some ⟨0,0,none⟩) nb d,p.v] from by rw [bX]; rfl]; rfl,⟨fB,PV.aQ sp (by decide)⟩,?_⟩
         rw [show aL.ae (some (B,d),p)=[.flat false nb 6 gb] from by rw [bX,cU]; rfl,show aL.val (some (B,d),p)=.int .i64 0 from congrArg (Value.int .i64) iy,show aL.new (some (B,d),p)=none from rfl]
         conv=>whnf
         refine ⟨ar.aE (fun h=>h) (fun r hr=>by rw [cU]; rfl),?_⟩
         conv=>whnf
         refine ⟨_,rfl,?_⟩;conv=>whnf
         refine ⟨(some (ai R,cu),some (A,c)),[4,0],by rw [show bJ.args (some (ai R,cu),some (A,c))=[.slice (some ⟨0,0,none⟩) (m+1) cu,.slice (some ⟨1,0,none⟩) na c] from by rw [← hl,bt]; rfl]; rfl,⟨⟨fR,fA⟩,vN⟩,?_⟩
         rw [show bJ.ae (some (ai R,cu),some (A,c))=[.flat false (m+1) 6 E,.flat false na 6 ga] from by rw [← hl,hE,bt,bC]; rfl,show bJ.val (some (ai R,cu),some (A,c))=.tuple ⟨[.slice (some ⟨2,0,none⟩) (m+1) cu,.int .i64 0]⟩ from by rw [dp] at e3 ⊢; rw [e3.1,← hm]; rfl,show bJ.new (some (ai R,cu),some (A,c))=some (.flat true (m+1) 6 E) from by rw [e3.2.1]; unfold cg; rw [← hm,hE]]
         conv=>whnf
         refine ⟨ar.aE (fun h=>by cases h) (fun r hr=>by rw [hE]; rfl),ar.aE (fun h=>h) (fun r hr=>by rw [bC]; rfl),?_⟩
         conv=>whnf
         refine ⟨_,rfl,?_⟩;conv=>whnf
         refine .inl ⟨35,[[],[0],[0,1],[0,1,2],[0,1,2,3],[0,1,2,3],[0,1,2,3,4,5],[0,1,2,3,4,5,6],[0,1,2,3],[0,1,2,3,4,5,6,7,8],[0,1,2,3,4,5,6,7,8,9],[0,1,2,3,4,5,6,7,8,9,10],[0,1,2,3,4,5,6,7,8,9,10,11],[0,1,2,3,4,5,6,7,8,9,10,11],[0,1,2,3,4,5,6,7,8,9,10,11,12,13],[0,1,2,3,4,5,6,7,8,9,10,11,12,13,14],[0,1,2,3,4,5,6,7,8,9,10,11],[0,1,2,3,4,5,6,7,8,9,10,11],[0,1,2,3,4,5,6,7,8,9,10,11,12,13,14,16,17],[0,1,2,3,4,5,6,7,8,9,10,11,12,13,14,16,17,18],[0,1,2,3,4,5,6,7,8,9,10,11,12,13,14,16,17,18,19],[0,1,2,3,4,5,6,7,8,9,10,11,12,13,14,16,17,18,19,20],[0,1,2,3,4,5,6,7,8,9,10,11,12,13,14,16,17,18,19,20],[0,1,2,3,4,5,6,7,8,9,10,11,12,13,14,16,17,18,19,20,21,22],[0,1,2,3,4,5,6,7,8,9,10,11,12,13,14,16,17,18,19,20,21,22,23],[0,1,2,3,4,5,6,7,8,9,10,11,12,13,14,16,17,18,19,20,21,22,23,24],[0,1,2,3,4,5,6,7,8,9,10,11,12,13,14,15,16,17,18,19,20,21,22,23,24,25],[0,1,2,3,4,5,6,7,8,9,10,11,12,13,14,15,16,17,18,19,20,21,22,23,24,25,26],[0,1,2,3,4,5,6,7,8,9,10,11,12,13,14,15,16,17,18,19,20,21,22,23,24,25,26,27],[0,1,2,3,4,5,6,7,8,9,10,11,12,13,14,15,16,17,18,19,20,21,22,23,24,25,26,27,28],[0,1,2,3,4,5,6,7,8,9,10,11,12,13,14,15,16,17,18,19,20,21,22,23,24,25,26,27,28,29],[0,1,2,3,4,5,6,7,8,9,10,11,12,13,14,15,16,17,18,19,20,21,22,23,24,25,26,27,28,29,30],[0,1,2,3,4,5,6,7,8,9,10,11,12,13,14,15,16,17,18,19,20,21,22,23,24,25,26,27,28,29,30,31],[0,1,2,3,4,5,6,7,8,9,10,11,12,13,14,15,16,17,18,19,20,21,22,23,24,25,26,27,28,29,30,31,32],[0,1,2,3,4,5,6,7,8,9,10,11,12,13,14,15,16,17,18,19,20,21,22,23,24,25,26,27,28,29,30,31,32],[0,1,2,3,4,5,6,7,8,9,10,11,12,13,14,15,16,17,18,19,20,21,22,23,24,25,26,27,28,29,30,31,32,33,34],[0,1,2,3,4,5,6,7,8,9,10,11,12,13,14,15,16,17,18,19,20,21,22,23,24,25,26,27,28,29,30,31,32,33,34,35],[0,1,2,3,4,5,6,7,8,9,10,11,12,13,14,15,16,17,18,19,20,21,22,23,24,25,26,27,28,29,30,31,32,33,34,35,36],[0,1,2,3,4,5,6,7,8,9,10,11,12,13,14,15,16,17,18,19,20,21,22,23,24,25,26,27,28,29,30,31,32,33,34,35,36,37],[0,1,2,3,4,5,6,7,8,9,10,11,12,13,14,15,16,17,18,19,20,21,22,23,24,25,26,27,28,29,30,31,32,33,34,35,36,37,38],[0,1,2,3,4,5,6,7,8,9,10,11,12,13,14,15,16,17,18,19,20,21,22,23,24,25,26,27,28,29,30,31,32,33,34,35,36,37,38,39]],by kernel_rfl,?_⟩
         conv=>whnf
         refine ⟨some (ai R,cu),[4],by rw [show aX.args (some (ai R,cu))=[.slice (some ⟨0,0,none⟩) (m+1) cu] from by rw [← hl]; rfl]; rfl,fR,?_⟩
         rw [show aX.ae (some (ai R,cu))=[.flat false (m+1) 6 E] from by rw [← hl,hE]; rfl,show aX.val (some (ai R,cu))=.int .i64 0 from congrArg (Value.int .i64) hk,show aX.new (some (ai R,cu))=none from rfl]
         conv=>whnf
         refine ⟨ar.aE (fun h=>by cases h) (fun r hr=>by rw [hE]; rfl),?_⟩
         conv=>whnf
         refine ⟨_,rfl,?_⟩;conv=>whnf
         refine ⟨(some (ai R,cu),p),[4],by rw [show aL.args (some (ai R,cu),p)=[.slice (some ⟨0,0,none⟩) (m+1) cu,p.v] from by rw [← hl]; rfl]; rfl,⟨fR,PV.aQ sp (by decide)⟩,?_⟩
         rw [show aL.ae (some (ai R,cu),p)=[.flat false (m+1) 6 E] from by rw [← hl,hE]; rfl,show aL.val (some (ai R,cu),p)=.int .i64 0 from congrArg (Value.int .i64) iz,show aL.new (some (ai R,cu),p)=none from rfl]
         conv=>whnf
         refine ⟨ar.aE (fun h=>by cases h) (fun r hr=>by rw [hE]; rfl),?_⟩
         conv=>whnf
         refine ⟨_,rfl,?_⟩;conv=>whnf
         refine ⟨(some (ai R,cu),p),[4],by rw [show aL.args (some (ai R,cu),p)=[.slice (some ⟨0,0,none⟩) (m+1) cu,p.v] from by rw [← hl]; rfl]; rfl,⟨fR,PV.aQ sp (by decide)⟩,?_⟩
         rw [show aL.ae (some (ai R,cu),p)=[.flat false (m+1) 6 E] from by rw [← hl,hE]; rfl,show aL.val (some (ai R,cu),p)=.int .i64 0 from congrArg (Value.int .i64) iz,show aL.new (some (ai R,cu),p)=none from rfl]
         conv=>whnf
         refine ⟨ar.aE (fun h=>by cases h) (fun r hr=>by rw [hE]; rfl),?_⟩
         conv=>whnf
         refine ⟨_,rfl,?_⟩;conv=>whnf
         refine ⟨(some (A,c),p),[0],by rw [show aL.args (some (A,c),p)=[.slice (some ⟨0,0,none⟩) na c,p.v] from by rw [bt]; rfl]; rfl,⟨fA,PV.aQ sp (by decide)⟩,?_⟩
         rw [show aL.ae (some (A,c),p)=[.flat false na 6 ga] from by rw [bt,bC]; rfl,show aL.val (some (A,c),p)=.int .i64 1 from congrArg (Value.int .i64) ix,show aL.new (some (A,c),p)=none from rfl]
         conv=>whnf
         refine ⟨ar.aE (fun h=>h) (fun r hr=>by rw [bC]; rfl),?_⟩
         conv=>whnf
         refine ⟨_,rfl,?_⟩;conv=>whnf
         refine ⟨(some (B,d),p),[1],by rw [show aL.args (some (B,d),p)=[.slice (some ⟨0,0,none⟩) nb d,p.v] from by rw [bX]; rfl]; rfl,⟨fB,PV.aQ sp (by decide)⟩,?_⟩
         rw [show aL.ae (some (B,d),p)=[.flat false nb 6 gb] from by rw [bX,cU]; rfl,show aL.val (some (B,d),p)=.int .i64 0 from congrArg (Value.int .i64) iy,show aL.new (some (B,d),p)=none from rfl]
         conv=>whnf
         refine ⟨ar.aE (fun h=>h) (fun r hr=>by rw [cU]; rfl),?_⟩
         conv=>whnf
         refine ⟨_,rfl,?_⟩;conv=>whnf
         refine ⟨(some (ai R,cu),some (ai R,cu)),[6,4],by rw [show cm.args (some (ai R,cu),some (ai R,cu))=[.slice (some ⟨0,0,none⟩) (m+1) cu,.slice (some ⟨1,0,none⟩) (m+1) cu] from by rw [← hl]; rfl]; rfl,⟨by show (ai R).length≤_; omega,by show (ai R).length≤_; omega⟩,?_⟩
         rw [show cm.ae (some (ai R,cu),some (ai R,cu))=[.flat false (m+1) 6 E,.flat false (m+1) 6 E] from by rw [← hl,hE]; rfl,show cm.val (some (ai R,cu),some (ai R,cu))=.bool true from congrArg Value.bool (decide_eq_true rfl),show cm.new (some (ai R,cu),some (ai R,cu))=none from rfl]
         conv=>whnf
         refine ⟨ar.aE (fun h=>by cases h) (fun r hr=>by rw [hE]; rfl),ar.aE (fun h=>by cases h) (fun r hr=>by rw [hE]; rfl),?_⟩
         conv=>whnf
         refine ⟨.bool true,rfl,?_⟩;conv=>whnf
         conv=>whnf
         refine ⟨(),rfl,trivial,?_⟩;conv=>whnf
         exact fin _
        ·have mJ:z=1:=by omega
         subst jo;subst gq;subst mJ;refine ⟨(some (A,c),p),[0],by rw [show aL.args (some (A,c),p)=[.slice (some ⟨0,0,none⟩) na c,p.v] from by rw [bt]; rfl]; rfl,⟨fA,PV.aQ sp (by decide)⟩,?_⟩
         rw [show aL.ae (some (A,c),p)=[.flat false na 6 ga] from by rw [bt,bC]; rfl,show aL.val (some (A,c),p)=.int .i64 1 from congrArg (Value.int .i64) ix,show aL.new (some (A,c),p)=none from rfl]
         conv=>whnf
         refine ⟨ar.aE (fun h=>h) (fun r hr=>by rw [bC]; rfl),?_⟩
         conv=>whnf
         refine ⟨_,rfl,?_⟩;conv=>whnf
         refine ⟨(some (B,d),p),[1],by rw [show aL.args (some (B,d),p)=[.slice (some ⟨0,0,none⟩) nb d,p.v] from by rw [bX]; rfl]; rfl,⟨fB,PV.aQ sp (by decide)⟩,?_⟩
         rw [show aL.ae (some (B,d),p)=[.flat false nb 6 gb] from by rw [bX,cU]; rfl,show aL.val (some (B,d),p)=.int .i64 1 from congrArg (Value.int .i64) iy,show aL.new (some (B,d),p)=none from rfl]
         conv=>whnf
         refine ⟨ar.aE (fun h=>h) (fun r hr=>by rw [cU]; rfl),?_⟩
         conv=>whnf
         refine ⟨_,rfl,?_⟩;conv=>whnf
         refine ⟨(some (ai R,cu),some (A,c)),[4,0],by rw [show bJ.args (some (ai R,cu),some (A,c))=[.slice (some ⟨0,0,none⟩) (m+1) cu,.slice (some ⟨1,0,none⟩) na c] from by rw [← hl,bt]; rfl]; rfl,⟨⟨fR,fA⟩,vN⟩,?_⟩
         rw [show bJ.ae (some (ai R,cu),some (A,c))=[.flat false (m+1) 6 E,.flat false na 6 ga] from by rw [← hl,hE,bt,bC]; rfl,show bJ.val (some (ai R,cu),some (A,c))=.tuple ⟨[.slice (some ⟨2,0,none⟩) (m+1) cu,.int .i64 0]⟩ from by rw [dp] at e3 ⊢; rw [e3.1,← hm]; rfl,show bJ.new (some (ai R,cu),some (A,c))=some (.flat true (m+1) 6 E) from by rw [e3.2.1]; unfold cg; rw [← hm,hE]]
         conv=>whnf
         refine ⟨ar.aE (fun h=>by cases h) (fun r hr=>by rw [hE]; rfl),ar.aE (fun h=>h) (fun r hr=>by rw [bC]; rfl),?_⟩
         conv=>whnf
         refine ⟨_,rfl,?_⟩;conv=>whnf
         refine .inl ⟨35,[[],[0],[0,1],[0,1,2],[0,1,2,3],[0,1,2,3],[0,1,2,3,4,5],[0,1,2,3,4,5,6],[0,1,2,3],[0,1,2,3,4,5,6,7,8],[0,1,2,3,4,5,6,7,8,9],[0,1,2,3,4,5,6,7,8,9,10],[0,1,2,3,4,5,6,7,8,9,10,11],[0,1,2,3,4,5,6,7,8,9,10,11],[0,1,2,3,4,5,6,7,8,9,10,11,12,13],[0,1,2,3,4,5,6,7,8,9,10,11,12,13,14],[0,1,2,3,4,5,6,7,8,9,10,11],[0,1,2,3,4,5,6,7,8,9,10,11],[0,1,2,3,4,5,6,7,8,9,10,11,12,13,14,16,17],[0,1,2,3,4,5,6,7,8,9,10,11,12,13,14,16,17,18],[0,1,2,3,4,5,6,7,8,9,10,11,12,13,14,16,17,18,19],[0,1,2,3,4,5,6,7,8,9,10,11,12,13,14,16,17,18,19,20],[0,1,2,3,4,5,6,7,8,9,10,11,12,13,14,16,17,18,19,20],[0,1,2,3,4,5,6,7,8,9,10,11,12,13,14,16,17,18,19,20,21,22],[0,1,2,3,4,5,6,7,8,9,10,11,12,13,14,16,17,18,19,20,21,22,23],[0,1,2,3,4,5,6,7,8,9,10,11,12,13,14,16,17,18,19,20,21,22,23,24],[0,1,2,3,4,5,6,7,8,9,10,11,12,13,14,15,16,17,18,19,20,21,22,23,24,25],[0,1,2,3,4,5,6,7,8,9,10,11,12,13,14,15,16,17,18,19,20,21,22,23,24,25,26],[0,1,2,3,4,5,6,7,8,9,10,11,12,13,14,15,16,17,18,19,20,21,22,23,24,25,26,27],[0,1,2,3,4,5,6,7,8,9,10,11,12,13,14,15,16,17,18,19,20,21,22,23,24,25,26,27,28],[0,1,2,3,4,5,6,7,8,9,10,11,12,13,14,15,16,17,18,19,20,21,22,23,24,25,26,27,28,29],[0,1,2,3,4,5,6,7,8,9,10,11,12,13,14,15,16,17,18,19,20,21,22,23,24,25,26,27,28,29,30],[0,1,2,3,4,5,6,7,8,9,10,11,12,13,14,15,16,17,18,19,20,21,22,23,24,25,26,27,28,29,30,31],[0,1,2,3,4,5,6,7,8,9,10,11,12,13,14,15,16,17,18,19,20,21,22,23,24,25,26,27,28,29,30,31,32],[0,1,2,3,4,5,6,7,8,9,10,11,12,13,14,15,16,17,18,19,20,21,22,23,24,25,26,27,28,29,30,31,32],[0,1,2,3,4,5,6,7,8,9,10,11,12,13,14,15,16,17,18,19,20,21,22,23,24,25,26,27,28,29,30,31,32,33,34],[0,1,2,3,4,5,6,7,8,9,10,11,12,13,14,15,16,17,18,19,20,21,22,23,24,25,26,27,28,29,30,31,32,33,34,35],[0,1,2,3,4,5,6,7,8,9,10,11,12,13,14,15,16,17,18,19,20,21,22,23,24,25,26,27,28,29,30,31,32,33,34,35,36],[0,1,2,3,4,5,6,7,8,9,10,11,12,13,14,15,16,17,18,19,20,21,22,23,24,25,26,27,28,29,30,31,32,33,34,35,36,37],[0,1,2,3,4,5,6,7,8,9,10,11,12,13,14,15,16,17,18,19,20,21,22,23,24,25,26,27,28,29,30,31,32,33,34,35,36,37,38],[0,1,2,3,4,5,6,7,8,9,10,11,12,13,14,15,16,17,18,19,20,21,22,23,24,25,26,27,28,29,30,31,32,33,34,35,36,37,38,39]],by kernel_rfl,?_⟩
         conv=>whnf
         refine ⟨some (ai R,cu),[4],by rw [show aX.args (some (ai R,cu))=[.slice (some ⟨0,0,none⟩) (m+1) cu] from by rw [← hl]; rfl]; rfl,fR,?_⟩
         rw [show aX.ae (some (ai R,cu))=[.flat false (m+1) 6 E] from by rw [← hl,hE]; rfl,show aX.val (some (ai R,cu))=.int .i64 0 from congrArg (Value.int .i64) hk,show aX.new (some (ai R,cu))=none from rfl]
         conv=>whnf
         refine ⟨ar.aE (fun h=>by cases h) (fun r hr=>by rw [hE]; rfl),?_⟩
         conv=>whnf
         refine ⟨_,rfl,?_⟩;conv=>whnf
         refine ⟨(some (ai R,cu),p),[4],by rw [show aL.args (some (ai R,cu),p)=[.slice (some ⟨0,0,none⟩) (m+1) cu,p.v] from by rw [← hl]; rfl]; rfl,⟨fR,PV.aQ sp (by decide)⟩,?_⟩
         rw [show aL.ae (some (ai R,cu),p)=[.flat false (m+1) 6 E] from by rw [← hl,hE]; rfl,show aL.val (some (ai R,cu),p)=.int .i64 1 from congrArg (Value.int .i64) iz,show aL.new (some (ai R,cu),p)=none from rfl]
         conv=>whnf
         refine ⟨ar.aE (fun h=>by cases h) (fun r hr=>by rw [hE]; rfl),?_⟩
         conv=>whnf
         refine ⟨_,rfl,?_⟩;conv=>whnf
         refine ⟨(some (ai R,cu),p),[4],by rw [show aL.args (some (ai R,cu),p)=[.slice (some ⟨0,0,none⟩) (m+1) cu,p.v] from by rw [← hl]; rfl]; rfl,⟨fR,PV.aQ sp (by decide)⟩,?_⟩
         rw [show aL.ae (some (ai R,cu),p)=[.flat false (m+1) 6 E] from by rw [← hl,hE]; rfl,show aL.val (some (ai R,cu),p)=.int .i64 1 from congrArg (Value.int .i64) iz,show aL.new (some (ai R,cu),p)=none from rfl]
         conv=>whnf
         refine ⟨ar.aE (fun h=>by cases h) (fun r hr=>by rw [hE]; rfl),?_⟩
         conv=>whnf
         refine ⟨_,rfl,?_⟩;conv=>whnf
         refine ⟨(some (A,c),p),[0],by rw [show aL.args (some (A,c),p)=[.slice (some ⟨0,0,none⟩) na c,p.v] from by rw [bt]; rfl]; rfl,⟨fA,PV.aQ sp (by decide)⟩,?_⟩
         rw [show aL.ae (some (A,c),p)=[.flat false na 6 ga] from by rw [bt,bC]; rfl,show aL.val (some (A,c),p)=.int .i64 1 from congrArg (Value.int .i64) ix,show aL.new (some (A,c),p)=none from rfl]
         conv=>whnf
         refine ⟨ar.aE (fun h=>h) (fun r hr=>by rw [bC]; rfl),?_⟩
         conv=>whnf
         refine ⟨_,rfl,?_⟩;conv=>whnf
         refine ⟨(some (B,d),p),[1],by rw [show aL.args (some (B,d),p)=[.slice (some ⟨0,0,none⟩) nb d,p.v] from by rw [bX]; rfl]; rfl,⟨fB,PV.aQ sp (by decide)⟩,?_⟩
         rw [show aL.ae (some (B,d),p)=[.flat false nb 6 gb] from by rw [bX,cU]; rfl,show aL.val (some (B,d),p)=.int .i64 1 from congrArg (Value.int .i64) iy,show aL.new (some (B,d),p)=none from rfl]
         conv=>whnf
         refine ⟨ar.aE (fun h=>h) (fun r hr=>by rw [cU]; rfl),?_⟩
         conv=>whnf
         refine ⟨_,rfl,?_⟩;conv=>whnf
         refine ⟨(some (ai R,cu),some (ai R,cu)),[6,4],by rw [show cm.args (some (ai R,cu),some (ai R,cu))=[.slice (some ⟨0,0,none⟩) (m+1) cu,.slice (some ⟨1,0,none⟩) (m+1) cu] from by rw [← hl]; rfl]; rfl,⟨by show (ai R).length≤_; omega,by show (ai R).length≤_; omega⟩,?_⟩
         rw [show cm.ae (some (ai R,cu),some (ai R,cu))=[.flat false (m+1) 6 E,.flat false (m+1) 6 E] from by rw [← hl,hE]; rfl,show cm.val (some (ai R,cu),some (ai R,cu))=.bool true from congrArg Value.bool (decide_eq_true rfl),show cm.new (some (ai R,cu),some (ai R,cu))=none from rfl]
         conv=>whnf
         refine ⟨ar.aE (fun h=>by cases h) (fun r hr=>by rw [hE]; rfl),ar.aE (fun h=>by cases h) (fun r hr=>by rw [hE]; rfl),?_⟩
         conv=>whnf
         refine ⟨.bool true,rfl,?_⟩;conv=>whnf
         conv=>whnf
         refine ⟨(),rfl,trivial,?_⟩;conv=>whnf
         exact fin _
open Go Go.Ae Go.ChangeShapes Go.WideShapes Go.ChangeAt Go.RowKit
theorem own:ownKnob Tryz.prog.godebug=none:=by kernel_rfl
theorem laidOut:laidOutB Tryz.prog=true:=by kernel_rfl
set_option maxRecDepth 100000 in
theorem P5:Dj Tryz.prog 24 26 4 9 :=
 ⟨⟨_,_,_,Tryz.underlying24,⟨rfl,rfl⟩,⟨rfl,rfl⟩,rfl,rfl⟩,⟨_,_,Tryz.underlying26,⟨rfl,rfl⟩,rfl,rfl⟩,Tryz.underlying4,Tryz.underlying9,by kernel_rfl,by kernel_rfl,by kernel_rfl,by kernel_rfl⟩
def zP:Value:=.agg #[.bool false,.string ⟨#[]⟩,.string ⟨#[]⟩,.bool false,.string ⟨#[]⟩,.string ⟨#[]⟩]
set_option maxRecDepth 100000 in
theorem TY {w:World} {r:Reach} {base:Nat} {v:Value} (h:Value.okWide Tryz.prog w r base 26 v):∃ p:PV,v=p.v :=
 XD Tryz.underlying26 (b:=4) (s:=9) (by kernel_rfl) (by kernel_rfl) Tryz.underlying4 Tryz.underlying9 h
set_option maxRecDepth 100000 in
theorem Rn (os:Os) (started:os.Started) (H:Type) (enc:TypeId × Value→H) :
  ReturnsInHanded {} Tryz.checked os 6 .any (Rows.convexMeetsSpec.pre6 enc Tryz.prog Tryz.f6 Rows.convexMeetsRow.domain false) (Rows.convexMeetsSpec.post enc Tryz.prog Tryz.f6 false true false false):=by
 refine returnsInHanded_of_change_sized (C:=Tryz.checked) own started (by kernel_rfl) Tryz.func6
  (ChangeSpec.witness6 (enc:=enc) (C:=Tryz.checked) false ⟨#[],#[.slice none 0 0,.slice none 0 0,zP],[]⟩ 8 (by kernel_rfl) (by kernel_rfl) (by kernel_rfl) (by kernel_rfl)) ?_
 intro W base args ds gs before Pb hW aeE o9 _;have xI:∀ (j:Nat) t v,Tryz.f6.params[j]?=some t→args[j]?=some v→Value.okWide Tryz.prog W .any base t v:=Pb;have hW':=hW;obtain ⟨p,q,xT,hV,rfl,I9,mz⟩:=hW;have hA:DataW.TrodAll enc Tryz.prog W 0 (fun _=>true) true Tryz.f6.params.toList args.toList ds p:=xT
 have hz:(DataW.weightsEach Tryz.prog (Tryz.f6.params.toList++Rows.convexMeetsSpec.plain.varTypes Tryz.prog) (ds++gs)).all (·≤reachBytes)=true:=o9;rw [Tryz.params6] at hA xI hz;obtain ⟨v0,vs0,d0,ds0,p0,q0,nL,rfl,rfl,h0,r0⟩:=trodAll_cons hA;obtain ⟨v1,vs1,d1,ds1,p1,q1,rfl,rfl,rfl,h1,r1⟩:=trodAll_cons r0;obtain ⟨v2,vs2,d2,ds2,p2,q2,rfl,rfl,rfl,J,r2⟩:=trodAll_cons r1;obtain ⟨rfl,rfl,rfl⟩:=trodAll_nil r2;obtain rfl:args=#[v0,v1,v2]:=by cases args; simp_all
 obtain ⟨rfl,rfl⟩:=trodVars_none hV;obtain ⟨a0,bn,i0,z0,hv0,Jg,ael⟩:=Kq P5 Tryz.underlying22 (xI 0 22 v0 rfl rfl) h0;have z0:=z0 80 reachBytes (fun elems spare e=>sized_slice (e:=26) hz (j:=0) (t:=22) rfl (by rw [e]; rfl) Tryz.underlying22)
 obtain ⟨a1,dQ,i1,z1,lM,kf,uW⟩:=Kq P5 Tryz.underlying22 (xI 1 22 v1 rfl rfl) h1;have z1:=z1 80 reachBytes (fun elems spare e=>sized_slice (e:=26) hz (j:=1) (t:=22) rfl (by rw [e]; rfl) Tryz.underlying22)
 obtain ⟨a2,rfl⟩:=TY (xI 2 26 v2 rfl rfl);have lt0:∀ x∈p0,x.block < W.heap.size:=by obtain ⟨m,hm⟩:=h0; exact DataW.trod_lt m _ _ _ hm
 have lt1:∀ x∈p1,x.block < W.heap.size:=by obtain ⟨m,hm⟩:=h1; exact DataW.trod_lt m _ _ _ hm
 have lt2:∀ x∈p2,x.block < W.heap.size:=by obtain ⟨m,hm⟩:=J; exact DataW.trod_lt m _ _ _ hm
 clear xT Pb;obtain ⟨ν,hH,hn,hu0,qP⟩:=acn hv0 Jg ael lM kf uW;have abI:bg ν (qL.args ((((a0,a1),a2):lN × PV))) [v0,v1,a2.v]:=.cons hu0 (.cons qP (.cons ((AV (v:=PV.v a2) rfl).1 ν) (.nil ν)));refine (RD abH (i:=(((a0,a1),a2):lN × PV)) (⟨z0,z1⟩) abI hH hn (b:=true) rfl).mono fun e W' ⟨he,D2⟩=>?_
 subst he;exact ⟨_,rfl,_,_,_,[],_,[],hW',trodAll_mk1 (shut_bool Tryz.underlying4 _),(trodAll_cons_mk (Below.trod laidOut (by kernel_rfl) (of_decide_eq_true (by kernel_rfl)) h0 D2 lt0) (trodAll_cons_mk (Below.trod laidOut (by kernel_rfl) (of_decide_eq_true (by kernel_rfl)) h1 D2 lt1) (trodAll_cons_mk (Below.trod laidOut (by kernel_rfl) (of_decide_eq_true (by kernel_rfl)) J D2 lt2) trodAll_mk0))),rfl,D2.frame _,fun h=>by cases h⟩
theorem Ro:Rows.convexMeetsRow.holds Tryz.pinned (OpenSpec.ofChange Rows.convexMeetsSpec) :=
 OpenClaim.holds_of_wide 6 Tryz.f6 rfl rfl rfl rfl rfl rfl rfl ⟨rfl,rfl,rfl,rfl,rfl⟩ rfl rfl rfl rfl rfl (by kernel_rfl) Tryz.func6 (by kernel_rfl)
  (of_decide_eq_true (by kernel_rfl)) (by unfold Func.isWrapper; first | (rw [if_pos (by decide +kernel)]; kernel_rfl) | (rw [if_neg (by decide +kernel)]; exact ⟨rfl,rfl⟩))
  (fun os started H enc _=>Rn os started H enc)
theorem convexMeets_proved:Rows.ConvexMeetsSaid:=Ro
end Go.Proofs.YtlapbjdhekcipaaGreat
