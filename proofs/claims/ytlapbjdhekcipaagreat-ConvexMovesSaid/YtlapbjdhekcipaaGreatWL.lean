import Derived.Test.YtlapbjdhekcipaaGreatRows
import Derived.Test.YtlapbjdhekcipaaGreatWK
set_option linter.unusedVariables false
set_option linter.unusedSimpArgs false
set_option maxRecDepth 20000
set_option maxHeartbeats 4000000
namespace Go.Proofs.YtlapbjdhekcipaaGreat
open Go Go.Ae
def Ei8:Env:=tH [(13,.p ON),(26,.p Dz),(46,.q eM),(29,.p nZ),(16,.q dn),(23,.q aV),(40,.q (dj true)),(42,.q (dj false)),(44,.q cB),(18,.q fN)] [(25,cD Ka cR Tryz.f25)]
theorem adN:EnvOk Tryz.prog Ei8:=vw ⟨Um,Un,W5,GX,ND,B5,Ui,W3,Ou,NF,trivial⟩ ⟨ZV,trivial⟩
theorem ab8:dq Tryz.prog 9 qW:=by
 refine eJ adN aQ Tryz.func9 (enters_of Tryz.func9 (by kernel_rfl) rfl) ?_ ?_ ?_
 ·intro ⟨⟨i,k⟩,_⟩ B hb;cases i <;> cases k <;> simp [qW,PL.ah] at hb
  ·rw [hb]; rfl
  ·rw [hb]; rfl
  ·rcases hb with rfl | rfl <;> rfl
 ·intro i b hb; simp [qW] at hb
 intro ⟨⟨i,k⟩,p⟩ hp;have hp:i.list.length*80≤140737488351232∧k.list.length*80≤140737488351232:=hp;obtain ⟨tD,dT⟩:=hp;have fin:∀ n,∃ v',cT (List.range n) 3 (qW.val ((i,k),p))=some v'∧fp (.bool true) v':=fun n=>⟨.bool true,rfl,.refl _⟩
 cases i with
 | none =>
  cases k with
  | none =>
   conv=>whnf
   refine .inr ⟨3,?_⟩;conv=>whnf
   refine ⟨⟨by decide,by decide⟩,?_⟩
   conv=>whnf
   refine ⟨none,[],rfl,by show 0≤9223372036854775807; decide,?_⟩
   rw [show fj.ah none=[] from rfl,show fj.val none=.bool true from rfl,show fj.new none=none from rfl]
   conv=>whnf
   refine ⟨_,rfl,?_⟩;conv=>whnf
   conv=>whnf
   refine ⟨(),rfl,trivial,?_⟩;conv=>whnf
   exact fin _
  | some k =>
   obtain ⟨B,d⟩:=k;conv=>whnf
   refine .inr ⟨3,?_⟩;conv=>whnf
   refine ⟨⟨by decide,by decide⟩,?_⟩
   conv=>whnf
   refine ⟨none,[],rfl,by show 0≤9223372036854775807; decide,?_⟩
   rw [show fj.ah none=[] from rfl,show fj.val none=.bool true from rfl,show fj.new none=none from rfl]
   conv=>whnf
   refine ⟨_,rfl,?_⟩;conv=>whnf
   conv=>whnf
   refine ⟨(),rfl,trivial,?_⟩;conv=>whnf
   exact fin _
 | some i =>
  obtain ⟨A,c⟩:=i;have tD:A.length*80≤140737488351232:=tD;obtain ⟨na,bA⟩:∃ n,n=A.length:=⟨_,rfl⟩;obtain ⟨ga,bX⟩:∃ g,g=di A:=⟨_,rfl⟩;cases k with
  | none =>
   rw [show qW.ah ((some (A,c),none),p)=[.flat false na 6 ga] from by rw [bA,bX]; rfl,show qW.args ((some (A,c),none),p)=[.slice (some ⟨0,0,none⟩) na c,.slice none 0 0,p.v] from by rw [bA]; rfl]
   conv=>whnf
   refine .inr ⟨3,?_⟩;conv=>whnf
   refine ⟨⟨by decide,by decide⟩,?_⟩
   conv=>whnf
   obtain ⟨G,hG⟩:∃ G,G=ku A:=⟨_,rfl⟩;refine ⟨some (A,c),[0],by rw [show fj.args (some (A,c))=[.slice (some ⟨0,0,none⟩) na c] from by rw [bA]; rfl]; rfl,by show List.length (A:List PV)≤9223372036854775807; omega,?_⟩
   rw [show fj.ah (some (A,c))=[.flat false na 6 ga] from by rw [bA,bX]; rfl,show fj.val (some (A,c))=.bool G from by rw [hG]; rfl,show fj.new (some (A,c))=none from rfl]
   conv=>whnf
   refine ⟨aD.aP (fun h=>h) (fun r hr=>by rw [bX]; rfl),?_⟩
   conv=>whnf
   refine ⟨_,rfl,?_⟩;conv=>whnf
   cases G with
   | true =>
    conv=>whnf
    conv=>whnf
    refine ⟨(),rfl,trivial,?_⟩;conv=>whnf
    exact fin _
   | false =>
    conv=>whnf
    refine ⟨⟨by decide,by decide⟩,?_⟩
    conv=>whnf
    refine ⟨none,[],rfl,by show 0≤9223372036854775807; decide,?_⟩
    rw [show fj.ah none=[] from rfl,show fj.val none=.bool true from rfl,show fj.new none=none from rfl]
    conv=>whnf
    refine ⟨_,rfl,?_⟩;conv=>whnf
    conv=>whnf
    refine ⟨(),rfl,trivial,?_⟩;conv=>whnf
    exact fin _
  | some k =>
   obtain ⟨B,d⟩:=k;have dT:B.length*80≤140737488351232:=dT;obtain ⟨nb,bJ⟩:∃ n,n=B.length:=⟨_,rfl⟩;obtain ⟨gb,cO⟩:∃ g,g=di B:=⟨_,rfl⟩;rw [show qW.ah ((some (A,c),some (B,d)),p)=[.flat false na 6 ga,.flat false nb 6 gb] from by rw [bA,bX,bJ,cO]; rfl,show qW.args ((some (A,c),some (B,d)),p)=[.slice (some ⟨0,0,none⟩) na c,.slice (some ⟨1,0,none⟩) nb d,p.v] from by rw [bA,bJ]; rfl]
   conv=>whnf
   refine .inr ⟨3,?_⟩;conv=>whnf
   refine ⟨⟨by decide,by decide⟩,?_⟩
   conv=>whnf
   obtain ⟨G,hG⟩:∃ G,G=ku A:=⟨_,rfl⟩;refine ⟨some (A,c),[0],by rw [show fj.args (some (A,c))=[.slice (some ⟨0,0,none⟩) na c] from by rw [bA]; rfl]; rfl,by show List.length (A:List PV)≤9223372036854775807; omega,?_⟩
   rw [show fj.ah (some (A,c))=[.flat false na 6 ga] from by rw [bA,bX]; rfl,show fj.val (some (A,c))=.bool G from by rw [hG]; rfl,show fj.new (some (A,c))=none from rfl]
   conv=>whnf
   refine ⟨aD.aP (fun h=>h) (fun r hr=>by rw [bX]; rfl),?_⟩
   conv=>whnf
   refine ⟨_,rfl,?_⟩;conv=>whnf
   cases G with
   | true =>
    conv=>whnf
    conv=>whnf
    refine ⟨(),rfl,trivial,?_⟩;conv=>whnf
    exact fin _
   | false =>
    obtain ⟨l10,pQ,kA⟩:=Og hG.symm;conv=>whnf
    refine ⟨⟨by decide,by decide⟩,?_⟩
    conv=>whnf
    obtain ⟨H,hH⟩:∃ G,G=ku B:=⟨_,rfl⟩;refine ⟨some (B,d),[1],by rw [show fj.args (some (B,d))=[.slice (some ⟨0,0,none⟩) nb d] from by rw [bJ]; rfl]; rfl,by show List.length (B:List PV)≤9223372036854775807; omega,?_⟩
    rw [show fj.ah (some (B,d))=[.flat false nb 6 gb] from by rw [bJ,cO]; rfl,show fj.val (some (B,d))=.bool H from by rw [hH]; rfl,show fj.new (some (B,d))=none from rfl]
    conv=>whnf
    refine ⟨aD.aP (fun h=>h) (fun r hr=>by rw [cO]; rfl),?_⟩
    conv=>whnf
    refine ⟨_,rfl,?_⟩;conv=>whnf
    cases H with
    | true =>
     conv=>whnf
     conv=>whnf
     refine ⟨(),rfl,trivial,?_⟩;conv=>whnf
     exact fin _
    | false =>
     obtain ⟨m10,pR,kB⟩:=Og hH.symm;conv=>whnf
     obtain ⟨x,hx⟩:∃ x,x=decide (PV.sz 12 p∧p.canon):=⟨_,rfl⟩;refine ⟨p,rfl,trivial,?_⟩;rw [show Dz.val p=.bool x from by rw [hx]; rfl]
     conv=>whnf
     cases x with
     | false =>
      conv=>whnf
      conv=>whnf
      refine ⟨(),rfl,trivial,?_⟩;conv=>whnf
      exact fin _
     | true =>
      obtain ⟨sp,cp⟩:=of_decide_eq_true hx.symm;obtain ⟨cu,dQ⟩:∃ cu,cu=aO:=⟨_,rfl⟩;have zA:=iY kA;have zB:=iY kB;obtain ⟨gc,gB⟩:∃ g,g=bI (aG A p):=⟨_,rfl⟩;obtain ⟨gd,jI⟩:∃ g,g=bI (aG B p):=⟨_,rfl⟩;conv=>whnf
      have fo:na=(ak (aG A p)).length:=by rw [rP,lF,bA]
      have fh:nb=(ak (aG B p)).length:=by rw [rP,lF,bJ]
      have kC:=ss (w:=p) kA;have kD:=ss (w:=p) kB;have Kb:=Py pQ sp;have Kc:=Py pR sp;have fA:PL.fit (some (A,c)):=⟨by show A.length≤_; omega,Dy pQ⟩
      have fB:PL.fit (some (B,d)):=⟨by show B.length≤_; omega,Dy pR⟩
      have fC:PL.fit (some (ak (aG A p),cu)):=⟨by show (ak (aG A p)).length≤_; omega,fun v hv=>PV.aX (Kb v hv) (by decide)⟩
      have fD:PL.fit (some (ak (aG B p),cu)):=⟨by show (ak (aG B p)).length≤_; omega,fun v hv=>PV.aX (Kc v hv) (by decide)⟩
      refine ⟨(some (A,c),p),[0,2],by rw [show eM.args (some (A,c),p)=[.slice (some ⟨0,0,none⟩) na c,.pointer (some ⟨1,0,none⟩)] from by rw [bA]; rfl]; rfl,⟨by show List.length (A:List PV)≤_; omega,(fun v hv=>PV.aX (pQ v hv) (by decide)),PV.aX sp (by decide)⟩,?_⟩
      rw [show eM.ah (some (A,c),p)=[.flat false na 6 ga,.flat false 1 6 (fun _=>p.cells)] from by rw [bA,bX]; rfl,show eM.val (some (A,c),p)=.slice (some ⟨2,0,none⟩) na cu from by show cW 2 (aG A p).length=_; rw [lF,← bA,GQ (by omega),dQ],show eM.new (some (A,c),p)=some (.flat true na 6 gc) from by show cl (aG A p)=_; rw [w9 ((lF A p).trans bA.symm) (by omega),gB]]
      conv=>whnf
      refine ⟨aD.aP (fun h=>h) (fun r hr=>by rw [bX]; rfl),xm p,?_⟩
      conv=>whnf
      refine ⟨_,rfl,?_⟩;conv=>whnf
      refine ⟨(some (B,d),p),[1,2],by rw [show eM.args (some (B,d),p)=[.slice (some ⟨0,0,none⟩) nb d,.pointer (some ⟨1,0,none⟩)] from by rw [bJ]; rfl]; rfl,⟨by show List.length (B:List PV)≤_; omega,(fun v hv=>PV.aX (pR v hv) (by decide)),PV.aX sp (by decide)⟩,?_⟩
      rw [show eM.ah (some (B,d),p)=[.flat false nb 6 gb,.flat false 1 6 (fun _=>p.cells)] from by rw [bJ,cO]; rfl,show eM.val (some (B,d),p)=.slice (some ⟨2,0,none⟩) nb cu from by show cW 2 (aG B p).length=_; rw [lF,← bJ,GQ (by omega),dQ],show eM.new (some (B,d),p)=some (.flat true nb 6 gd) from by show cl (aG B p)=_; rw [w9 ((lF B p).trans bJ.symm) (by omega),jI]]
      conv=>whnf
      refine ⟨aD.aP (fun h=>h) (fun r hr=>by rw [cO]; rfl),xm p,?_⟩
      conv=>whnf
      refine ⟨_,rfl,?_⟩;conv=>whnf
      obtain ⟨⟨x1,e1⟩,og⟩:∃ x,x=gH true A B:=⟨_,rfl⟩;obtain ⟨⟨x2,e2⟩,lZ⟩:∃ x,x=gH false A B:=⟨_,rfl⟩;obtain ⟨⟨R,e3⟩,hR⟩:∃ x,x=c8 A B:=⟨_,rfl⟩;have hR2:=acO (w:=p) kA kB hR;have m1:=Pw (i:=some (A,c)) (k:=some (B,d)) hR;have m2:=Pw (i:=some (ak (aG A p),cu)) (k:=some (ak (aG B p),cu)) hR2;obtain ⟨m,hm⟩:∃ m,m=R.length:=⟨_,rfl⟩;refine ⟨(some (A,c),some (B,d)),[0,1],by rw [show aY.args (dj true) (some (A,c),some (B,d))=[.slice (some ⟨0,0,none⟩) na c,.slice (some ⟨1,0,none⟩) nb d] from by rw [bA,bJ]; rfl]; rfl,⟨fA,fB⟩,?_⟩
      rw [show aY.ah (dj true) (some (A,c),some (B,d))=[.flat false na 6 ga,.flat false nb 6 gb] from by rw [bA,bX,bJ,cO]; rfl,show aY.val (dj true) (some (A,c),some (B,d))=.tuple ⟨[.bool x1,.int .i64 e1]⟩ from by show Value.tuple ⟨[.bool (gH true A B).1,.int .i64 (gH true A B).2]⟩=_; rw [← og],show aY.new (dj true) (some (A,c),some (B,d))=none from rfl]
      conv=>whnf
      refine ⟨aD.aP (fun h=>h) (fun r hr=>by rw [bX]; rfl),aD.aP (fun h=>h) (fun r hr=>by rw [cO]; rfl),?_⟩
      conv=>whnf
      refine ⟨_,rfl,?_⟩;conv=>whnf
      refine ⟨(some (ak (aG A p),cu),some (ak (aG B p),cu)),[4,5],by rw [show aY.args (dj true) (some (ak (aG A p),cu),some (ak (aG B p),cu))=[.slice (some ⟨0,0,none⟩) na cu,.slice (some ⟨1,0,none⟩) nb cu] from by rw [fo,fh]; rfl]; rfl,⟨fC,fD⟩,?_⟩
      rw [show aY.ah (dj true) (some (ak (aG A p),cu),some (ak (aG B p),cu))=[.flat false na 6 gc,.flat false nb 6 gd] from by rw [fo,gB,fh,jI]; rfl,show aY.val (dj true) (some (ak (aG A p),cu),some (ak (aG B p),cu))=.tuple ⟨[.bool x1,.int .i64 e1]⟩ from by show Value.tuple ⟨[.bool (gH true (ak (aG A p)) (ak (aG B p))).1,.int .i64 (gH true (ak (aG A p)) (ak (aG B p))).2]⟩=_; rw [O2 kA kB,← og],show aY.new (dj true) (some (ak (aG A p),cu),some (ak (aG B p),cu))=none from rfl]
      conv=>whnf
      refine ⟨aD.aP (fun h=>by cases h) (fun r hr=>by rw [gB]; rfl),aD.aP (fun h=>by cases h) (fun r hr=>by rw [jI]; rfl),?_⟩
      conv=>whnf
      refine ⟨_,rfl,?_⟩;conv=>whnf
      refine ⟨(some (A,c),some (B,d)),[0,1],by rw [show aY.args (dj false) (some (A,c),some (B,d))=[.slice (some ⟨0,0,none⟩) na c,.slice (some ⟨1,0,none⟩) nb d] from by rw [bA,bJ]; rfl]; rfl,⟨fA,fB⟩,?_⟩
      rw [show aY.ah (dj false) (some (A,c),some (B,d))=[.flat false na 6 ga,.flat false nb 6 gb] from by rw [bA,bX,bJ,cO]; rfl,show aY.val (dj false) (some (A,c),some (B,d))=.tuple ⟨[.bool x2,.int .i64 e2]⟩ from by show Value.tuple ⟨[.bool (gH false A B).1,.int .i64 (gH false A B).2]⟩=_; rw [← lZ],show aY.new (dj false) (some (A,c),some (B,d))=none from rfl]
      conv=>whnf
      refine ⟨aD.aP (fun h=>h) (fun r hr=>by rw [bX]; rfl),aD.aP (fun h=>h) (fun r hr=>by rw [cO]; rfl),?_⟩
      conv=>whnf
      refine ⟨_,rfl,?_⟩;conv=>whnf
      refine ⟨(some (ak (aG A p),cu),some (ak (aG B p),cu)),[4,5],by rw [show aY.args (dj false) (some (ak (aG A p),cu),some (ak (aG B p),cu))=[.slice (some ⟨0,0,none⟩) na cu,.slice (some ⟨1,0,none⟩) nb cu] from by rw [fo,fh]; rfl]; rfl,⟨fC,fD⟩,?_⟩
      rw [show aY.ah (dj false) (some (ak (aG A p),cu),some (ak (aG B p),cu))=[.flat false na 6 gc,.flat false nb 6 gd] from by rw [fo,gB,fh,jI]; rfl,show aY.val (dj false) (some (ak (aG A p),cu),some (ak (aG B p),cu))=.tuple ⟨[.bool x2,.int .i64 e2]⟩ from by show Value.tuple ⟨[.bool (gH false (ak (aG A p)) (ak (aG B p))).1,.int .i64 (gH false (ak (aG A p)) (ak (aG B p))).2]⟩=_; rw [O2 kA kB,← lZ],show aY.new (dj false) (some (ak (aG A p),cu),some (ak (aG B p),cu))=none from rfl]
      conv=>whnf
      refine ⟨aD.aP (fun h=>by cases h) (fun r hr=>by rw [gB]; rfl),aD.aP (fun h=>by cases h) (fun r hr=>by rw [jI]; rfl),?_⟩
      conv=>whnf
      refine ⟨_,rfl,?_⟩;conv=>whnf
      cases m with
      | zero =>
       obtain rfl:R=[]:=List.eq_nil_of_length_eq_zero hm.symm;refine ⟨(some (A,c),some (B,d)),[0,1],by rw [show aY.args dn (some (A,c),some (B,d))=[.slice (some ⟨0,0,none⟩) na c,.slice (some ⟨1,0,none⟩) nb d] from by rw [bA,bJ]; rfl]; rfl,⟨⟨fA,fB⟩,HO pQ pR⟩,?_⟩
       rw [show aY.ah dn (some (A,c),some (B,d))=[.flat false na 6 ga,.flat false nb 6 gb] from by rw [bA,bX,bJ,cO]; rfl,show aY.val dn (some (A,c),some (B,d))=.tuple ⟨[.slice none 0 0,.int .i64 e3]⟩ from m1.1,show aY.new dn (some (A,c),some (B,d))=none from m1.2.1]
       conv=>whnf
       refine ⟨aD.aP (fun h=>h) (fun r hr=>by rw [bX]; rfl),aD.aP (fun h=>h) (fun r hr=>by rw [cO]; rfl),?_⟩
       conv=>whnf
       refine ⟨_,rfl,?_⟩;conv=>whnf
       refine ⟨(some (ak (aG A p),cu),some (ak (aG B p),cu)),[4,5],by rw [show aY.args dn (some (ak (aG A p),cu),some (ak (aG B p),cu))=[.slice (some ⟨0,0,none⟩) na cu,.slice (some ⟨1,0,none⟩) nb cu] from by rw [fo,fh]; rfl]; rfl,⟨⟨fC,fD⟩,Ol Kb Kc⟩,?_⟩
       rw [show aY.ah dn (some (ak (aG A p),cu),some (ak (aG B p),cu))=[.flat false na 6 gc,.flat false nb 6 gd] from by rw [fo,gB,fh,jI]; rfl,show aY.val dn (some (ak (aG A p),cu),some (ak (aG B p),cu))=.tuple ⟨[.slice none 0 0,.int .i64 e3]⟩ from m2.1,show aY.new dn (some (ak (aG A p),cu),some (ak (aG B p),cu))=none from m2.2.1]
       conv=>whnf
       refine ⟨aD.aP (fun h=>by cases h) (fun r hr=>by rw [gB]; rfl),aD.aP (fun h=>by cases h) (fun r hr=>by rw [jI]; rfl),?_⟩
       conv=>whnf
       refine ⟨_,rfl,?_⟩;conv=>whnf
       rcases O3 (w:=p) kA kB with ⟨s1,s2⟩ | ⟨a0,b0,ma,mb,s1,s2⟩
       ·obtain ⟨zx,Kd⟩:∃ x,x=ko:=⟨_,rfl⟩;rw [← Kd] at s1 s2;refine ⟨(some (A,c),some (B,d)),[0,1],by rw [show aY.args cB (some (A,c),some (B,d))=[.slice (some ⟨0,0,none⟩) na c,.slice (some ⟨1,0,none⟩) nb d] from by rw [bA,bJ]; rfl]; rfl,⟨fA,fB⟩,?_⟩
        rw [show aY.ah cB (some (A,c),some (B,d))=[.flat false na 6 ga,.flat false nb 6 gb] from by rw [bA,bX,bJ,cO]; rfl,show aY.val cB (some (A,c),some (B,d))=.tuple ⟨[zx.v,.int .i64 6]⟩ from by show Value.tuple ⟨[(eG A B).1.v,.int .i64 (eG A B).2]⟩=_; rw [s1],show aY.new cB (some (A,c),some (B,d))=none from rfl]
        conv=>whnf
        refine ⟨aD.aP (fun h=>h) (fun r hr=>by rw [bX]; rfl),aD.aP (fun h=>h) (fun r hr=>by rw [cO]; rfl),?_⟩
        conv=>whnf
        refine ⟨_,rfl,?_⟩;conv=>whnf
        refine ⟨(some (ak (aG A p),cu),some (ak (aG B p),cu)),[4,5],by rw [show aY.args cB (some (ak (aG A p),cu),some (ak (aG B p),cu))=[.slice (some ⟨0,0,none⟩) na cu,.slice (some ⟨1,0,none⟩) nb cu] from by rw [fo,fh]; rfl]; rfl,⟨fC,fD⟩,?_⟩
        rw [show aY.ah cB (some (ak (aG A p),cu),some (ak (aG B p),cu))=[.flat false na 6 gc,.flat false nb 6 gd] from by rw [fo,gB,fh,jI]; rfl,show aY.val cB (some (ak (aG A p),cu),some (ak (aG B p),cu))=.tuple ⟨[zx.v,.int .i64 6]⟩ from by show Value.tuple ⟨[(eG (ak (aG A p)) (ak (aG B p))).1.v,.int .i64 (eG (ak (aG A p)) (ak (aG B p))).2]⟩=_; rw [s2],show aY.new cB (some (ak (aG A p),cu),some (ak (aG B p),cu))=none from rfl]
        conv=>whnf
        refine ⟨aD.aP (fun h=>by cases h) (fun r hr=>by rw [gB]; rfl),aD.aP (fun h=>by cases h) (fun r hr=>by rw [jI]; rfl),?_⟩
        conv=>whnf
        refine ⟨_,rfl,?_⟩;conv=>whnf
        refine ⟨some (ak (aG A p),cu),[4],by rw [show aV.args (some (ak (aG A p),cu))=[.slice (some ⟨0,0,none⟩) na cu] from by rw [fo]; rfl]; rfl,fC,?_⟩
        rw [show aV.ah (some (ak (aG A p),cu))=[.flat false na 6 gc] from by rw [fo,gB]; rfl,show aV.val (some (ak (aG A p),cu))=.int .i64 0 from congrArg (Value.int .i64) kC,show aV.new (some (ak (aG A p),cu))=none from rfl]
        conv=>whnf
        refine ⟨aD.aP (fun h=>by cases h) (fun r hr=>by rw [gB]; rfl),?_⟩
        conv=>whnf
        refine ⟨_,rfl,?_⟩;conv=>whnf
        rw [show (x1 == x1)=true from by simp]
        conv=>whnf
        rw [show (e1 == e1)=true from by simp]
        conv=>whnf
        rw [show (x2 == x2)=true from by simp]
        conv=>whnf
        rw [show (e2 == e2)=true from by simp]
        conv=>whnf
        refine ⟨((none:PL),p),[2],rfl,⟨Nat.zero_le _,(fun v hv=>nomatch hv),PV.aX sp (by decide)⟩,?_⟩
        rw [show eM.ah ((none:PL),p)=[.flat false 1 6 (fun _=>p.cells)] from rfl,show eM.val ((none:PL),p)=.slice none 0 0 from rfl,show eM.new ((none:PL),p)=none from rfl]
        conv=>whnf
        refine ⟨xm p,?_⟩;conv=>whnf
        refine ⟨_,rfl,?_⟩;conv=>whnf
        refine ⟨((none:PL),(none:PL)),[],rfl,⟨Nat.zero_le _,Nat.zero_le _⟩,?_⟩;rw [show fN.ah ((none:PL),(none:PL))=[] from rfl]
        conv=>whnf
        refine ⟨.bool true,rfl,?_⟩;conv=>whnf
        rw [show (e3 == e3)=true from by simp]
        conv=>whnf
        rw [AB zx];conv=>whnf
        refine ⟨(),rfl,trivial,?_⟩;conv=>whnf
        exact fin _
       ·obtain ⟨a,ha⟩:∃ x,x=bP a0:=⟨_,rfl⟩;obtain ⟨b,hb⟩:∃ x,x=bP b0:=⟨_,rfl⟩;obtain ⟨a2,tJ⟩:∃ x,x=bP (bH p.p a0):=⟨_,rfl⟩;obtain ⟨b2,c4⟩:∃ x,x=bP (bH p.p b0):=⟨_,rfl⟩;refine ⟨(some (A,c),some (B,d)),[0,1],by rw [show aY.args cB (some (A,c),some (B,d))=[.slice (some ⟨0,0,none⟩) na c,.slice (some ⟨1,0,none⟩) nb d] from by rw [bA,bJ]; rfl]; rfl,⟨fA,fB⟩,?_⟩
        rw [show aY.ah cB (some (A,c),some (B,d))=[.flat false na 6 ga,.flat false nb 6 gb] from by rw [bA,bX,bJ,cO]; rfl,show aY.val cB (some (A,c),some (B,d))=.tuple ⟨[XV.v (a,b),.int .i64 0]⟩ from by show Value.tuple ⟨[(eG A B).1.v,.int .i64 (eG A B).2]⟩=_; rw [s1,← ha,← hb],show aY.new cB (some (A,c),some (B,d))=none from rfl]
        conv=>whnf
        refine ⟨aD.aP (fun h=>h) (fun r hr=>by rw [bX]; rfl),aD.aP (fun h=>h) (fun r hr=>by rw [cO]; rfl),?_⟩
        conv=>whnf
        refine ⟨_,rfl,?_⟩;conv=>whnf
        refine ⟨(some (ak (aG A p),cu),some (ak (aG B p),cu)),[4,5],by rw [show aY.args cB (some (ak (aG A p),cu),some (ak (aG B p),cu))=[.slice (some ⟨0,0,none⟩) na cu,.slice (some ⟨1,0,none⟩) nb cu] from by rw [fo,fh]; rfl]; rfl,⟨fC,fD⟩,?_⟩
        rw [show aY.ah cB (some (ak (aG A p),cu),some (ak (aG B p),cu))=[.flat false na 6 gc,.flat false nb 6 gd] from by rw [fo,gB,fh,jI]; rfl,show aY.val cB (some (ak (aG A p),cu),some (ak (aG B p),cu))=.tuple ⟨[XV.v (a2,b2),.int .i64 0]⟩ from by show Value.tuple ⟨[(eG (ak (aG A p)) (ak (aG B p))).1.v,.int .i64 (eG (ak (aG A p)) (ak (aG B p))).2]⟩=_; rw [s2,← tJ,← c4],show aY.new cB (some (ak (aG A p),cu),some (ak (aG B p),cu))=none from rfl]
        conv=>whnf
        refine ⟨aD.aP (fun h=>by cases h) (fun r hr=>by rw [gB]; rfl),aD.aP (fun h=>by cases h) (fun r hr=>by rw [jI]; rfl),?_⟩
        conv=>whnf
        refine ⟨_,rfl,?_⟩;conv=>whnf
        have Ke:Q2.sz 12 a0:=ma.elim (fun h=>iz pQ (by decide) a0 h) (fun h=>iz pR (by decide) a0 h)
        have AG:Q2.sz 12 b0:=mb.elim (fun h=>iz pQ (by decide) b0 h) (fun h=>iz pR (by decide) b0 h)
        have sa:a.sz 12:=by rw [ha]; exact nU Ke (by decide)
        have sb:b.sz 12:=by rw [hb]; exact nU AG (by decide)
        have qa:=PV.cV sa (by decide)
        have qb:=PV.cV sb (by decide)
        have qp:=PV.cV sp (by decide)
        refine .inl ⟨7,[[],[0],[],[0,1,2],[],[4],[],[0,1,2,3,4,5,6],[0,1,2,3,4,5,6,7],[0,1,2,3,4,5,6,7,8]],by kernel_rfl,?_⟩
        conv=>whnf
        obtain ⟨u,eu,pu,su,qu⟩:=lN (uL qa qp);refine ⟨(a,p),rfl,⟨PV.aX sa (by decide),PV.aX sp (by decide)⟩,?_⟩
        rw [show nZ.val (a,p)=u.v from eu]
        conv=>whnf
        obtain ⟨v,ev,pv,sv,qv⟩:=lN (uL qb qp);refine ⟨(b,p),rfl,⟨PV.aX sb (by decide),PV.aX sp (by decide)⟩,?_⟩
        rw [show nZ.val (b,p)=v.v from ev]
        conv=>whnf
        obtain rfl:u=a2:=by rw [tJ,(PV.j3 eu).symm,ha,gr]; rfl
        obtain rfl:v=b2:=by rw [c4,(PV.j3 ev).symm,hb,gr]; rfl
        refine ⟨some (ak (aG A p),cu),[4],by rw [show aV.args (some (ak (aG A p),cu))=[.slice (some ⟨0,0,none⟩) na cu] from by rw [fo]; rfl]; rfl,fC,?_⟩
        rw [show aV.ah (some (ak (aG A p),cu))=[.flat false na 6 gc] from by rw [fo,gB]; rfl,show aV.val (some (ak (aG A p),cu))=.int .i64 0 from congrArg (Value.int .i64) kC,show aV.new (some (ak (aG A p),cu))=none from rfl]
        conv=>whnf
        refine ⟨aD.aP (fun h=>by cases h) (fun r hr=>by rw [gB]; rfl),?_⟩
        conv=>whnf
        refine ⟨_,rfl,?_⟩;conv=>whnf
        rw [show (x1 == x1)=true from by simp]
        conv=>whnf
        rw [show (e1 == e1)=true from by simp]
        conv=>whnf
        rw [show (x2 == x2)=true from by simp]
        conv=>whnf
        rw [show (e2 == e2)=true from by simp]
        conv=>whnf
        refine ⟨((none:PL),p),[2],rfl,⟨Nat.zero_le _,(fun v hv=>nomatch hv),PV.aX sp (by decide)⟩,?_⟩
        rw [show eM.ah ((none:PL),p)=[.flat false 1 6 (fun _=>p.cells)] from rfl,show eM.val ((none:PL),p)=.slice none 0 0 from rfl,show eM.new ((none:PL),p)=none from rfl]
        conv=>whnf
        refine ⟨xm p,?_⟩;conv=>whnf
        refine ⟨_,rfl,?_⟩;conv=>whnf
        refine ⟨((none:PL),(none:PL)),[],rfl,⟨Nat.zero_le _,Nat.zero_le _⟩,?_⟩;rw [show fN.ah ((none:PL),(none:PL))=[] from rfl]
        conv=>whnf
        refine ⟨.bool true,rfl,?_⟩;conv=>whnf
        rw [show (e3 == e3)=true from by simp]
        conv=>whnf
        rw [AB (u,v)];conv=>whnf
        refine ⟨(),rfl,trivial,?_⟩;conv=>whnf
        exact fin _
      | succ m =>
       obtain ⟨E,hE⟩:∃ F,F=bI R:=⟨_,rfl⟩;have hl:(ak R).length=m+1:=by rw [rP,← hm]
       have j4:=aaz hR;have RN:∀ v∈ak R,v.sz 1024:=by
        refine OZ (k:=602) (fun x hx=>?_) (by decide)
        rw [Hl kA kB] at hR;obtain ⟨_,_,_,h4⟩:=Vg zA.2.2.1 zA.2.2.2 zB.2.2.1 (iz pQ (by decide)) (iz pR (by decide))
        have yg:R=(mO (jW (aL A) (aL B))).1:=congrArg Prod.fst hR;unfold mO at yg
        split at yg
        ·rw [yg] at hx; cases hx
        ·split at yg
         ·rw [yg] at hx; cases hx
         ·rw [yg] at hx; exact h4 x hx
       obtain ⟨F,hF⟩:∃ F,F=bI (R.map (bH p.p)):=⟨_,rfl⟩;refine ⟨(some (A,c),some (B,d)),[0,1],by rw [show aY.args dn (some (A,c),some (B,d))=[.slice (some ⟨0,0,none⟩) na c,.slice (some ⟨1,0,none⟩) nb d] from by rw [bA,bJ]; rfl]; rfl,⟨⟨fA,fB⟩,HO pQ pR⟩,?_⟩
       rw [show aY.ah dn (some (A,c),some (B,d))=[.flat false na 6 ga,.flat false nb 6 gb] from by rw [bA,bX,bJ,cO]; rfl,show aY.val dn (some (A,c),some (B,d))=.tuple ⟨[.slice (some ⟨2,0,none⟩) (m+1) cu,.int .i64 e3]⟩ from by rw [dQ,m1.1,← hm]; rfl,show aY.new dn (some (A,c),some (B,d))=some (.flat true (m+1) 6 E) from by rw [m1.2.1]; unfold cl; rw [← hm,hE]]
       conv=>whnf
       refine ⟨aD.aP (fun h=>h) (fun r hr=>by rw [bX]; rfl),aD.aP (fun h=>h) (fun r hr=>by rw [cO]; rfl),?_⟩
       conv=>whnf
       refine ⟨_,rfl,?_⟩;conv=>whnf
       refine ⟨(some (ak (aG A p),cu),some (ak (aG B p),cu)),[4,5],by rw [show aY.args dn (some (ak (aG A p),cu),some (ak (aG B p),cu))=[.slice (some ⟨0,0,none⟩) na cu,.slice (some ⟨1,0,none⟩) nb cu] from by rw [fo,fh]; rfl]; rfl,⟨⟨fC,fD⟩,Ol Kb Kc⟩,?_⟩
       rw [show aY.ah dn (some (ak (aG A p),cu),some (ak (aG B p),cu))=[.flat false na 6 gc,.flat false nb 6 gd] from by rw [fo,gB,fh,jI]; rfl,show aY.val dn (some (ak (aG A p),cu),some (ak (aG B p),cu))=.tuple ⟨[.slice (some ⟨2,0,none⟩) (m+1) cu,.int .i64 e3]⟩ from by rw [m2.1,List.length_map,← hm,dQ]; rfl,show aY.new dn (some (ak (aG A p),cu),some (ak (aG B p),cu))=some (.flat true (m+1) 6 F) from by rw [m2.2.1,w9 (n:=m+1) (by rw [List.length_map,← hm]) (by omega),hF]]
       conv=>whnf
       refine ⟨aD.aP (fun h=>by cases h) (fun r hr=>by rw [gB]; rfl),aD.aP (fun h=>by cases h) (fun r hr=>by rw [jI]; rfl),?_⟩
       conv=>whnf
       refine ⟨_,rfl,?_⟩;conv=>whnf
       rcases O3 (w:=p) kA kB with ⟨s1,s2⟩ | ⟨a0,b0,ma,mb,s1,s2⟩
       ·obtain ⟨zx,Kd⟩:∃ x,x=ko:=⟨_,rfl⟩;rw [← Kd] at s1 s2;refine ⟨(some (A,c),some (B,d)),[0,1],by rw [show aY.args cB (some (A,c),some (B,d))=[.slice (some ⟨0,0,none⟩) na c,.slice (some ⟨1,0,none⟩) nb d] from by rw [bA,bJ]; rfl]; rfl,⟨fA,fB⟩,?_⟩
        rw [show aY.ah cB (some (A,c),some (B,d))=[.flat false na 6 ga,.flat false nb 6 gb] from by rw [bA,bX,bJ,cO]; rfl,show aY.val cB (some (A,c),some (B,d))=.tuple ⟨[zx.v,.int .i64 6]⟩ from by show Value.tuple ⟨[(eG A B).1.v,.int .i64 (eG A B).2]⟩=_; rw [s1],show aY.new cB (some (A,c),some (B,d))=none from rfl]
        conv=>whnf
        refine ⟨aD.aP (fun h=>h) (fun r hr=>by rw [bX]; rfl),aD.aP (fun h=>h) (fun r hr=>by rw [cO]; rfl),?_⟩
        conv=>whnf
        refine ⟨_,rfl,?_⟩;conv=>whnf
        refine ⟨(some (ak (aG A p),cu),some (ak (aG B p),cu)),[4,5],by rw [show aY.args cB (some (ak (aG A p),cu),some (ak (aG B p),cu))=[.slice (some ⟨0,0,none⟩) na cu,.slice (some ⟨1,0,none⟩) nb cu] from by rw [fo,fh]; rfl]; rfl,⟨fC,fD⟩,?_⟩
        rw [show aY.ah cB (some (ak (aG A p),cu),some (ak (aG B p),cu))=[.flat false na 6 gc,.flat false nb 6 gd] from by rw [fo,gB,fh,jI]; rfl,show aY.val cB (some (ak (aG A p),cu),some (ak (aG B p),cu))=.tuple ⟨[zx.v,.int .i64 6]⟩ from by show Value.tuple ⟨[(eG (ak (aG A p)) (ak (aG B p))).1.v,.int .i64 (eG (ak (aG A p)) (ak (aG B p))).2]⟩=_; rw [s2],show aY.new cB (some (ak (aG A p),cu),some (ak (aG B p),cu))=none from rfl]
        conv=>whnf
        refine ⟨aD.aP (fun h=>by cases h) (fun r hr=>by rw [gB]; rfl),aD.aP (fun h=>by cases h) (fun r hr=>by rw [jI]; rfl),?_⟩
        conv=>whnf
        refine ⟨_,rfl,?_⟩;conv=>whnf
        refine ⟨some (ak (aG A p),cu),[4],by rw [show aV.args (some (ak (aG A p),cu))=[.slice (some ⟨0,0,none⟩) na cu] from by rw [fo]; rfl]; rfl,fC,?_⟩
        rw [show aV.ah (some (ak (aG A p),cu))=[.flat false na 6 gc] from by rw [fo,gB]; rfl,show aV.val (some (ak (aG A p),cu))=.int .i64 0 from congrArg (Value.int .i64) kC,show aV.new (some (ak (aG A p),cu))=none from rfl]
        conv=>whnf
        refine ⟨aD.aP (fun h=>by cases h) (fun r hr=>by rw [gB]; rfl),?_⟩
        conv=>whnf
        refine ⟨_,rfl,?_⟩;conv=>whnf
        rw [show (x1 == x1)=true from by simp]
        conv=>whnf
        rw [show (e1 == e1)=true from by simp]
        conv=>whnf
        rw [show (x2 == x2)=true from by simp]
        conv=>whnf
        rw [show (e2 == e2)=true from by simp]
        conv=>whnf
        refine ⟨(some (ak R,cu),p),[6,2],by rw [show eM.args (some (ak R,cu),p)=[.slice (some ⟨0,0,none⟩) (m+1) cu,.pointer (some ⟨1,0,none⟩)] from by rw [← hl]; rfl]; rfl,⟨by show (ak R).length≤_; omega,RN,PV.aX sp (by decide)⟩,?_⟩
        rw [show eM.ah (some (ak R,cu),p)=[.flat false (m+1) 6 E,.flat false 1 6 (fun _=>p.cells)] from by rw [← hl,hE]; rfl,show eM.val (some (ak R,cu),p)=.slice (some ⟨2,0,none⟩) (m+1) cu from by show cW 2 (aG (ak R) p).length=_; rw [lF,hl,dQ]; rfl,show eM.new (some (ak R,cu),p)=some (.flat true (m+1) 6 F) from by show cl (aG (ak R) p)=_; rw [w9 ((lF (ak R) p).trans hl) (by omega),hF]; unfold aG; rw [qk]]
        conv=>whnf
        refine ⟨aD.aP (fun h=>by cases h) (fun r hr=>by rw [hE]; rfl),xm p,?_⟩
        conv=>whnf
        refine ⟨_,rfl,?_⟩;conv=>whnf
        have gy:(ak (R.map (bH p.p))).length=m+1:=by rw [rP,List.length_map,← hm]
        refine ⟨(some (ak (R.map (bH p.p)),cu),some (ak (R.map (bH p.p)),cu)),[10,7],by rw [show fN.args (some (ak (R.map (bH p.p)),cu),some (ak (R.map (bH p.p)),cu))=[.slice (some ⟨0,0,none⟩) (m+1) cu,.slice (some ⟨1,0,none⟩) (m+1) cu] from by rw [← gy]; rfl]; rfl,⟨by show (ak (R.map (bH p.p))).length≤_; omega,by show (ak (R.map (bH p.p))).length≤_; omega⟩,?_⟩
        rw [show fN.ah (some (ak (R.map (bH p.p)),cu),some (ak (R.map (bH p.p)),cu))=[.flat false (m+1) 6 F,.flat false (m+1) 6 F] from by rw [← gy,hF]; rfl,show fN.val (some (ak (R.map (bH p.p)),cu),some (ak (R.map (bH p.p)),cu))=.bool true from congrArg Value.bool (decide_eq_true rfl),show fN.new (some (ak (R.map (bH p.p)),cu),some (ak (R.map (bH p.p)),cu))=none from rfl]
        conv=>whnf
        refine ⟨aD.aP (fun h=>by cases h) (fun r hr=>by rw [hF]; rfl),aD.aP (fun h=>by cases h) (fun r hr=>by rw [hF]; rfl),?_⟩
        conv=>whnf
        refine ⟨.bool true,rfl,?_⟩;conv=>whnf
        rw [show (e3 == e3)=true from by simp]
        conv=>whnf
        rw [AB zx];conv=>whnf
        refine ⟨(),rfl,trivial,?_⟩;conv=>whnf
        exact fin _
       ·obtain ⟨a,ha⟩:∃ x,x=bP a0:=⟨_,rfl⟩;obtain ⟨b,hb⟩:∃ x,x=bP b0:=⟨_,rfl⟩;obtain ⟨a2,tJ⟩:∃ x,x=bP (bH p.p a0):=⟨_,rfl⟩;obtain ⟨b2,c4⟩:∃ x,x=bP (bH p.p b0):=⟨_,rfl⟩;refine ⟨(some (A,c),some (B,d)),[0,1],by rw [show aY.args cB (some (A,c),some (B,d))=[.slice (some ⟨0,0,none⟩) na c,.slice (some ⟨1,0,none⟩) nb d] from by rw [bA,bJ]; rfl]; rfl,⟨fA,fB⟩,?_⟩
        rw [show aY.ah cB (some (A,c),some (B,d))=[.flat false na 6 ga,.flat false nb 6 gb] from by rw [bA,bX,bJ,cO]; rfl,show aY.val cB (some (A,c),some (B,d))=.tuple ⟨[XV.v (a,b),.int .i64 0]⟩ from by show Value.tuple ⟨[(eG A B).1.v,.int .i64 (eG A B).2]⟩=_; rw [s1,← ha,← hb],show aY.new cB (some (A,c),some (B,d))=none from rfl]
        conv=>whnf
        refine ⟨aD.aP (fun h=>h) (fun r hr=>by rw [bX]; rfl),aD.aP (fun h=>h) (fun r hr=>by rw [cO]; rfl),?_⟩
        conv=>whnf
        refine ⟨_,rfl,?_⟩;conv=>whnf
        refine ⟨(some (ak (aG A p),cu),some (ak (aG B p),cu)),[4,5],by rw [show aY.args cB (some (ak (aG A p),cu),some (ak (aG B p),cu))=[.slice (some ⟨0,0,none⟩) na cu,.slice (some ⟨1,0,none⟩) nb cu] from by rw [fo,fh]; rfl]; rfl,⟨fC,fD⟩,?_⟩
        rw [show aY.ah cB (some (ak (aG A p),cu),some (ak (aG B p),cu))=[.flat false na 6 gc,.flat false nb 6 gd] from by rw [fo,gB,fh,jI]; rfl,show aY.val cB (some (ak (aG A p),cu),some (ak (aG B p),cu))=.tuple ⟨[XV.v (a2,b2),.int .i64 0]⟩ from by show Value.tuple ⟨[(eG (ak (aG A p)) (ak (aG B p))).1.v,.int .i64 (eG (ak (aG A p)) (ak (aG B p))).2]⟩=_; rw [s2,← tJ,← c4],show aY.new cB (some (ak (aG A p),cu),some (ak (aG B p),cu))=none from rfl]
        conv=>whnf
        refine ⟨aD.aP (fun h=>by cases h) (fun r hr=>by rw [gB]; rfl),aD.aP (fun h=>by cases h) (fun r hr=>by rw [jI]; rfl),?_⟩
        conv=>whnf
        refine ⟨_,rfl,?_⟩;conv=>whnf
        have Ke:Q2.sz 12 a0:=ma.elim (fun h=>iz pQ (by decide) a0 h) (fun h=>iz pR (by decide) a0 h)
        have AG:Q2.sz 12 b0:=mb.elim (fun h=>iz pQ (by decide) b0 h) (fun h=>iz pR (by decide) b0 h)
        have sa:a.sz 12:=by rw [ha]; exact nU Ke (by decide)
        have sb:b.sz 12:=by rw [hb]; exact nU AG (by decide)
        have qa:=PV.cV sa (by decide)
        have qb:=PV.cV sb (by decide)
        have qp:=PV.cV sp (by decide)
        refine .inl ⟨7,[[],[0],[],[0,1,2],[],[4],[],[0,1,2,3,4,5,6],[0,1,2,3,4,5,6,7],[0,1,2,3,4,5,6,7,8]],by kernel_rfl,?_⟩
        conv=>whnf
        obtain ⟨u,eu,pu,su,qu⟩:=lN (uL qa qp);refine ⟨(a,p),rfl,⟨PV.aX sa (by decide),PV.aX sp (by decide)⟩,?_⟩
        rw [show nZ.val (a,p)=u.v from eu]
        conv=>whnf
        obtain ⟨v,ev,pv,sv,qv⟩:=lN (uL qb qp);refine ⟨(b,p),rfl,⟨PV.aX sb (by decide),PV.aX sp (by decide)⟩,?_⟩
        rw [show nZ.val (b,p)=v.v from ev]
        conv=>whnf
        obtain rfl:u=a2:=by rw [tJ,(PV.j3 eu).symm,ha,gr]; rfl
        obtain rfl:v=b2:=by rw [c4,(PV.j3 ev).symm,hb,gr]; rfl
        refine ⟨some (ak (aG A p),cu),[4],by rw [show aV.args (some (ak (aG A p),cu))=[.slice (some ⟨0,0,none⟩) na cu] from by rw [fo]; rfl]; rfl,fC,?_⟩
        rw [show aV.ah (some (ak (aG A p),cu))=[.flat false na 6 gc] from by rw [fo,gB]; rfl,show aV.val (some (ak (aG A p),cu))=.int .i64 0 from congrArg (Value.int .i64) kC,show aV.new (some (ak (aG A p),cu))=none from rfl]
        conv=>whnf
        refine ⟨aD.aP (fun h=>by cases h) (fun r hr=>by rw [gB]; rfl),?_⟩
        conv=>whnf
        refine ⟨_,rfl,?_⟩;conv=>whnf
        rw [show (x1 == x1)=true from by simp]
        conv=>whnf
        rw [show (e1 == e1)=true from by simp]
        conv=>whnf
        rw [show (x2 == x2)=true from by simp]
        conv=>whnf
        rw [show (e2 == e2)=true from by simp]
        conv=>whnf
        refine ⟨(some (ak R,cu),p),[6,2],by rw [show eM.args (some (ak R,cu),p)=[.slice (some ⟨0,0,none⟩) (m+1) cu,.pointer (some ⟨1,0,none⟩)] from by rw [← hl]; rfl]; rfl,⟨by show (ak R).length≤_; omega,RN,PV.aX sp (by decide)⟩,?_⟩
        rw [show eM.ah (some (ak R,cu),p)=[.flat false (m+1) 6 E,.flat false 1 6 (fun _=>p.cells)] from by rw [← hl,hE]; rfl,show eM.val (some (ak R,cu),p)=.slice (some ⟨2,0,none⟩) (m+1) cu from by show cW 2 (aG (ak R) p).length=_; rw [lF,hl,dQ]; rfl,show eM.new (some (ak R,cu),p)=some (.flat true (m+1) 6 F) from by show cl (aG (ak R) p)=_; rw [w9 ((lF (ak R) p).trans hl) (by omega),hF]; unfold aG; rw [qk]]
        conv=>whnf
        refine ⟨aD.aP (fun h=>by cases h) (fun r hr=>by rw [hE]; rfl),xm p,?_⟩
        conv=>whnf
        refine ⟨_,rfl,?_⟩;conv=>whnf
        have gy:(ak (R.map (bH p.p))).length=m+1:=by rw [rP,List.length_map,← hm]
        refine ⟨(some (ak (R.map (bH p.p)),cu),some (ak (R.map (bH p.p)),cu)),[17,7],by rw [show fN.args (some (ak (R.map (bH p.p)),cu),some (ak (R.map (bH p.p)),cu))=[.slice (some ⟨0,0,none⟩) (m+1) cu,.slice (some ⟨1,0,none⟩) (m+1) cu] from by rw [← gy]; rfl]; rfl,⟨by show (ak (R.map (bH p.p))).length≤_; omega,by show (ak (R.map (bH p.p))).length≤_; omega⟩,?_⟩
        rw [show fN.ah (some (ak (R.map (bH p.p)),cu),some (ak (R.map (bH p.p)),cu))=[.flat false (m+1) 6 F,.flat false (m+1) 6 F] from by rw [← gy,hF]; rfl,show fN.val (some (ak (R.map (bH p.p)),cu),some (ak (R.map (bH p.p)),cu))=.bool true from congrArg Value.bool (decide_eq_true rfl),show fN.new (some (ak (R.map (bH p.p)),cu),some (ak (R.map (bH p.p)),cu))=none from rfl]
        conv=>whnf
        refine ⟨aD.aP (fun h=>by cases h) (fun r hr=>by rw [hF]; rfl),aD.aP (fun h=>by cases h) (fun r hr=>by rw [hF]; rfl),?_⟩
        conv=>whnf
        refine ⟨.bool true,rfl,?_⟩;conv=>whnf
        rw [show (e3 == e3)=true from by simp]
        conv=>whnf
        rw [AB (u,v)];conv=>whnf
        refine ⟨(),rfl,trivial,?_⟩;conv=>whnf
        exact fin _
open Go Go.Ae Go.ChangeShapes Go.WideShapes Go.ChangeAt Go.RowKit
theorem own:ownKnob Tryz.prog.godebug=none:=by kernel_rfl
theorem laidOut:laidOutB Tryz.prog=true:=by kernel_rfl
set_option maxRecDepth 100000 in
theorem Qy:DA Tryz.prog 24 26 4 9 :=
 ⟨⟨_,_,_,Tryz.underlying24,⟨rfl,rfl⟩,⟨rfl,rfl⟩,rfl,rfl⟩,⟨_,_,Tryz.underlying26,⟨rfl,rfl⟩,rfl,rfl⟩,Tryz.underlying4,Tryz.underlying9,by kernel_rfl,by kernel_rfl,by kernel_rfl,by kernel_rfl⟩
def zP:Value:=.agg #[.bool false,.string ⟨#[]⟩,.string ⟨#[]⟩,.bool false,.string ⟨#[]⟩,.string ⟨#[]⟩]
set_option maxRecDepth 100000 in
theorem Uo {w:World} {r:Reach} {base:Nat} {v:Value} (h:Value.okWide Tryz.prog w r base 26 v):∃ p:PV,v=p.v :=
 Ya Tryz.underlying26 (b:=4) (s:=9) (by kernel_rfl) (by kernel_rfl) Tryz.underlying4 Tryz.underlying9 h
set_option maxRecDepth 100000 in
theorem RO (os:Os) (started:os.Started) (H:Type) (enc:TypeId × Value→H) :
  ReturnsInHanded {} Tryz.checked os 9 .any (Rows.convexMovesSpec.pre6 enc Tryz.prog Tryz.f9 Rows.convexMovesRow.domain false) (Rows.convexMovesSpec.post enc Tryz.prog Tryz.f9 false true false false):=by
 refine returnsInHanded_of_change_sized (C:=Tryz.checked) own started (by kernel_rfl) Tryz.func9
  (ChangeSpec.witness6 (enc:=enc) (C:=Tryz.checked) false ⟨#[],#[.slice none 0 0,.slice none 0 0,zP],[]⟩ 8 (by kernel_rfl) (by kernel_rfl) (by kernel_rfl) (by kernel_rfl)) ?_
 intro W base args ds gs before PI hW ae0 pC _;have xU:∀ (j:Nat) t v,Tryz.f9.params[j]?=some t→args[j]?=some v→Value.okWide Tryz.prog W .any base t v:=PI;have hW':=hW;obtain ⟨p,q,x8,hV,rfl,Jo,fh⟩:=hW;have hA:DataW.TrodAll enc Tryz.prog W 0 (fun _=>true) true Tryz.f9.params.toList args.toList ds p:=x8
 have hz:(DataW.weightsEach Tryz.prog (Tryz.f9.params.toList++Rows.convexMovesSpec.plain.varTypes Tryz.prog) (ds++gs)).all (·≤reachBytes)=true:=pC;rw [Tryz.params9] at hA xU hz;obtain ⟨v0,vs0,d0,ds0,p0,q0,nX,rfl,rfl,h0,r0⟩:=trodAll_cons hA;obtain ⟨v1,vs1,d1,ds1,p1,q1,rfl,rfl,rfl,h1,r1⟩:=trodAll_cons r0;obtain ⟨v2,vs2,d2,ds2,p2,q2,rfl,rfl,rfl,J,r2⟩:=trodAll_cons r1;obtain ⟨rfl,rfl,rfl⟩:=trodAll_nil r2;obtain rfl:args=#[v0,v1,v2]:=by cases args; simp_all
 obtain ⟨rfl,rfl⟩:=trodVars_none hV;obtain ⟨a0,bt,i0,z0,hv0,Jv,aeI⟩:=KJ Qy Tryz.underlying22 (xU 0 22 v0 rfl rfl) h0;have z0:=z0 80 reachBytes (fun elems spare e=>sized_slice (e:=26) hz (j:=0) (t:=22) rfl (by rw [e]; rfl) Tryz.underlying22)
 obtain ⟨a1,dR,i1,z1,mc,kF,vj⟩:=KJ Qy Tryz.underlying22 (xU 1 22 v1 rfl rfl) h1;have z1:=z1 80 reachBytes (fun elems spare e=>sized_slice (e:=26) hz (j:=1) (t:=22) rfl (by rw [e]; rfl) Tryz.underlying22)
 obtain ⟨a2,rfl⟩:=Uo (xU 2 26 v2 rfl rfl);have lt0:∀ x∈p0,x.block < W.heap.size:=by obtain ⟨m,hm⟩:=h0; exact DataW.trod_lt m _ _ _ hm
 have lt1:∀ x∈p1,x.block < W.heap.size:=by obtain ⟨m,hm⟩:=h1; exact DataW.trod_lt m _ _ _ hm
 have lt2:∀ x∈p2,x.block < W.heap.size:=by obtain ⟨m,hm⟩:=J; exact DataW.trod_lt m _ _ _ hm
 clear x8 PI;obtain ⟨ν,hH,hn,hu0,q7⟩:=acP hv0 Jv aeI mc kF vj;have ab9:bg ν (qW.args ((((a0,a1),a2):me × PV))) [v0,v1,a2.v]:=.cons hu0 (.cons q7 (.cons ((Ba (v:=PV.v a2) rfl).1 ν) (.nil ν)));refine (R7 ab8 (i:=(((a0,a1),a2):me × PV)) (⟨z0,z1⟩) ab9 hH hn (b:=true) rfl).mono fun e W' ⟨he,Ev⟩=>?_
 subst he;exact ⟨_,rfl,_,_,_,[],_,[],hW',trodAll_mk1 (shut_bool Tryz.underlying4 _),(trodAll_cons_mk (Below.trod laidOut (by kernel_rfl) (of_decide_eq_true (by kernel_rfl)) h0 Ev lt0) (trodAll_cons_mk (Below.trod laidOut (by kernel_rfl) (of_decide_eq_true (by kernel_rfl)) h1 Ev lt1) (trodAll_cons_mk (Below.trod laidOut (by kernel_rfl) (of_decide_eq_true (by kernel_rfl)) J Ev lt2) trodAll_mk0))),rfl,Ev.frame _,fun h=>by cases h⟩
theorem RP:Rows.convexMovesRow.holds Tryz.pinned (OpenSpec.ofChange Rows.convexMovesSpec) :=
 OpenClaim.holds_of_wide 9 Tryz.f9 rfl rfl rfl rfl rfl rfl rfl ⟨rfl,rfl,rfl,rfl,rfl⟩ rfl rfl rfl rfl rfl (by kernel_rfl) Tryz.func9 (by kernel_rfl)
  (of_decide_eq_true (by kernel_rfl)) (by unfold Func.isWrapper; first | (rw [if_pos (by decide +kernel)]; kernel_rfl) | (rw [if_neg (by decide +kernel)]; exact ⟨rfl,rfl⟩))
  (fun os started H enc _=>RO os started H enc)
theorem convexMoves_proved:Rows.ConvexMovesSaid:=RP
end Go.Proofs.YtlapbjdhekcipaaGreat
