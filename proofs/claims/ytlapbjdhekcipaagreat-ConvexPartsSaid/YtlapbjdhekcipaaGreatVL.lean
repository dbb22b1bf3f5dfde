import Derived.Test.YtlapbjdhekcipaaGreatRows
import Derived.Test.YtlapbjdhekcipaaGreatVK
set_option linter.unusedVariables false
set_option linter.unusedSimpArgs false
set_option maxRecDepth 20000
set_option maxHeartbeats 4000000
namespace Go.Proofs.YtlapbjdhekcipaaGreat
open Go Go.Ae
def Ef8:Env:=tx [(13,.p NR),(26,.p zA),(27,.q b8),(21,.q gN),(39,.p iZ),(30,.p wS),(33,.p kD),(34,.p cK),(35,.p eD),(38,.p gh),(37,.p jX),(36,.p jW)] [(25,ck JB cL Tryz.f25)]
theorem acK:EnvOk Tryz.prog Ef8:=vg ⟨Tl,Tm,RS,Nx,N7,L6,xj,BA,Gt,ue,Gs,yC,trivial⟩ ⟨YQ,trivial⟩
theorem aa3:dc Tryz.prog 7 u9:=by
 refine eg acK aM Tryz.func7 (enters_of Tryz.func7 (by kernel_rfl) rfl) ?_ ?_ ?_
 ·intro ⟨⟨i,_⟩,_⟩ b hb;cases i <;> simp [u9,PL.aj] at hb
  rw [hb]; rfl
 ·intro i b hb; simp [u9] at hb
 intro ⟨⟨i,p,q⟩,m⟩ hp;have hp:i.list.length*80≤140737488351232∧m < 256:=hp;obtain ⟨tj,hm⟩:=hp;have fin:∀ n,∃ v',cQ (List.range n) 3 (u9.val ((i,p,q),m))=some v'∧eZ (.bool true) v':=fun n=>⟨.bool true,rfl,.refl _⟩
 cases i with
 | none =>
  conv=>whnf
  refine .inr ⟨2,?_⟩;conv=>whnf
  refine ⟨⟨by decide,by decide⟩,?_⟩
  conv=>whnf
  refine ⟨none,[],rfl,by show 0≤9223372036854775807; decide,?_⟩
  rw [show kY.aj none=[] from rfl,show kY.val none=.bool true from rfl,show kY.new none=none from rfl]
  conv=>whnf
  refine ⟨_,rfl,?_⟩;conv=>whnf
  conv=>whnf
  refine ⟨(),rfl,trivial,?_⟩;conv=>whnf
  exact fin _
 | some i =>
  obtain ⟨A,c⟩:=i;have tj:A.length*80≤140737488351232:=tj;obtain ⟨n,hn⟩:∃ n,n=A.length:=⟨_,rfl⟩;obtain ⟨g,hg⟩:∃ g,g=dq A:=⟨_,rfl⟩;obtain ⟨G,hG⟩:∃ G,G=lS A:=⟨_,rfl⟩;rw [show u9.aj ((some (A,c),p,q),m)=[.flat false n 6 g] from by rw [hn,hg]; rfl,show u9.args ((some (A,c),p,q),m)=[.slice (some ⟨0,0,none⟩) n c,p.v,q.v,.int .u8 m] from by rw [hn]; rfl]
  conv=>whnf
  refine .inr ⟨2,?_⟩;conv=>whnf
  refine ⟨⟨by decide,by decide⟩,?_⟩
  conv=>whnf
  refine ⟨some (A,c),[0],by rw [show kY.args (some (A,c))=[.slice (some ⟨0,0,none⟩) n c] from by rw [hn]; rfl]; rfl,by show A.length≤9223372036854775807; omega,?_⟩
  rw [show kY.aj (some (A,c))=[.flat false n 6 g] from by rw [hn,hg]; rfl,show kY.val (some (A,c))=.bool G from by rw [hG]; rfl,show kY.new (some (A,c))=none from rfl]
  conv=>whnf
  refine ⟨aO.aW (fun h=>h) (fun r hr=>by rw [hg]; rfl),?_⟩
  conv=>whnf
  refine ⟨_,rfl,?_⟩;conv=>whnf
  cases G with
  | true =>
   conv=>whnf
   conv=>whnf
   refine ⟨(),rfl,trivial,?_⟩;conv=>whnf
   exact fin _
  | false =>
   obtain ⟨ad3,aU,C8⟩:=WX hG.symm;have hz:=pY C8;conv=>whnf
   obtain ⟨x,hx⟩:∃ x,x=decide (PV.sz 12 p∧p.canon):=⟨_,rfl⟩;refine ⟨p,rfl,trivial,?_⟩;rw [show zA.val p=.bool x from by rw [hx]; rfl]
   conv=>whnf
   cases x with
   | false =>
    conv=>whnf
    conv=>whnf
    refine ⟨(),rfl,trivial,?_⟩;conv=>whnf
    exact fin _
   | true =>
    obtain ⟨sp,cp⟩:=of_decide_eq_true hx.symm;conv=>whnf
    obtain ⟨y,hy⟩:∃ x,x=decide (PV.sz 12 q∧q.canon):=⟨_,rfl⟩;refine ⟨q,rfl,trivial,?_⟩;rw [show zA.val q=.bool y from by rw [hy]; rfl]
    conv=>whnf
    cases y with
    | false =>
     conv=>whnf
     conv=>whnf
     refine ⟨(),rfl,trivial,?_⟩;conv=>whnf
     exact fin _
    | true =>
     obtain ⟨sq,cq⟩:=of_decide_eq_true hy.symm;have qp:=PV.c9 sp (by decide)
     have qq:=PV.c9 sq (by decide)
     obtain ⟨Q,hQ⟩:∃ Q,Q=aV A:=⟨_,rfl⟩;have adJ:∀ v∈Q,Q2.sz 12 v:=by rw [hQ]; exact yA aU (by decide)
     have iw:∀ v:PV,v.canon→il A v=fe Q v.p:=fun v hv=>by rw [hQ]; exact W0 C8 hv
     conv=>whnf
     cases hI:kF Q p.p q.p with
     | none =>
      have hv:dY A (p,q)=((aZ,aZ),false,0):=Gl ⟨C8,cp,cq⟩ (by rw [← hQ]; exact hI)
      obtain ⟨lo,jI⟩:∃ z,z=aZ:=⟨_,rfl⟩;obtain ⟨hi,kh⟩:∃ z,z=aZ:=⟨_,rfl⟩;have z0:∀ x:RV,x=aZ→x.q=0:=fun x h=>by rw [h]; exact yz
      have bS:lo.sz 1:=by rw [jI]; exact jN 1
      have fJ:hi.sz 1:=by rw [kh]; exact jN 1
      have mW:QB lo.q 1:=by rw [jI]; exact p5 (k:=0)
      have oJ:QB hi.q 1:=by rw [kh]; exact p5 (k:=0)
      have QM:lo.v=aZ.v:=by rw [jI]
      refine ⟨(some (A,c),(p,q)),[0],by rw [show gN.args (some (A,c),(p,q))=[.slice (some ⟨0,0,none⟩) n c,XV.v (p,q)] from by rw [hn]; rfl]; rfl,⟨⟨by show A.length≤_; omega,kG aU⟩,PV.aJ sp (by decide),PV.aJ sq (by decide)⟩,?_⟩
      rw [show gN.aj (some (A,c),(p,q))=[.flat false n 6 g] from by rw [hn,hg]; rfl,show gN.val (some (A,c),(p,q))=.tuple ⟨[lo.v,hi.v,.bool false,.int .i64 0]⟩ from by show Value.tuple ⟨[(dY A (p,q)).1.1.v,(dY A (p,q)).1.2.v,.bool (dY A (p,q)).2.1,.int .i64 (dY A (p,q)).2.2]⟩=_; rw [hv,jI,kh],show gN.new (some (A,c),(p,q))=none from rfl]
      conv=>whnf
      refine ⟨aO.aW (fun h=>h) (fun r hr=>by rw [hg]; rfl),?_⟩
      conv=>whnf
      refine ⟨_,rfl,?_⟩;conv=>whnf
      obtain ⟨o,co,eo,po,so,qo⟩:=qz (q:=((1:Int):Rat)) (QB.of_int (n:=1) (k:=1) (fj (show Int.natAbs 1 < C ^ 1 by decide)) (by decide))
      refine ⟨(1:Int),rfl,⟨by decide,by decide⟩,?_⟩
      rw [show kD.val (1:Int)=o.v from eo]
      conv=>whnf
      obtain ⟨w,cw,ew,pw,sw,qw⟩:=qz (MN hm);rw [show IntKind.i64.wrap (m:Int)=(m:Int) from ar (by omega) (by omega)]
      refine ⟨((m:Int),255),rfl,⟨⟨by omega,by omega⟩,by show rm 255; decide⟩,?_⟩
      rw [show wS.val ((m:Int),255)=.tuple ⟨[w.v,.int .i64 0]⟩ from by show jx (m:Int) 255=_; rw [Ns,cw]; rfl]
      conv=>whnf
      refine .inl ⟨12,[[],[],[],[],[],[],[],[],[],[7,8],[6,7,8,9],[5,6,7,8,9,10],[0,1,2,3,4,5,6,7,8,9,10,11],[0,1,2,3,4,5,6,7,8,9,10,11,12]],by kernel_rfl,?_⟩
      conv=>whnf
      obtain ⟨d1,JC,JD,JE,JF⟩:=fm (QB.sub oJ mW);refine ⟨(hi,lo),rfl,⟨RV.aT fJ (by decide),RV.aT bS (by decide)⟩,?_⟩
      rw [show gh.val (hi,lo)=d1.v from JC]
      conv=>whnf
      obtain ⟨d2,iN,oG,oH,oI⟩:=fm (QB.mul qw JF);refine ⟨(w,d1),rfl,⟨RV.aT sw (by decide),RV.aT JE (by decide)⟩,?_⟩
      rw [show jX.val (w,d1)=d2.v from iN]
      conv=>whnf
      obtain ⟨d3,Aw,Ax,rG,JG⟩:=fm (QB.add mW oI);refine ⟨(lo,d2),rfl,⟨RV.aT bS (by decide),RV.aT oH (by decide)⟩,?_⟩
      rw [show jW.val (lo,d2)=d3.v from Aw]
      conv=>whnf
      have jf:0≤lo.q∧lo.q≤1:=by rw [z0 lo jI]; exact ⟨by decide,by decide⟩
      have vP:0≤hi.q∧hi.q≤1:=by rw [z0 hi kh]; exact ⟨by decide,by decide⟩
      have JH:lo.q≤hi.q:=by rw [z0 lo jI,z0 hi kh]; exact by decide
      have og:=MM hm;rw [← pw] at og;have r0:0≤aZ.q∧aZ.q≤1:=by rw [yz]; exact ⟨by decide,by decide⟩
      have r1:0≤o.q∧o.q≤1:=by rw [po]; exact ⟨by decide,by decide⟩
      have kw:w=RV.of w.q:=by rw [pw]; exact cw
      have ko:o=RV.of o.q:=by rw [po]; exact co
      have vQ:d3=RV.of d3.q:=by rw [Ax]; exact (RV.lZ Aw).symm
      have Ay:0≤d3.q∧d3.q≤1:=by rw [Ax,oG,JD]; exact N4 jf.1 JH vP.2 og.1 og.2
      refine .inl ⟨fun mm tz hz=>∃ (j:Nat),bA (some (.slice (some ⟨0,0,none⟩) n c)::aB 4 (some (.pointer (some ⟨1,0,none⟩))::some (.pointer (some ⟨2,0,none⟩))::aB 2 (some (.pointer (some ⟨3,0,none⟩))::some (.pointer (some ⟨4,0,none⟩))::some (.bool false)::aB 1 (some (.pointer (some ⟨5,0,none⟩))::aB 75 (some (.slice (some ⟨6,0,none⟩) 6 6)::some (.int .i64 6)::some (.int .i64 j)::aB 62 []))))) tz∧hz=[some (.flat false n 6 g),some (.aL true 6 [p.cells]),some (.aL true 6 [q.cells]),some (.aL true 3 [lo.c1]),some (.aL true 3 [hi.c1]),some (.aL true 3 [o.c1]),some (.aL true 3 [w.c1,aZ.c1,o.c1,lo.c1,hi.c1,d3.c1])]∧6 - j=mm∧(j≤6),.inr ⟨[0,1,2,4,5,6,20],[0,5,6,9,10,11,13,89,90,91],?_⟩,?_⟩
      ·conv=>whnf
       intro _;conv=>whnf
       refine ⟨_,0,(.aa (.sk 4 (.aa (.aa (.sk 2 (.aa (.aa (.aa (.sk 1 (.aa (.sk 75 (.aa (.aa (.aa (.sk 62 .nil rfl)))) rfl)) rfl)))) rfl))) rfl)),rfl,rfl,?_⟩;exact Nat.zero_le _
      rintro mm aS _ ⟨j,au,rfl,rfl,hj⟩
      obtain ⟨az,rfl⟩:∃ az:Nat→Value,aS=.slice (some ⟨0,0,none⟩) n c::zs az 1 4 (.pointer (some ⟨1,0,none⟩)::.pointer (some ⟨2,0,none⟩)::zs az 7 2 (.pointer (some ⟨3,0,none⟩)::.pointer (some ⟨4,0,none⟩)::.bool false::zs az 12 1 (.pointer (some ⟨5,0,none⟩)::zs az 14 75 (.slice (some ⟨6,0,none⟩) 6 6::.int .i64 6::.int .i64 j::zs az 92 62 [])))):=bJ au;clear au;have e7:IntKind.i64.wrap ((j:Int)+1)=((j+1:Nat):Int):=by rw [ar (by omega) (by omega)]; rfl
      rcases (show j=0∨j=1∨j=2∨j=3∨j=4∨j=5∨j=6 by omega) with rfl | rfl | rfl | rfl | rfl | rfl | rfl
      ·conv=>whnf
       refine ⟨⟨by decide,by decide⟩,?_⟩
       conv=>whnf
       obtain ⟨x,cx,ex,px,sx,qx⟩:=jn (j3 qp qq (qw));refine ⟨((p,q),w),rfl,⟨⟨PV.aJ sp (by decide),PV.aJ sq (by decide)⟩,RV.aJ (sw) (by decide)⟩,?_⟩
       rw [show iZ.val ((p,q),w)=x.v from ex]
       conv=>whnf
       obtain ⟨z,dF⟩:∃ z,z=il A x:=⟨_,rfl⟩;refine ⟨(some (A,c),x),[0],by rw [show b8.args (some (A,c),x)=[.slice (some ⟨0,0,none⟩) n c,x.v] from by rw [hn]; rfl]; rfl,⟨⟨by show A.length≤_; omega,kG aU⟩,PV.aJ sx (by decide)⟩,?_⟩
       rw [show b8.aj (some (A,c),x)=[.flat false n 6 g] from by rw [hn,hg]; rfl,show b8.val (some (A,c),x)=.int .i64 z from congrArg (Value.int .i64) dF.symm,show b8.new (some (A,c),x)=none from rfl]
       conv=>whnf
       refine ⟨aO.aW (fun h=>h) (fun r hr=>by rw [hg]; rfl),?_⟩
       conv=>whnf
       refine ⟨_,rfl,?_⟩;conv=>whnf
       have ff:z=1↔fe Q (atR p.p q.p (RV.q w))=1:=by rw [dF,iw x (by rw [cx]; exact kS _),px]
       have fH:z≠1:=fun h=>by
        obtain ⟨l1,h1,e1,_⟩:=m7 og.1 og.2 (ff.1 h);rw [hI] at e1;cases e1
       refine ⟨(w:RV),rfl,RV.aT (sw) (by decide),?_⟩
       obtain ⟨s3,bm⟩:∃ z,z=aN (RV.q w) 0:=⟨_,rfl⟩;rw [show cK.val w=.int .i64 s3 from by rw [bm]; rfl]
       conv=>whnf
       by_cases e0:RV.q w=0
       ·rw [show (s3 == 0)=true from by rw [bm,cc.2 e0]; rfl]
        conv=>whnf
        rw [show (z == 1)=false from by simp [fH]]
        conv=>whnf
        rw [e7];refine .inr ⟨[0,1,2,3,4,5,6],[0,5,6,9,10,11,13,89,90,91],?_⟩;conv=>whnf
        intro _;conv=>whnf
        refine ⟨_,?_,0+1,(.aa (.sk 4 (.aa (.aa (.sk 2 (.aa (.aa (.aa (.sk 1 (.aa (.sk 75 (.aa (.aa (.aa (.sk 62 .nil rfl)))) rfl)) rfl)))) rfl))) rfl)),rfl,rfl,?_⟩
        ·omega
        ·omega
       ·rw [show (s3 == 0)=false from by rw [bm]; simpa using fun e=>e0 (cc.1 e)]
        conv=>whnf
        rw [show (z == 1)=false from by simp [fH]]
        conv=>whnf
        rw [e7];refine .inr ⟨[0,1,2,3,4,5,6],[0,5,6,9,10,11,13,89,90,91],?_⟩;conv=>whnf
        intro _;conv=>whnf
        refine ⟨_,?_,0+1,(.aa (.sk 4 (.aa (.aa (.sk 2 (.aa (.aa (.aa (.sk 1 (.aa (.sk 75 (.aa (.aa (.aa (.sk 62 .nil rfl)))) rfl)) rfl)))) rfl))) rfl)),rfl,rfl,?_⟩
        ·omega
        ·omega
      ·conv=>whnf
       refine ⟨⟨by decide,by decide⟩,?_⟩
       conv=>whnf
       obtain ⟨x,cx,ex,px,sx,qx⟩:=jn (j3 qp qq (p5 (k:=0)));refine ⟨((p,q),aZ),rfl,⟨⟨PV.aJ sp (by decide),PV.aJ sq (by decide)⟩,RV.aJ (jN 1) (by decide)⟩,?_⟩
       rw [show iZ.val ((p,q),aZ)=x.v from ex]
       conv=>whnf
       obtain ⟨z,dF⟩:∃ z,z=il A x:=⟨_,rfl⟩;refine ⟨(some (A,c),x),[0],by rw [show b8.args (some (A,c),x)=[.slice (some ⟨0,0,none⟩) n c,x.v] from by rw [hn]; rfl]; rfl,⟨⟨by show A.length≤_; omega,kG aU⟩,PV.aJ sx (by decide)⟩,?_⟩
       rw [show b8.aj (some (A,c),x)=[.flat false n 6 g] from by rw [hn,hg]; rfl,show b8.val (some (A,c),x)=.int .i64 z from congrArg (Value.int .i64) dF.symm,show b8.new (some (A,c),x)=none from rfl]
       conv=>whnf
       refine ⟨aO.aW (fun h=>h) (fun r hr=>by rw [hg]; rfl),?_⟩
       conv=>whnf
       refine ⟨_,rfl,?_⟩;conv=>whnf
       have ff:z=1↔fe Q (atR p.p q.p (RV.q aZ))=1:=by rw [dF,iw x (by rw [cx]; exact kS _),px]
       have fH:z≠1:=fun h=>by
        obtain ⟨l1,h1,e1,_⟩:=m7 r0.1 r0.2 (ff.1 h);rw [hI] at e1;cases e1
       refine ⟨(aZ:RV),rfl,RV.aT (jN 1) (by decide),?_⟩
       obtain ⟨s3,bm⟩:∃ z,z=aN (RV.q aZ) 0:=⟨_,rfl⟩;rw [show cK.val aZ=.int .i64 s3 from by rw [bm]; rfl]
       conv=>whnf
       by_cases e0:RV.q aZ=0
       ·rw [show (s3 == 0)=true from by rw [bm,cc.2 e0]; rfl]
        conv=>whnf
        rw [show (z == 1)=false from by simp [fH]]
        conv=>whnf
        rw [e7];refine .inr ⟨[0,1,2,3,4,5,6],[0,5,6,9,10,11,13,89,90,91],?_⟩;conv=>whnf
        intro _;conv=>whnf
        refine ⟨_,?_,1+1,(.aa (.sk 4 (.aa (.aa (.sk 2 (.aa (.aa (.aa (.sk 1 (.aa (.sk 75 (.aa (.aa (.aa (.sk 62 .nil rfl)))) rfl)) rfl)))) rfl))) rfl)),rfl,rfl,?_⟩
        ·omega
        ·omega
       ·rw [show (s3 == 0)=false from by rw [bm]; simpa using fun e=>e0 (cc.1 e)]
        conv=>whnf
        rw [show (z == 1)=false from by simp [fH]]
        conv=>whnf
        rw [e7];refine .inr ⟨[0,1,2,3,4,5,6],[0,5,6,9,10,11,13,89,90,91],?_⟩;conv=>whnf
        intro _;conv=>whnf
        refine ⟨_,?_,1+1,(.aa (.sk 4 (.aa (.aa (.sk 2 (.aa (.aa (.aa (.sk 1 (.aa (.sk 75 (.aa (.aa (.aa (.sk 62 .nil rfl)))) rfl)) rfl)))) rfl))) rfl)),rfl,rfl,?_⟩
        ·omega
        ·omega
      ·conv=>whnf
       refine ⟨⟨by decide,by decide⟩,?_⟩
       conv=>whnf
       obtain ⟨x,cx,ex,px,sx,qx⟩:=jn (j3 qp qq (qo));refine ⟨((p,q),o),rfl,⟨⟨PV.aJ sp (by decide),PV.aJ sq (by decide)⟩,RV.aJ (so) (by decide)⟩,?_⟩
       rw [show iZ.val ((p,q),o)=x.v from ex]
       conv=>whnf
       obtain ⟨z,dF⟩:∃ z,z=il A x:=⟨_,rfl⟩;refine ⟨(some (A,c),x),[0],by rw [show b8.args (some (A,c),x)=[.slice (some ⟨0,0,none⟩) n c,x.v] from by rw [hn]; rfl]; rfl,⟨⟨by show A.length≤_; omega,kG aU⟩,PV.aJ sx (by decide)⟩,?_⟩
       rw [show b8.aj (some (A,c),x)=[.flat false n 6 g] from by rw [hn,hg]; rfl,show b8.val (some (A,c),x)=.int .i64 z from congrArg (Value.int .i64) dF.symm,show b8.new (some (A,c),x)=none from rfl]
       conv=>whnf
       refine ⟨aO.aW (fun h=>h) (fun r hr=>by rw [hg]; rfl),?_⟩
       conv=>whnf
       refine ⟨_,rfl,?_⟩;conv=>whnf
       have ff:z=1↔fe Q (atR p.p q.p (RV.q o))=1:=by rw [dF,iw x (by rw [cx]; exact kS _),px]
       have fH:z≠1:=fun h=>by
        obtain ⟨l1,h1,e1,_⟩:=m7 r1.1 r1.2 (ff.1 h);rw [hI] at e1;cases e1
       refine ⟨(o:RV),rfl,RV.aT (so) (by decide),?_⟩
       obtain ⟨s3,bm⟩:∃ z,z=aN (RV.q o) 0:=⟨_,rfl⟩;rw [show cK.val o=.int .i64 s3 from by rw [bm]; rfl]
       conv=>whnf
       by_cases e0:RV.q o=0
       ·rw [show (s3 == 0)=true from by rw [bm,cc.2 e0]; rfl]
        conv=>whnf
        rw [show (z == 1)=false from by simp [fH]]
        conv=>whnf
        rw [e7];refine .inr ⟨[0,1,2,3,4,5,6],[0,5,6,9,10,11,13,89,90,91],?_⟩;conv=>whnf
        intro _;conv=>whnf
        refine ⟨_,?_,2+1,(.aa (.sk 4 (.aa (.aa (.sk 2 (.aa (.aa (.aa (.sk 1 (.aa (.sk 75 (.aa (.aa (.aa (.sk 62 .nil rfl)))) rfl)) rfl)))) rfl))) rfl)),rfl,rfl,?_⟩
        ·omega
        ·omega
       ·rw [show (s3 == 0)=false from by rw [bm]; simpa using fun e=>e0 (cc.1 e)]
        conv=>whnf
        rw [show (z == 1)=false from by simp [fH]]
        conv=>whnf
        rw [e7];refine .inr ⟨[0,1,2,3,4,5,6],[0,5,6,9,10,11,13,89,90,91],?_⟩;conv=>whnf
        intro _;conv=>whnf
        refine ⟨_,?_,2+1,(.aa (.sk 4 (.aa (.aa (.sk 2 (.aa (.aa (.aa (.sk 1 (.aa (.sk 75 (.aa (.aa (.aa (.sk 62 .nil rfl)))) rfl)) rfl)))) rfl))) rfl)),rfl,rfl,?_⟩
        ·omega
        ·omega
      ·conv=>whnf
       refine ⟨⟨by decide,by decide⟩,?_⟩
       conv=>whnf
       obtain ⟨x,cx,ex,px,sx,qx⟩:=jn (j3 qp qq (mW));refine ⟨((p,q),lo),rfl,⟨⟨PV.aJ sp (by decide),PV.aJ sq (by decide)⟩,RV.aJ (bS) (by decide)⟩,?_⟩
       rw [show iZ.val ((p,q),lo)=x.v from ex]
       conv=>whnf
       obtain ⟨z,dF⟩:∃ z,z=il A x:=⟨_,rfl⟩;refine ⟨(some (A,c),x),[0],by rw [show b8.args (some (A,c),x)=[.slice (some ⟨0,0,none⟩) n c,x.v] from by rw [hn]; rfl]; rfl,⟨⟨by show A.length≤_; omega,kG aU⟩,PV.aJ sx (by decide)⟩,?_⟩
       rw [show b8.aj (some (A,c),x)=[.flat false n 6 g] from by rw [hn,hg]; rfl,show b8.val (some (A,c),x)=.int .i64 z from congrArg (Value.int .i64) dF.symm,show b8.new (some (A,c),x)=none from rfl]
       conv=>whnf
       refine ⟨aO.aW (fun h=>h) (fun r hr=>by rw [hg]; rfl),?_⟩
       conv=>whnf
       refine ⟨_,rfl,?_⟩;conv=>whnf
       have ff:z=1↔fe Q (atR p.p q.p (RV.q lo))=1:=by rw [dF,iw x (by rw [cx]; exact kS _),px]
       have fH:z≠1:=fun h=>by
        obtain ⟨l1,h1,e1,_⟩:=m7 jf.1 jf.2 (ff.1 h);rw [hI] at e1;cases e1
       refine ⟨(lo:RV),rfl,RV.aT (bS) (by decide),?_⟩
       obtain ⟨s3,bm⟩:∃ z,z=aN (RV.q lo) 0:=⟨_,rfl⟩;rw [show cK.val lo=.int .i64 s3 from by rw [bm]; rfl]
       conv=>whnf
       by_cases e0:RV.q lo=0
       ·rw [show (s3 == 0)=true from by rw [bm,cc.2 e0]; rfl]
        conv=>whnf
        rw [show (z == 1)=false from by simp [fH]]
        conv=>whnf
        rw [e7];refine .inr ⟨[0,1,2,3,4,5,6],[0,5,6,9,10,11,13,89,90,91],?_⟩;conv=>whnf
        intro _;conv=>whnf
        refine ⟨_,?_,3+1,(.aa (.sk 4 (.aa (.aa (.sk 2 (.aa (.aa (.aa (.sk 1 (.aa (.sk 75 (.aa (.aa (.aa (.sk 62 .nil rfl)))) rfl)) rfl)))) rfl))) rfl)),rfl,rfl,?_⟩
        ·omega
        ·omega
       ·rw [show (s3 == 0)=false from by rw [bm]; simpa using fun e=>e0 (cc.1 e)]
        conv=>whnf
        rw [show (z == 1)=false from by simp [fH]]
        conv=>whnf
        rw [e7];refine .inr ⟨[0,1,2,3,4,5,6],[0,5,6,9,10,11,13,89,90,91],?_⟩;conv=>whnf
        intro _;conv=>whnf
        refine ⟨_,?_,3+1,(.aa (.sk 4 (.aa (.aa (.sk 2 (.aa (.aa (.aa (.sk 1 (.aa (.sk 75 (.aa (.aa (.aa (.sk 62 .nil rfl)))) rfl)) rfl)))) rfl))) rfl)),rfl,rfl,?_⟩
        ·omega
        ·omega
      ·conv=>whnf
       refine ⟨⟨by decide,by decide⟩,?_⟩
       conv=>whnf
       obtain ⟨x,cx,ex,px,sx,qx⟩:=jn (j3 qp qq (oJ));refine ⟨((p,q),hi),rfl,⟨⟨PV.aJ sp (by decide),PV.aJ sq (by decide)⟩,RV.aJ (fJ) (by decide)⟩,?_⟩
       rw [show iZ.val ((p,q),hi)=x.v from ex]
       conv=>whnf
       obtain ⟨z,dF⟩:∃ z,z=il A x:=⟨_,rfl⟩;refine ⟨(some (A,c),x),[0],by rw [show b8.args (some (A,c),x)=[.slice (some ⟨0,0,none⟩) n c,x.v] from by rw [hn]; rfl]; rfl,⟨⟨by show A.length≤_; omega,kG aU⟩,PV.aJ sx (by decide)⟩,?_⟩
       rw [show b8.aj (some (A,c),x)=[.flat false n 6 g] from by rw [hn,hg]; rfl,show b8.val (some (A,c),x)=.int .i64 z from congrArg (Value.int .i64) dF.symm,show b8.new (some (A,c),x)=none from rfl]
       conv=>whnf
       refine ⟨aO.aW (fun h=>h) (fun r hr=>by rw [hg]; rfl),?_⟩
       conv=>whnf
       refine ⟨_,rfl,?_⟩;conv=>whnf
       have ff:z=1↔fe Q (atR p.p q.p (RV.q hi))=1:=by rw [dF,iw x (by rw [cx]; exact kS _),px]
       have fH:z≠1:=fun h=>by
        obtain ⟨l1,h1,e1,_⟩:=m7 vP.1 vP.2 (ff.1 h);rw [hI] at e1;cases e1
       refine ⟨(hi:RV),rfl,RV.aT (fJ) (by decide),?_⟩
       obtain ⟨s3,bm⟩:∃ z,z=aN (RV.q hi) 0:=⟨_,rfl⟩;rw [show cK.val hi=.int .i64 s3 from by rw [bm]; rfl]
       conv=>whnf
       by_cases e0:RV.q hi=0
       ·rw [show (s3 == 0)=true from by rw [bm,cc.2 e0]; rfl]
        conv=>whnf
        rw [show (z == 1)=false from by simp [fH]]
        conv=>whnf
        rw [e7];refine .inr ⟨[0,1,2,3,4,5,6],[0,5,6,9,10,11,13,89,90,91],?_⟩;conv=>whnf
        intro _;conv=>whnf
        refine ⟨_,?_,4+1,(.aa (.sk 4 (.aa (.aa (.sk 2 (.aa (.aa (.aa (.sk 1 (.aa (.sk 75 (.aa (.aa (.aa (.sk 62 .nil rfl)))) rfl)) rfl)))) rfl))) rfl)),rfl,rfl,?_⟩
        ·omega
        ·omega
       ·rw [show (s3 == 0)=false from by rw [bm]; simpa using fun e=>e0 (cc.1 e)]
        conv=>whnf
        rw [show (z == 1)=false from by simp [fH]]
        conv=>whnf
        rw [e7];refine .inr ⟨[0,1,2,3,4,5,6],[0,5,6,9,10,11,13,89,90,91],?_⟩;conv=>whnf
        intro _;conv=>whnf
        refine ⟨_,?_,4+1,(.aa (.sk 4 (.aa (.aa (.sk 2 (.aa (.aa (.aa (.sk 1 (.aa (.sk 75 (.aa (.aa (.aa (.sk 62 .nil rfl)))) rfl)) rfl)))) rfl))) rfl)),rfl,rfl,?_⟩
        ·omega
        ·omega
      ·conv=>whnf
       refine ⟨⟨by decide,by decide⟩,?_⟩
       conv=>whnf
       obtain ⟨x,cx,ex,px,sx,qx⟩:=jn (j3 qp qq (JG));refine ⟨((p,q),d3),rfl,⟨⟨PV.aJ sp (by decide),PV.aJ sq (by decide)⟩,RV.aJ (rG) (by decide)⟩,?_⟩
       rw [show iZ.val ((p,q),d3)=x.v from ex]
       conv=>whnf
       obtain ⟨z,dF⟩:∃ z,z=il A x:=⟨_,rfl⟩;refine ⟨(some (A,c),x),[0],by rw [show b8.args (some (A,c),x)=[.slice (some ⟨0,0,none⟩) n c,x.v] from by rw [hn]; rfl]; rfl,⟨⟨by show A.length≤_; omega,kG aU⟩,PV.aJ sx (by decide)⟩,?_⟩
       rw [show b8.aj (some (A,c),x)=[.flat false n 6 g] from by rw [hn,hg]; rfl,show b8.val (some (A,c),x)=.int .i64 z from congrArg (Value.int .i64) dF.symm,show b8.new (some (A,c),x)=none from rfl]
       conv=>whnf
       refine ⟨aO.aW (fun h=>h) (fun r hr=>by rw [hg]; rfl),?_⟩
       conv=>whnf
       refine ⟨_,rfl,?_⟩;conv=>whnf
       have ff:z=1↔fe Q (atR p.p q.p (RV.q d3))=1:=by rw [dF,iw x (by rw [cx]; exact kS _),px]
       have fH:z≠1:=fun h=>by
        obtain ⟨l1,h1,e1,_⟩:=m7 Ay.1 Ay.2 (ff.1 h);rw [hI] at e1;cases e1
       refine ⟨(d3:RV),rfl,RV.aT (rG) (by decide),?_⟩
       obtain ⟨s3,bm⟩:∃ z,z=aN (RV.q d3) 0:=⟨_,rfl⟩;rw [show cK.val d3=.int .i64 s3 from by rw [bm]; rfl]
       conv=>whnf
       by_cases e0:RV.q d3=0
       ·rw [show (s3 == 0)=true from by rw [bm,cc.2 e0]; rfl]
        conv=>whnf
        rw [show (z == 1)=false from by simp [fH]]
        conv=>whnf
        rw [e7];refine .inr ⟨[0,1,2,3,4,5,6],[0,5,6,9,10,11,13,89,90,91],?_⟩;conv=>whnf
        intro _;conv=>whnf
        refine ⟨_,?_,5+1,(.aa (.sk 4 (.aa (.aa (.sk 2 (.aa (.aa (.aa (.sk 1 (.aa (.sk 75 (.aa (.aa (.aa (.sk 62 .nil rfl)))) rfl)) rfl)))) rfl))) rfl)),rfl,rfl,?_⟩
        ·omega
        ·omega
       ·rw [show (s3 == 0)=false from by rw [bm]; simpa using fun e=>e0 (cc.1 e)]
        conv=>whnf
        rw [show (z == 1)=false from by simp [fH]]
        conv=>whnf
        rw [e7];refine .inr ⟨[0,1,2,3,4,5,6],[0,5,6,9,10,11,13,89,90,91],?_⟩;conv=>whnf
        intro _;conv=>whnf
        refine ⟨_,?_,5+1,(.aa (.sk 4 (.aa (.aa (.sk 2 (.aa (.aa (.aa (.sk 1 (.aa (.sk 75 (.aa (.aa (.aa (.sk 62 .nil rfl)))) rfl)) rfl)))) rfl))) rfl)),rfl,rfl,?_⟩
        ·omega
        ·omega
      ·conv=>whnf
       conv=>whnf
       refine ⟨(),rfl,trivial,?_⟩;conv=>whnf
       exact fin _
     | some st =>
      obtain ⟨l0,h0⟩:=st;have hv:dY A (p,q)=((RV.of l0,RV.of h0),true,0):=by
       unfold dY;rw [if_pos ⟨C8,cp,cq⟩,← hQ,hI]
      obtain ⟨ql0,qh0⟩:=Zw adJ qp qq hI;obtain ⟨⟨i1,i2,i3⟩,_⟩:=uu (t:=0) hI;obtain ⟨lo,jI,QM,je,bS,mW⟩:=qz ql0;obtain ⟨hi,kh,ehi,jJ,fJ,oJ⟩:=qz qh0;refine ⟨(some (A,c),(p,q)),[0],by rw [show gN.args (some (A,c),(p,q))=[.slice (some ⟨0,0,none⟩) n c,XV.v (p,q)] from by rw [hn]; rfl]; rfl,⟨⟨by show A.length≤_; omega,kG aU⟩,PV.aJ sp (by decide),PV.aJ sq (by decide)⟩,?_⟩
      rw [show gN.aj (some (A,c),(p,q))=[.flat false n 6 g] from by rw [hn,hg]; rfl,show gN.val (some (A,c),(p,q))=.tuple ⟨[lo.v,hi.v,.bool true,.int .i64 0]⟩ from by show Value.tuple ⟨[(dY A (p,q)).1.1.v,(dY A (p,q)).1.2.v,.bool (dY A (p,q)).2.1,.int .i64 (dY A (p,q)).2.2]⟩=_; rw [hv,jI,kh],show gN.new (some (A,c),(p,q))=none from rfl]
      conv=>whnf
      refine ⟨aO.aW (fun h=>h) (fun r hr=>by rw [hg]; rfl),?_⟩
      conv=>whnf
      refine ⟨_,rfl,?_⟩;conv=>whnf
      obtain ⟨o,co,eo,po,so,qo⟩:=qz (q:=((1:Int):Rat)) (QB.of_int (n:=1) (k:=1) (fj (show Int.natAbs 1 < C ^ 1 by decide)) (by decide))
      refine ⟨(1:Int),rfl,⟨by decide,by decide⟩,?_⟩
      rw [show kD.val (1:Int)=o.v from eo]
      conv=>whnf
      obtain ⟨s1,es1,ps1⟩:=dJ (aN lo.q 0);refine ⟨lo,rfl,RV.aT bS (by decide),?_⟩
      rw [show cK.val lo=.int .i64 s1 from es1]
      conv=>whnf
      rw [decide_eq_false (show ¬ s1 < 0 from fun h=>by have:=oU.2 (show (0:Rat)≤lo.q by rw [je]; exact i1); omega)]
      conv=>whnf
      obtain ⟨c1,ec1,pc1⟩:=dJ (aN lo.q hi.q);refine ⟨(lo,hi),rfl,⟨RV.aT bS (by decide),RV.aT fJ (by decide)⟩,?_⟩
      rw [show eD.val (lo,hi)=.int .i64 c1 from ec1]
      conv=>whnf
      rw [decide_eq_false (show ¬ c1 ≥ 0 from fun h=>by have:=oU.1 (show 0≤aN lo.q hi.q by omega); rw [je,jJ] at this; grind)]
      conv=>whnf
      obtain ⟨c2,ec2,pc2⟩:=dJ (aN hi.q o.q);refine ⟨(hi,o),rfl,⟨RV.aT fJ (by decide),RV.aT so (by decide)⟩,?_⟩
      rw [show eD.val (hi,o)=.int .i64 c2 from ec2]
      conv=>whnf
      rw [decide_eq_false (show ¬ c2 > 0 from fun h=>by have:=BN.2 (show hi.q≤o.q by rw [jJ,po]; exact i3); omega)]
      conv=>whnf
      obtain ⟨w,cw,ew,pw,sw,qw⟩:=qz (MN hm);rw [show IntKind.i64.wrap (m:Int)=(m:Int) from ar (by omega) (by omega)]
      refine ⟨((m:Int),255),rfl,⟨⟨by omega,by omega⟩,by show rm 255; decide⟩,?_⟩
      rw [show wS.val ((m:Int),255)=.tuple ⟨[w.v,.int .i64 0]⟩ from by show jx (m:Int) 255=_; rw [Ns,cw]; rfl]
      conv=>whnf
      refine .inl ⟨12,[[],[],[],[],[],[],[],[],[],[7,8],[6,7,8,9],[5,6,7,8,9,10],[0,1,2,3,4,5,6,7,8,9,10,11],[0,1,2,3,4,5,6,7,8,9,10,11,12]],by kernel_rfl,?_⟩
      conv=>whnf
      obtain ⟨d1,JC,JD,JE,JF⟩:=fm (QB.sub oJ mW);refine ⟨(hi,lo),rfl,⟨RV.aT fJ (by decide),RV.aT bS (by decide)⟩,?_⟩
      rw [show gh.val (hi,lo)=d1.v from JC]
      conv=>whnf
      obtain ⟨d2,iN,oG,oH,oI⟩:=fm (QB.mul qw JF);refine ⟨(w,d1),rfl,⟨RV.aT sw (by decide),RV.aT JE (by decide)⟩,?_⟩
      rw [show jX.val (w,d1)=d2.v from iN]
      conv=>whnf
      obtain ⟨d3,Aw,Ax,rG,JG⟩:=fm (QB.add mW oI);refine ⟨(lo,d2),rfl,⟨RV.aT bS (by decide),RV.aT oH (by decide)⟩,?_⟩
      rw [show jW.val (lo,d2)=d3.v from Aw]
      conv=>whnf
      have jf:0≤lo.q∧lo.q≤1:=by rw [je]; exact ⟨i1,by grind⟩
      have vP:0≤hi.q∧hi.q≤1:=by rw [jJ]; exact ⟨by grind,i3⟩
      have JH:lo.q≤hi.q:=by rw [je,jJ]; grind
      have jK:lo=RV.of lo.q:=by rw [je]; exact jI
      have jL:hi=RV.of hi.q:=by rw [jJ]; exact kh
      have og:=MM hm;rw [← pw] at og;have r0:0≤aZ.q∧aZ.q≤1:=by rw [yz]; exact ⟨by decide,by decide⟩
      have r1:0≤o.q∧o.q≤1:=by rw [po]; exact ⟨by decide,by decide⟩
      have kw:w=RV.of w.q:=by rw [pw]; exact cw
      have ko:o=RV.of o.q:=by rw [po]; exact co
      have vQ:d3=RV.of d3.q:=by rw [Ax]; exact (RV.lZ Aw).symm
      have Ay:0≤d3.q∧d3.q≤1:=by rw [Ax,oG,JD]; exact N4 jf.1 JH vP.2 og.1 og.2
      refine .inl ⟨fun mm tz hz=>∃ (j:Nat),bA (some (.slice (some ⟨0,0,none⟩) n c)::aB 4 (some (.pointer (some ⟨1,0,none⟩))::some (.pointer (some ⟨2,0,none⟩))::aB 2 (some (.pointer (some ⟨3,0,none⟩))::some (.pointer (some ⟨4,0,none⟩))::some (.bool true)::aB 1 (some (.pointer (some ⟨5,0,none⟩))::aB 75 (some (.slice (some ⟨6,0,none⟩) 6 6)::some (.int .i64 6)::some (.int .i64 j)::aB 62 []))))) tz∧hz=[some (.flat false n 6 g),some (.aL true 6 [p.cells]),some (.aL true 6 [q.cells]),some (.aL true 3 [lo.c1]),some (.aL true 3 [hi.c1]),some (.aL true 3 [o.c1]),some (.aL true 3 [w.c1,aZ.c1,o.c1,lo.c1,hi.c1,d3.c1])]∧6 - j=mm∧(j≤6),.inr ⟨[0,1,2,4,5,6,20],[0,5,6,9,10,11,13,89,90,91],?_⟩,?_⟩
      ·conv=>whnf
       intro _;conv=>whnf
       refine ⟨_,0,(.aa (.sk 4 (.aa (.aa (.sk 2 (.aa (.aa (.aa (.sk 1 (.aa (.sk 75 (.aa (.aa (.aa (.sk 62 .nil rfl)))) rfl)) rfl)))) rfl))) rfl)),rfl,rfl,?_⟩;exact Nat.zero_le _
      rintro mm aS _ ⟨j,au,rfl,rfl,hj⟩
      obtain ⟨az,rfl⟩:∃ az:Nat→Value,aS=.slice (some ⟨0,0,none⟩) n c::zs az 1 4 (.pointer (some ⟨1,0,none⟩)::.pointer (some ⟨2,0,none⟩)::zs az 7 2 (.pointer (some ⟨3,0,none⟩)::.pointer (some ⟨4,0,none⟩)::.bool true::zs az 12 1 (.pointer (some ⟨5,0,none⟩)::zs az 14 75 (.slice (some ⟨6,0,none⟩) 6 6::.int .i64 6::.int .i64 j::zs az 92 62 [])))):=bJ au;clear au;have e7:IntKind.i64.wrap ((j:Int)+1)=((j+1:Nat):Int):=by rw [ar (by omega) (by omega)]; rfl
      rcases (show j=0∨j=1∨j=2∨j=3∨j=4∨j=5∨j=6 by omega) with rfl | rfl | rfl | rfl | rfl | rfl | rfl
      ·conv=>whnf
       refine ⟨⟨by decide,by decide⟩,?_⟩
       conv=>whnf
       obtain ⟨x,cx,ex,px,sx,qx⟩:=jn (j3 qp qq (qw));refine ⟨((p,q),w),rfl,⟨⟨PV.aJ sp (by decide),PV.aJ sq (by decide)⟩,RV.aJ (sw) (by decide)⟩,?_⟩
       rw [show iZ.val ((p,q),w)=x.v from ex]
       conv=>whnf
       obtain ⟨z,dF⟩:∃ z,z=il A x:=⟨_,rfl⟩;refine ⟨(some (A,c),x),[0],by rw [show b8.args (some (A,c),x)=[.slice (some ⟨0,0,none⟩) n c,x.v] from by rw [hn]; rfl]; rfl,⟨⟨by show A.length≤_; omega,kG aU⟩,PV.aJ sx (by decide)⟩,?_⟩
       rw [show b8.aj (some (A,c),x)=[.flat false n 6 g] from by rw [hn,hg]; rfl,show b8.val (some (A,c),x)=.int .i64 z from congrArg (Value.int .i64) dF.symm,show b8.new (some (A,c),x)=none from rfl]
       conv=>whnf
       refine ⟨aO.aW (fun h=>h) (fun r hr=>by rw [hg]; rfl),?_⟩
       conv=>whnf
       refine ⟨_,rfl,?_⟩;conv=>whnf
       have ff:z=1↔fe Q (atR p.p q.p (RV.q w))=1:=by rw [dF,iw x (by rw [cx]; exact kS _),px]
       have oK:lo.q < RV.q w→RV.q w < hi.q→z=1:=fun a b=>ff.2 ((uu hI).2 (by rw [← je]; exact a) (by rw [← jJ]; exact b))
       have dv:z=1→(lo.q < RV.q w∨(RV.q w=0∧RV.q w=lo.q))∧(RV.q w < hi.q∨(RV.q w=1∧RV.q w=hi.q)):=fun h=>by
        obtain ⟨l1,h1,e1,e2,e3⟩:=m7 og.1 og.2 (ff.1 h);rw [hI] at e1;have e4:=Prod.mk.inj (Option.some.inj e1);rw [← je.trans e4.1] at e2;rw [← jJ.trans e4.2] at e3;exact ⟨e2,e3⟩
       refine ⟨(lo,w),rfl,⟨RV.aT bS (by decide),RV.aT (sw) (by decide)⟩,?_⟩
       obtain ⟨c3,gf⟩:∃ z,z=aN lo.q (RV.q w):=⟨_,rfl⟩;rw [show eD.val (lo,w)=.int .i64 c3 from by rw [gf]; rfl]
       conv=>whnf
       by_cases b1:lo.q < RV.q w
       ·rw [decide_eq_true (show c3 < 0 by rw [gf]; exact fA.2 b1)]
        conv=>whnf
        refine ⟨(w,hi),rfl,⟨RV.aT (sw) (by decide),RV.aT fJ (by decide)⟩,?_⟩
        obtain ⟨c4,gp⟩:∃ z,z=aN (RV.q w) hi.q:=⟨_,rfl⟩;rw [show eD.val (w,hi)=.int .i64 c4 from by rw [gp]; rfl]
        conv=>whnf
        by_cases b2:RV.q w < hi.q
        ·rw [decide_eq_true (show c4 < 0 by rw [gp]; exact fA.2 b2)]
         have oL:=oK b1 b2;subst oL;conv=>whnf
         refine ⟨(w:RV),rfl,RV.aT (sw) (by decide),?_⟩
         obtain ⟨s3,bm⟩:∃ z,z=aN (RV.q w) 0:=⟨_,rfl⟩;rw [show cK.val w=.int .i64 s3 from by rw [bm]; rfl]
         conv=>whnf
         by_cases e0:RV.q w=0
         ·rw [show (s3 == 0)=true from by rw [bm,cc.2 e0]; rfl]
          conv=>whnf
          rw [e7];refine .inr ⟨[0,1,2,3,4,5,6],[0,5,6,9,10,11,13,89,90,91],?_⟩;conv=>whnf
          intro _;conv=>whnf
          refine ⟨_,?_,0+1,(.aa (.sk 4 (.aa (.aa (.sk 2 (.aa (.aa (.aa (.sk 1 (.aa (.sk 75 (.aa (.aa (.aa (.sk 62 .nil rfl)))) rfl)) rfl)))) rfl))) rfl)),rfl,rfl,?_⟩
          ·omega
          ·omega
         ·rw [show (s3 == 0)=false from by rw [bm]; simpa using fun e=>e0 (cc.1 e)]
          conv=>whnf
          rw [e7];refine .inr ⟨[0,1,2,3,4,5,6],[0,5,6,9,10,11,13,89,90,91],?_⟩;conv=>whnf
          intro _;conv=>whnf
          refine ⟨_,?_,0+1,(.aa (.sk 4 (.aa (.aa (.sk 2 (.aa (.aa (.aa (.sk 1 (.aa (.sk 75 (.aa (.aa (.aa (.sk 62 .nil rfl)))) rfl)) rfl)))) rfl))) rfl)),rfl,rfl,?_⟩
          ·omega
          ·omega
        ·rw [decide_eq_false (show ¬ c4 < 0 by rw [gp]; exact fun h=>b2 (fA.1 h))]
         have dw:¬ (lo.q < RV.q w∧RV.q w < hi.q):=fun h=>b2 h.2
         conv=>whnf
         refine ⟨(w:RV),rfl,RV.aT (sw) (by decide),?_⟩
         obtain ⟨s3,bm⟩:∃ z,z=aN (RV.q w) 0:=⟨_,rfl⟩;rw [show cK.val w=.int .i64 s3 from by rw [bm]; rfl]
         conv=>whnf
         by_cases e0:RV.q w=0
         ·rw [show (s3 == 0)=true from by rw [bm,cc.2 e0]; rfl]
          conv=>whnf
          by_cases h1:z=1
          ·have ho:=dv h1;subst h1;conv=>whnf
           rw [show bz _ _=true from (cg w lo).trans (decide_eq_true (dr kw jK (by have:=jf.1; grind)))]
           conv=>whnf
           rw [e7];refine .inr ⟨[0,1,2,3,4,5,6],[0,5,6,9,10,11,13,89,90,91],?_⟩;conv=>whnf
           intro _;conv=>whnf
           refine ⟨_,?_,0+1,(.aa (.sk 4 (.aa (.aa (.sk 2 (.aa (.aa (.aa (.sk 1 (.aa (.sk 75 (.aa (.aa (.aa (.sk 62 .nil rfl)))) rfl)) rfl)))) rfl))) rfl)),rfl,rfl,?_⟩
           ·omega
           ·omega
          ·rw [show (z == 1)=false from by simp [h1]]
           conv=>whnf
           rw [e7];refine .inr ⟨[0,1,2,3,4,5,6],[0,5,6,9,10,11,13,89,90,91],?_⟩;conv=>whnf
           intro _;conv=>whnf
           refine ⟨_,?_,0+1,(.aa (.sk 4 (.aa (.aa (.sk 2 (.aa (.aa (.aa (.sk 1 (.aa (.sk 75 (.aa (.aa (.aa (.sk 62 .nil rfl)))) rfl)) rfl)))) rfl))) rfl)),rfl,rfl,?_⟩
           ·omega
           ·omega
         ·rw [show (s3 == 0)=false from by rw [bm]; simpa using fun e=>e0 (cc.1 e)]
          conv=>whnf
          by_cases h1:z=1
          ·have ho:=dv h1;subst h1;conv=>whnf
           rw [show bz _ _=true from (cg w o).trans (decide_eq_true (dr kw ko (by have:=po; grind)))]
           conv=>whnf
           rw [show bz _ _=false from (cg w lo).trans (decide_eq_false (fun e=>by have:RV.q w=lo.q:=congrArg RV.q e; grind))]
           conv=>whnf
           rw [show bz _ _=true from (cg w hi).trans (decide_eq_true (dr kw jL (by grind)))]
           conv=>whnf
           rw [e7];refine .inr ⟨[0,1,2,3,4,5,6],[0,5,6,9,10,11,13,89,90,91],?_⟩;conv=>whnf
           intro _;conv=>whnf
           refine ⟨_,?_,0+1,(.aa (.sk 4 (.aa (.aa (.sk 2 (.aa (.aa (.aa (.sk 1 (.aa (.sk 75 (.aa (.aa (.aa (.sk 62 .nil rfl)))) rfl)) rfl)))) rfl))) rfl)),rfl,rfl,?_⟩
           ·omega
           ·omega
          ·rw [show (z == 1)=false from by simp [h1]]
           conv=>whnf
           rw [e7];refine .inr ⟨[0,1,2,3,4,5,6],[0,5,6,9,10,11,13,89,90,91],?_⟩;conv=>whnf
           intro _;conv=>whnf
           refine ⟨_,?_,0+1,(.aa (.sk 4 (.aa (.aa (.sk 2 (.aa (.aa (.aa (.sk 1 (.aa (.sk 75 (.aa (.aa (.aa (.sk 62 .nil rfl)))) rfl)) rfl)))) rfl))) rfl)),rfl,rfl,?_⟩
           ·omega
           ·omega
       ·rw [decide_eq_false (show ¬ c3 < 0 by rw [gf]; exact fun h=>b1 (fA.1 h))]
        have dw:¬ (lo.q < RV.q w∧RV.q w < hi.q):=fun h=>b1 h.1
        conv=>whnf
        refine ⟨(w:RV),rfl,RV.aT (sw) (by decide),?_⟩
        obtain ⟨s3,bm⟩:∃ z,z=aN (RV.q w) 0:=⟨_,rfl⟩;rw [show cK.val w=.int .i64 s3 from by rw [bm]; rfl]
        conv=>whnf
        by_cases e0:RV.q w=0
        ·rw [show (s3 == 0)=true from by rw [bm,cc.2 e0]; rfl]
         conv=>whnf
         by_cases h1:z=1
         ·have ho:=dv h1;subst h1;conv=>whnf
          rw [show bz _ _=true from (cg w lo).trans (decide_eq_true (dr kw jK (by have:=jf.1; grind)))]
          conv=>whnf
          rw [e7];refine .inr ⟨[0,1,2,3,4,5,6],[0,5,6,9,10,11,13,89,90,91],?_⟩;conv=>whnf
          intro _;conv=>whnf
          refine ⟨_,?_,0+1,(.aa (.sk 4 (.aa (.aa (.sk 2 (.aa (.aa (.aa (.sk 1 (.aa (.sk 75 (.aa (.aa (.aa (.sk 62 .nil rfl)))) rfl)) rfl)))) rfl))) rfl)),rfl,rfl,?_⟩
          ·omega
          ·omega
         ·rw [show (z == 1)=false from by simp [h1]]
          conv=>whnf
          rw [e7];refine .inr ⟨[0,1,2,3,4,5,6],[0,5,6,9,10,11,13,89,90,91],?_⟩;conv=>whnf
          intro _;conv=>whnf
          refine ⟨_,?_,0+1,(.aa (.sk 4 (.aa (.aa (.sk 2 (.aa (.aa (.aa (.sk 1 (.aa (.sk 75 (.aa (.aa (.aa (.sk 62 .nil rfl)))) rfl)) rfl)))) rfl))) rfl)),rfl,rfl,?_⟩
          ·omega
          ·omega
        ·rw [show (s3 == 0)=false from by rw [bm]; simpa using fun e=>e0 (cc.1 e)]
         conv=>whnf
         by_cases h1:z=1
         ·have ho:=dv h1;subst h1;conv=>whnf
          rw [show bz _ _=true from (cg w o).trans (decide_eq_true (dr kw ko (by have:=po; grind)))]
          conv=>whnf
          rw [show bz _ _=false from (cg w lo).trans (decide_eq_false (fun e=>by have:RV.q w=lo.q:=congrArg RV.q e; grind))]
          conv=>whnf
          rw [show bz _ _=true from (cg w hi).trans (decide_eq_true (dr kw jL (by grind)))]
          conv=>whnf
          rw [e7];refine .inr ⟨[0,1,2,3,4,5,6],[0,5,6,9,10,11,13,89,90,91],?_⟩;conv=>whnf
          intro _;conv=>whnf
          refine ⟨_,?_,0+1,(.aa (.sk 4 (.aa (.aa (.sk 2 (.aa (.aa (.aa (.sk 1 (.aa (.sk 75 (.aa (.aa (.aa (.sk 62 .nil rfl)))) rfl)) rfl)))) rfl))) rfl)),rfl,rfl,?_⟩
          ·omega
          ·omega
         ·rw [show (z == 1)=false from by simp [h1]]
          conv=>whnf
          rw [e7];refine .inr ⟨[0,1,2,3,4,5,6],[0,5,6,9,10,11,13,89,90,91],?_⟩;conv=>whnf
          intro _;conv=>whnf
          refine ⟨_,?_,0+1,(.aa (.sk 4 (.aa (.aa (.sk 2 (.aa (.aa (.aa (.sk 1 (.aa (.sk 75 (.aa (.aa (.aa (.sk 62 .nil rfl)))) rfl)) rfl)))) rfl))) rfl)),rfl,rfl,?_⟩
          ·omega
          ·omega
      ·conv=>whnf
       refine ⟨⟨by decide,by decide⟩,?_⟩
       conv=>whnf
       obtain ⟨x,cx,ex,px,sx,qx⟩:=jn (j3 qp qq (p5 (k:=0)));refine ⟨((p,q),aZ),rfl,⟨⟨PV.aJ sp (by decide),PV.aJ sq (by decide)⟩,RV.aJ (jN 1) (by decide)⟩,?_⟩
       rw [show iZ.val ((p,q),aZ)=x.v from ex]
       conv=>whnf
       obtain ⟨z,dF⟩:∃ z,z=il A x:=⟨_,rfl⟩;refine ⟨(some (A,c),x),[0],by rw [show b8.args (some (A,c),x)=[.slice (some ⟨0,0,none⟩) n c,x.v] from by rw [hn]; rfl]; rfl,⟨⟨by show A.length≤_; omega,kG aU⟩,PV.aJ sx (by decide)⟩,?_⟩
       rw [show b8.aj (some (A,c),x)=[.flat false n 6 g] from by rw [hn,hg]; rfl,show b8.val (some (A,c),x)=.int .i64 z from congrArg (Value.int .i64) dF.symm,show b8.new (some (A,c),x)=none from rfl]
       conv=>whnf
       refine ⟨aO.aW (fun h=>h) (fun r hr=>by rw [hg]; rfl),?_⟩
       conv=>whnf
       refine ⟨_,rfl,?_⟩;conv=>whnf
       have ff:z=1↔fe Q (atR p.p q.p (RV.q aZ))=1:=by rw [dF,iw x (by rw [cx]; exact kS _),px]
       have oK:lo.q < RV.q aZ→RV.q aZ < hi.q→z=1:=fun a b=>ff.2 ((uu hI).2 (by rw [← je]; exact a) (by rw [← jJ]; exact b))
       have dv:z=1→(lo.q < RV.q aZ∨(RV.q aZ=0∧RV.q aZ=lo.q))∧(RV.q aZ < hi.q∨(RV.q aZ=1∧RV.q aZ=hi.q)):=fun h=>by
        obtain ⟨l1,h1,e1,e2,e3⟩:=m7 r0.1 r0.2 (ff.1 h);rw [hI] at e1;have e4:=Prod.mk.inj (Option.some.inj e1);rw [← je.trans e4.1] at e2;rw [← jJ.trans e4.2] at e3;exact ⟨e2,e3⟩
       refine ⟨(lo,aZ),rfl,⟨RV.aT bS (by decide),RV.aT (jN 1) (by decide)⟩,?_⟩
       obtain ⟨c3,gf⟩:∃ z,z=aN lo.q (RV.q aZ):=⟨_,rfl⟩;rw [show eD.val (lo,aZ)=.int .i64 c3 from by rw [gf]; rfl]
       conv=>whnf
       by_cases b1:lo.q < RV.q aZ
       ·rw [decide_eq_true (show c3 < 0 by rw [gf]; exact fA.2 b1)]
        conv=>whnf
        refine ⟨(aZ,hi),rfl,⟨RV.aT (jN 1) (by decide),RV.aT fJ (by decide)⟩,?_⟩
        obtain ⟨c4,gp⟩:∃ z,z=aN (RV.q aZ) hi.q:=⟨_,rfl⟩;rw [show eD.val (aZ,hi)=.int .i64 c4 from by rw [gp]; rfl]
        conv=>whnf
        by_cases b2:RV.q aZ < hi.q
        ·rw [decide_eq_true (show c4 < 0 by rw [gp]; exact fA.2 b2)]
         have oL:=oK b1 b2;subst oL;conv=>whnf
         refine ⟨(aZ:RV),rfl,RV.aT (jN 1) (by decide),?_⟩
         obtain ⟨s3,bm⟩:∃ z,z=aN (RV.q aZ) 0:=⟨_,rfl⟩;rw [show cK.val aZ=.int .i64 s3 from by rw [bm]; rfl]
         conv=>whnf
         by_cases e0:RV.q aZ=0
         ·rw [show (s3 == 0)=true from by rw [bm,cc.2 e0]; rfl]
          conv=>whnf
          rw [e7];refine .inr ⟨[0,1,2,3,4,5,6],[0,5,6,9,10,11,13,89,90,91],?_⟩;conv=>whnf
          intro _;conv=>whnf
          refine ⟨_,?_,1+1,(.aa (.sk 4 (.aa (.aa (.sk 2 (.aa (.aa (.aa (.sk 1 (.aa (.sk 75 (.aa (.aa (.aa (.sk 62 .nil rfl)))) rfl)) rfl)))) rfl))) rfl)),rfl,rfl,?_⟩
          ·omega
          ·omega
         ·rw [show (s3 == 0)=false from by rw [bm]; simpa using fun e=>e0 (cc.1 e)]
          conv=>whnf
          rw [e7];refine .inr ⟨[0,1,2,3,4,5,6],[0,5,6,9,10,11,13,89,90,91],?_⟩;conv=>whnf
          intro _;conv=>whnf
          refine ⟨_,?_,1+1,(.aa (.sk 4 (.aa (.aa (.sk 2 (.aa (.aa (.aa (.sk 1 (.aa (.sk 75 (.aa (.aa (.aa (.sk 62 .nil rfl)))) rfl)) rfl)))) rfl))) rfl)),rfl,rfl,?_⟩
          ·omega
          ·omega
        ·rw [decide_eq_false (show ¬ c4 < 0 by rw [gp]; exact fun h=>b2 (fA.1 h))]
         have dw:¬ (lo.q < RV.q aZ∧RV.q aZ < hi.q):=fun h=>b2 h.2
         conv=>whnf
         refine ⟨(aZ:RV),rfl,RV.aT (jN 1) (by decide),?_⟩
         obtain ⟨s3,bm⟩:∃ z,z=aN (RV.q aZ) 0:=⟨_,rfl⟩;rw [show cK.val aZ=.int .i64 s3 from by rw [bm]; rfl]
         conv=>whnf
         by_cases e0:RV.q aZ=0
         ·rw [show (s3 == 0)=true from by rw [bm,cc.2 e0]; rfl]
          conv=>whnf
          by_cases h1:z=1
          ·have ho:=dv h1;subst h1;conv=>whnf
           rw [show bz _ _=true from (cg aZ lo).trans (decide_eq_true (dr wW jK (by have:=jf.1; grind)))]
           conv=>whnf
           rw [e7];refine .inr ⟨[0,1,2,3,4,5,6],[0,5,6,9,10,11,13,89,90,91],?_⟩;conv=>whnf
           intro _;conv=>whnf
           refine ⟨_,?_,1+1,(.aa (.sk 4 (.aa (.aa (.sk 2 (.aa (.aa (.aa (.sk 1 (.aa (.sk 75 (.aa (.aa (.aa (.sk 62 .nil rfl)))) rfl)) rfl)))) rfl))) rfl)),rfl,rfl,?_⟩
           ·omega
           ·omega
          ·rw [show (z == 1)=false from by simp [h1]]
           conv=>whnf
           rw [e7];refine .inr ⟨[0,1,2,3,4,5,6],[0,5,6,9,10,11,13,89,90,91],?_⟩;conv=>whnf
           intro _;conv=>whnf
           refine ⟨_,?_,1+1,(.aa (.sk 4 (.aa (.aa (.sk 2 (.aa (.aa (.aa (.sk 1 (.aa (.sk 75 (.aa (.aa (.aa (.sk 62 .nil rfl)))) rfl)) rfl)))) rfl))) rfl)),rfl,rfl,?_⟩
           ·omega
           ·omega
         ·rw [show (s3 == 0)=false from by rw [bm]; simpa using fun e=>e0 (cc.1 e)]
          conv=>whnf
          by_cases h1:z=1
          ·have ho:=dv h1;subst h1;conv=>whnf
           rw [show bz _ _=true from (cg aZ o).trans (decide_eq_true (dr wW ko (by have:=po; grind)))]
           conv=>whnf
           rw [show bz _ _=false from (cg aZ lo).trans (decide_eq_false (fun e=>by have:RV.q aZ=lo.q:=congrArg RV.q e; grind))]
           conv=>whnf
           rw [show bz _ _=true from (cg aZ hi).trans (decide_eq_true (dr wW jL (by grind)))]
           conv=>whnf
           rw [e7];refine .inr ⟨[0,1,2,3,4,5,6],[0,5,6,9,10,11,13,89,90,91],?_⟩;conv=>whnf
           intro _;conv=>whnf
           refine ⟨_,?_,1+1,(.aa (.sk 4 (.aa (.aa (.sk 2 (.aa (.aa (.aa (.sk 1 (.aa (.sk 75 (.aa (.aa (.aa (.sk 62 .nil rfl)))) rfl)) rfl)))) rfl))) rfl)),rfl,rfl,?_⟩
           ·omega
           ·omega
          ·rw [show (z == 1)=false from by simp [h1]]
           conv=>whnf
           rw [e7];refine .inr ⟨[0,1,2,3,4,5,6],[0,5,6,9,10,11,13,89,90,91],?_⟩;conv=>whnf
           intro _;conv=>whnf
           refine ⟨_,?_,1+1,(.aa (.sk 4 (.aa (.aa (.sk 2 (.aa (.aa (.aa (.sk 1 (.aa (.sk 75 (.aa (.aa (.aa (.sk 62 .nil rfl)))) rfl)) rfl)))) rfl))) rfl)),rfl,rfl,?_⟩
           ·omega
           ·omega
       ·rw [decide_eq_false (show ¬ c3 < 0 by rw [gf]; exact fun h=>b1 (fA.1 h))]
        have dw:¬ (lo.q < RV.q aZ∧RV.q aZ < hi.q):=fun h=>b1 h.1
        conv=>whnf
        refine ⟨(aZ:RV),rfl,RV.aT (jN 1) (by decide),?_⟩
        obtain ⟨s3,bm⟩:∃ z,z=aN (RV.q aZ) 0:=⟨_,rfl⟩;rw [show cK.val aZ=.int .i64 s3 from by rw [bm]; rfl]
        conv=>whnf
        by_cases e0:RV.q aZ=0
        ·rw [show (s3 == 0)=true from by rw [bm,cc.2 e0]; rfl]
         conv=>whnf
         by_cases h1:z=1
         ·have ho:=dv h1;subst h1;conv=>whnf
          rw [show bz _ _=true from (cg aZ lo).trans (decide_eq_true (dr wW jK (by have:=jf.1; grind)))]
          conv=>whnf
          rw [e7];refine .inr ⟨[0,1,2,3,4,5,6],[0,5,6,9,10,11,13,89,90,91],?_⟩;conv=>whnf
          intro _;conv=>whnf
          refine ⟨_,?_,1+1,(.aa (.sk 4 (.aa (.aa (.sk 2 (.aa (.aa (.aa (.sk 1 (.aa (.sk 75 (.aa (.aa (.aa (.sk 62 .nil rfl)))) rfl)) rfl)))) rfl))) rfl)),rfl,rfl,?_⟩
          ·omega
          ·omega
         ·rw [show (z == 1)=false from by simp [h1]]
          conv=>whnf
          rw [e7];refine .inr ⟨[0,1,2,3,4,5,6],[0,5,6,9,10,11,13,89,90,91],?_⟩;conv=>whnf
          intro _;conv=>whnf
          refine ⟨_,?_,1+1,(.aa (.sk 4 (.aa (.aa (.sk 2 (.aa (.aa (.aa (.sk 1 (.aa (.sk 75 (.aa (.aa (.aa (.sk 62 .nil rfl)))) rfl)) rfl)))) rfl))) rfl)),rfl,rfl,?_⟩
          ·omega
          ·omega
        ·rw [show (s3 == 0)=false from by rw [bm]; simpa using fun e=>e0 (cc.1 e)]
         conv=>whnf
         by_cases h1:z=1
         ·have ho:=dv h1;subst h1;conv=>whnf
          rw [show bz _ _=true from (cg aZ o).trans (decide_eq_true (dr wW ko (by have:=po; grind)))]
          conv=>whnf
          rw [show bz _ _=false from (cg aZ lo).trans (decide_eq_false (fun e=>by have:RV.q aZ=lo.q:=congrArg RV.q e; grind))]
          conv=>whnf
          rw [show bz _ _=true from (cg aZ hi).trans (decide_eq_true (dr wW jL (by grind)))]
          conv=>whnf
          rw [e7];refine .inr ⟨[0,1,2,3,4,5,6],[0,5,6,9,10,11,13,89,90,91],?_⟩;conv=>whnf
          intro _;conv=>whnf
          refine ⟨_,?_,1+1,(.aa (.sk 4 (.aa (.aa (.sk 2 (.aa (.aa (.aa (.sk 1 (.aa (.sk 75 (.aa (.aa (.aa (.sk 62 .nil rfl)))) rfl)) rfl)))) rfl))) rfl)),rfl,rfl,?_⟩
          ·omega
          ·omega
         ·rw [show (z == 1)=false from by simp [h1]]
          conv=>whnf
          rw [e7];refine .inr ⟨[0,1,2,3,4,5,6],[0,5,6,9,10,11,13,89,90,91],?_⟩;conv=>whnf
          intro _;conv=>whnf
          refine ⟨_,?_,1+1,(.aa (.sk 4 (.aa (.aa (.sk 2 (.aa (.aa (.aa (.sk 1 (.aa (.sk 75 (.aa (.aa (.aa (.sk 62 .nil rfl)))) rfl)) rfl)))) rfl))) rfl)),rfl,rfl,?_⟩
          ·omega
          ·omega
      ·conv=>whnf
       refine ⟨⟨by decide,by decide⟩,?_⟩
       conv=>whnf
       obtain ⟨x,cx,ex,px,sx,qx⟩:=jn (j3 qp qq (qo));refine ⟨((p,q),o),rfl,⟨⟨PV.aJ sp (by decide),PV.aJ sq (by decide)⟩,RV.aJ (so) (by decide)⟩,?_⟩
       rw [show iZ.val ((p,q),o)=x.v from ex]
       conv=>whnf
       obtain ⟨z,dF⟩:∃ z,z=il A x:=⟨_,rfl⟩;refine ⟨(some (A,c),x),[0],by rw [show b8.args (some (A,c),x)=[.slice (some ⟨0,0,none⟩) n c,x.v] from by rw [hn]; rfl]; rfl,⟨⟨by show A.length≤_; omega,kG aU⟩,PV.aJ sx (by decide)⟩,?_⟩
       rw [show b8.aj (some (A,c),x)=[.flat false n 6 g] from by rw [hn,hg]; rfl,show b8.val (some (A,c),x)=.int .i64 z from congrArg (Value.int .i64) dF.symm,show b8.new (some (A,c),x)=none from rfl]
       conv=>whnf
       refine ⟨aO.aW (fun h=>h) (fun r hr=>by rw [hg]; rfl),?_⟩
       conv=>whnf
       refine ⟨_,rfl,?_⟩;conv=>whnf
       have ff:z=1↔fe Q (atR p.p q.p (RV.q o))=1:=by rw [dF,iw x (by rw [cx]; exact kS _),px]
       have oK:lo.q < RV.q o→RV.q o < hi.q→z=1:=fun a b=>ff.2 ((uu hI).2 (by rw [← je]; exact a) (by rw [← jJ]; exact b))
       have dv:z=1→(lo.q < RV.q o∨(RV.q o=0∧RV.q o=lo.q))∧(RV.q o < hi.q∨(RV.q o=1∧RV.q o=hi.q)):=fun h=>by
        obtain ⟨l1,h1,e1,e2,e3⟩:=m7 r1.1 r1.2 (ff.1 h);rw [hI] at e1;have e4:=Prod.mk.inj (Option.some.inj e1);rw [← je.trans e4.1] at e2;rw [← jJ.trans e4.2] at e3;exact ⟨e2,e3⟩
       refine ⟨(lo,o),rfl,⟨RV.aT bS (by decide),RV.aT (so) (by decide)⟩,?_⟩
       obtain ⟨c3,gf⟩:∃ z,z=aN lo.q (RV.q o):=⟨_,rfl⟩;rw [show eD.val (lo,o)=.int .i64 c3 from by rw [gf]; rfl]
       conv=>whnf
       by_cases b1:lo.q < RV.q o
       ·rw [decide_eq_true (show c3 < 0 by rw [gf]; exact fA.2 b1)]
        conv=>whnf
        refine ⟨(o,hi),rfl,⟨RV.aT (so) (by decide),RV.aT fJ (by decide)⟩,?_⟩
        obtain ⟨c4,gp⟩:∃ z,z=aN (RV.q o) hi.q:=⟨_,rfl⟩;rw [show eD.val (o,hi)=.int .i64 c4 from by rw [gp]; rfl]
        conv=>whnf
        by_cases b2:RV.q o < hi.q
        ·rw [decide_eq_true (show c4 < 0 by rw [gp]; exact fA.2 b2)]
         have oL:=oK b1 b2;subst oL;conv=>whnf
         refine ⟨(o:RV),rfl,RV.aT (so) (by decide),?_⟩
         obtain ⟨s3,bm⟩:∃ z,z=aN (RV.q o) 0:=⟨_,rfl⟩;rw [show cK.val o=.int .i64 s3 from by rw [bm]; rfl]
         conv=>whnf
         by_cases e0:RV.q o=0
         ·rw [show (s3 == 0)=true from by rw [bm,cc.2 e0]; rfl]
          conv=>whnf
          rw [e7];refine .inr ⟨[0,1,2,3,4,5,6],[0,5,6,9,10,11,13,89,90,91],?_⟩;conv=>whnf
          intro _;conv=>whnf
          refine ⟨_,?_,2+1,(.aa (.sk 4 (.aa (.aa (.sk 2 (.aa (.aa (.aa (.sk 1 (.aa (.sk 75 (.aa (.aa (.aa (.sk 62 .nil rfl)))) rfl)) rfl)))) rfl))) rfl)),rfl,rfl,?_⟩
          ·omega
          ·omega
         ·rw [show (s3 == 0)=false from by rw [bm]; simpa using fun e=>e0 (cc.1 e)]
          conv=>whnf
          rw [e7];refine .inr ⟨[0,1,2,3,4,5,6],[0,5,6,9,10,11,13,89,90,91],?_⟩;conv=>whnf
          intro _;conv=>whnf
          refine ⟨_,?_,2+1,(.aa (.sk 4 (.aa (.aa (.sk 2 (.aa (.aa (.aa (.sk 1 (.aa (.sk 75 (.aa (.aa (.aa (.sk 62 .nil rfl)))) rfl)) rfl)))) rfl))) rfl)),rfl,rfl,?_⟩
          ·omega
          ·omega
        ·rw [decide_eq_false (show ¬ c4 < 0 by rw [gp]; exact fun h=>b2 (fA.1 h))]
         have dw:¬ (lo.q < RV.q o∧RV.q o < hi.q):=fun h=>b2 h.2
         conv=>whnf
         refine ⟨(o:RV),rfl,RV.aT (so) (by decide),?_⟩
         obtain ⟨s3,bm⟩:∃ z,z=aN (RV.q o) 0:=⟨_,rfl⟩;rw [show cK.val o=.int .i64 s3 from by rw [bm]; rfl]
         conv=>whnf
         by_cases e0:RV.q o=0
         ·rw [show (s3 == 0)=true from by rw [bm,cc.2 e0]; rfl]
          conv=>whnf
          by_cases h1:z=1
          ·have ho:=dv h1;subst h1;conv=>whnf
           rw [show bz _ _=true from (cg o lo).trans (decide_eq_true (dr ko jK (by have:=jf.1; grind)))]
           conv=>whnf
           rw [e7];refine .inr ⟨[0,1,2,3,4,5,6],[0,5,6,9,10,11,13,89,90,91],?_⟩;conv=>whnf
           intro _;conv=>whnf
           refine ⟨_,?_,2+1,(.aa (.sk 4 (.aa (.aa (.sk 2 (.aa (.aa (.aa (.sk 1 (.aa (.sk 75 (.aa (.aa (.aa (.sk 62 .nil rfl)))) rfl)) rfl)))) rfl))) rfl)),rfl,rfl,?_⟩
           ·omega
           ·omega
          ·rw [show (z == 1)=false from by simp [h1]]
           conv=>whnf
           rw [e7];refine .inr ⟨[0,1,2,3,4,5,6],[0,5,6,9,10,11,13,89,90,91],?_⟩;conv=>whnf
           intro _;conv=>whnf
           refine ⟨_,?_,2+1,(.aa (.sk 4 (.aa (.aa (.sk 2 (.aa (.aa (.aa (.sk 1 (.aa (.sk 75 (.aa (.aa (.aa (.sk 62 .nil rfl)))) rfl)) rfl)))) rfl))) rfl)),rfl,rfl,?_⟩
           ·omega
           ·omega
         ·rw [show (s3 == 0)=false from by rw [bm]; simpa using fun e=>e0 (cc.1 e)]
          conv=>whnf
          by_cases h1:z=1
          ·have ho:=dv h1;subst h1;conv=>whnf
           rw [show bz _ _=true from (cg o o).trans (decide_eq_true (dr ko ko (by have:=po; grind)))]
           conv=>whnf
           rw [show bz _ _=false from (cg o lo).trans (decide_eq_false (fun e=>by have:RV.q o=lo.q:=congrArg RV.q e; grind))]
           conv=>whnf
           rw [show bz _ _=true from (cg o hi).trans (decide_eq_true (dr ko jL (by grind)))]
           conv=>whnf
           rw [e7];refine .inr ⟨[0,1,2,3,4,5,6],[0,5,6,9,10,11,13,89,90,91],?_⟩;conv=>whnf
           intro _;conv=>whnf
           refine ⟨_,?_,2+1,(.aa (.sk 4 (.aa (.aa (.sk 2 (.aa (.aa (.aa (.sk 1 (.aa (.sk 75 (.aa (.aa (.aa (.sk 62 .nil rfl)))) rfl)) rfl)))) rfl))) rfl)),rfl,rfl,?_⟩
           ·omega
           ·omega
          ·rw [show (z == 1)=false from by simp [h1]]
           conv=>whnf
           rw [e7];refine .inr ⟨[0,1,2,3,4,5,6],[0,5,6,9,10,11,13,89,90,91],?_⟩;conv=>whnf
           intro _;conv=>whnf
           refine ⟨_,?_,2+1,(.aa (.sk 4 (.aa (.aa (.sk 2 (.aa (.aa (.aa (.sk 1 (.aa (.sk 75 (.aa (.aa (.aa (.sk 62 .nil rfl)))) rfl)) rfl)))) rfl))) rfl)),rfl,rfl,?_⟩
           ·omega
           ·omega
       ·rw [decide_eq_false (show ¬ c3 < 0 by rw [gf]; exact fun h=>b1 (fA.1 h))]
        have dw:¬ (lo.q < RV.q o∧RV.q o < hi.q):=fun h=>b1 h.1
        conv=>whnf
        refine ⟨(o:RV),rfl,RV.aT (so) (by decide),?_⟩
        obtain ⟨s3,bm⟩:∃ z,z=aN (RV.q o) 0:=⟨_,rfl⟩;rw [show cK.val o=.int .i64 s3 from by rw [bm]; rfl]
        conv=>whnf
        by_cases e0:RV.q o=0
        ·rw [show (s3 == 0)=true from by rw [bm,cc.2 e0]; rfl]
         conv=>whnf
         by_cases h1:z=1
         ·have ho:=dv h1;subst h1;conv=>whnf
          rw [show bz _ _=true from (cg o lo).trans (decide_eq_true (dr ko jK (by have:=jf.1; grind)))]
          conv=>whnf
          rw [e7];refine .inr ⟨[0,1,2,3,4,5,6],[0,5,6,9,10,11,13,89,90,91],?_⟩;conv=>whnf
          intro _;conv=>whnf
          refine ⟨_,?_,2+1,(.aa (.sk 4 (.aa (.aa (.sk 2 (.aa (.aa (.aa (.sk 1 (.aa (.sk 75 (.aa (.aa (.aa (.sk 62 .nil rfl)))) rfl)) rfl)))) rfl))) rfl)),rfl,rfl,?_⟩
          ·omega
          ·omega
         ·rw [show (z == 1)=false from by simp [h1]]
          conv=>whnf
          rw [e7];refine .inr ⟨[0,1,2,3,4,5,6],[0,5,6,9,10,11,13,89,90,91],?_⟩;conv=>whnf
          intro _;conv=>whnf
          refine ⟨_,?_,2+1,(.aa (.sk 4 (.aa (.aa (.sk 2 (.aa (.aa (.aa (.sk 1 (.aa (.sk 75 (.aa (.aa (.aa (.sk 62 .nil rfl)))) rfl)) rfl)))) rfl))) rfl)),rfl,rfl,?_⟩
          ·omega
          ·omega
        ·rw [show (s3 == 0)=false from by rw [bm]; simpa using fun e=>e0 (cc.1 e)]
         conv=>whnf
         by_cases h1:z=1
         ·have ho:=dv h1;subst h1;conv=>whnf
          rw [show bz _ _=true from (cg o o).trans (decide_eq_true (dr ko ko (by have:=po; grind)))]
          conv=>whnf
          rw [show bz _ _=false from (cg o lo).trans (decide_eq_false (fun e=>by have:RV.q o=lo.q:=congrArg RV.q e; grind))]
          conv=>whnf
          rw [show bz _ _=true from (cg o hi).trans (decide_eq_true (dr ko jL (by grind)))]
          conv=>whnf
          rw [e7];refine .inr ⟨[0,1,2,3,4,5,6],[0,5,6,9,10,11,13,89,90,91],?_⟩;conv=>whnf
          intro _;conv=>whnf
          refine ⟨_,?_,2+1,(.aa (.sk 4 (.aa (.aa (.sk 2 (.aa (.aa (.aa (.sk 1 (.aa (.sk 75 (.aa (.aa (.aa (.sk 62 .nil rfl)))) rfl)) rfl)))) rfl))) rfl)),rfl,rfl,?_⟩
          ·omega
          ·omega
         ·rw [show (z == 1)=false from by simp [h1]]
          conv=>whnf
          rw [e7];refine .inr ⟨[0,1,2,3,4,5,6],[0,5,6,9,10,11,13,89,90,91],?_⟩;conv=>whnf
          intro _;conv=>whnf
          refine ⟨_,?_,2+1,(.aa (.sk 4 (.aa (.aa (.sk 2 (.aa (.aa (.aa (.sk 1 (.aa (.sk 75 (.aa (.aa (.aa (.sk 62 .nil rfl)))) rfl)) rfl)))) rfl))) rfl)),rfl,rfl,?_⟩
          ·omega
          ·omega
      ·conv=>whnf
       refine ⟨⟨by decide,by decide⟩,?_⟩
       conv=>whnf
       obtain ⟨x,cx,ex,px,sx,qx⟩:=jn (j3 qp qq (mW));refine ⟨((p,q),lo),rfl,⟨⟨PV.aJ sp (by decide),PV.aJ sq (by decide)⟩,RV.aJ (bS) (by decide)⟩,?_⟩
       rw [show iZ.val ((p,q),lo)=x.v from ex]
       conv=>whnf
       obtain ⟨z,dF⟩:∃ z,z=il A x:=⟨_,rfl⟩;refine ⟨(some (A,c),x),[0],by rw [show b8.args (some (A,c),x)=[.slice (some ⟨0,0,none⟩) n c,x.v] from by rw [hn]; rfl]; rfl,⟨⟨by show A.length≤_; omega,kG aU⟩,PV.aJ sx (by decide)⟩,?_⟩
       rw [show b8.aj (some (A,c),x)=[.flat false n 6 g] from by rw [hn,hg]; rfl,show b8.val (some (A,c),x)=.int .i64 z from congrArg (Value.int .i64) dF.symm,show b8.new (some (A,c),x)=none from rfl]
       conv=>whnf
       refine ⟨aO.aW (fun h=>h) (fun r hr=>by rw [hg]; rfl),?_⟩
       conv=>whnf
       refine ⟨_,rfl,?_⟩;conv=>whnf
       have ff:z=1↔fe Q (atR p.p q.p (RV.q lo))=1:=by rw [dF,iw x (by rw [cx]; exact kS _),px]
       have oK:lo.q < RV.q lo→RV.q lo < hi.q→z=1:=fun a b=>ff.2 ((uu hI).2 (by rw [← je]; exact a) (by rw [← jJ]; exact b))
       have dv:z=1→(lo.q < RV.q lo∨(RV.q lo=0∧RV.q lo=lo.q))∧(RV.q lo < hi.q∨(RV.q lo=1∧RV.q lo=hi.q)):=fun h=>by
        obtain ⟨l1,h1,e1,e2,e3⟩:=m7 jf.1 jf.2 (ff.1 h);rw [hI] at e1;have e4:=Prod.mk.inj (Option.some.inj e1);rw [← je.trans e4.1] at e2;rw [← jJ.trans e4.2] at e3;exact ⟨e2,e3⟩
       refine ⟨(lo,lo),rfl,⟨RV.aT bS (by decide),RV.aT (bS) (by decide)⟩,?_⟩
       obtain ⟨c3,gf⟩:∃ z,z=aN lo.q (RV.q lo):=⟨_,rfl⟩;rw [show eD.val (lo,lo)=.int .i64 c3 from by rw [gf]; rfl]
       conv=>whnf
       by_cases b1:lo.q < RV.q lo
       ·rw [decide_eq_true (show c3 < 0 by rw [gf]; exact fA.2 b1)]
        conv=>whnf
        refine ⟨(lo,hi),rfl,⟨RV.aT (bS) (by decide),RV.aT fJ (by decide)⟩,?_⟩
        obtain ⟨c4,gp⟩:∃ z,z=aN (RV.q lo) hi.q:=⟨_,rfl⟩;rw [show eD.val (lo,hi)=.int .i64 c4 from by rw [gp]; rfl]
        conv=>whnf
        by_cases b2:RV.q lo < hi.q
        ·rw [decide_eq_true (show c4 < 0 by rw [gp]; exact fA.2 b2)]
         have oL:=oK b1 b2;subst oL;conv=>whnf
         refine ⟨(lo:RV),rfl,RV.aT (bS) (by decide),?_⟩
         obtain ⟨s3,bm⟩:∃ z,z=aN (RV.q lo) 0:=⟨_,rfl⟩;rw [show cK.val lo=.int .i64 s3 from by rw [bm]; rfl]
         conv=>whnf
         by_cases e0:RV.q lo=0
         ·rw [show (s3 == 0)=true from by rw [bm,cc.2 e0]; rfl]
          conv=>whnf
          rw [e7];refine .inr ⟨[0,1,2,3,4,5,6],[0,5,6,9,10,11,13,89,90,91],?_⟩;conv=>whnf
          intro _;conv=>whnf
          refine ⟨_,?_,3+1,(.aa (.sk 4 (.aa (.aa (.sk 2 (.aa (.aa (.aa (.sk 1 (.aa (.sk 75 (.aa (.aa (.aa (.sk 62 .nil rfl)))) rfl)) rfl)))) rfl))) rfl)),rfl,rfl,?_⟩
          ·omega
          ·omega
         ·rw [show (s3 == 0)=false from by rw [bm]; simpa using fun e=>e0 (cc.1 e)]
          conv=>whnf
          rw [e7];refine .inr ⟨[0,1,2,3,4,5,6],[0,5,6,9,10,11,13,89,90,91],?_⟩;conv=>whnf
          intro _;conv=>whnf
          refine ⟨_,?_,3+1,(.aa (.sk 4 (.aa (.aa (.sk 2 (.aa (.aa (.aa (.sk 1 (.aa (.sk 75 (.aa (.aa (.aa (.sk 62 .nil rfl)))) rfl)) rfl)))) rfl))) rfl)),rfl,rfl,?_⟩
          ·omega
          ·omega
        ·rw [decide_eq_false (show ¬ c4 < 0 by rw [gp]; exact fun h=>b2 (fA.1 h))]
         have dw:¬ (lo.q < RV.q lo∧RV.q lo < hi.q):=fun h=>b2 h.2
         conv=>whnf
         refine ⟨(lo:RV),rfl,RV.aT (bS) (by decide),?_⟩
         obtain ⟨s3,bm⟩:∃ z,z=aN (RV.q lo) 0:=⟨_,rfl⟩;rw [show cK.val lo=.int .i64 s3 from by rw [bm]; rfl]
         conv=>whnf
         by_cases e0:RV.q lo=0
         ·rw [show (s3 == 0)=true from by rw [bm,cc.2 e0]; rfl]
          conv=>whnf
          by_cases h1:z=1
          ·have ho:=dv h1;subst h1;conv=>whnf
           rw [show bz _ _=true from (cg lo lo).trans (decide_eq_true (dr jK jK (by have:=jf.1; grind)))]
           conv=>whnf
           rw [e7];refine .inr ⟨[0,1,2,3,4,5,6],[0,5,6,9,10,11,13,89,90,91],?_⟩;conv=>whnf
           intro _;conv=>whnf
           refine ⟨_,?_,3+1,(.aa (.sk 4 (.aa (.aa (.sk 2 (.aa (.aa (.aa (.sk 1 (.aa (.sk 75 (.aa (.aa (.aa (.sk 62 .nil rfl)))) rfl)) rfl)))) rfl))) rfl)),rfl,rfl,?_⟩
           ·omega
           ·omega
          ·rw [show (z == 1)=false from by simp [h1]]
           conv=>whnf
           rw [e7];refine .inr ⟨[0,1,2,3,4,5,6],[0,5,6,9,10,11,13,89,90,91],?_⟩;conv=>whnf
           intro _;conv=>whnf
           refine ⟨_,?_,3+1,(.aa (.sk 4 (.aa (.aa (.sk 2 (.aa (.aa (.aa (.sk 1 (.aa (.sk 75 (.aa (.aa (.aa (.sk 62 .nil rfl)))) rfl)) rfl)))) rfl))) rfl)),rfl,rfl,?_⟩
           ·omega
           ·omega
         ·rw [show (s3 == 0)=false from by rw [bm]; simpa using fun e=>e0 (cc.1 e)]
          conv=>whnf
          by_cases h1:z=1
          ·have ho:=dv h1;subst h1;conv=>whnf
           rw [show bz _ _=true from (cg lo o).trans (decide_eq_true (dr jK ko (by have:=po; grind)))]
           conv=>whnf
           rw [show bz _ _=false from (cg lo lo).trans (decide_eq_false (fun e=>by have:RV.q lo=lo.q:=congrArg RV.q e; grind))]
           conv=>whnf
           rw [show bz _ _=true from (cg lo hi).trans (decide_eq_true (dr jK jL (by grind)))]
           conv=>whnf
           rw [e7];refine .inr ⟨[0,1,2,3,4,5,6],[0,5,6,9,10,11,13,89,90,91],?_⟩;conv=>whnf
           intro _;conv=>whnf
           refine ⟨_,?_,3+1,(.aa (.sk 4 (.aa (.aa (.sk 2 (.aa (.aa (.aa (.sk 1 (.aa (.sk 75 (.aa (.aa (.aa (.sk 62 .nil rfl)))) rfl)) rfl)))) rfl))) rfl)),rfl,rfl,?_⟩
           ·omega
           ·omega
          ·rw [show (z == 1)=false from by simp [h1]]
           conv=>whnf
           rw [e7];refine .inr ⟨[0,1,2,3,4,5,6],[0,5,6,9,10,11,13,89,90,91],?_⟩;conv=>whnf
           intro _;conv=>whnf
           refine ⟨_,?_,3+1,(.aa (.sk 4 (.aa (.aa (.sk 2 (.aa (.aa (.aa (.sk 1 (.aa (.sk 75 (.aa (.aa (.aa (.sk 62 .nil rfl)))) rfl)) rfl)))) rfl))) rfl)),rfl,rfl,?_⟩
           ·omega
           ·omega
       ·rw [decide_eq_false (show ¬ c3 < 0 by rw [gf]; exact fun h=>b1 (fA.1 h))]
        have dw:¬ (lo.q < RV.q lo∧RV.q lo < hi.q):=fun h=>b1 h.1
        conv=>whnf
        refine ⟨(lo:RV),rfl,RV.aT (bS) (by decide),?_⟩
        obtain ⟨s3,bm⟩:∃ z,z=aN (RV.q lo) 0:=⟨_,rfl⟩;rw [show cK.val lo=.int .i64 s3 from by rw [bm]; rfl]
        conv=>whnf
        by_cases e0:RV.q lo=0
        ·rw [show (s3 == 0)=true from by rw [bm,cc.2 e0]; rfl]
         conv=>whnf
         by_cases h1:z=1
         ·have ho:=dv h1;subst h1;conv=>whnf
          rw [show bz _ _=true from (cg lo lo).trans (decide_eq_true (dr jK jK (by have:=jf.1; grind)))]
          conv=>whnf
          rw [e7];refine .inr ⟨[0,1,2,3,4,5,6],[0,5,6,9,10,11,13,89,90,91],?_⟩;conv=>whnf
          intro _;conv=>whnf
          refine ⟨_,?_,3+1,(.aa (.sk 4 (.aa (.aa (.sk 2 (.aa (.aa (.aa (.sk 1 (.aa (.sk 75 (.aa (.aa (.aa (.sk 62 .nil rfl)))) rfl)) rfl)))) rfl))) rfl)),rfl,rfl,?_⟩
          ·omega
          ·omega
         ·rw [show (z == 1)=false from by simp [h1]]
          conv=>whnf
          rw [e7];refine .inr ⟨[0,1,2,3,4,5,6],[0,5,6,9,10,11,13,89,90,91],?_⟩;conv=>whnf
          intro _;conv=>whnf
          refine ⟨_,?_,3+1,(.aa (.sk 4 (.aa (.aa (.sk 2 (.aa (.aa (.aa (.sk 1 (.aa (.sk 75 (.aa (.aa (.aa (.sk 62 .nil rfl)))) rfl)) rfl)))) rfl))) rfl)),rfl,rfl,?_⟩
          ·omega
          ·omega
        ·rw [show (s3 == 0)=false from by rw [bm]; simpa using fun e=>e0 (cc.1 e)]
         conv=>whnf
         by_cases h1:z=1
         ·have ho:=dv h1;subst h1;conv=>whnf
          rw [show bz _ _=true from (cg lo o).trans (decide_eq_true (dr jK ko (by have:=po; grind)))]
          conv=>whnf
          rw [show bz _ _=false from (cg lo lo).trans (decide_eq_false (fun e=>by have:RV.q lo=lo.q:=congrArg RV.q e; grind))]
          conv=>whnf
          rw [show bz _ _=true from (cg lo hi).trans (decide_eq_true (dr jK jL (by grind)))]
          conv=>whnf
          rw [e7];refine .inr ⟨[0,1,2,3,4,5,6],[0,5,6,9,10,11,13,89,90,91],?_⟩;conv=>whnf
          intro _;conv=>whnf
          refine ⟨_,?_,3+1,(.aa (.sk 4 (.aa (.aa (.sk 2 (.aa (.aa (.aa (.sk 1 (.aa (.sk 75 (.aa (.aa (.aa (.sk 62 .nil rfl)))) rfl)) rfl)))) rfl))) rfl)),rfl,rfl,?_⟩
          ·omega
          ·omega
         ·rw [show (z == 1)=false from by simp [h1]]
          conv=>whnf
          rw [e7];refine .inr ⟨[0,1,2,3,4,5,6],[0,5,6,9,10,11,13,89,90,91],?_⟩;conv=>whnf
          intro _;conv=>whnf
          refine ⟨_,?_,3+1,(.aa (.sk 4 (.aa (.aa (.sk 2 (.aa (.aa (.aa (.sk 1 (.aa (.sk 75 (.aa (.aa (.aa (.sk 62 .nil rfl)))) rfl)) rfl)))) rfl))) rfl)),rfl,rfl,?_⟩
          ·omega
          ·omega
      ·conv=>whnf
       refine ⟨⟨by decide,by decide⟩,?_⟩
       conv=>whnf
       obtain ⟨x,cx,ex,px,sx,qx⟩:=jn (j3 qp qq (oJ));refine ⟨((p,q),hi),rfl,⟨⟨PV.aJ sp (by decide),PV.aJ sq (by decide)⟩,RV.aJ (fJ) (by decide)⟩,?_⟩
       rw [show iZ.val ((p,q),hi)=x.v from ex]
       conv=>whnf
       obtain ⟨z,dF⟩:∃ z,z=il A x:=⟨_,rfl⟩;refine ⟨(some (A,c),x),[0],by rw [show b8.args (some (A,c),x)=[.slice (some ⟨0,0,none⟩) n c,x.v] from by rw [hn]; rfl]; rfl,⟨⟨by show A.length≤_; omega,kG aU⟩,PV.aJ sx (by decide)⟩,?_⟩
       rw [show b8.aj (some (A,c),x)=[.flat false n 6 g] from by rw [hn,hg]; rfl,show b8.val (some (A,c),x)=.int .i64 z from congrArg (Value.int .i64) dF.symm,show b8.new (some (A,c),x)=none from rfl]
       conv=>whnf
       refine ⟨aO.aW (fun h=>h) (fun r hr=>by rw [hg]; rfl),?_⟩
       conv=>whnf
       refine ⟨_,rfl,?_⟩;conv=>whnf
       have ff:z=1↔fe Q (atR p.p q.p (RV.q hi))=1:=by rw [dF,iw x (by rw [cx]; exact kS _),px]
       have oK:lo.q < RV.q hi→RV.q hi < hi.q→z=1:=fun a b=>ff.2 ((uu hI).2 (by rw [← je]; exact a) (by rw [← jJ]; exact b))
       have dv:z=1→(lo.q < RV.q hi∨(RV.q hi=0∧RV.q hi=lo.q))∧(RV.q hi < hi.q∨(RV.q hi=1∧RV.q hi=hi.q)):=fun h=>by
        obtain ⟨l1,h1,e1,e2,e3⟩:=m7 vP.1 vP.2 (ff.1 h);rw [hI] at e1;have e4:=Prod.mk.inj (Option.some.inj e1);rw [← je.trans e4.1] at e2;rw [← jJ.trans e4.2] at e3;exact ⟨e2,e3⟩
       refine ⟨(lo,hi),rfl,⟨RV.aT bS (by decide),RV.aT (fJ) (by decide)⟩,?_⟩
       obtain ⟨c3,gf⟩:∃ z,z=aN lo.q (RV.q hi):=⟨_,rfl⟩;rw [show eD.val (lo,hi)=.int .i64 c3 from by rw [gf]; rfl]
       conv=>whnf
       by_cases b1:lo.q < RV.q hi
       ·rw [decide_eq_true (show c3 < 0 by rw [gf]; exact fA.2 b1)]
        conv=>whnf
        refine ⟨(hi,hi),rfl,⟨RV.aT (fJ) (by decide),RV.aT fJ (by decide)⟩,?_⟩
        obtain ⟨c4,gp⟩:∃ z,z=aN (RV.q hi) hi.q:=⟨_,rfl⟩;rw [show eD.val (hi,hi)=.int .i64 c4 from by rw [gp]; rfl]
        conv=>whnf
        by_cases b2:RV.q hi < hi.q
        ·rw [decide_eq_true (show c4 < 0 by rw [gp]; exact fA.2 b2)]
         have oL:=oK b1 b2;subst oL;conv=>whnf
         refine ⟨(hi:RV),rfl,RV.aT (fJ) (by decide),?_⟩
         obtain ⟨s3,bm⟩:∃ z,z=aN (RV.q hi) 0:=⟨_,rfl⟩;rw [show cK.val hi=.int .i64 s3 from by rw [bm]; rfl]
         conv=>whnf
         by_cases e0:RV.q hi=0
         ·rw [show (s3 == 0)=true from by rw [bm,cc.2 e0]; rfl]
          conv=>whnf
          rw [e7];refine .inr ⟨[0,1,2,3,4,5,6],[0,5,6,9,10,11,13,89,90,91],?_⟩;conv=>whnf
          intro _;conv=>whnf
          refine ⟨_,?_,4+1,(.aa (.sk 4 (.aa (.aa (.sk 2 (.aa (.aa (.aa (.sk 1 (.aa (.sk 75 (.aa (.aa (.aa (.sk 62 .nil rfl)))) rfl)) rfl)))) rfl))) rfl)),rfl,rfl,?_⟩
          ·omega
          ·omega
         ·rw [show (s3 == 0)=false from by rw [bm]; simpa using fun e=>e0 (cc.1 e)]
          conv=>whnf
          rw [e7];refine .inr ⟨[0,1,2,3,4,5,6],[0,5,6,9,10,11,13,89,90,91],?_⟩;conv=>whnf
          intro _;conv=>whnf
          refine ⟨_,?_,4+1,(.aa (.sk 4 (.aa (.aa (.sk 2 (.aa (.aa (.aa (.sk 1 (.aa (.sk 75 (.aa (.aa (.aa (.sk 62 .nil rfl)))) rfl)) rfl)))) rfl))) rfl)),rfl,rfl,?_⟩
          ·omega
          ·omega
        ·rw [decide_eq_false (show ¬ c4 < 0 by rw [gp]; exact fun h=>b2 (fA.1 h))]
         have dw:¬ (lo.q < RV.q hi∧RV.q hi < hi.q):=fun h=>b2 h.2
         conv=>whnf
         refine ⟨(hi:RV),rfl,RV.aT (fJ) (by decide),?_⟩
         obtain ⟨s3,bm⟩:∃ z,z=aN (RV.q hi) 0:=⟨_,rfl⟩;rw [show cK.val hi=.int .i64 s3 from by rw [bm]; rfl]
         conv=>whnf
         by_cases e0:RV.q hi=0
         ·rw [show (s3 == 0)=true from by rw [bm,cc.2 e0]; rfl]
          conv=>whnf
          by_cases h1:z=1
          ·have ho:=dv h1;subst h1;conv=>whnf
           rw [show bz _ _=true from (cg hi lo).trans (decide_eq_true (dr jL jK (by have:=jf.1; grind)))]
           conv=>whnf
           rw [e7];refine .inr ⟨[0,1,2,3,4,5,6],[0,5,6,9,10,11,13,89,90,91],?_⟩;conv=>whnf
           intro _;conv=>whnf
           refine ⟨_,?_,4+1,(.aa (.sk 4 (.aa (.aa (.sk 2 (.aa (.aa (.aa (.sk 1 (.aa (.sk 75 (.aa (.aa (.aa (.sk 62 .nil rfl)))) rfl)) rfl)))) rfl))) rfl)),rfl,rfl,?_⟩
           ·omega
           ·omega
          ·rw [show (z == 1)=false from by simp [h1]]
           conv=>whnf
           rw [e7];refine .inr ⟨[0,1,2,3,4,5,6],[0,5,6,9,10,11,13,89,90,91],?_⟩;conv=>whnf
           intro _;conv=>whnf
           refine ⟨_,?_,4+1,(.aa (.sk 4 (.aa (.aa (.sk 2 (.aa (.aa (.aa (.sk 1 (.aa (.sk 75 (.aa (.aa (.aa (.sk 62 .nil rfl)))) rfl)) rfl)))) rfl))) rfl)),rfl,rfl,?_⟩
           ·omega
           ·omega
         ·rw [show (s3 == 0)=false from by rw [bm]; simpa using fun e=>e0 (cc.1 e)]
          conv=>whnf
          by_cases h1:z=1
          ·have ho:=dv h1;subst h1;conv=>whnf
           rw [show bz _ _=true from (cg hi o).trans (decide_eq_true (dr jL ko (by have:=po; grind)))]
           conv=>whnf
           rw [show bz _ _=false from (cg hi lo).trans (decide_eq_false (fun e=>by have:RV.q hi=lo.q:=congrArg RV.q e; grind))]
           conv=>whnf
           rw [show bz _ _=true from (cg hi hi).trans (decide_eq_true (dr jL jL (by grind)))]
           conv=>whnf
           rw [e7];refine .inr ⟨[0,1,2,3,4,5,6],[0,5,6,9,10,11,13,89,90,91],?_⟩;conv=>whnf
           intro _;conv=>whnf
           refine ⟨_,?_,4+1,(.aa (.sk 4 (.aa (.aa (.sk 2 (.aa (.aa (.aa (.sk 1 (.aa (.sk 75 (.aa (.aa (.aa (.sk 62 .nil rfl)))) rfl)) rfl)))) rfl))) rfl)),rfl,rfl,?_⟩
           ·omega
           ·omega
          ·rw [show (z == 1)=false from by simp [h1]]
           conv=>whnf
           rw [e7];refine .inr ⟨[0,1,2,3,4,5,6],[0,5,6,9,10,11,13,89,90,91],?_⟩;conv=>whnf
           intro _;conv=>whnf
           refine ⟨_,?_,4+1,(.aa (.sk 4 (.aa (.aa (.sk 2 (.aa (.aa (.aa (.sk 1 (.aa (.sk 75 (.aa (.aa (.aa (.sk 62 .nil rfl)))) rfl)) rfl)))) rfl))) rfl)),rfl,rfl,?_⟩
           ·omega
           ·omega
       ·rw [decide_eq_false (show ¬ c3 < 0 by rw [gf]; exact fun h=>b1 (fA.1 h))]
        have dw:¬ (lo.q < RV.q hi∧RV.q hi < hi.q):=fun h=>b1 h.1
        conv=>whnf
        refine ⟨(hi:RV),rfl,RV.aT (fJ) (by decide),?_⟩
        obtain ⟨s3,bm⟩:∃ z,z=aN (RV.q hi) 0:=⟨_,rfl⟩;rw [show cK.val hi=.int .i64 s3 from by rw [bm]; rfl]
        conv=>whnf
        by_cases e0:RV.q hi=0
        ·rw [show (s3 == 0)=true from by rw [bm,cc.2 e0]; rfl]
         conv=>whnf
         by_cases h1:z=1
         ·have ho:=dv h1;subst h1;conv=>whnf
          rw [show bz _ _=true from (cg hi lo).trans (decide_eq_true (dr jL jK (by have:=jf.1; grind)))]
          conv=>whnf
          rw [e7];refine .inr ⟨[0,1,2,3,4,5,6],[0,5,6,9,10,11,13,89,90,91],?_⟩;conv=>whnf
          intro _;conv=>whnf
          refine ⟨_,?_,4+1,(.aa (.sk 4 (.aa (.aa (.sk 2 (.aa (.aa (.aa (.sk 1 (.aa (.sk 75 (.aa (.aa (.aa (.sk 62 .nil rfl)))) rfl)) rfl)))) rfl))) rfl)),rfl,rfl,?_⟩
          ·omega
          ·omega
         ·rw [show (z == 1)=false from by simp [h1]]
          conv=>whnf
          rw [e7];refine .inr ⟨[0,1,2,3,4,5,6],[0,5,6,9,10,11,13,89,90,91],?_⟩;conv=>whnf
          intro _;conv=>whnf
          refine ⟨_,?_,4+1,(.aa (.sk 4 (.aa (.aa (.sk 2 (.aa (.aa (.aa (.sk 1 (.aa (.sk 75 (.aa (.aa (.aa (.sk 62 .nil rfl)))) rfl)) rfl)))) rfl))) rfl)),rfl,rfl,?_⟩
          ·omega
          ·omega
        ·rw [show (s3 == 0)=false from by rw [bm]; simpa using fun e=>e0 (cc.1 e)]
         conv=>whnf
         by_cases h1:z=1
         ·have ho:=dv h1;subst h1;conv=>whnf
          rw [show bz _ _=true from (cg hi o).trans (decide_eq_true (dr jL ko (by have:=po; grind)))]
          conv=>whnf
          rw [show bz _ _=false from (cg hi lo).trans (decide_eq_false (fun e=>by have:RV.q hi=lo.q:=congrArg RV.q e; grind))]
          conv=>whnf
          rw [show bz _ _=true from (cg hi hi).trans (decide_eq_true (dr jL jL (by grind)))]
          conv=>whnf
          rw [e7];refine .inr ⟨[0,1,2,3,4,5,6],[0,5,6,9,10,11,13,89,90,91],?_⟩;conv=>whnf
          intro _;conv=>whnf
          refine ⟨_,?_,4+1,(.aa (.sk 4 (.aa (.aa (.sk 2 (.aa (.aa (.aa (.sk 1 (.aa (.sk 75 (.aa (.aa (.aa (.sk 62 .nil rfl)))) rfl)) rfl)))) rfl))) rfl)),rfl,rfl,?_⟩
          ·omega
          ·omega
         ·rw [show (z == 1)=false from by simp [h1]]
          conv=>whnf
          rw [e7];refine .inr ⟨[0,1,2,3,4,5,6],[0,5,6,9,10,11,13,89,90,91],?_⟩;conv=>whnf
          intro _;conv=>whnf
          refine ⟨_,?_,4+1,(.aa (.sk 4 (.aa (.aa (.sk 2 (.aa (.aa (.aa (.sk 1 (.aa (.sk 75 (.aa (.aa (.aa (.sk 62 .nil rfl)))) rfl)) rfl)))) rfl))) rfl)),rfl,rfl,?_⟩
          ·omega
          ·omega
      ·conv=>whnf
       refine ⟨⟨by decide,by decide⟩,?_⟩
       conv=>whnf
       obtain ⟨x,cx,ex,px,sx,qx⟩:=jn (j3 qp qq (JG));refine ⟨((p,q),d3),rfl,⟨⟨PV.aJ sp (by decide),PV.aJ sq (by decide)⟩,RV.aJ (rG) (by decide)⟩,?_⟩
       rw [show iZ.val ((p,q),d3)=x.v from ex]
       conv=>whnf
       obtain ⟨z,dF⟩:∃ z,z=il A x:=⟨_,rfl⟩;refine ⟨(some (A,c),x),[0],by rw [show b8.args (some (A,c),x)=[.slice (some ⟨0,0,none⟩) n c,x.v] from by rw [hn]; rfl]; rfl,⟨⟨by show A.length≤_; omega,kG aU⟩,PV.aJ sx (by decide)⟩,?_⟩
       rw [show b8.aj (some (A,c),x)=[.flat false n 6 g] from by rw [hn,hg]; rfl,show b8.val (some (A,c),x)=.int .i64 z from congrArg (Value.int .i64) dF.symm,show b8.new (some (A,c),x)=none from rfl]
       conv=>whnf
       refine ⟨aO.aW (fun h=>h) (fun r hr=>by rw [hg]; rfl),?_⟩
       conv=>whnf
       refine ⟨_,rfl,?_⟩;conv=>whnf
       have ff:z=1↔fe Q (atR p.p q.p (RV.q d3))=1:=by rw [dF,iw x (by rw [cx]; exact kS _),px]
       have oK:lo.q < RV.q d3→RV.q d3 < hi.q→z=1:=fun a b=>ff.2 ((uu hI).2 (by rw [← je]; exact a) (by rw [← jJ]; exact b))
       have dv:z=1→(lo.q < RV.q d3∨(RV.q d3=0∧RV.q d3=lo.q))∧(RV.q d3 < hi.q∨(RV.q d3=1∧RV.q d3=hi.q)):=fun h=>by
        obtain ⟨l1,h1,e1,e2,e3⟩:=m7 Ay.1 Ay.2 (ff.1 h);rw [hI] at e1;have e4:=Prod.mk.inj (Option.some.inj e1);rw [← je.trans e4.1] at e2;rw [← jJ.trans e4.2] at e3;exact ⟨e2,e3⟩
       refine ⟨(lo,d3),rfl,⟨RV.aT bS (by decide),RV.aT (rG) (by decide)⟩,?_⟩
       obtain ⟨c3,gf⟩:∃ z,z=aN lo.q (RV.q d3):=⟨_,rfl⟩;rw [show eD.val (lo,d3)=.int .i64 c3 from by rw [gf]; rfl]
       conv=>whnf
       by_cases b1:lo.q < RV.q d3
       ·rw [decide_eq_true (show c3 < 0 by rw [gf]; exact fA.2 b1)]
        conv=>whnf
        refine ⟨(d3,hi),rfl,⟨RV.aT (rG) (by decide),RV.aT fJ (by decide)⟩,?_⟩
        obtain ⟨c4,gp⟩:∃ z,z=aN (RV.q d3) hi.q:=⟨_,rfl⟩;rw [show eD.val (d3,hi)=.int .i64 c4 from by rw [gp]; rfl]
        conv=>whnf
        by_cases b2:RV.q d3 < hi.q
        ·rw [decide_eq_true (show c4 < 0 by rw [gp]; exact fA.2 b2)]
         have oL:=oK b1 b2;subst oL;conv=>whnf
         refine ⟨(d3:RV),rfl,RV.aT (rG) (by decide),?_⟩
         obtain ⟨s3,bm⟩:∃ z,z=aN (RV.q d3) 0:=⟨_,rfl⟩;rw [show cK.val d3=.int .i64 s3 from by rw [bm]; rfl]
         conv=>whnf
         by_cases e0:RV.q d3=0
         ·rw [show (s3 == 0)=true from by rw [bm,cc.2 e0]; rfl]
          conv=>whnf
          rw [e7];refine .inr ⟨[0,1,2,3,4,5,6],[0,5,6,9,10,11,13,89,90,91],?_⟩;conv=>whnf
          intro _;conv=>whnf
          refine ⟨_,?_,5+1,(.aa (.sk 4 (.aa (.aa (.sk 2 (.aa (.aa (.aa (.sk 1 (.aa (.sk 75 (.aa (.aa (.aa (.sk 62 .nil rfl)))) rfl)) rfl)))) rfl))) rfl)),rfl,rfl,?_⟩
          ·omega
          ·omega
         ·rw [show (s3 == 0)=false from by rw [bm]; simpa using fun e=>e0 (cc.1 e)]
          conv=>whnf
          rw [e7];refine .inr ⟨[0,1,2,3,4,5,6],[0,5,6,9,10,11,13,89,90,91],?_⟩;conv=>whnf
          intro _;conv=>whnf
          refine ⟨_,?_,5+1,(.aa (.sk 4 (.aa (.aa (.sk 2 (.aa (.aa (.aa (.sk 1 (.aa (.sk 75 (.aa (.aa (.aa (.sk 62 .nil rfl)))) rfl)) rfl)))) rfl))) rfl)),rfl,rfl,?_⟩
          ·omega
          ·omega
        ·rw [decide_eq_false (show ¬ c4 < 0 by rw [gp]; exact fun h=>b2 (fA.1 h))]
         have dw:¬ (lo.q < RV.q d3∧RV.q d3 < hi.q):=fun h=>b2 h.2
         conv=>whnf
         refine ⟨(d3:RV),rfl,RV.aT (rG) (by decide),?_⟩
         obtain ⟨s3,bm⟩:∃ z,z=aN (RV.q d3) 0:=⟨_,rfl⟩;rw [show cK.val d3=.int .i64 s3 from by rw [bm]; rfl]
         conv=>whnf
         by_cases e0:RV.q d3=0
         ·rw [show (s3 == 0)=true from by rw [bm,cc.2 e0]; rfl]
          conv=>whnf
          by_cases h1:z=1
          ·have ho:=dv h1;subst h1;conv=>whnf
           rw [show bz _ _=true from (cg d3 lo).trans (decide_eq_true (dr vQ jK (by have:=jf.1; grind)))]
           conv=>whnf
           rw [e7];refine .inr ⟨[0,1,2,3,4,5,6],[0,5,6,9,10,11,13,89,90,91],?_⟩;conv=>whnf
           intro _;conv=>whnf
           refine ⟨_,?_,5+1,(.aa (.sk 4 (.aa (.aa (.sk 2 (.aa (.aa (.aa (.sk 1 (.aa (.sk 75 (.aa (.aa (.aa (.sk 62 .nil rfl)))) rfl)) rfl)))) rfl))) rfl)),rfl,rfl,?_⟩
           ·omega
           ·omega
          ·rw [show (z == 1)=false from by simp [h1]]
           conv=>whnf
           rw [e7];refine .inr ⟨[0,1,2,3,4,5,6],[0,5,6,9,10,11,13,89,90,91],?_⟩;conv=>whnf
           intro _;conv=>whnf
           refine ⟨_,?_,5+1,(.aa (.sk 4 (.aa (.aa (.sk 2 (.aa (.aa (.aa (.sk 1 (.aa (.sk 75 (.aa (.aa (.aa (.sk 62 .nil rfl)))) rfl)) rfl)))) rfl))) rfl)),rfl,rfl,?_⟩
           ·omega
           ·omega
         ·rw [show (s3 == 0)=false from by rw [bm]; simpa using fun e=>e0 (cc.1 e)]
          conv=>whnf
          by_cases h1:z=1
          ·have ho:=dv h1;subst h1;conv=>whnf
           rw [show bz _ _=true from (cg d3 o).trans (decide_eq_true (dr vQ ko (by have:=po; grind)))]
           conv=>whnf
           rw [show bz _ _=false from (cg d3 lo).trans (decide_eq_false (fun e=>by have:RV.q d3=lo.q:=congrArg RV.q e; grind))]
           conv=>whnf
           rw [show bz _ _=true from (cg d3 hi).trans (decide_eq_true (dr vQ jL (by grind)))]
           conv=>whnf
           rw [e7];refine .inr ⟨[0,1,2,3,4,5,6],[0,5,6,9,10,11,13,89,90,91],?_⟩;conv=>whnf
           intro _;conv=>whnf
           refine ⟨_,?_,5+1,(.aa (.sk 4 (.aa (.aa (.sk 2 (.aa (.aa (.aa (.sk 1 (.aa (.sk 75 (.aa (.aa (.aa (.sk 62 .nil rfl)))) rfl)) rfl)))) rfl))) rfl)),rfl,rfl,?_⟩
           ·omega
           ·omega
          ·rw [show (z == 1)=false from by simp [h1]]
           conv=>whnf
           rw [e7];refine .inr ⟨[0,1,2,3,4,5,6],[0,5,6,9,10,11,13,89,90,91],?_⟩;conv=>whnf
           intro _;conv=>whnf
           refine ⟨_,?_,5+1,(.aa (.sk 4 (.aa (.aa (.sk 2 (.aa (.aa (.aa (.sk 1 (.aa (.sk 75 (.aa (.aa (.aa (.sk 62 .nil rfl)))) rfl)) rfl)))) rfl))) rfl)),rfl,rfl,?_⟩
           ·omega
           ·omega
       ·rw [decide_eq_false (show ¬ c3 < 0 by rw [gf]; exact fun h=>b1 (fA.1 h))]
        have dw:¬ (lo.q < RV.q d3∧RV.q d3 < hi.q):=fun h=>b1 h.1
        conv=>whnf
        refine ⟨(d3:RV),rfl,RV.aT (rG) (by decide),?_⟩
        obtain ⟨s3,bm⟩:∃ z,z=aN (RV.q d3) 0:=⟨_,rfl⟩;rw [show cK.val d3=.int .i64 s3 from by rw [bm]; rfl]
        conv=>whnf
        by_cases e0:RV.q d3=0
        ·rw [show (s3 == 0)=true from by rw [bm,cc.2 e0]; rfl]
         conv=>whnf
         by_cases h1:z=1
         ·have ho:=dv h1;subst h1;conv=>whnf
          rw [show bz _ _=true from (cg d3 lo).trans (decide_eq_true (dr vQ jK (by have:=jf.1; grind)))]
          conv=>whnf
          rw [e7];refine .inr ⟨[0,1,2,3,4,5,6],[0,5,6,9,10,11,13,89,90,91],?_⟩;conv=>whnf
          intro _;conv=>whnf
          refine ⟨_,?_,5+1,(.aa (.sk 4 (.aa (.aa (.sk 2 (.aa (.aa (.aa (.sk 1 (.aa (.sk 75 (.aa (.aa (.aa (.sk 62 .nil rfl)))) rfl)) rfl)))) rfl))) rfl)),rfl,rfl,?_⟩
          ·omega
          ·omega
         ·rw [show (z == 1)=false from by simp [h1]]
          conv=>whnf
          rw [e7];refine .inr ⟨[0,1,2,3,4,5,6],[0,5,6,9,10,11,13,89,90,91],?_⟩;conv=>whnf
          intro _;conv=>whnf
          refine ⟨_,?_,5+1,(.aa (.sk 4 (.aa (.aa (.sk 2 (.aa (.aa (.aa (.sk 1 (.aa (.sk 75 (.aa (.aa (.aa (.sk 62 .nil rfl)))) rfl)) rfl)))) rfl))) rfl)),rfl,rfl,?_⟩
          ·omega
          ·omega
        ·rw [show (s3 == 0)=false from by rw [bm]; simpa using fun e=>e0 (cc.1 e)]
         conv=>whnf
         by_cases h1:z=1
         ·have ho:=dv h1;subst h1;conv=>whnf
          rw [show bz _ _=true from (cg d3 o).trans (decide_eq_true (dr vQ ko (by have:=po; grind)))]
          conv=>whnf
          rw [show bz _ _=false from (cg d3 lo).trans (decide_eq_false (fun e=>by have:RV.q d3=lo.q:=congrArg RV.q e; grind))]
          conv=>whnf
          rw [show bz _ _=true from (cg d3 hi).trans (decide_eq_true (dr vQ jL (by grind)))]
          conv=>whnf
          rw [e7];refine .inr ⟨[0,1,2,3,4,5,6],[0,5,6,9,10,11,13,89,90,91],?_⟩;conv=>whnf
          intro _;conv=>whnf
          refine ⟨_,?_,5+1,(.aa (.sk 4 (.aa (.aa (.sk 2 (.aa (.aa (.aa (.sk 1 (.aa (.sk 75 (.aa (.aa (.aa (.sk 62 .nil rfl)))) rfl)) rfl)))) rfl))) rfl)),rfl,rfl,?_⟩
          ·omega
          ·omega
         ·rw [show (z == 1)=false from by simp [h1]]
          conv=>whnf
          rw [e7];refine .inr ⟨[0,1,2,3,4,5,6],[0,5,6,9,10,11,13,89,90,91],?_⟩;conv=>whnf
          intro _;conv=>whnf
          refine ⟨_,?_,5+1,(.aa (.sk 4 (.aa (.aa (.sk 2 (.aa (.aa (.aa (.sk 1 (.aa (.sk 75 (.aa (.aa (.aa (.sk 62 .nil rfl)))) rfl)) rfl)))) rfl))) rfl)),rfl,rfl,?_⟩
          ·omega
          ·omega
      ·conv=>whnf
       conv=>whnf
       refine ⟨(),rfl,trivial,?_⟩;conv=>whnf
       exact fin _
open Go Go.Ae Go.ChangeShapes Go.WideShapes Go.ChangeAt Go.RowKit
theorem own:ownKnob Tryz.prog.godebug=none:=by kernel_rfl
theorem laidOut:laidOutB Tryz.prog=true:=by kernel_rfl
set_option maxRecDepth 100000 in
theorem adK:C5 Tryz.prog 24 26 4 9 :=
 ⟨⟨_,_,_,Tryz.underlying24,⟨rfl,rfl⟩,⟨rfl,rfl⟩,rfl,rfl⟩,⟨_,_,Tryz.underlying26,⟨rfl,rfl⟩,rfl,rfl⟩,Tryz.underlying4,Tryz.underlying9,by kernel_rfl,by kernel_rfl,by kernel_rfl,by kernel_rfl⟩
def zP:Value:=.agg #[.bool false,.string ⟨#[]⟩,.string ⟨#[]⟩,.bool false,.string ⟨#[]⟩,.string ⟨#[]⟩]
set_option maxRecDepth 100000 in
theorem Lf {w:World} {r:Reach} {base:Nat} {v:Value} (h:Value.okWide Tryz.prog w r base 26 v):∃ p:PV,v=p.v :=
 W2 Tryz.underlying26 (b:=4) (s:=9) (by kernel_rfl) (by kernel_rfl) Tryz.underlying4 Tryz.underlying9 h
set_option maxRecDepth 100000 in
theorem QN (os:Os) (started:os.Started) (H:Type) (enc:TypeId × Value→H) :
  ReturnsInHanded {} Tryz.checked os 7 .any (Rows.convexPartsSpec.pre6 enc Tryz.prog Tryz.f7 Rows.convexPartsRow.domain false) (Rows.convexPartsSpec.post enc Tryz.prog Tryz.f7 false true false false):=by
 refine returnsInHanded_of_change_sized (C:=Tryz.checked) own started (by kernel_rfl) Tryz.func7
  (ChangeSpec.witness6 (enc:=enc) (C:=Tryz.checked) false ⟨#[],#[.slice none 0 0,zP,zP,.int .u8 0],[]⟩ 8 (by kernel_rfl) (by kernel_rfl) (by kernel_rfl) (by kernel_rfl)) ?_
 intro W base args ds gs before OK hW ad4 pF _;have vf:∀ (j:Nat) t v,Tryz.f7.params[j]?=some t→args[j]?=some v→Value.okWide Tryz.prog W .any base t v:=OK;have hW':=hW;obtain ⟨p,q,xT,hV,rfl,IK,mN⟩:=hW;have hA:DataW.TrodAll enc Tryz.prog W 0 (fun _=>true) true Tryz.f7.params.toList args.toList ds p:=xT
 have hz:(DataW.weightsEach Tryz.prog (Tryz.f7.params.toList++Rows.convexPartsSpec.plain.varTypes Tryz.prog) (ds++gs)).all (·≤reachBytes)=true:=pF;rw [Tryz.params7] at hA vf hz;obtain ⟨v0,vs0,d0,ds0,p0,q0,n3,rfl,rfl,h0,r0⟩:=trodAll_cons hA;obtain ⟨v1,vs1,d1,ds1,p1,q1,rfl,rfl,rfl,h1,r1⟩:=trodAll_cons r0;obtain ⟨v2,vs2,d2,ds2,p2,q2,rfl,rfl,rfl,J,r2⟩:=trodAll_cons r1;obtain ⟨v3,vs3,d3,ds3,p3,q3,rfl,rfl,rfl,h3,r3⟩:=trodAll_cons r2;obtain ⟨rfl,rfl,rfl⟩:=trodAll_nil r3;obtain rfl:args=#[v0,v1,v2,v3]:=by cases args; simp_all
 obtain ⟨rfl,rfl⟩:=trodVars_none hV;obtain ⟨a0,bh,i0,z0,hv0,IT,adL⟩:=Ro adK Tryz.underlying22 (vf 0 22 v0 rfl rfl) h0;have z0:=z0 80 reachBytes (fun elems spare e=>sized_slice (e:=26) hz (j:=0) (t:=22) rfl (by rw [e]; rfl) Tryz.underlying22)
 obtain ⟨a1,rfl⟩:=Lf (vf 1 26 v1 rfl rfl);obtain ⟨a2,rfl⟩:=Lf (vf 2 26 v2 rfl rfl);obtain ⟨a3,rfl,rfl,rfl,w3⟩:=open_int Tryz.underlying5 (vf 3 5 v3 rfl rfl) h3;obtain ⟨a3,rfl⟩:∃ k:Nat,a3=(k:Int):=⟨a3.toNat,(Int.toNat_of_nonneg (wf_u8 w3).1).symm⟩;have lt0:∀ x∈p0,x.block < W.heap.size:=by obtain ⟨m,hm⟩:=h0; exact DataW.trod_lt m _ _ _ hm
 have lt1:∀ x∈p1,x.block < W.heap.size:=by obtain ⟨m,hm⟩:=h1; exact DataW.trod_lt m _ _ _ hm
 have lt2:∀ x∈p2,x.block < W.heap.size:=by obtain ⟨m,hm⟩:=J; exact DataW.trod_lt m _ _ _ hm
 clear xT OK;have aa4:bc bh (u9.args (((((a0,(a1,a2)),a3)):(PL × nO) × Nat))) [v0,a1.v,a2.v,.int .u8 a3]:=.cons hv0 (.cons ((vV (v:=PV.v a1) rfl).1 bh) (.cons ((vV (v:=PV.v a2) rfl).1 bh) (.cons ((vV (v:=.int .u8 a3) rfl).1 bh) (.nil bh))));refine (Q6 aa3 (i:=((((a0,(a1,a2)),a3)):(PL × nO) × Nat)) (⟨z0,by have:=(wf_u8 w3).2; show a3 < 256; omega⟩) aa4 IT adL (b:=true) rfl).mono fun e W' ⟨he,DO⟩=>?_
 subst he;exact ⟨_,rfl,_,_,_,[],_,[],hW',trodAll_mk1 (shut_bool Tryz.underlying4 _),(trodAll_cons_mk (Below.trod laidOut (by kernel_rfl) (of_decide_eq_true (by kernel_rfl)) h0 DO lt0) (trodAll_cons_mk (Below.trod laidOut (by kernel_rfl) (of_decide_eq_true (by kernel_rfl)) h1 DO lt1) (trodAll_cons_mk (Below.trod laidOut (by kernel_rfl) (of_decide_eq_true (by kernel_rfl)) J DO lt2) (trodAll_cons_mk (shut_int Tryz.underlying5 w3) trodAll_mk0)))),rfl,DO.frame _,fun h=>by cases h⟩
theorem QO:Rows.convexPartsRow.holds Tryz.pinned (OpenSpec.ofChange Rows.convexPartsSpec) :=
 OpenClaim.holds_of_wide 7 Tryz.f7 rfl rfl rfl rfl rfl rfl rfl ⟨rfl,rfl,rfl,rfl,rfl⟩ rfl rfl rfl rfl rfl (by kernel_rfl) Tryz.func7 (by kernel_rfl)
  (of_decide_eq_true (by kernel_rfl)) (by unfold Func.isWrapper; first | (rw [if_pos (by decide +kernel)]; kernel_rfl) | (rw [if_neg (by decide +kernel)]; exact ⟨rfl,rfl⟩))
  (fun os started H enc _=>QN os started H enc)
theorem convexParts_proved:Rows.ConvexPartsSaid:=QO
end Go.Proofs.YtlapbjdhekcipaaGreat
