import Derived.Test.YtlapbjdhekcipaaGreatRows
import Derived.Test.YtlapbjdhekcipaaGreatHK
set_option linter.unusedVariables false
set_option linter.unusedSimpArgs false
set_option maxRecDepth 20000
set_option maxHeartbeats 4000000
namespace Go.Proofs.YtlapbjdhekcipaaGreat
open Go Go.Ae
def Ei9:Env:=En [(84,.p nS),(36,.p iK)]
theorem aeE:EnvOk Tryz.prog Ei9:=bF ⟨Gg,xE,trivial⟩ trivial
theorem XR:di Tryz.prog 47 cS:=by
 refine dQ aeE aN Tryz.func47 (enters_of Tryz.func47 (by kernel_rfl) rfl) ?_ ?_ ?_
 ·intro i B hb;cases i <;> simp [cS,PL.ah] at hb
  rw [hb]; rfl
 ·intro i b hb; simp [cS] at hb
 intro i hp;have hp:i.list.length≤64∧∀ v∈i.list,v.sz 1024:=hp;obtain ⟨hl,aW⟩:=hp;cases i with
 | none =>
  obtain ⟨K,hK⟩:∃ K,K=gz cS none:=⟨_,rfl⟩;rw [show cS.args none=[.slice none 0 0] from rfl,show cS.ah none=[] from rfl,← hK]
  conv=>whnf
  refine .inr ⟨1,?_⟩;conv=>whnf
  rw [hK];refine ⟨(RV.of (cQ (aR []))).v,rfl,?_⟩;rw [show cQ (aR [])=0 from rfl,← N5]
  exact .refl _
 | some i =>
  obtain ⟨A,c⟩:=i;have hl:A.length≤64:=hl;have aW:∀ v∈A,PV.sz 1024 v:=aW;obtain ⟨n,hn⟩:∃ n,n=A.length:=⟨_,rfl⟩;obtain ⟨g,hg⟩:∃ g,g=cW A:=⟨_,rfl⟩;obtain ⟨P,hP⟩:∃ P,P=aR A:=⟨_,rfl⟩;obtain ⟨K,hK⟩:∃ K,K=gz cS (some (A,c)):=⟨_,rfl⟩;rw [show cS.ah (some (A,c))=[.flat false n 6 g] from by rw [hn,hg]; rfl,show cS.args (some (A,c))=[.slice (some ⟨0,0,none⟩) n c] from by rw [hn]; rfl,← hK]
  conv=>whnf
  refine .inl ⟨fun mm tz hz=>∃ (j:Nat) (S:RV),bw (some (.slice (some ⟨0,0,none⟩) n c)::aF 1 (some (.pointer (some ⟨1,0,none⟩))::some (.pointer (some ⟨2,0,none⟩))::aF 3 (some (.slice (some ⟨0,0,none⟩) n c)::some (.int .i64 n)::some (.int .i64 j)::aF 18 []))) tz∧hz=[some (.flat false n 6 g),some (.aP true 3 [c4.cells]),some (.aP true 3 [S.cells])]∧n - j=mm∧(j≤n∧S.q=xR P j∧S=RV.of S.q∧S.sz (4098*j+1)),.inr ⟨[0,1,2],[0,2,3,7,8,9],?_⟩,?_⟩
  ·conv=>whnf
   intro _;conv=>whnf
   refine ⟨_,0,c4,(.aa (.sk 1 (.aa (.aa (.sk 3 (.aa (.aa (.aa (.sk 18 .nil rfl)))) rfl))) rfl)),rfl,rfl,?_⟩;exact ⟨Nat.zero_le _,G9,by rw [G9]; exact N5,sB _⟩
  rintro mm aV _ ⟨j,S,aA,rfl,rfl,⟨hj,hS,hc,hz⟩⟩
  obtain ⟨az,rfl⟩:∃ az:Nat→Value,aV=.slice (some ⟨0,0,none⟩) n c::zs az 1 1 (.pointer (some ⟨1,0,none⟩)::.pointer (some ⟨2,0,none⟩)::zs az 4 3 (.slice (some ⟨0,0,none⟩) n c::.int .i64 n::.int .i64 j::zs az 10 18 [])):=bI aA;clear aA;conv=>whnf
  refine aM (fun h3=>?_) (fun h3=>?_)
  ·have h3:j < n:=by
    have:=of_decide_eq_true h3;omega
   have e7:IntKind.i64.wrap ((j:Int)+1)=((j+1:Nat):Int):=by rw [ax (by omega) (by omega)]; rfl
   obtain ⟨a,b,ra,rb,⟨ma,mb⟩,gr,ck,_,_⟩:=si hn h3;have cK:=kR h3 (by omega)
   have sa:=aW a ma;have sb:=aW b mb;have qa:=PV.cL sa (by decide)
   have qb:=PV.cL sb (by decide)
   obtain ⟨u,hu⟩:∃ u,u=aX n j:=⟨_,rfl⟩;rw [← hu] at cK ck rb;rw [← hg] at ra rb;rw [← hP] at gr;have ar:=TF gr;have sS:S.sz 270000:=RV.aO hz (by omega)
   have qS0:=RV.jf hz (by omega)
   have qS:=RV.jf sS (by decide)
   conv=>whnf
   refine ⟨⟨by omega,by omega⟩,?_⟩
   simp only [toNat_cast,aw,Nat.zero_add];conv=>whnf
   refine ⟨by show j < n; omega,?_⟩
   conv=>whnf
   rw [ra];conv=>whnf
   refine .inl ⟨11,[[],[],[],[],[3],[],[5],[3,4,5,6],[2,3,4,5,6,7],[2,3,4,5,6,7,8],[1,2,3,4,5,6,7,8,9],[0,1,2,3,4,5,6,7,8,9,10],[0,1,2,3,4,5,6,7,8,9,10,11]],by kernel_rfl,?_⟩
   conv=>whnf
   rw [show decide ((n:Int)≠0)=true from decide_eq_true (by omega)]
   conv=>whnf
   rw [cK];refine ⟨⟨by omega,by omega⟩,?_⟩
   simp only [toNat_cast,aw,Nat.zero_add];conv=>whnf
   refine ⟨by show u < n; omega,?_⟩
   conv=>whnf
   rw [rb];conv=>whnf
   obtain ⟨w,ew,pw,sw,qw⟩:=fH (uC qa qb);refine ⟨(a,b),rfl,⟨PV.aO sa (by decide),PV.aO sb (by decide)⟩,?_⟩
   rw [show nS.val (a,b)=w.v from ew]
   conv=>whnf
   obtain ⟨T,eT,pT,sT,qT⟩:=fH (QB.add qS qw);refine ⟨(S,w),rfl,⟨RV.bJ sS (by decide),RV.bJ sw (by decide)⟩,?_⟩
   rw [show iK.val (S,w)=T.v from eT]
   conv=>whnf
   have cT:T=RV.of (S.q+w.q):=(RV.ko eT).symm;rw [e7];refine .inr ⟨[0,1,2],[0,2,3,7,8,9],?_⟩;conv=>whnf
   intro _;conv=>whnf
   refine ⟨_,?_,j+1,T,(.aa (.sk 1 (.aa (.aa (.sk 3 (.aa (.aa (.aa (.sk 18 .nil rfl)))) rfl))) rfl)),rfl,rfl,?_⟩
   ·omega
   ·refine ⟨by omega,by rw [pT,hS,pw,ar],by rw [pT]; exact cT,?_⟩
    rw [cT];exact RV.mB ((qS0.add qw).mono (by omega))
  ·have h3:n=j:=by
    have:=of_decide_eq_false h3;omega
   subst h3;conv=>whnf
   rw [hK];refine ⟨(RV.of (cQ (aR A))).v,rfl,?_⟩;rw [show cQ (aR A)=S.q from by rw [hS,hP,hn,← c0 A]; exact (UP _).symm,← hc]
   exact .refl _
def Ej1:Env:=rS [(13,.p Pm),(26,.p yq),(27,.q dL),(47,.q cS),(36,.p iK),(32,.p jL),(14,.q cA),(23,.q bd),(18,.q fo)] [(25,b9 Kz cF Tryz.f25)]
theorem aeF:EnvOk Tryz.prog Ej1:=tC ⟨U7,U8,TG,XR,xE,Cg,XO,xm,Ob,trivial⟩ ⟨aaG,trivial⟩
theorem acX:di Tryz.prog 10 vF:=by
 refine dQ aeF aN Tryz.func10 (enters_of Tryz.func10 (by kernel_rfl) rfl) ?_ ?_ ?_
 ·intro ⟨i,_⟩ b hb;cases i <;> simp [vF,PL.ah] at hb
  rw [hb]; rfl
 ·intro i b hb; simp [vF] at hb
 intro ⟨i,a,b,p⟩ hp;have tU:i.list.length*80≤140737488351232:=hp;have fin:∀ n,∃ v',cR (List.range n) 3 (vF.val (i,a,b,p))=some v'∧fj (.bool true) v':=fun n=>⟨.bool true,rfl,.refl _⟩
 cases i with
 | none =>
  conv=>whnf
  refine .inr ⟨2,?_⟩;conv=>whnf
  refine ⟨⟨by decide,by decide⟩,?_⟩
  conv=>whnf
  refine ⟨none,[],rfl,by show 0≤9223372036854775807; decide,?_⟩
  rw [show kN.ah none=[] from rfl,show kN.val none=.bool true from rfl,show kN.new none=none from rfl]
  conv=>whnf
  refine ⟨_,rfl,?_⟩;conv=>whnf
  conv=>whnf
  refine ⟨(),rfl,trivial,?_⟩;conv=>whnf
  exact fin _
 | some i =>
  obtain ⟨A,c⟩:=i;have tU:A.length*80≤140737488351232:=tU;obtain ⟨n,hn⟩:∃ n,n=A.length:=⟨_,rfl⟩;obtain ⟨g,hg⟩:∃ g,g=cW A:=⟨_,rfl⟩;obtain ⟨G,hG⟩:∃ G,G=lN A:=⟨_,rfl⟩;obtain ⟨cu,eJ⟩:∃ cu,cu=aI:=⟨_,rfl⟩;rw [show vF.ah (some (A,c),a,b,p)=[.flat false n 6 g] from by rw [hn,hg]; rfl,show vF.args (some (A,c),a,b,p)=[.slice (some ⟨0,0,none⟩) n c,a.v,b.v,p.v] from by rw [hn]; rfl]
  conv=>whnf
  refine .inr ⟨2,?_⟩;conv=>whnf
  refine ⟨⟨by decide,by decide⟩,?_⟩
  conv=>whnf
  refine ⟨some (A,c),[0],by rw [show kN.args (some (A,c))=[.slice (some ⟨0,0,none⟩) n c] from by rw [hn]; rfl]; rfl,by show A.length≤9223372036854775807; omega,?_⟩
  rw [show kN.ah (some (A,c))=[.flat false n 6 g] from by rw [hn,hg]; rfl,show kN.val (some (A,c))=.bool G from by rw [hG]; rfl,show kN.new (some (A,c))=none from rfl]
  conv=>whnf
  refine ⟨aH.aT (fun h=>h) (fun r hr=>by rw [hg]; rfl),?_⟩
  conv=>whnf
  refine ⟨_,rfl,?_⟩;conv=>whnf
  cases G with
  | true =>
   conv=>whnf
   conv=>whnf
   refine ⟨(),rfl,trivial,?_⟩;conv=>whnf
   exact fin _
  | false =>
   obtain ⟨Rd,aW,Ax⟩:=YJ hG.symm;have hz:=nQ Ax;have fA:PL.fit (some (A,c)):=⟨by show A.length≤_; omega,I5 aW⟩
   conv=>whnf
   obtain ⟨x,hx⟩:∃ x,x=decide (PV.sz 12 a∧PV.canon a):=⟨_,rfl⟩;refine ⟨(a:PV),rfl,trivial,?_⟩;rw [show yq.val a=.bool x from by rw [hx]; rfl]
   conv=>whnf
   cases x with
   | false =>
    conv=>whnf
    conv=>whnf
    refine ⟨(),rfl,trivial,?_⟩;conv=>whnf
    exact fin _
   | true =>
    obtain ⟨sa,ca⟩:=of_decide_eq_true hx.symm;conv=>whnf
    obtain ⟨y,hy⟩:∃ x,x=decide (PV.sz 12 b∧PV.canon b):=⟨_,rfl⟩;refine ⟨(b:PV),rfl,trivial,?_⟩;rw [show yq.val b=.bool y from by rw [hy]; rfl]
    conv=>whnf
    cases y with
    | false =>
     conv=>whnf
     conv=>whnf
     refine ⟨(),rfl,trivial,?_⟩;conv=>whnf
     exact fin _
    | true =>
     obtain ⟨sb,cb⟩:=of_decide_eq_true hy.symm;conv=>whnf
     obtain ⟨w,hw⟩:∃ x,x=decide (PV.sz 12 p∧PV.canon p):=⟨_,rfl⟩;refine ⟨(p:PV),rfl,trivial,?_⟩;rw [show yq.val p=.bool w from by rw [hw]; rfl]
     conv=>whnf
     cases w with
     | false =>
      conv=>whnf
      conv=>whnf
      refine ⟨(),rfl,trivial,?_⟩;conv=>whnf
      exact fin _
     | true =>
      obtain ⟨sp,cp⟩:=of_decide_eq_true hw.symm;have qa:=PV.cL sa (by decide)
      have qb:=PV.cL sb (by decide)
      have qp:=PV.cL sp (by decide)
      conv=>whnf
      by_cases c9:a=b
      ·subst c9;have hv:([],12)=dp A a a:=(Px ⟨Ax,ca,ca⟩ rfl).symm;have hv:=vn (i:=some (A,c)) hv;refine ⟨(some (A,c),(a,a)),[0],by rw [show cA.args (some (A,c),(a,a))=[.slice (some ⟨0,0,none⟩) n c,a.v,a.v] from by rw [hn]; rfl]; rfl,⟨fA,PV.aO sa (by decide),PV.aO sa (by decide)⟩,?_⟩
       rw [show cA.ah (some (A,c),(a,a))=[.flat false n 6 g] from by rw [hn,hg]; rfl,show cA.val (some (A,c),(a,a))=.tuple ⟨[.slice none 0 0,.int .i64 12]⟩ from hv.1,show cA.new (some (A,c),(a,a))=none from hv.2.1]
       conv=>whnf
       refine ⟨aH.aT (fun h=>h) (fun r hr=>by rw [hg]; rfl),?_⟩
       conv=>whnf
       refine ⟨_,rfl,?_⟩;conv=>whnf
       refine ⟨(some (A,c),(a,a)),[0],by rw [show cA.args (some (A,c),(a,a))=[.slice (some ⟨0,0,none⟩) n c,a.v,a.v] from by rw [hn]; rfl]; rfl,⟨fA,PV.aO sa (by decide),PV.aO sa (by decide)⟩,?_⟩
       rw [show cA.ah (some (A,c),(a,a))=[.flat false n 6 g] from by rw [hn,hg]; rfl,show cA.val (some (A,c),(a,a))=.tuple ⟨[.slice none 0 0,.int .i64 12]⟩ from hv.1,show cA.new (some (A,c),(a,a))=none from hv.2.1]
       conv=>whnf
       refine ⟨aH.aT (fun h=>h) (fun r hr=>by rw [hg]; rfl),?_⟩
       conv=>whnf
       refine ⟨_,rfl,?_⟩;conv=>whnf
       rw [eqP a];conv=>whnf
       conv=>whnf
       refine ⟨(),rfl,trivial,?_⟩;conv=>whnf
       exact fin _
      ·obtain ⟨L,hL⟩:∃ L,L=dD (aR A) (a.p,b.p):=⟨_,rfl⟩;obtain ⟨R,hR⟩:∃ R,R=dD (aR A) (b.p,a.p):=⟨_,rfl⟩;obtain ⟨⟨v1,v2⟩,⟨lL,lR⟩,⟨zL,zR⟩,KA,hLR,ox,hL2,Sv,l9⟩:=YU Ax Rd aW sa sb ca cb c9 hL hR;have fL:PL.fit (some (aC L,cu)):=⟨by show (aC L).length≤_; rw [r4]; omega,fun v hv=>PV.aO (zL v hv) (by decide)⟩
       have fR:PL.fit (some (aC R,cu)):=⟨by show (aC R).length≤_; rw [r4]; omega,fun v hv=>PV.aO (zR v hv) (by decide)⟩
       obtain ⟨x,cx,ex,px,sx,qx⟩:=xO (q:=cQ L) (Hj (k:=1024) (n:=11) (fun v hv=>by have:=zL (cc v) (List.mem_map_of_mem hv); have:=PV.cL this (by decide); rw [gJ] at this; exact this) lL)
       obtain ⟨y,cy,ey,py,sy,qy⟩:=xO (q:=cQ R) (Hj (k:=1024) (n:=11) (fun v hv=>by have:=zR (cc v) (List.mem_map_of_mem hv); have:=PV.cL this (by decide); rw [gJ] at this; exact this) lR)
       obtain ⟨t,ct,et,pt,st,qt⟩:=xO (q:=cQ (aR A)) (Hj (k:=12) (n:=10) (sK aW (by decide)) (by rw [c0]; exact Rd))
       obtain ⟨z,EZ⟩:∃ z,z=nv A p:=⟨_,rfl⟩;have KB:z=fp (aR A) p.p:=by rw [EZ]; exact CS Ax cp
       by_cases oO:L=[]
       ·have ml:=ox oO;have hRP:=hLR oO;have l1:dp A a b=([],11):=by rw [v1,oO]; rfl
        have l2:dp A b a=(R,0):=by rw [v2]; exact Di ml (by omega)
        have q1:=vn (i:=some (A,c)) l1.symm;have q2:=vn (i:=some (A,c)) l2.symm;obtain ⟨m,hm⟩:∃ m,m=R.length:=⟨_,rfl⟩;have m0:0 < m:=by rw [hm]; exact List.length_pos_iff.2 ml
        obtain ⟨E,hE⟩:∃ E,E=bG R:=⟨_,rfl⟩;have bN:(aC R).length=m:=by rw [r4,hm]
        have eY:cW (aC R)=E:=by rw [hE]; rfl
        refine ⟨(some (A,c),(a,b)),[0],by rw [show cA.args (some (A,c),(a,b))=[.slice (some ⟨0,0,none⟩) n c,a.v,b.v] from by rw [hn]; rfl]; rfl,⟨fA,PV.aO sa (by decide),PV.aO sb (by decide)⟩,?_⟩
        rw [show cA.ah (some (A,c),(a,b))=[.flat false n 6 g] from by rw [hn,hg]; rfl,show cA.val (some (A,c),(a,b))=.tuple ⟨[.slice none 0 0,.int .i64 11]⟩ from q1.1,show cA.new (some (A,c),(a,b))=none from q1.2.1]
        conv=>whnf
        refine ⟨aH.aT (fun h=>h) (fun r hr=>by rw [hg]; rfl),?_⟩
        conv=>whnf
        refine ⟨_,rfl,?_⟩;conv=>whnf
        refine ⟨(some (A,c),(b,a)),[0],by rw [show cA.args (some (A,c),(b,a))=[.slice (some ⟨0,0,none⟩) n c,b.v,a.v] from by rw [hn]; rfl]; rfl,⟨fA,PV.aO sb (by decide),PV.aO sa (by decide)⟩,?_⟩
        rw [show cA.ah (some (A,c),(b,a))=[.flat false n 6 g] from by rw [hn,hg]; rfl,show cA.val (some (A,c),(b,a))=.tuple ⟨[.slice (some ⟨1,0,none⟩) m cu,.int .i64 0]⟩ from q2.1.trans (by rw [← hm,xC m0,eJ]; rfl),show cA.new (some (A,c),(b,a))=some (.flat true m 6 E) from q2.2.1.trans (by rw [xB hm.symm m0,hE])]
        conv=>whnf
        refine ⟨aH.aT (fun h=>h) (fun r hr=>by rw [hg]; rfl),?_⟩
        conv=>whnf
        refine ⟨_,rfl,?_⟩;conv=>whnf
        rw [th a b,decide_eq_false c9];conv=>whnf
        refine ⟨(none:PL),[],rfl,⟨Nat.zero_le _,fun v hv=>nomatch hv⟩,?_⟩
        rw [show cS.ah (none:PL)=[] from rfl,show cS.val (none:PL)=x.v from by rw [cx,oO]; rfl,show cS.new (none:PL)=none from rfl]
        conv=>whnf
        refine ⟨_,rfl,?_⟩;conv=>whnf
        refine ⟨some (aC R,cu),[5],by rw [show cS.args (some (aC R,cu))=[.slice (some ⟨0,0,none⟩) m cu] from by rw [← bN]; rfl]; rfl,⟨by show (aC R).length≤64; omega,zR⟩,?_⟩
        rw [show cS.ah (some (aC R,cu))=[.flat false m 6 E] from by rw [← bN,← eY]; rfl,show cS.val (some (aC R,cu))=y.v from by rw [← ey]; show (RV.of (cQ (aR (aC R)))).v=_; rw [kc],show cS.new (some (aC R,cu))=none from rfl]
        conv=>whnf
        refine ⟨aH.aT (fun h=>by cases h) (fun r hr=>by rw [← eY]; rfl),?_⟩
        conv=>whnf
        refine ⟨_,rfl,?_⟩;conv=>whnf
        obtain ⟨w,ew,pw,sw,qw⟩:=fH (QB.add qx qy);refine ⟨(x,y),rfl,⟨RV.bJ sx (by decide),RV.bJ sy (by decide)⟩,?_⟩
        rw [show iK.val (x,y)=w.v from ew]
        conv=>whnf
        refine ⟨some (A,c),[0],by rw [show cS.args (some (A,c))=[.slice (some ⟨0,0,none⟩) n c] from by rw [hn]; rfl]; rfl,⟨by show A.length≤64; omega,(fun v hv=>PV.aO (aW v hv) (by decide))⟩,?_⟩
        rw [show cS.ah (some (A,c))=[.flat false n 6 g] from by rw [hn,hg]; rfl,show cS.val (some (A,c))=t.v from et,show cS.new (some (A,c))=none from rfl]
        conv=>whnf
        refine ⟨aH.aT (fun h=>h) (fun r hr=>by rw [hg]; rfl),?_⟩
        conv=>whnf
        refine ⟨_,rfl,?_⟩;conv=>whnf
        have cw:w=RV.of (x.q+y.q):=(RV.ko ew).symm;rw [wH w t,decide_eq_true (show w=t by rw [cw,ct,px,py,KA])]
        conv=>whnf
        refine ⟨(some (aC R,cu),some (A,c)),[5,0],by rw [show fo.args (some (aC R,cu),some (A,c))=[.slice (some ⟨0,0,none⟩) m cu,.slice (some ⟨1,0,none⟩) n c] from by rw [← bN,hn]; rfl]; rfl,⟨by show (aC R).length≤_; omega,by show A.length≤_; omega⟩,?_⟩
        rw [show fo.ah (some (aC R,cu),some (A,c))=[.flat false m 6 E,.flat false n 6 g] from by rw [← bN,hn,← eY,hg]; rfl,show fo.val (some (aC R,cu),some (A,c))=.bool true from congrArg Value.bool (decide_eq_true (by show aC R=A; rw [hRP]; exact OK (NT Ax))),show fo.new (some (aC R,cu),some (A,c))=none from rfl]
        conv=>whnf
        refine ⟨aH.aT (fun h=>by cases h) (fun r hr=>by rw [← eY]; rfl),aH.aT (fun h=>h) (fun r hr=>by rw [hg]; rfl),?_⟩
        conv=>whnf
        refine ⟨.bool true,rfl,?_⟩;conv=>whnf
        refine ⟨(some (A,c),p),[0],by rw [show dL.args (some (A,c),p)=[.slice (some ⟨0,0,none⟩) n c,p.v] from by rw [hn]; rfl]; rfl,⟨fA,PV.aO sp (by decide)⟩,?_⟩
        rw [show dL.ah (some (A,c),p)=[.flat false n 6 g] from by rw [hn,hg]; rfl,show dL.val (some (A,c),p)=.int .i64 z from congrArg (Value.int .i64) EZ.symm,show dL.new (some (A,c),p)=none from rfl]
        conv=>whnf
        refine ⟨aH.aT (fun h=>h) (fun r hr=>by rw [hg]; rfl),?_⟩
        conv=>whnf
        refine ⟨_,rfl,?_⟩;conv=>whnf
        by_cases h1:z=1
        ·rw [show (z != 1)=false from by simp [h1]]
         conv=>whnf
         obtain ⟨i1,i2,i3,i4⟩:=l9 p.p (by rw [← KB]; exact h1)
         obtain ⟨o,eo,po⟩:=dS (aZ (ao a.p b.p p.p) 0);refine ⟨(a,b,p),rfl,⟨PV.aO sa (by decide),PV.aO sb (by decide),PV.aO sp (by decide)⟩,?_⟩
         rw [show jL.val (a,b,p)=.int .i64 o from eo]
         conv=>whnf
         have og:o ≥ 0↔0≤ao a.p b.p p.p:=by rw [po]; exact lC
         have ol:o≤0↔ao a.p b.p p.p≤0:=by rw [po]; exact xy
         obtain ⟨q,hq⟩:∃ q,q=nv (aC R) p:=⟨_,rfl⟩;have dW:q=fp R p.p:=by rw [hq,CS (Sv ml) cp,kc]
         have i3:=i3 ml;have i2:=i2 oO;refine ⟨(some (aC R,cu),p),[5],by rw [show dL.args (some (aC R,cu),p)=[.slice (some ⟨0,0,none⟩) m cu,p.v] from by rw [← bN]; rfl]; rfl,⟨fR,PV.aO sp (by decide)⟩,?_⟩
         rw [show dL.ah (some (aC R,cu),p)=[.flat false m 6 E] from by rw [← bN,← eY]; rfl,show dL.val (some (aC R,cu),p)=.int .i64 q from congrArg (Value.int .i64) hq.symm,show dL.new (some (aC R,cu),p)=none from rfl]
         conv=>whnf
         refine ⟨aH.aT (fun h=>by cases h) (fun r hr=>by rw [← eY]; rfl),?_⟩
         conv=>whnf
         refine ⟨_,rfl,?_⟩;conv=>whnf
         have c8:(false)=decide (o ≥ 0):=(decide_eq_false (fun h=>by have:=og.1 h; grind)).symm
         have hd:(decide (q ≥ 0))=decide (o≤0):=decide_eq_decide.2 (by rw [ol]; show 0≤q↔_; rw [dW]; exact i3)
         by_cases h8:o ≥ 0
         ·rw [decide_eq_true h8] at c8 ⊢
          try rw [c8]
          conv=>whnf
          by_cases ho:o≤0
          ·rw [decide_eq_true ho] at hd ⊢
           try rw [hd]
           conv=>whnf
           conv=>whnf
           refine ⟨(),rfl,trivial,?_⟩;conv=>whnf
           exact fin _
          ·rw [decide_eq_false ho] at hd ⊢
           try rw [hd]
           conv=>whnf
           conv=>whnf
           refine ⟨(),rfl,trivial,?_⟩;conv=>whnf
           exact fin _
         ·rw [decide_eq_false h8] at c8 ⊢
          try rw [c8]
          conv=>whnf
          by_cases ho:o≤0
          ·rw [decide_eq_true ho] at hd ⊢
           try rw [hd]
           conv=>whnf
           conv=>whnf
           refine ⟨(),rfl,trivial,?_⟩;conv=>whnf
           exact fin _
          ·rw [decide_eq_false ho] at hd ⊢
           try rw [hd]
           conv=>whnf
           conv=>whnf
           refine ⟨(),rfl,trivial,?_⟩;conv=>whnf
           exact fin _
        ·rw [show (z != 1)=true from by simp [h1]]
         conv=>whnf
         conv=>whnf
         refine ⟨(),rfl,trivial,?_⟩;conv=>whnf
         exact fin _
       ·have l1:dp A a b=(L,0):=by rw [v1]; exact Di oO (by omega)
        have q1:=vn (i:=some (A,c)) l1.symm;obtain ⟨m,hm⟩:∃ m,m=L.length:=⟨_,rfl⟩;have m0:0 < m:=by rw [hm]; exact List.length_pos_iff.2 oO
        obtain ⟨E,hE⟩:∃ E,E=bG L:=⟨_,rfl⟩;have bN:(aC L).length=m:=by rw [r4,hm]
        have eY:cW (aC L)=E:=by rw [hE]; rfl
        obtain ⟨kL,vL⟩:=hL2 oO;have q3:=vn (i:=some (aC L,cu)) (show (L,0)=dp (aC L) a b by rw [vL]; exact (Di oO (by omega)).symm)
        refine ⟨(some (A,c),(a,b)),[0],by rw [show cA.args (some (A,c),(a,b))=[.slice (some ⟨0,0,none⟩) n c,a.v,b.v] from by rw [hn]; rfl]; rfl,⟨fA,PV.aO sa (by decide),PV.aO sb (by decide)⟩,?_⟩
        rw [show cA.ah (some (A,c),(a,b))=[.flat false n 6 g] from by rw [hn,hg]; rfl,show cA.val (some (A,c),(a,b))=.tuple ⟨[.slice (some ⟨1,0,none⟩) m cu,.int .i64 0]⟩ from q1.1.trans (by rw [← hm,xC m0,eJ]; rfl),show cA.new (some (A,c),(a,b))=some (.flat true m 6 E) from q1.2.1.trans (by rw [xB hm.symm m0,hE])]
        conv=>whnf
        refine ⟨aH.aT (fun h=>h) (fun r hr=>by rw [hg]; rfl),?_⟩
        conv=>whnf
        refine ⟨_,rfl,?_⟩;conv=>whnf
        obtain ⟨q,hq⟩:∃ q,q=nv (aC L) p:=⟨_,rfl⟩;have dW:q=fp L p.p:=by rw [hq,CS kL cp,kc]
        by_cases ml:R=[]
        ·have l2:dp A b a=([],11):=by rw [v2,ml]; rfl
         have q2:=vn (i:=some (A,c)) l2.symm;refine ⟨(some (A,c),(b,a)),[0],by rw [show cA.args (some (A,c),(b,a))=[.slice (some ⟨0,0,none⟩) n c,b.v,a.v] from by rw [hn]; rfl]; rfl,⟨fA,PV.aO sb (by decide),PV.aO sa (by decide)⟩,?_⟩
         rw [show cA.ah (some (A,c),(b,a))=[.flat false n 6 g] from by rw [hn,hg]; rfl,show cA.val (some (A,c),(b,a))=.tuple ⟨[.slice none 0 0,.int .i64 11]⟩ from q2.1,show cA.new (some (A,c),(b,a))=none from q2.2.1]
         conv=>whnf
         refine ⟨aH.aT (fun h=>h) (fun r hr=>by rw [hg]; rfl),?_⟩
         conv=>whnf
         refine ⟨_,rfl,?_⟩;conv=>whnf
         rw [th a b,decide_eq_false c9];conv=>whnf
         refine ⟨some (aC L,cu),[5],by rw [show cS.args (some (aC L,cu))=[.slice (some ⟨0,0,none⟩) m cu] from by rw [← bN]; rfl]; rfl,⟨by show (aC L).length≤64; omega,zL⟩,?_⟩
         rw [show cS.ah (some (aC L,cu))=[.flat false m 6 E] from by rw [← bN,← eY]; rfl,show cS.val (some (aC L,cu))=x.v from by rw [← ex]; show (RV.of (cQ (aR (aC L)))).v=_; rw [kc],show cS.new (some (aC L,cu))=none from rfl]
         conv=>whnf
         refine ⟨aH.aT (fun h=>by cases h) (fun r hr=>by rw [← eY]; rfl),?_⟩
         conv=>whnf
         refine ⟨_,rfl,?_⟩;conv=>whnf
         refine ⟨(none:PL),[],rfl,⟨Nat.zero_le _,fun v hv=>nomatch hv⟩,?_⟩
         rw [show cS.ah (none:PL)=[] from rfl,show cS.val (none:PL)=y.v from by rw [cy,ml]; rfl,show cS.new (none:PL)=none from rfl]
         conv=>whnf
         refine ⟨_,rfl,?_⟩;conv=>whnf
         obtain ⟨w,ew,pw,sw,qw⟩:=fH (QB.add qx qy);refine ⟨(x,y),rfl,⟨RV.bJ sx (by decide),RV.bJ sy (by decide)⟩,?_⟩
         rw [show iK.val (x,y)=w.v from ew]
         conv=>whnf
         refine ⟨some (A,c),[0],by rw [show cS.args (some (A,c))=[.slice (some ⟨0,0,none⟩) n c] from by rw [hn]; rfl]; rfl,⟨by show A.length≤64; omega,(fun v hv=>PV.aO (aW v hv) (by decide))⟩,?_⟩
         rw [show cS.ah (some (A,c))=[.flat false n 6 g] from by rw [hn,hg]; rfl,show cS.val (some (A,c))=t.v from et,show cS.new (some (A,c))=none from rfl]
         conv=>whnf
         refine ⟨aH.aT (fun h=>h) (fun r hr=>by rw [hg]; rfl),?_⟩
         conv=>whnf
         refine ⟨_,rfl,?_⟩;conv=>whnf
         have cw:w=RV.of (x.q+y.q):=(RV.ko ew).symm;rw [wH w t,decide_eq_true (show w=t by rw [cw,ct,px,py,KA])]
         conv=>whnf
         refine ⟨(some (aC L,cu),(a,b)),[5],by rw [show cA.args (some (aC L,cu),(a,b))=[.slice (some ⟨0,0,none⟩) m cu,a.v,b.v] from by rw [← bN]; rfl]; rfl,⟨fL,PV.aO sa (by decide),PV.aO sb (by decide)⟩,?_⟩
         rw [show cA.ah (some (aC L,cu),(a,b))=[.flat false m 6 E] from by rw [← bN,← eY]; rfl,show cA.val (some (aC L,cu),(a,b))=.tuple ⟨[.slice (some ⟨1,0,none⟩) m cu,.int .i64 0]⟩ from q3.1.trans (by rw [← hm,xC m0,eJ]; rfl),show cA.new (some (aC L,cu),(a,b))=some (.flat true m 6 E) from q3.2.1.trans (by rw [xB hm.symm m0,hE])]
         conv=>whnf
         refine ⟨aH.aT (fun h=>by cases h) (fun r hr=>by rw [← eY]; rfl),?_⟩
         conv=>whnf
         refine ⟨_,rfl,?_⟩;conv=>whnf
         refine ⟨(some (aC L,cu),some (aC L,cu)),[6,5],by rw [show fo.args (some (aC L,cu),some (aC L,cu))=[.slice (some ⟨0,0,none⟩) m cu,.slice (some ⟨1,0,none⟩) m cu] from by rw [← bN]; rfl]; rfl,⟨by show (aC L).length≤_; omega,by show (aC L).length≤_; omega⟩,?_⟩
         rw [show fo.ah (some (aC L,cu),some (aC L,cu))=[.flat false m 6 E,.flat false m 6 E] from by rw [← bN,← eY]; rfl,show fo.val (some (aC L,cu),some (aC L,cu))=.bool true from congrArg Value.bool (decide_eq_true rfl),show fo.new (some (aC L,cu),some (aC L,cu))=none from rfl]
         conv=>whnf
         refine ⟨aH.aT (fun h=>by cases h) (fun r hr=>by rw [← eY]; rfl),aH.aT (fun h=>by cases h) (fun r hr=>by rw [← eY]; rfl),?_⟩
         conv=>whnf
         refine ⟨.bool true,rfl,?_⟩;conv=>whnf
         refine ⟨some (aC L,cu),[5],by rw [show bd.args (some (aC L,cu))=[.slice (some ⟨0,0,none⟩) m cu] from by rw [← bN]; rfl]; rfl,fL,?_⟩
         rw [show bd.ah (some (aC L,cu))=[.flat false m 6 E] from by rw [← bN,← eY]; rfl,show bd.val (some (aC L,cu))=.int .i64 0 from congrArg (Value.int .i64) kL,show bd.new (some (aC L,cu))=none from rfl]
         conv=>whnf
         refine ⟨aH.aT (fun h=>by cases h) (fun r hr=>by rw [← eY]; rfl),?_⟩
         conv=>whnf
         refine ⟨_,rfl,?_⟩;conv=>whnf
         refine ⟨(some (A,c),p),[0],by rw [show dL.args (some (A,c),p)=[.slice (some ⟨0,0,none⟩) n c,p.v] from by rw [hn]; rfl]; rfl,⟨fA,PV.aO sp (by decide)⟩,?_⟩
         rw [show dL.ah (some (A,c),p)=[.flat false n 6 g] from by rw [hn,hg]; rfl,show dL.val (some (A,c),p)=.int .i64 z from congrArg (Value.int .i64) EZ.symm,show dL.new (some (A,c),p)=none from rfl]
         conv=>whnf
         refine ⟨aH.aT (fun h=>h) (fun r hr=>by rw [hg]; rfl),?_⟩
         conv=>whnf
         refine ⟨_,rfl,?_⟩;conv=>whnf
         by_cases h1:z=1
         ·rw [show (z != 1)=false from by simp [h1]]
          conv=>whnf
          obtain ⟨i1,i2,i3,i4⟩:=l9 p.p (by rw [← KB]; exact h1)
          obtain ⟨o,eo,po⟩:=dS (aZ (ao a.p b.p p.p) 0);refine ⟨(a,b,p),rfl,⟨PV.aO sa (by decide),PV.aO sb (by decide),PV.aO sp (by decide)⟩,?_⟩
          rw [show jL.val (a,b,p)=.int .i64 o from eo]
          conv=>whnf
          have og:o ≥ 0↔0≤ao a.p b.p p.p:=by rw [po]; exact lC
          have ol:o≤0↔ao a.p b.p p.p≤0:=by rw [po]; exact xy
          have i1:=i1 oO;have i4:=i4 ml;refine ⟨(some (aC L,cu),p),[5],by rw [show dL.args (some (aC L,cu),p)=[.slice (some ⟨0,0,none⟩) m cu,p.v] from by rw [← bN]; rfl]; rfl,⟨fL,PV.aO sp (by decide)⟩,?_⟩
          rw [show dL.ah (some (aC L,cu),p)=[.flat false m 6 E] from by rw [← bN,← eY]; rfl,show dL.val (some (aC L,cu),p)=.int .i64 q from congrArg (Value.int .i64) hq.symm,show dL.new (some (aC L,cu),p)=none from rfl]
          conv=>whnf
          refine ⟨aH.aT (fun h=>by cases h) (fun r hr=>by rw [← eY]; rfl),?_⟩
          conv=>whnf
          refine ⟨_,rfl,?_⟩;conv=>whnf
          have c8:(decide (q ≥ 0))=decide (o ≥ 0):=decide_eq_decide.2 (by rw [og]; show 0≤q↔_; rw [dW]; exact i1)
          have hd:(false)=decide (o≤0):=(decide_eq_false (fun h=>by have:=ol.1 h; grind)).symm
          by_cases h8:o ≥ 0
          ·rw [decide_eq_true h8] at c8 ⊢
           try rw [c8]
           conv=>whnf
           by_cases ho:o≤0
           ·rw [decide_eq_true ho] at hd ⊢
            try rw [hd]
            conv=>whnf
            conv=>whnf
            refine ⟨(),rfl,trivial,?_⟩;conv=>whnf
            exact fin _
           ·rw [decide_eq_false ho] at hd ⊢
            try rw [hd]
            conv=>whnf
            conv=>whnf
            refine ⟨(),rfl,trivial,?_⟩;conv=>whnf
            exact fin _
          ·rw [decide_eq_false h8] at c8 ⊢
           try rw [c8]
           conv=>whnf
           by_cases ho:o≤0
           ·rw [decide_eq_true ho] at hd ⊢
            try rw [hd]
            conv=>whnf
            conv=>whnf
            refine ⟨(),rfl,trivial,?_⟩;conv=>whnf
            exact fin _
           ·rw [decide_eq_false ho] at hd ⊢
            try rw [hd]
            conv=>whnf
            conv=>whnf
            refine ⟨(),rfl,trivial,?_⟩;conv=>whnf
            exact fin _
         ·rw [show (z != 1)=true from by simp [h1]]
          conv=>whnf
          conv=>whnf
          refine ⟨(),rfl,trivial,?_⟩;conv=>whnf
          exact fin _
        ·have l2:dp A b a=(R,0):=by rw [v2]; exact Di ml (by omega)
         have q2:=vn (i:=some (A,c)) l2.symm;obtain ⟨k,hk⟩:∃ m,m=R.length:=⟨_,rfl⟩;have k0:0 < k:=by rw [hk]; exact List.length_pos_iff.2 ml
         obtain ⟨F,hF⟩:∃ E,E=bG R:=⟨_,rfl⟩;have gO:(aC R).length=k:=by rw [r4,hk]
         have vU:cW (aC R)=F:=by rw [hF]; rfl
         refine ⟨(some (A,c),(b,a)),[0],by rw [show cA.args (some (A,c),(b,a))=[.slice (some ⟨0,0,none⟩) n c,b.v,a.v] from by rw [hn]; rfl]; rfl,⟨fA,PV.aO sb (by decide),PV.aO sa (by decide)⟩,?_⟩
         rw [show cA.ah (some (A,c),(b,a))=[.flat false n 6 g] from by rw [hn,hg]; rfl,show cA.val (some (A,c),(b,a))=.tuple ⟨[.slice (some ⟨1,0,none⟩) k cu,.int .i64 0]⟩ from q2.1.trans (by rw [← hk,xC k0,eJ]; rfl),show cA.new (some (A,c),(b,a))=some (.flat true k 6 F) from q2.2.1.trans (by rw [xB hk.symm k0,hF])]
         conv=>whnf
         refine ⟨aH.aT (fun h=>h) (fun r hr=>by rw [hg]; rfl),?_⟩
         conv=>whnf
         refine ⟨_,rfl,?_⟩;conv=>whnf
         rw [th a b,decide_eq_false c9];conv=>whnf
         refine ⟨some (aC L,cu),[5],by rw [show cS.args (some (aC L,cu))=[.slice (some ⟨0,0,none⟩) m cu] from by rw [← bN]; rfl]; rfl,⟨by show (aC L).length≤64; omega,zL⟩,?_⟩
         rw [show cS.ah (some (aC L,cu))=[.flat false m 6 E] from by rw [← bN,← eY]; rfl,show cS.val (some (aC L,cu))=x.v from by rw [← ex]; show (RV.of (cQ (aR (aC L)))).v=_; rw [kc],show cS.new (some (aC L,cu))=none from rfl]
         conv=>whnf
         refine ⟨aH.aT (fun h=>by cases h) (fun r hr=>by rw [← eY]; rfl),?_⟩
         conv=>whnf
         refine ⟨_,rfl,?_⟩;conv=>whnf
         refine ⟨some (aC R,cu),[6],by rw [show cS.args (some (aC R,cu))=[.slice (some ⟨0,0,none⟩) k cu] from by rw [← gO]; rfl]; rfl,⟨by show (aC R).length≤64; omega,zR⟩,?_⟩
         rw [show cS.ah (some (aC R,cu))=[.flat false k 6 F] from by rw [← gO,← vU]; rfl,show cS.val (some (aC R,cu))=y.v from by rw [← ey]; show (RV.of (cQ (aR (aC R)))).v=_; rw [kc],show cS.new (some (aC R,cu))=none from rfl]
         conv=>whnf
         refine ⟨aH.aT (fun h=>by cases h) (fun r hr=>by rw [← vU]; rfl),?_⟩
         conv=>whnf
         refine ⟨_,rfl,?_⟩;conv=>whnf
         obtain ⟨w,ew,pw,sw,qw⟩:=fH (QB.add qx qy);refine ⟨(x,y),rfl,⟨RV.bJ sx (by decide),RV.bJ sy (by decide)⟩,?_⟩
         rw [show iK.val (x,y)=w.v from ew]
         conv=>whnf
         refine ⟨some (A,c),[0],by rw [show cS.args (some (A,c))=[.slice (some ⟨0,0,none⟩) n c] from by rw [hn]; rfl]; rfl,⟨by show A.length≤64; omega,(fun v hv=>PV.aO (aW v hv) (by decide))⟩,?_⟩
         rw [show cS.ah (some (A,c))=[.flat false n 6 g] from by rw [hn,hg]; rfl,show cS.val (some (A,c))=t.v from et,show cS.new (some (A,c))=none from rfl]
         conv=>whnf
         refine ⟨aH.aT (fun h=>h) (fun r hr=>by rw [hg]; rfl),?_⟩
         conv=>whnf
         refine ⟨_,rfl,?_⟩;conv=>whnf
         have cw:w=RV.of (x.q+y.q):=(RV.ko ew).symm;rw [wH w t,decide_eq_true (show w=t by rw [cw,ct,px,py,KA])]
         conv=>whnf
         refine ⟨(some (aC L,cu),(a,b)),[5],by rw [show cA.args (some (aC L,cu),(a,b))=[.slice (some ⟨0,0,none⟩) m cu,a.v,b.v] from by rw [← bN]; rfl]; rfl,⟨fL,PV.aO sa (by decide),PV.aO sb (by decide)⟩,?_⟩
         rw [show cA.ah (some (aC L,cu),(a,b))=[.flat false m 6 E] from by rw [← bN,← eY]; rfl,show cA.val (some (aC L,cu),(a,b))=.tuple ⟨[.slice (some ⟨1,0,none⟩) m cu,.int .i64 0]⟩ from q3.1.trans (by rw [← hm,xC m0,eJ]; rfl),show cA.new (some (aC L,cu),(a,b))=some (.flat true m 6 E) from q3.2.1.trans (by rw [xB hm.symm m0,hE])]
         conv=>whnf
         refine ⟨aH.aT (fun h=>by cases h) (fun r hr=>by rw [← eY]; rfl),?_⟩
         conv=>whnf
         refine ⟨_,rfl,?_⟩;conv=>whnf
         refine ⟨(some (aC L,cu),some (aC L,cu)),[7,5],by rw [show fo.args (some (aC L,cu),some (aC L,cu))=[.slice (some ⟨0,0,none⟩) m cu,.slice (some ⟨1,0,none⟩) m cu] from by rw [← bN]; rfl]; rfl,⟨by show (aC L).length≤_; omega,by show (aC L).length≤_; omega⟩,?_⟩
         rw [show fo.ah (some (aC L,cu),some (aC L,cu))=[.flat false m 6 E,.flat false m 6 E] from by rw [← bN,← eY]; rfl,show fo.val (some (aC L,cu),some (aC L,cu))=.bool true from congrArg Value.bool (decide_eq_true rfl),show fo.new (some (aC L,cu),some (aC L,cu))=none from rfl]
         conv=>whnf
         refine ⟨aH.aT (fun h=>by cases h) (fun r hr=>by rw [← eY]; rfl),aH.aT (fun h=>by cases h) (fun r hr=>by rw [← eY]; rfl),?_⟩
         conv=>whnf
         refine ⟨.bool true,rfl,?_⟩;conv=>whnf
         refine ⟨some (aC L,cu),[5],by rw [show bd.args (some (aC L,cu))=[.slice (some ⟨0,0,none⟩) m cu] from by rw [← bN]; rfl]; rfl,fL,?_⟩
         rw [show bd.ah (some (aC L,cu))=[.flat false m 6 E] from by rw [← bN,← eY]; rfl,show bd.val (some (aC L,cu))=.int .i64 0 from congrArg (Value.int .i64) kL,show bd.new (some (aC L,cu))=none from rfl]
         conv=>whnf
         refine ⟨aH.aT (fun h=>by cases h) (fun r hr=>by rw [← eY]; rfl),?_⟩
         conv=>whnf
         refine ⟨_,rfl,?_⟩;conv=>whnf
         refine ⟨(some (A,c),p),[0],by rw [show dL.args (some (A,c),p)=[.slice (some ⟨0,0,none⟩) n c,p.v] from by rw [hn]; rfl]; rfl,⟨fA,PV.aO sp (by decide)⟩,?_⟩
         rw [show dL.ah (some (A,c),p)=[.flat false n 6 g] from by rw [hn,hg]; rfl,show dL.val (some (A,c),p)=.int .i64 z from congrArg (Value.int .i64) EZ.symm,show dL.new (some (A,c),p)=none from rfl]
         conv=>whnf
         refine ⟨aH.aT (fun h=>h) (fun r hr=>by rw [hg]; rfl),?_⟩
         conv=>whnf
         refine ⟨_,rfl,?_⟩;conv=>whnf
         by_cases h1:z=1
         ·rw [show (z != 1)=false from by simp [h1]]
          conv=>whnf
          obtain ⟨i1,i2,i3,i4⟩:=l9 p.p (by rw [← KB]; exact h1)
          obtain ⟨o,eo,po⟩:=dS (aZ (ao a.p b.p p.p) 0);refine ⟨(a,b,p),rfl,⟨PV.aO sa (by decide),PV.aO sb (by decide),PV.aO sp (by decide)⟩,?_⟩
          rw [show jL.val (a,b,p)=.int .i64 o from eo]
          conv=>whnf
          have og:o ≥ 0↔0≤ao a.p b.p p.p:=by rw [po]; exact lC
          have ol:o≤0↔ao a.p b.p p.p≤0:=by rw [po]; exact xy
          have i1:=i1 oO;have i3:=i3 ml;obtain ⟨f,hf⟩:∃ q,q=nv (aC R) p:=⟨_,rfl⟩;have J2:f=fp R p.p:=by rw [hf,CS (Sv ml) cp,kc]
          refine ⟨(some (aC L,cu),p),[5],by rw [show dL.args (some (aC L,cu),p)=[.slice (some ⟨0,0,none⟩) m cu,p.v] from by rw [← bN]; rfl]; rfl,⟨fL,PV.aO sp (by decide)⟩,?_⟩
          rw [show dL.ah (some (aC L,cu),p)=[.flat false m 6 E] from by rw [← bN,← eY]; rfl,show dL.val (some (aC L,cu),p)=.int .i64 q from congrArg (Value.int .i64) hq.symm,show dL.new (some (aC L,cu),p)=none from rfl]
          conv=>whnf
          refine ⟨aH.aT (fun h=>by cases h) (fun r hr=>by rw [← eY]; rfl),?_⟩
          conv=>whnf
          refine ⟨_,rfl,?_⟩;conv=>whnf
          refine ⟨(some (aC R,cu),p),[6],by rw [show dL.args (some (aC R,cu),p)=[.slice (some ⟨0,0,none⟩) k cu,p.v] from by rw [← gO]; rfl]; rfl,⟨fR,PV.aO sp (by decide)⟩,?_⟩
          rw [show dL.ah (some (aC R,cu),p)=[.flat false k 6 F] from by rw [← gO,← vU]; rfl,show dL.val (some (aC R,cu),p)=.int .i64 f from congrArg (Value.int .i64) hf.symm,show dL.new (some (aC R,cu),p)=none from rfl]
          conv=>whnf
          refine ⟨aH.aT (fun h=>by cases h) (fun r hr=>by rw [← vU]; rfl),?_⟩
          conv=>whnf
          refine ⟨_,rfl,?_⟩;conv=>whnf
          have c8:(decide (q ≥ 0))=decide (o ≥ 0):=decide_eq_decide.2 (by rw [og]; show 0≤q↔_; rw [dW]; exact i1)
          have hd:(decide (f ≥ 0))=decide (o≤0):=decide_eq_decide.2 (by rw [ol]; show 0≤f↔_; rw [J2]; exact i3)
          by_cases h8:o ≥ 0
          ·rw [decide_eq_true h8] at c8 ⊢
           try rw [c8]
           conv=>whnf
           by_cases ho:o≤0
           ·rw [decide_eq_true ho] at hd ⊢
            try rw [hd]
            conv=>whnf
            conv=>whnf
            refine ⟨(),rfl,trivial,?_⟩;conv=>whnf
            exact fin _
           ·rw [decide_eq_false ho] at hd ⊢
            try rw [hd]
            conv=>whnf
            conv=>whnf
            refine ⟨(),rfl,trivial,?_⟩;conv=>whnf
            exact fin _
          ·rw [decide_eq_false h8] at c8 ⊢
           try rw [c8]
           conv=>whnf
           by_cases ho:o≤0
           ·rw [decide_eq_true ho] at hd ⊢
            try rw [hd]
            conv=>whnf
            conv=>whnf
            refine ⟨(),rfl,trivial,?_⟩;conv=>whnf
            exact fin _
           ·rw [decide_eq_false ho] at hd ⊢
            try rw [hd]
            conv=>whnf
            conv=>whnf
            refine ⟨(),rfl,trivial,?_⟩;conv=>whnf
            exact fin _
         ·rw [show (z != 1)=true from by simp [h1]]
          conv=>whnf
          conv=>whnf
          refine ⟨(),rfl,trivial,?_⟩;conv=>whnf
          exact fin _
open Go Go.Ae Go.ChangeShapes Go.WideShapes Go.ChangeAt Go.RowKit
theorem own:ownKnob Tryz.prog.godebug=none:=by kernel_rfl
theorem laidOut:laidOutB Tryz.prog=true:=by kernel_rfl
set_option maxRecDepth 100000 in
theorem afC:D5 Tryz.prog 24 26 4 9 :=
 ⟨⟨_,_,_,Tryz.underlying24,⟨rfl,rfl⟩,⟨rfl,rfl⟩,rfl,rfl⟩,⟨_,_,Tryz.underlying26,⟨rfl,rfl⟩,rfl,rfl⟩,Tryz.underlying4,Tryz.underlying9,by kernel_rfl,by kernel_rfl,by kernel_rfl,by kernel_rfl⟩
def zP:Value:=.agg #[.bool false,.string ⟨#[]⟩,.string ⟨#[]⟩,.bool false,.string ⟨#[]⟩,.string ⟨#[]⟩]
set_option maxRecDepth 100000 in
theorem FL {w:World} {r:Reach} {base:Nat} {v:Value} (h:Value.okWide Tryz.prog w r base 26 v):∃ p:PV,v=p.v :=
 YV Tryz.underlying26 (b:=4) (s:=9) (by kernel_rfl) (by kernel_rfl) Tryz.underlying4 Tryz.underlying9 h
set_option maxRecDepth 100000 in
theorem Sw (os:Os) (started:os.Started) (H:Type) (enc:TypeId × Value→H) :
  ReturnsInHanded {} Tryz.checked os 10 .any (Rows.convexHalvesSpec.pre6 enc Tryz.prog Tryz.f10 Rows.convexHalvesRow.domain false) (Rows.convexHalvesSpec.post enc Tryz.prog Tryz.f10 false true false false):=by
 refine returnsInHanded_of_change_sized (C:=Tryz.checked) own started (by kernel_rfl) Tryz.func10
  (ChangeSpec.witness6 (enc:=enc) (C:=Tryz.checked) false ⟨#[],#[.slice none 0 0,zP,zP,zP],[]⟩ 8 (by kernel_rfl) (by kernel_rfl) (by kernel_rfl) (by kernel_rfl)) ?_
 intro W base args ds gs before Qj hW afV pO _;have vI:∀ (j:Nat) t v,Tryz.f10.params[j]?=some t→args[j]?=some v→Value.okWide Tryz.prog W .any base t v:=Qj;have hW':=hW;obtain ⟨p,q,yC,hV,rfl,JM,mP⟩:=hW;have hA:DataW.TrodAll enc Tryz.prog W 0 (fun _=>true) true Tryz.f10.params.toList args.toList ds p:=yC
 have hz:(DataW.weightsEach Tryz.prog (Tryz.f10.params.toList++Rows.convexHalvesSpec.plain.varTypes Tryz.prog) (ds++gs)).all (·≤reachBytes)=true:=pO;rw [Tryz.params10] at hA vI hz;obtain ⟨v0,vs0,d0,ds0,p0,q0,n3,rfl,rfl,h0,r0⟩:=trodAll_cons hA;obtain ⟨v1,vs1,d1,ds1,p1,q1,rfl,rfl,rfl,h1,r1⟩:=trodAll_cons r0;obtain ⟨v2,vs2,d2,ds2,p2,q2,rfl,rfl,rfl,J,r2⟩:=trodAll_cons r1;obtain ⟨v3,vs3,d3,ds3,p3,q3,rfl,rfl,rfl,h3,r3⟩:=trodAll_cons r2;obtain ⟨rfl,rfl,rfl⟩:=trodAll_nil r3;obtain rfl:args=#[v0,v1,v2,v3]:=by cases args; simp_all
 obtain ⟨rfl,rfl⟩:=trodVars_none hV;obtain ⟨a0,bh,i0,z0,hv0,JT,afD⟩:=S9 afC Tryz.underlying22 (vI 0 22 v0 rfl rfl) h0;have z0:=z0 80 reachBytes (fun elems spare e=>sized_slice (e:=26) hz (j:=0) (t:=22) rfl (by rw [e]; rfl) Tryz.underlying22)
 obtain ⟨a1,rfl⟩:=FL (vI 1 26 v1 rfl rfl);obtain ⟨a2,rfl⟩:=FL (vI 2 26 v2 rfl rfl);obtain ⟨a3,rfl⟩:=FL (vI 3 26 v3 rfl rfl);have lt0:∀ x∈p0,x.block < W.heap.size:=by obtain ⟨m,hm⟩:=h0; exact DataW.trod_lt m _ _ _ hm
 have lt1:∀ x∈p1,x.block < W.heap.size:=by obtain ⟨m,hm⟩:=h1; exact DataW.trod_lt m _ _ _ hm
 have lt2:∀ x∈p2,x.block < W.heap.size:=by obtain ⟨m,hm⟩:=J; exact DataW.trod_lt m _ _ _ hm
 have lt3:∀ x∈p3,x.block < W.heap.size:=by obtain ⟨m,hm⟩:=h3; exact DataW.trod_lt m _ _ _ hm
 clear yC Qj;have acY:bf bh (vF.args (((a0,(a1,(a2,a3))):PL × rJ))) [v0,a1.v,a2.v,a3.v]:=.cons hv0 (.cons ((wE (v:=PV.v a1) rfl).1 bh) (.cons ((wE (v:=PV.v a2) rfl).1 bh) (.cons ((wE (v:=PV.v a3) rfl).1 bh) (.nil bh))));refine (SO acX (i:=((a0,(a1,(a2,a3))):PL × rJ)) (z0) acY JT afD (b:=true) rfl).mono fun e W' ⟨he,Bm⟩=>?_
 subst he;exact ⟨_,rfl,_,_,_,[],_,[],hW',trodAll_mk1 (shut_bool Tryz.underlying4 _),(trodAll_cons_mk (Below.trod laidOut (by kernel_rfl) (of_decide_eq_true (by kernel_rfl)) h0 Bm lt0) (trodAll_cons_mk (Below.trod laidOut (by kernel_rfl) (of_decide_eq_true (by kernel_rfl)) h1 Bm lt1) (trodAll_cons_mk (Below.trod laidOut (by kernel_rfl) (of_decide_eq_true (by kernel_rfl)) J Bm lt2) (trodAll_cons_mk (Below.trod laidOut (by kernel_rfl) (of_decide_eq_true (by kernel_rfl)) h3 Bm lt3) trodAll_mk0)))),rfl,Bm.frame _,fun h=>by cases h⟩
theorem Sx:Rows.convexHalvesRow.holds Tryz.pinned (OpenSpec.ofChange Rows.convexHalvesSpec) :=
 OpenClaim.holds_of_wide 10 Tryz.f10 rfl rfl rfl rfl rfl rfl rfl ⟨rfl,rfl,rfl,rfl,rfl⟩ rfl rfl rfl rfl rfl (by kernel_rfl) Tryz.func10 (by kernel_rfl)
  (of_decide_eq_true (by kernel_rfl)) (by unfold Func.isWrapper; first | (rw [if_pos (by decide +kernel)]; kernel_rfl) | (rw [if_neg (by decide +kernel)]; exact ⟨rfl,rfl⟩))
  (fun os started H enc _=>Sw os started H enc)
theorem convexHalves_proved:Rows.ConvexHalvesSaid:=Sx
end Go.Proofs.YtlapbjdhekcipaaGreat
