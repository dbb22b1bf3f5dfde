import Derived.Test.YtlapbjdhekcipaaGreatMF
set_option linter.unusedVariables false
set_option linter.unusedSimpArgs false
set_option maxRecDepth 20000
set_option maxHeartbeats 4000000
namespace Go.Proofs.YtlapbjdhekcipaaGreat
open Go Go.Ae
def Eg:Env:=En [(167,.p kV),(197,.p uq)]
theorem aec:EnvOk Tryz.prog Eg:=bH ⟨Nb,Wg,trivial⟩ trivial
theorem Wo:gf Tryz.prog 186 (Ak wY):=by
 refine Oa aec aP Tryz.func186 (enters_of Tryz.func186 (by kernel_rfl) rfl) ?_
 intro ⟨X,m,cx,D,cd,j⟩ hp;have hp:m≤137438953473∧2≤nl D∧2147483648≤an D (nl D - 1)∧j+nl D < m∧X < D*B ^ (j+1):=hp;obtain ⟨n,hn⟩:∃ n,n=nl D - 2:=⟨_,rfl⟩;obtain ⟨n1,zV⟩:∃ n1,n1=nl D - 1:=⟨_,rfl⟩;obtain ⟨n2,bO⟩:∃ n2,n2=nl D:=⟨_,rfl⟩;rw [← zV,← bO] at hp;have hn:n2=n+2∧n1=n+1:=by omega
 have Io:=cI X (j+n2);have PT:=cI X (j+n1);have Ip:=cI X (j+n);have zK:=cI D n1;have PU:=cI D n;have hB:B=4294967296:=rfl;conv=>whnf
 refine .inl ⟨16,[[],[],[],[1,2],[0,1,2,3],[0,1,2,3,4],[0,1,2,3,4,5],[0,1,2,3,4,5,6],[],[],[],[9,10],[9,10,11],[8,9,10,11,12],[8,9,10,11,12,13],[8,9,10,11,12,13,14],[0,1,2,3,4,5,6,7,8,9,10,11,12,13,14,15],[0,1,2,3,4,5,6,7,8,9,10,11,12,13,14,15,16]],by kernel_rfl,?_⟩
 conv=>whnf
 rw [← bO];have e1:IntKind.i64.wrap (((j:Nat):Int)+((n2:Nat):Int))=((j+n2:Nat):Int):=by rw [ay (by omega) (by omega)]; omega
 have e2:IntKind.i64.wrap (((j+n2:Nat):Int) - 1)=((j+n1:Nat):Int):=by rw [ay (by omega) (by omega)]; omega
 have e3:IntKind.i64.wrap (((j+n2:Nat):Int) - 2)=((j+n:Nat):Int):=by rw [ay (by omega) (by omega)]; omega
 have e4:IntKind.i64.wrap (((n2:Nat):Int) - 1)=((n1:Nat):Int):=by rw [ay (by omega) (by omega)]; omega
 have e5:IntKind.i64.wrap (((n2:Nat):Int) - 2)=((n:Nat):Int):=by rw [ay (by omega) (by omega)]; omega
 simp only [e1];refine ⟨⟨by omega,by omega⟩,?_⟩
 simp only [toNat_cast,aB,Nat.zero_add];conv=>whnf
 refine ⟨by show j+n2 < m; omega,?_⟩
 conv=>whnf
 simp only [e1,e2];refine ⟨⟨by omega,by omega⟩,?_⟩
 simp only [toNat_cast,aB,Nat.zero_add];conv=>whnf
 refine ⟨by show j+n1 < m; omega,?_⟩
 conv=>whnf
 have kd:∀ l:Nat,l < B→IntKind.u64.wrap ((l:Nat):Int)=(l:Int):=fun l hl=>bL (by omega) (by omega)
 have qO:∀ l:Nat,l < B→IntKind.u64.wrap ((l:Int)*4294967296)=(l:Int)*4294967296:=fun l hl=>bL (by omega) (by omega)
 simp only [kd _ Io,kd _ PT,dv,qO _ Io,dw _ _ Io PT];obtain ⟨top,uY⟩:∃ top,top=an X (j+n2)*4294967296+an X (j+n1):=⟨_,rfl⟩;have aed:((an X (j+n2):Nat):Int)*4294967296+((an X (j+n1):Nat):Int)=(top:Int):=by omega
 simp only [aed];obtain ⟨d1,fZ⟩:∃ d1,d1=an D n1:=⟨_,rfl⟩;obtain ⟨d0,fu⟩:∃ d0,d0=an D n:=⟨_,rfl⟩;have hp3:2147483648≤d1:=by rw [fZ]; exact hp.2.2.1
 have aeA:d1 < 4294967296:=by rw [fZ]; exact zK
 have Dl:d0 < 4294967296:=by rw [fu]; exact PU
 have HC:top < 18446744073709551616:=by omega
 refine .inl ⟨17,[[],[],[],[2],[1,2,3],[1,2,3,4],[1,2,3,4,5],[0,1,2,3,4,5,6],[],[],[],[10],[9,10,11],[9,10,11,12],[9,10,11,12,13],[8,9,10,11,12,13,14],[0,1,2,3,4,5,6,7],[0,1,2,3,4,5,6,7,8,9,10,11,12,13,14,15,16]],by kernel_rfl,?_⟩
 conv=>whnf
 simp only [e4];refine ⟨⟨by omega,by omega⟩,?_⟩
 simp only [toNat_cast,aB,Nat.zero_add];conv=>whnf
 refine ⟨by show n1 < nl D; omega,?_⟩
 conv=>whnf
 simp only [kd _ zK];rw [← fZ];have aI:decide ((d1:Int)≠0)=true:=decide_eq_true (by omega)
 rw [aI];conv=>whnf
 simp only [e4];refine ⟨⟨by omega,by omega⟩,?_⟩
 simp only [toNat_cast,aB,Nat.zero_add];conv=>whnf
 refine ⟨by show n1 < nl D; omega,?_⟩
 conv=>whnf
 simp only [kd _ zK];rw [← fZ,aI];conv=>whnf
 obtain ⟨w0,Ju⟩:∃ w0,w0=an X (j+n):=⟨_,rfl⟩;rw [← Ju] at Ip;obtain ⟨Q,hQ⟩:∃ Q,Q=X / B ^ j / D:=⟨_,rfl⟩;obtain ⟨q0,vw⟩:∃ q0,q0=top / d1:=⟨_,rfl⟩;have F:=ZG bO hn.1 hn.2 hp.2.2.1 hp.2.2.2.2 uY fZ fu Ju hQ vw;clear hQ;obtain ⟨nr,hp4⟩:m≤137438953473∧j+n2 < m:=⟨hp.1,hp.2.2.2.1⟩;clear hp;have fq3:q0≤4294967297:=F.QG;have eq0:IntKind.u64.wrap ((q0:Nat):Int)=((q0:Nat):Int):=bL (by omega) (by omega)
 simp only [FM,MG];rw [← vw,eq0];refine .inl ⟨fun mm tz hz=>∃ (q:Nat) (r:Nat),bB (some (.slice (some ⟨0,0,none⟩) m cx)::some (.slice (some ⟨1,0,none⟩) n2 cd)::some (.int .i64 j)::aG 3 (some (.int .u32 0)::some (.int .i64 n2)::aG 1 (some (.int .u64 q)::some (.int .u64 r)::aG 183 []))) tz∧hz=[some (.flat true m 1 (bo X)),some (dN D)]∧q=mm∧(q*d1+r=top∧Q≤q∧q≤4294967297),.inr ⟨[0,1],[0,1,2,6,7,9,10],?_⟩,?_⟩
 ·conv=>whnf
  intro _;conv=>whnf
  refine ⟨_,q0,top % d1,(.aa (.aa (.aa (.sk 3 (.aa (.aa (.sk 1 (.aa (.aa (.sk 183 .nil rfl))) rfl))) rfl)))),rfl,rfl,?_⟩;exact ⟨by rw [vw,Nat.mul_comm]; exact Nat.div_add_mod top d1,F.fq,F.QG⟩
 rintro mm aW _ ⟨q,r,aC,rfl,rfl,⟨he,DU,fj⟩⟩
 obtain ⟨az,rfl⟩:∃ az:Nat→Value,aW=.slice (some ⟨0,0,none⟩) m cx::.slice (some ⟨1,0,none⟩) n2 cd::.int .i64 j::zs az 3 3 (.int .u32 0::.int .i64 n2::zs az 8 1 (.int .u64 q::.int .u64 r::zs az 11 183 [])):=bI aC;clear aC;have hr:r < 18446744073709551616:=Nat.lt_of_le_of_lt (Nat.le_trans (Nat.le_add_left _ _) (Nat.le_of_eq he)) HC;refine .inl ⟨27,[[],[0],[0,1],[0,1,2],[0,1,2,3],[0,1,2,3,4],[0,1,2,3,4,5],[0,1,2,3,4,5,6],[0,1,2,3,4,5,6,7],[0,1,2,3,4,5,6,7],[0,1,2,3,4,5,6,7],[0,1,2,3,4,5,6,7,10],[0,1,2,3,4,5,6,7,9,10,11],[0,1,2,3,4,5,6,7,9,10,11,12],[0,1,2,3,4,5,6,7,9,10,11,12,13],[0,1,2,3,4,5,6,7,8,9,10,11,12,13,14],[0,1,2,3,4,5,6,7],[0,1,2,3,4,5,6,7,16],[0,1,2,3,4,5,6,7],[0,1,2,3,4,5,6,7],[0,1,2,3,4,5,6,7],[0,1,2,3,4,5,6,7,19,20],[0,1,2,3,4,5,6,7,19,20,21],[0,1,2,3,4,5,6,7,18,19,20,21,22],[0,1,2,3,4,5,6,7,18,19,20,21,22,23],[0,1,2,3,4,5,6,7,18,19,20,21,22,23,24],[0,1,2,3,4,5,6,7,16,17,18,19,20,21,22,23,24,25],[0,1,2,3,4,5,6,7,8,9,10,11,12,13,14,15,16,17,18,19,20,21,22,23,24,25,26],[0,1,2,3,4,5,6,7,8,9,10,11,12,13,14,15,16,17,18,19,20,21,22,23,24,25,26,27],[0,1,2,3,4,5,6,7,8,9,10,11,12,13,14,15,16,17,18,19,20,21,22,23,24,25,26,27,28]],by kernel_rfl,?_⟩
 conv=>whnf
 simp only [cf,jE];rcases Nat.lt_or_ge q 4294967296 with xV | xV
 ·rw [show decide (((q / B:Nat):Int) > 0)=false from decide_eq_false (by show ¬ (((q / 4294967296:Nat):Int) > 0); omega)]
  conv=>whnf
  simp only [cf,jE];have o4:q*d0≤r*B+w0∨B≤r→q≤Q+1:=fun h=>by
   rw [F.fQ];exact Gq (eE n) F.fW F.fD he xV F.fP Dl h.symm
  rcases Nat.lt_or_ge r 4294967296 with lQ | lQ
  ·rw [show (((((r / B:Nat):Int) == 0):Bool))=true by show decide (((r / 4294967296:Nat):Int)=0)=true; exact decide_eq_true (by omega)]
   conv=>whnf
   simp only [e5];refine ⟨⟨by omega,by omega⟩,?_⟩
   simp only [toNat_cast,aB,Nat.zero_add];conv=>whnf
   refine ⟨by show n < nl D; omega,?_⟩
   conv=>whnf
   simp only [kd _ PU];rw [← fu,(aca fj Dl).1];simp only [e1,e3];obtain ⟨vq,cW⟩:∃ v,v=Value.int .u64 ((q*d0:Nat):Int):=⟨_,rfl⟩;rw [← cW];refine ⟨⟨by omega,by omega⟩,?_⟩
   simp only [toNat_cast,aB,Nat.zero_add];conv=>whnf
   refine ⟨by show j+n < m; omega,?_⟩
   conv=>whnf
   rw [← Ju];simp only [kd _ Ip,dv,qO r lQ,dw _ _ lQ Ip];rw [show ((r:Nat):Int)*4294967296+((w0:Nat):Int)=((r*4294967296+w0:Nat):Int) by omega]
   obtain ⟨qd,rk⟩:∃ qd,qd=q*d0:=⟨_,rfl⟩;obtain ⟨Av,Iq⟩:∃ Av,Av=r*4294967296+w0:=⟨_,rfl⟩;rw [cW,← rk,← Iq];conv=>whnf
   rcases Nat.lt_or_ge Av qd with HQ | aeB
   ·rw [show decide ((qd:Int) > (Av:Int))=true from decide_eq_true (by omega)]
    have al:Q < q:=by
     rw [F.fQ];refine Vw F.Ao (eE n) F.fW F.fD he ?_;rw [← rk];show r*4294967296+w0 < qd
     omega
    clear cW rk Iq HQ;conv=>whnf
    have ep:IntKind.u64.wrap ((q:Int) - 1)=((q - 1:Nat):Int):=by rw [bL (by omega) (by omega)]; omega
    have cj:(q - 1)*d1+(r+d1)=top:=by
     have h1:(q - 1)*d1+d1=q*d1:=by
      conv=>rhs; rw [show q=(q - 1)+1 by omega,Nat.add_mul,Nat.one_mul]
     omega
    have ff:r+d1 < 18446744073709551616:=Nat.lt_of_le_of_lt (Nat.le_trans (Nat.le_add_left _ _) (Nat.le_of_eq cj)) HC;have er:IntKind.u64.wrap ((r:Int)+(d1:Int))=((r+d1:Nat):Int):=by rw [bL (by omega) (by omega)]; omega
    simp only [ep,e4];refine ⟨⟨by omega,by omega⟩,?_⟩
    simp only [toNat_cast,aB,Nat.zero_add];conv=>whnf
    refine ⟨by show n1 < nl D; omega,?_⟩
    conv=>whnf
    simp only [kd _ zK];rw [← fZ,er];simp only [cf,jE];rcases Nat.lt_or_ge (r+d1) 4294967296 with lQ | lQ
    ·rw [show decide ((((r+d1) / B:Nat):Int) > 0)=false from decide_eq_false (by show ¬ ((((r+d1) / 4294967296:Nat):Int) > 0); omega)]
     conv=>whnf
     refine .inr ⟨[0,1],[0,1,2,6,7,9,10],?_⟩;conv=>whnf
     intro _;conv=>whnf
     refine ⟨_,?_,q - 1,r+d1,(.aa (.aa (.aa (.sk 3 (.aa (.aa (.sk 1 (.aa (.aa (.sk 183 .nil rfl))) rfl))) rfl)))),rfl,rfl,?_⟩
     ·omega
     ·exact ⟨cj,by omega,by omega⟩
    ·rw [show decide ((((r+d1) / B:Nat):Int) > 0)=true from decide_eq_true (by show ((((r+d1) / 4294967296:Nat):Int) > 0); omega)]
     conv=>whnf
     simp only [cf,jE];rcases Nat.lt_or_ge (q - 1) 4294967296 with vd | vd
     ·rw [show (((((q - 1) / B:Nat):Int) == 0):Bool)=true by show decide ((((q - 1) / 4294967296:Nat):Int)=0)=true; exact decide_eq_true (by omega)]
      conv=>whnf
      obtain ⟨qt,og⟩:∃ qt,qt=q - 1:=⟨_,rfl⟩;have hT:qt < 4294967296∧Q≤qt∧qt≤Q+1:=by
       have h3:q - 1≤X / B ^ j / D+1:=Gq (eE n) F.fW F.fD cj vd F.fP Dl (.inl lQ);rw [← F.fQ] at h3;omega
      rw [← og];clear xV vd al ep cj ff er lQ he hr DU fj og;conv=>whnf
      refine .inl ⟨fun mm tz hz=>∃ (i:Nat) (c:Nat) (b:Nat) (Z:Nat),bB (some (.slice (some ⟨0,0,none⟩) m cx)::some (.slice (some ⟨1,0,none⟩) n2 cd)::some (.int .i64 j)::aG 3 (some (.int .u32 0)::some (.int .i64 n2)::aG 1 (some (.int .u64 qt)::aG 1 (some (.int .u64 c)::some (.int .u32 b)::aG 88 (some (.slice (some ⟨1,0,none⟩) n2 cd)::some (.int .i64 n2)::some (.int .i64 i)::aG 90 []))))) tz∧hz=[some (.flat true m 1 (bo Z)),some (dN D)]∧n2 - i=mm∧((i≤n2∧c < 4294967296∧b≤1)∧Z < B ^ (j+n2+1)∧Z+qt*(D % B ^ i)*B ^ j=X+(b+c)*B ^ (j+i)),.inr ⟨[0,1],[0,1,2,6,7,9,11,12,101,102,103],?_⟩,?_⟩
      ·conv=>whnf
       intro _;conv=>whnf
       refine ⟨_,0,0,0,X,(.aa (.aa (.aa (.sk 3 (.aa (.aa (.sk 1 (.aa (.sk 1 (.aa (.aa (.sk 88 (.aa (.aa (.aa (.sk 90 .nil rfl)))) rfl))) rfl)) rfl))) rfl)))),rfl,rfl,?_⟩;exact ⟨⟨Nat.zero_le _,by decide,by decide⟩,F.fX,by simp [Nat.mod_one]⟩
      rintro mm aW _ ⟨i,c,b,Z,aC,rfl,rfl,⟨⟨hi,hc,hb⟩,hZ,he⟩⟩
      obtain ⟨az,rfl⟩:∃ az:Nat→Value,aW=.slice (some ⟨0,0,none⟩) m cx::.slice (some ⟨1,0,none⟩) n2 cd::.int .i64 j::zs az 3 3 (.int .u32 0::.int .i64 n2::zs az 8 1 (.int .u64 qt::zs az 10 1 (.int .u64 c::.int .u32 b::zs az 13 88 (.slice (some ⟨1,0,none⟩) n2 cd::.int .i64 n2::.int .i64 i::zs az 104 90 [])))):=bI aC;clear aC;conv=>whnf
      refine aN (fun h1=>?_) (fun h1=>?_)
      ·have h1:i < n2:=by simpa using h1
       conv=>whnf
       refine ⟨⟨by omega,by omega⟩,?_⟩
       simp only [toNat_cast,aB,Nat.zero_add];conv=>whnf
       refine ⟨by show i < nl D; omega,?_⟩
       conv=>whnf
       obtain ⟨x,hx⟩:∃ x,x=an D i:=⟨_,rfl⟩;obtain ⟨l,hl⟩:∃ l,l=an Z (j+i):=⟨_,rfl⟩;obtain ⟨t,ht⟩:∃ t,t=c+qt*an D i:=⟨_,rfl⟩;have ik:x < B:=by rw [hx]; exact cI D i
       have dS:l < 4294967296:=by rw [hl]; exact cI Z (j+i)
       obtain ⟨hv,fE⟩:=BD (t:=t) hc hT.1 ik (by rw [hx]; exact ht)
       have oh:t % B < 4294967296:=Nat.mod_lt _ (by decide)
       obtain ⟨d,hd⟩:∃ d,d=(l+2*4294967296 - t % B - b) % 4294967296:=⟨_,rfl⟩;obtain ⟨b',bA⟩:∃ b',b'=if l < t % B+b then 1 else 0:=⟨_,rfl⟩
       have dJ:d < 4294967296:=by rw [hd]; exact Nat.mod_lt _ (by decide)
       have ax:=Bj (i:=i) (j:=j) (d:=d) (b':=b') he ht (by
        rw [← hl,bA,hB,← hB];clear he hZ ht hv;obtain ⟨u,hu⟩:∃ u,u=t % B:=⟨_,rfl⟩;rw [← hu] at hd oh ⊢
        split <;> omega)
       have gD:=lS hZ (show j+i < j+n2+1 by omega) (show d < B from dJ)
       have dF:b'≤1:=by rw [bA]; split <;> omega
       have e6:IntKind.i64.wrap (((j:Nat):Int)+((i:Nat):Int))=((j+i:Nat):Int):=by rw [ay (by omega) (by omega)]; omega
       have e7:IntKind.i64.wrap (((i:Nat):Int)+1)=((i+1:Nat):Int):=by rw [ay (by omega) (by omega)]; omega
       rw [← hx];simp only [kd _ ik,hv,e6];refine ⟨⟨by omega,by omega⟩,?_⟩
       simp only [toNat_cast,aB,Nat.zero_add];conv=>whnf
       refine ⟨by show j+i < m; omega,?_⟩
       conv=>whnf
       rw [← hl];simp only [eJ];refine ⟨(l,t % B,b),rfl,⟨dS,oh,hb⟩,?_⟩;simp only [kV,← hd,← bA,e6];conv=>whnf
       refine ⟨⟨by omega,by omega⟩,?_⟩
       simp only [toNat_cast,aB,Nat.zero_add];conv=>whnf
       refine ⟨by show j+i < m; omega,?_⟩
       conv=>whnf
       simp only [cf,jE,e7];rw [fw dJ];refine .inl ⟨_,?_,i+1,t / B,b',cF Z (j+i) d,(.aa (.aa (.aa (.sk 3 (.aa (.aa (.sk 1 (.aa (.sk 1 (.aa (.aa (.sk 88 (.aa (.aa (.aa (.sk 90 .nil rfl)))) rfl))) rfl)) rfl))) rfl)))),rfl,rfl,?_⟩
       ·omega
       ·exact ⟨⟨by omega,fE,dF⟩,gD,ax⟩
      ·have h1:i=n2:=by
        have h1:¬ i < n2:=by simpa using h1
        omega
       subst h1;obtain ⟨l,hl⟩:∃ l,l=an Z (j+i):=⟨_,rfl⟩;have dS:l < 4294967296:=by rw [hl]; exact cI Z (j+i)
       obtain ⟨d,hd⟩:∃ d,d=(l+2*4294967296 - c - b) % 4294967296:=⟨_,rfl⟩;obtain ⟨b',bA⟩:∃ b',b'=if l < c+b then 1 else 0:=⟨_,rfl⟩
       have dJ:d < 4294967296:=by rw [hd]; exact Nat.mod_lt _ (by decide)
       have ax:=Bk (j:=j) (d:=d) (b':=b') (by rw [bO]; exact bW D) hc he (by
        rw [← hl,bA,hB,← hB];clear he hZ
        split <;> omega)
       have gD:=lS hZ (show j+i < j+i+1 by omega) (show d < B from dJ)
       have oi:c % B=c:=Nat.mod_eq_of_lt hc;have dF:b'≤1:=by rw [bA]; split <;> omega
       have vA:qt % B=qt:=Nat.mod_eq_of_lt hT.1;have hE:0 < D*B ^ j:=Nat.mul_pos F.Ao (eE j);have oj:Q=X / (D*B ^ j):=by rw [F.fQ,Nat.div_div_eq_div_mul,Nat.mul_comm]
       conv=>whnf
       simp only [e1];refine ⟨⟨by omega,by omega⟩,?_⟩
       simp only [toNat_cast,aB,Nat.zero_add];conv=>whnf
       refine ⟨by show j+i < m; omega,?_⟩
       conv=>whnf
       rw [← hl];simp only [eJ,oi];refine ⟨(l,c,b),rfl,⟨dS,hc,hb⟩,?_⟩;simp only [kV,← hd,← bA,e1];conv=>whnf
       refine ⟨⟨by omega,by omega⟩,?_⟩
       simp only [toNat_cast,aB,Nat.zero_add];conv=>whnf
       refine ⟨by show j+i < m; omega,?_⟩
       conv=>whnf
       rw [fw dJ];refine aN (fun J=>?_) (fun J=>?_)
       ·have J:b'=0:=by
         have:=of_decide_eq_true J;omega
        clear bA;subst J;rw [Nat.zero_mul,Nat.add_zero] at ax;obtain ⟨im,ff⟩:=A0 hE ax (by rw [← oj]; exact hT.2.1)
        conv=>whnf
        simp only [eJ,vA];exact rD (i:=⟨X,m,cx,D,cd,j⟩) ff im rfl
       ·have J:b'=1:=by
         have:=of_decide_eq_false J;omega
        clear bA;subst J;rw [Nat.one_mul] at ax;obtain ⟨im,ff⟩:=A1 hE ax gD (by rw [← oj]; exact hT.2.2)
        obtain ⟨Y,hY⟩:∃ Y,Y=cF Z (j+i) d:=⟨_,rfl⟩;rw [← hY] at ff gD ⊢;clear ax he hZ hY hc hb hl dS hd dJ oi;conv=>whnf
        refine .inl ⟨fun mm tz hz=>∃ (k:Nat) (c:Nat) (V:Nat),bB (some (.slice (some ⟨0,0,none⟩) m cx)::some (.slice (some ⟨1,0,none⟩) i cd)::some (.int .i64 j)::aG 3 (some (.int .u32 0)::some (.int .i64 i)::aG 1 (some (.int .u64 qt)::aG 5 (some (.int .u32 c)::aG 141 (some (.slice (some ⟨1,0,none⟩) i cd)::some (.int .i64 i)::some (.int .i64 k)::aG 34 []))))) tz∧hz=[some (.flat true m 1 (bo V)),some (dN D)]∧i - k=mm∧((k≤i∧c≤1)∧V < B ^ (j+i+1)∧V+c*B ^ (j+k)=Y+D % B ^ k*B ^ j),.inr ⟨[0,1],[0,1,2,6,7,9,15,157,158,159],?_⟩,?_⟩
        ·conv=>whnf
         intro _;conv=>whnf
         refine ⟨_,0,0,Y,(.aa (.aa (.aa (.sk 3 (.aa (.aa (.sk 1 (.aa (.sk 5 (.aa (.sk 141 (.aa (.aa (.aa (.sk 34 .nil rfl)))) rfl)) rfl)) rfl))) rfl)))),rfl,rfl,?_⟩;exact ⟨⟨Nat.zero_le _,by decide⟩,gD,by simp [Nat.mod_one]⟩
        rintro mm aW _ ⟨k,c,V,aC,rfl,rfl,⟨⟨hk,hc⟩,hV,he⟩⟩
        obtain ⟨az,rfl⟩:∃ az:Nat→Value,aW=.slice (some ⟨0,0,none⟩) m cx::.slice (some ⟨1,0,none⟩) i cd::.int .i64 j::zs az 3 3 (.int .u32 0::.int .i64 i::zs az 8 1 (.int .u64 qt::zs az 10 5 (.int .u32 c::zs az 16 141 (.slice (some ⟨1,0,none⟩) i cd::.int .i64 i::.int .i64 k::zs az 160 34 [])))):=bI aC;clear aC;conv=>whnf
        refine aN (fun h3=>?_) (fun h3=>?_)
        ·have h3:k < i:=by simpa using h3
         obtain ⟨x,hx⟩:∃ x,x=an D k:=⟨_,rfl⟩;obtain ⟨l,hl⟩:∃ l,l=an V (j+k):=⟨_,rfl⟩;have ik:x < 4294967296:=by rw [hx]; exact cI D k
         have dS:l < 4294967296:=by rw [hl]; exact cI V (j+k)
         obtain ⟨t,ht⟩:∃ t,t=l+x+c:=⟨_,rfl⟩;have ax:=Bl (t:=t) (i:=k) (j:=j) he (by rw [← hl,← hx]; exact ht)
         have gY:t % B < 4294967296:=Nat.mod_lt _ (by decide)
         have fE:t / B≤1:=by show t / 4294967296≤1; omega
         have vB:=lS hV (show j+k < j+i+1 by omega) (show t % B < B from gY)
         have e6:IntKind.i64.wrap (((j:Nat):Int)+((k:Nat):Int))=((j+k:Nat):Int):=by rw [ay (by omega) (by omega)]; omega
         have e7:IntKind.i64.wrap (((k:Nat):Int)+1)=((k+1:Nat):Int):=by rw [ay (by omega) (by omega)]; omega
         conv=>whnf
         refine ⟨⟨by omega,by omega⟩,?_⟩
         simp only [toNat_cast,aB,Nat.zero_add];conv=>whnf
         refine ⟨by show k < nl D; omega,?_⟩
         conv=>whnf
         simp only [e6];refine ⟨⟨by omega,by omega⟩,?_⟩
         simp only [toNat_cast,aB,Nat.zero_add];conv=>whnf
         refine ⟨by show j+k < m; omega,?_⟩
         conv=>whnf
         rw [← hl,← hx];refine ⟨(l,x,c),rfl,⟨dS,ik,hc⟩,?_⟩;simp only [uq,← ht,e6];conv=>whnf
         refine ⟨⟨by omega,by omega⟩,?_⟩
         simp only [toNat_cast,aB,Nat.zero_add];conv=>whnf
         refine ⟨by show j+k < m; omega,?_⟩
         conv=>whnf
         simp only [e7];rw [show t % 4294967296=t % B from rfl,fw gY]
         refine .inl ⟨_,?_,k+1,t / B,cF V (j+k) (t % B),(.aa (.aa (.aa (.sk 3 (.aa (.aa (.sk 1 (.aa (.sk 5 (.aa (.sk 141 (.aa (.aa (.aa (.sk 34 .nil rfl)))) rfl)) rfl)) rfl))) rfl)))),rfl,rfl,?_⟩
         ·omega
         ·exact ⟨⟨by omega,fE⟩,vB,ax⟩
        ·have h3:k=i:=by
          have h3:¬ k < i:=by simpa using h3
          omega
         subst h3;have kJ:D < B ^ k:=by rw [bO]; exact bW D
         have gg:=Bm (V:=V) (R:=X % (D*B ^ j)) (k:=j+k) hV (Nat.lt_of_lt_of_le (Nat.mod_lt _ hE) (by rw [Nat.add_comm,Nat.pow_add]; exact Nat.mul_le_mul_right _ (Nat.le_of_lt kJ))) hc (by
          rw [he,Nat.mod_eq_of_lt kJ]; exact ff)
         have gZ:qt - 1=X / (D*B ^ j):=by rw [im]; rfl
         have ep:IntKind.u64.wrap ((qt:Int) - 1)=((qt - 1:Nat):Int):=by
          have:1≤qt:=by rw [im]; exact Nat.le_add_left _ _
          have:=hT.1;rw [bL (by omega) (by omega)]; omega
         have ve:(qt - 1) % B=qt - 1:=Nat.mod_eq_of_lt (by have:=hT.1; show qt - 1 < 4294967296; omega)
         conv=>whnf
         simp only [e1];refine ⟨⟨by omega,by omega⟩,?_⟩
         simp only [toNat_cast,aB,Nat.zero_add];conv=>whnf
         refine ⟨by show j+k < m; omega,?_⟩
         conv=>whnf
         rw [show IntKind.u32.wrap (((an V (j+k):Nat):Int)+(c:Int))=(((an V (j+k)+c) % B:Nat):Int) from eJ (an V (j+k)+c)]
         refine ⟨⟨by omega,by omega⟩,?_⟩
         simp only [toNat_cast,aB,Nat.zero_add];conv=>whnf
         refine ⟨by show j+k < m; omega,?_⟩
         conv=>whnf
         simp only [ep,eJ,ve];rw [fw (Nat.mod_lt _ (by decide)),gg]
         exact rD (i:=⟨X,m,cx,D,cd,j⟩) rfl gZ rfl
      skip
      skip
     ·rw [show (((((q - 1) / B:Nat):Int) == 0):Bool)=false by show decide ((((q - 1) / 4294967296:Nat):Int)=0)=false; exact decide_eq_false (by omega)]
      conv=>whnf
      refine .inr ⟨[0,1],[0,1,2,6,7,9,10],?_⟩;conv=>whnf
      intro _;conv=>whnf
      refine ⟨_,?_,q - 1,r+d1,(.aa (.aa (.aa (.sk 3 (.aa (.aa (.sk 1 (.aa (.aa (.sk 183 .nil rfl))) rfl))) rfl)))),rfl,rfl,?_⟩
      ·omega
      ·exact ⟨cj,by omega,by omega⟩
   ·rw [show decide ((qd:Int) > (Av:Int))=false from decide_eq_false (by omega)]
    conv=>whnf
    obtain ⟨qt,og⟩:∃ qt,qt=q:=⟨_,rfl⟩;have hT:qt < 4294967296∧Q≤qt∧qt≤Q+1:=by
     have h3:=o4 (.inl (by rw [← rk]; show qd≤r*4294967296+w0; omega))
     exact ⟨by omega,by omega,by omega⟩
    rw [← og];clear cW rk Iq xV o4 lQ he hr DU fj og;conv=>whnf
    refine .inl ⟨fun mm tz hz=>∃ (i:Nat) (c:Nat) (b:Nat) (Z:Nat),bB (some (.slice (some ⟨0,0,none⟩) m cx)::some (.slice (some ⟨1,0,none⟩) n2 cd)::some (.int .i64 j)::aG 3 (some (.int .u32 0)::some (.int .i64 n2)::aG 1 (some (.int .u64 qt)::aG 1 (some (.int .u64 c)::some (.int .u32 b)::aG 88 (some (.slice (some ⟨1,0,none⟩) n2 cd)::some (.int .i64 n2)::some (.int .i64 i)::aG 90 []))))) tz∧hz=[some (.flat true m 1 (bo Z)),some (dN D)]∧n2 - i=mm∧((i≤n2∧c < 4294967296∧b≤1)∧Z < B ^ (j+n2+1)∧Z+qt*(D % B ^ i)*B ^ j=X+(b+c)*B ^ (j+i)),.inr ⟨[0,1],[0,1,2,6,7,9,11,12,101,102,103],?_⟩,?_⟩
    ·conv=>whnf
     intro _;conv=>whnf
     refine ⟨_,0,0,0,X,(.aa (.aa (.aa (.sk 3 (.aa (.aa (.sk 1 (.aa (.sk 1 (.aa (.aa (.sk 88 (.aa (.aa (.aa (.sk 90 .nil rfl)))) rfl))) rfl)) rfl))) rfl)))),rfl,rfl,?_⟩;exact ⟨⟨Nat.zero_le _,by decide,by decide⟩,F.fX,by simp [Nat.mod_one]⟩
    rintro mm aW _ ⟨i,c,b,Z,aC,rfl,rfl,⟨⟨hi,hc,hb⟩,hZ,he⟩⟩
    obtain ⟨az,rfl⟩:∃ az:Nat→Value,aW=.slice (some ⟨0,0,none⟩) m cx::.slice (some ⟨1,0,none⟩) n2 cd::.int .i64 j::zs az 3 3 (.int .u32 0::.int .i64 n2::zs az 8 1 (.int .u64 qt::zs az 10 1 (.int .u64 c::.int .u32 b::zs az 13 88 (.slice (some ⟨1,0,none⟩) n2 cd::.int .i64 n2::.int .i64 i::zs az 104 90 [])))):=bI aC;clear aC;conv=>whnf
    refine aN (fun h1=>?_) (fun h1=>?_)
    ·have h1:i < n2:=by simpa using h1
     conv=>whnf
     refine ⟨⟨by omega,by omega⟩,?_⟩
     simp only [toNat_cast,aB,Nat.zero_add];conv=>whnf
     refine ⟨by show i < nl D; omega,?_⟩
     conv=>whnf
     obtain ⟨x,hx⟩:∃ x,x=an D i:=⟨_,rfl⟩;obtain ⟨l,hl⟩:∃ l,l=an Z (j+i):=⟨_,rfl⟩;obtain ⟨t,ht⟩:∃ t,t=c+qt*an D i:=⟨_,rfl⟩;have ik:x < B:=by rw [hx]; exact cI D i
     have dS:l < 4294967296:=by rw [hl]; exact cI Z (j+i)
     obtain ⟨hv,fE⟩:=BD (t:=t) hc hT.1 ik (by rw [hx]; exact ht)
     have oh:t % B < 4294967296:=Nat.mod_lt _ (by decide)
     obtain ⟨d,hd⟩:∃ d,d=(l+2*4294967296 - t % B - b) % 4294967296:=⟨_,rfl⟩;obtain ⟨b',bA⟩:∃ b',b'=if l < t % B+b then 1 else 0:=⟨_,rfl⟩
     have dJ:d < 4294967296:=by rw [hd]; exact Nat.mod_lt _ (by decide)
     have ax:=Bj (i:=i) (j:=j) (d:=d) (b':=b') he ht (by
      rw [← hl,bA,hB,← hB];clear he hZ ht hv;obtain ⟨u,hu⟩:∃ u,u=t % B:=⟨_,rfl⟩;rw [← hu] at hd oh ⊢
      split <;> omega)
     have gD:=lS hZ (show j+i < j+n2+1 by omega) (show d < B from dJ)
     have dF:b'≤1:=by rw [bA]; split <;> omega
     have e6:IntKind.i64.wrap (((j:Nat):Int)+((i:Nat):Int))=((j+i:Nat):Int):=by rw [ay (by omega) (by omega)]; omega
     have e7:IntKind.i64.wrap (((i:Nat):Int)+1)=((i+1:Nat):Int):=by rw [ay (by omega) (by omega)]; omega
     rw [← hx];simp only [kd _ ik,hv,e6];refine ⟨⟨by omega,by omega⟩,?_⟩
     simp only [toNat_cast,aB,Nat.zero_add];conv=>whnf
     refine ⟨by show j+i < m; omega,?_⟩
     conv=>whnf
     rw [← hl];simp only [eJ];refine ⟨(l,t % B,b),rfl,⟨dS,oh,hb⟩,?_⟩;simp only [kV,← hd,← bA,e6];conv=>whnf
     refine ⟨⟨by omega,by omega⟩,?_⟩
     simp only [toNat_cast,aB,Nat.zero_add];conv=>whnf
     refine ⟨by show j+i < m; omega,?_⟩
     conv=>whnf
     simp only [cf,jE,e7];rw [fw dJ];refine .inl ⟨_,?_,i+1,t / B,b',cF Z (j+i) d,(.aa (.aa (.aa (.sk 3 (.aa (.aa (.sk 1 (.aa (.sk 1 (.aa (.aa (.sk 88 (.aa (.aa (.aa (.sk 90 .nil rfl)))) rfl))) rfl)) rfl))) rfl)))),rfl,rfl,?_⟩
     ·omega
     ·exact ⟨⟨by omega,fE,dF⟩,gD,ax⟩
    ·have h1:i=n2:=by
      have h1:¬ i < n2:=by simpa using h1
      omega
     subst h1;obtain ⟨l,hl⟩:∃ l,l=an Z (j+i):=⟨_,rfl⟩;have dS:l < 4294967296:=by rw [hl]; exact cI Z (j+i)
     obtain ⟨d,hd⟩:∃ d,d=(l+2*4294967296 - c - b) % 4294967296:=⟨_,rfl⟩;obtain ⟨b',bA⟩:∃ b',b'=if l < c+b then 1 else 0:=⟨_,rfl⟩
     have dJ:d < 4294967296:=by rw [hd]; exact Nat.mod_lt _ (by decide)
     have ax:=Bk (j:=j) (d:=d) (b':=b') (by rw [bO]; exact bW D) hc he (by
      rw [← hl,bA,hB,← hB];clear he hZ
      split <;> omega)
     have gD:=lS hZ (show j+i < j+i+1 by omega) (show d < B from dJ)
     have oi:c % B=c:=Nat.mod_eq_of_lt hc;have dF:b'≤1:=by rw [bA]; split <;> omega
     have vA:qt % B=qt:=Nat.mod_eq_of_lt hT.1;have hE:0 < D*B ^ j:=Nat.mul_pos F.Ao (eE j);have oj:Q=X / (D*B ^ j):=by rw [F.fQ,Nat.div_div_eq_div_mul,Nat.mul_comm]
     conv=>whnf
     simp only [e1];refine ⟨⟨by omega,by omega⟩,?_⟩
     simp only [toNat_cast,aB,Nat.zero_add];conv=>whnf
     refine ⟨by show j+i < m; omega,?_⟩
     conv=>whnf
     rw [← hl];simp only [eJ,oi];refine ⟨(l,c,b),rfl,⟨dS,hc,hb⟩,?_⟩;simp only [kV,← hd,← bA,e1];conv=>whnf
     refine ⟨⟨by omega,by omega⟩,?_⟩
     simp only [toNat_cast,aB,Nat.zero_add];conv=>whnf
     refine ⟨by show j+i < m; omega,?_⟩
     conv=>whnf
     rw [fw dJ];refine aN (fun J=>?_) (fun J=>?_)
     ·have J:b'=0:=by
       have:=of_decide_eq_true J;omega
      clear bA;subst J;rw [Nat.zero_mul,Nat.add_zero] at ax;obtain ⟨im,ff⟩:=A0 hE ax (by rw [← oj]; exact hT.2.1)
      conv=>whnf
      simp only [eJ,vA];exact rD (i:=⟨X,m,cx,D,cd,j⟩) ff im rfl
     ·have J:b'=1:=by
       have:=of_decide_eq_false J;omega
      clear bA;subst J;rw [Nat.one_mul] at ax;obtain ⟨im,ff⟩:=A1 hE ax gD (by rw [← oj]; exact hT.2.2)
      obtain ⟨Y,hY⟩:∃ Y,Y=cF Z (j+i) d:=⟨_,rfl⟩;rw [← hY] at ff gD ⊢;clear ax he hZ hY hc hb hl dS hd dJ oi;conv=>whnf
      refine .inl ⟨fun mm tz hz=>∃ (k:Nat) (c:Nat) (V:Nat),bB (some (.slice (some ⟨0,0,none⟩) m cx)::some (.slice (some ⟨1,0,none⟩) i cd)::some (.int .i64 j)::aG 3 (some (.int .u32 0)::some (.int .i64 i)::aG 1 (some (.int .u64 qt)::aG 5 (some (.int .u32 c)::aG 141 (some (.slice (some ⟨1,0,none⟩) i cd)::some (.int .i64 i)::some (.int .i64 k)::aG 34 []))))) tz∧hz=[some (.flat true m 1 (bo V)),some (dN D)]∧i - k=mm∧((k≤i∧c≤1)∧V < B ^ (j+i+1)∧V+c*B ^ (j+k)=Y+D % B ^ k*B ^ j),.inr ⟨[0,1],[0,1,2,6,7,9,15,157,158,159],?_⟩,?_⟩
      ·conv=>whnf
       intro _;conv=>whnf
       refine ⟨_,0,0,Y,(.aa (.aa (.aa (.sk 3 (.aa (.aa (.sk 1 (.aa (.sk 5 (.aa (.sk 141 (.aa (.aa (.aa (.sk 34 .nil rfl)))) rfl)) rfl)) rfl))) rfl)))),rfl,rfl,?_⟩;exact ⟨⟨Nat.zero_le _,by decide⟩,gD,by simp [Nat.mod_one]⟩
      rintro mm aW _ ⟨k,c,V,aC,rfl,rfl,⟨⟨hk,hc⟩,hV,he⟩⟩
      obtain ⟨az,rfl⟩:∃ az:Nat→Value,aW=.slice (some ⟨0,0,none⟩) m cx::.slice (some ⟨1,0,none⟩) i cd::.int .i64 j::zs az 3 3 (.int .u32 0::.int .i64 i::zs az 8 1 (.int .u64 qt::zs az 10 5 (.int .u32 c::zs az 16 141 (.slice (some ⟨1,0,none⟩) i cd::.int .i64 i::.int .i64 k::zs az 160 34 [])))):=bI aC;clear aC;conv=>whnf
      refine aN (fun h3=>?_) (fun h3=>?_)
      ·have h3:k < i:=by simpa using h3
       obtain ⟨x,hx⟩:∃ x,x=an D k:=⟨_,rfl⟩;obtain ⟨l,hl⟩:∃ l,l=an V (j+k):=⟨_,rfl⟩;have ik:x < 4294967296:=by rw [hx]; exact cI D k
       have dS:l < 4294967296:=by rw [hl]; exact cI V (j+k)
       obtain ⟨t,ht⟩:∃ t,t=l+x+c:=⟨_,rfl⟩;have ax:=Bl (t:=t) (i:=k) (j:=j) he (by rw [← hl,← hx]; exact ht)
       have gY:t % B < 4294967296:=Nat.mod_lt _ (by decide)
       have fE:t / B≤1:=by show t / 4294967296≤1; omega
       have vB:=lS hV (show j+k < j+i+1 by omega) (show t % B < B from gY)
       have e6:IntKind.i64.wrap (((j:Nat):Int)+((k:Nat):Int))=((j+k:Nat):Int):=by rw [ay (by omega) (by omega)]; omega
       have e7:IntKind.i64.wrap (((k:Nat):Int)+1)=((k+1:Nat):Int):=by rw [ay (by omega) (by omega)]; omega
       conv=>whnf
       refine ⟨⟨by omega,by omega⟩,?_⟩
       simp only [toNat_cast,aB,Nat.zero_add];conv=>whnf
       refine ⟨by show k < nl D; omega,?_⟩
       conv=>whnf
       simp only [e6];refine ⟨⟨by omega,by omega⟩,?_⟩
       simp only [toNat_cast,aB,Nat.zero_add];conv=>whnf
       refine ⟨by show j+k < m; omega,?_⟩
       conv=>whnf
       rw [← hl,← hx];refine ⟨(l,x,c),rfl,⟨dS,ik,hc⟩,?_⟩;simp only [uq,← ht,e6];conv=>whnf
       refine ⟨⟨by omega,by omega⟩,?_⟩
       simp only [toNat_cast,aB,Nat.zero_add];conv=>whnf
       refine ⟨by show j+k < m; omega,?_⟩
       conv=>whnf
       simp only [e7];rw [show t % 4294967296=t % B from rfl,fw gY]
       refine .inl ⟨_,?_,k+1,t / B,cF V (j+k) (t % B),(.aa (.aa (.aa (.sk 3 (.aa (.aa (.sk 1 (.aa (.sk 5 (.aa (.sk 141 (.aa (.aa (.aa (.sk 34 .nil rfl)))) rfl)) rfl)) rfl))) rfl)))),rfl,rfl,?_⟩
       ·omega
       ·exact ⟨⟨by omega,fE⟩,vB,ax⟩
      ·have h3:k=i:=by
        have h3:¬ k < i:=by simpa using h3
        omega
       subst h3;have kJ:D < B ^ k:=by rw [bO]; exact bW D
       have gg:=Bm (V:=V) (R:=X % (D*B ^ j)) (k:=j+k) hV (Nat.lt_of_lt_of_le (Nat.mod_lt _ hE) (by rw [Nat.add_comm,Nat.pow_add]; exact Nat.mul_le_mul_right _ (Nat.le_of_lt kJ))) hc (by
        rw [he,Nat.mod_eq_of_lt kJ]; exact ff)
       have gZ:qt - 1=X / (D*B ^ j):=by rw [im]; rfl
       have ep:IntKind.u64.wrap ((qt:Int) - 1)=((qt - 1:Nat):Int):=by
        have:1≤qt:=by rw [im]; exact Nat.le_add_left _ _
        have:=hT.1;rw [bL (by omega) (by omega)]; omega
       have ve:(qt - 1) % B=qt - 1:=Nat.mod_eq_of_lt (by have:=hT.1; show qt - 1 < 4294967296; omega)
       conv=>whnf
       simp only [e1];refine ⟨⟨by omega,by omega⟩,?_⟩
       simp only [toNat_cast,aB,Nat.zero_add];conv=>whnf
       refine ⟨by show j+k < m; omega,?_⟩
       conv=>whnf
       rw [show IntKind.u32.wrap (((an V (j+k):Nat):Int)+(c:Int))=(((an V (j+k)+c) % B:Nat):Int) from eJ (an V (j+k)+c)]
       refine ⟨⟨by omega,by omega⟩,?_⟩
       simp only [toNat_cast,aB,Nat.zero_add];conv=>whnf
       refine ⟨by show j+k < m; omega,?_⟩
       conv=>whnf
       simp only [ep,eJ,ve];rw [fw (Nat.mod_lt _ (by decide)),gg]
       exact rD (i:=⟨X,m,cx,D,cd,j⟩) rfl gZ rfl
    skip
    skip
  ·rw [show (((((r / B:Nat):Int) == 0):Bool))=false by show decide (((r / 4294967296:Nat):Int)=0)=false; exact decide_eq_false (by omega)]
   conv=>whnf
   obtain ⟨qt,og⟩:∃ qt,qt=q:=⟨_,rfl⟩;have hT:qt < 4294967296∧Q≤qt∧qt≤Q+1:=⟨by omega,by omega,by have:=o4 (.inr lQ); omega⟩
   rw [← og];clear xV o4 lQ he hr DU fj og;conv=>whnf
   refine .inl ⟨fun mm tz hz=>∃ (i:Nat) (c:Nat) (b:Nat) (Z:Nat),bB (some (.slice (some ⟨0,0,none⟩) m cx)::some (.slice (some ⟨1,0,none⟩) n2 cd)::some (.int .i64 j)::aG 3 (some (.int .u32 0)::some (.int .i64 n2)::aG 1 (some (.int .u64 qt)::aG 1 (some (.int .u64 c)::some (.int .u32 b)::aG 88 (some (.slice (some ⟨1,0,none⟩) n2 cd)::some (.int .i64 n2)::some (.int .i64 i)::aG 90 []))))) tz∧hz=[some (.flat true m 1 (bo Z)),some (dN D)]∧n2 - i=mm∧((i≤n2∧c < 4294967296∧b≤1)∧Z < B ^ (j+n2+1)∧Z+qt*(D % B ^ i)*B ^ j=X+(b+c)*B ^ (j+i)),.inr ⟨[0,1],[0,1,2,6,7,9,11,12,101,102,103],?_⟩,?_⟩
   ·conv=>whnf
    intro _;conv=>whnf
    refine ⟨_,0,0,0,X,(.aa (.aa (.aa (.sk 3 (.aa (.aa (.sk 1 (.aa (.sk 1 (.aa (.aa (.sk 88 (.aa (.aa (.aa (.sk 90 .nil rfl)))) rfl))) rfl)) rfl))) rfl)))),rfl,rfl,?_⟩;exact ⟨⟨Nat.zero_le _,by decide,by decide⟩,F.fX,by simp [Nat.mod_one]⟩
   rintro mm aW _ ⟨i,c,b,Z,aC,rfl,rfl,⟨⟨hi,hc,hb⟩,hZ,he⟩⟩
   obtain ⟨az,rfl⟩:∃ az:Nat→Value,aW=.slice (some ⟨0,0,none⟩) m cx::.slice (some ⟨1,0,none⟩) n2 cd::.int .i64 j::zs az 3 3 (.int .u32 0::.int .i64 n2::zs az 8 1 (.int .u64 qt::zs az 10 1 (.int .u64 c::.int .u32 b::zs az 13 88 (.slice (some ⟨1,0,none⟩) n2 cd::.int .i64 n2::.int .i64 i::zs az 104 90 [])))):=bI aC;clear aC;conv=>whnf
   refine aN (fun h1=>?_) (fun h1=>?_)
   ·have h1:i < n2:=by simpa using h1
    conv=>whnf
    refine ⟨⟨by omega,by omega⟩,?_⟩
    simp only [toNat_cast,aB,Nat.zero_add];conv=>whnf
    refine ⟨by show i < nl D; omega,?_⟩
    conv=>whnf
    obtain ⟨x,hx⟩:∃ x,x=an D i:=⟨_,rfl⟩;obtain ⟨l,hl⟩:∃ l,l=an Z (j+i):=⟨_,rfl⟩;obtain ⟨t,ht⟩:∃ t,t=c+qt*an D i:=⟨_,rfl⟩;have ik:x < B:=by rw [hx]; exact cI D i
    have dS:l < 4294967296:=by rw [hl]; exact cI Z (j+i)
    obtain ⟨hv,fE⟩:=BD (t:=t) hc hT.1 ik (by rw [hx]; exact ht)
    have oh:t % B < 4294967296:=Nat.mod_lt _ (by decide)
    obtain ⟨d,hd⟩:∃ d,d=(l+2*4294967296 - t % B - b) % 4294967296:=⟨_,rfl⟩;obtain ⟨b',bA⟩:∃ b',b'=if l < t % B+b then 1 else 0:=⟨_,rfl⟩
    have dJ:d < 4294967296:=by rw [hd]; exact Nat.mod_lt _ (by decide)
    have ax:=Bj (i:=i) (j:=j) (d:=d) (b':=b') he ht (by
     rw [← hl,bA,hB,← hB];clear he hZ ht hv;obtain ⟨u,hu⟩:∃ u,u=t % B:=⟨_,rfl⟩;rw [← hu] at hd oh ⊢
     split <;> omega)
    have gD:=lS hZ (show j+i < j+n2+1 by omega) (show d < B from dJ)
    have dF:b'≤1:=by rw [bA]; split <;> omega
    have e6:IntKind.i64.wrap (((j:Nat):Int)+((i:Nat):Int))=((j+i:Nat):Int):=by rw [ay (by omega) (by omega)]; omega
    have e7:IntKind.i64.wrap (((i:Nat):Int)+1)=((i+1:Nat):Int):=by rw [ay (by omega) (by omega)]; omega
    rw [← hx];simp only [kd _ ik,hv,e6];refine ⟨⟨by omega,by omega⟩,?_⟩
    simp only [toNat_cast,aB,Nat.zero_add];conv=>whnf
    refine ⟨by show j+i < m; omega,?_⟩
    conv=>whnf
    rw [← hl];simp only [eJ];refine ⟨(l,t % B,b),rfl,⟨dS,oh,hb⟩,?_⟩;simp only [kV,← hd,← bA,e6];conv=>whnf
    refine ⟨⟨by omega,by omega⟩,?_⟩
    simp only [toNat_cast,aB,Nat.zero_add];conv=>whnf
    refine ⟨by show j+i < m; omega,?_⟩
    conv=>whnf
    simp only [cf,jE,e7];rw [fw dJ];refine .inl ⟨_,?_,i+1,t / B,b',cF Z (j+i) d,(.aa (.aa (.aa (.sk 3 (.aa (.aa (.sk 1 (.aa (.sk 1 (.aa (.aa (.sk 88 (.aa (.aa (.aa (.sk 90 .nil rfl)))) rfl))) rfl)) rfl))) rfl)))),rfl,rfl,?_⟩
    ·omega
    ·exact ⟨⟨by omega,fE,dF⟩,gD,ax⟩
   ·have h1:i=n2:=by
     have h1:¬ i < n2:=by simpa using h1
     omega
    subst h1;obtain ⟨l,hl⟩:∃ l,l=an Z (j+i):=⟨_,rfl⟩;have dS:l < 4294967296:=by rw [hl]; exact cI Z (j+i)
    obtain ⟨d,hd⟩:∃ d,d=(l+2*4294967296 - c - b) % 4294967296:=⟨_,rfl⟩;obtain ⟨b',bA⟩:∃ b',b'=if l < c+b then 1 else 0:=⟨_,rfl⟩
    have dJ:d < 4294967296:=by rw [hd]; exact Nat.mod_lt _ (by decide)
    have ax:=Bk (j:=j) (d:=d) (b':=b') (by rw [bO]; exact bW D) hc he (by
     rw [← hl,bA,hB,← hB];clear he hZ
     split <;> omega)
    have gD:=lS hZ (show j+i < j+i+1 by omega) (show d < B from dJ)
    have oi:c % B=c:=Nat.mod_eq_of_lt hc;have dF:b'≤1:=by rw [bA]; split <;> omega
    have vA:qt % B=qt:=Nat.mod_eq_of_lt hT.1;have hE:0 < D*B ^ j:=Nat.mul_pos F.Ao (eE j);have oj:Q=X / (D*B ^ j):=by rw [F.fQ,Nat.div_div_eq_div_mul,Nat.mul_comm]
    conv=>whnf
    simp only [e1];refine ⟨⟨by omega,by omega⟩,?_⟩
    simp only [toNat_cast,aB,Nat.zero_add];conv=>whnf
    refine ⟨by show j+i < m; omega,?_⟩
    conv=>whnf
    rw [← hl];simp only [eJ,oi];refine ⟨(l,c,b),rfl,⟨dS,hc,hb⟩,?_⟩;simp only [kV,← hd,← bA,e1];conv=>whnf
    refine ⟨⟨by omega,by omega⟩,?_⟩
    simp only [toNat_cast,aB,Nat.zero_add];conv=>whnf
    refine ⟨by show j+i < m; omega,?_⟩
    conv=>whnf
    rw [fw dJ];refine aN (fun J=>?_) (fun J=>?_)
    ·have J:b'=0:=by
      have:=of_decide_eq_true J;omega
     clear bA;subst J;rw [Nat.zero_mul,Nat.add_zero] at ax;obtain ⟨im,ff⟩:=A0 hE ax (by rw [← oj]; exact hT.2.1)
     conv=>whnf
     simp only [eJ,vA];exact rD (i:=⟨X,m,cx,D,cd,j⟩) ff im rfl
    ·have J:b'=1:=by
      have:=of_decide_eq_false J;omega
     clear bA;subst J;rw [Nat.one_mul] at ax;obtain ⟨im,ff⟩:=A1 hE ax gD (by rw [← oj]; exact hT.2.2)
     obtain ⟨Y,hY⟩:∃ Y,Y=cF Z (j+i) d:=⟨_,rfl⟩;rw [← hY] at ff gD ⊢;clear ax he hZ hY hc hb hl dS hd dJ oi;conv=>whnf
     refine .inl ⟨fun mm tz hz=>∃ (k:Nat) (c:Nat) (V:Nat),bB (some (.slice (some ⟨0,0,none⟩) m cx)::some (.slice (some ⟨1,0,none⟩) i cd)::some (.int .i64 j)::aG 3 (some (.int .u32 0)::some (.int .i64 i)::aG 1 (some (.int .u64 qt)::aG 5 (some (.int .u32 c)::aG 141 (some (.slice (some ⟨1,0,none⟩) i cd)::some (.int .i64 i)::some (.int .i64 k)::aG 34 []))))) tz∧hz=[some (.flat true m 1 (bo V)),some (dN D)]∧i - k=mm∧((k≤i∧c≤1)∧V < B ^ (j+i+1)∧V+c*B ^ (j+k)=Y+D % B ^ k*B ^ j),.inr ⟨[0,1],[0,1,2,6,7,9,15,157,158,159],?_⟩,?_⟩
     ·conv=>whnf
      intro _;conv=>whnf
      refine ⟨_,0,0,Y,(.aa (.aa (.aa (.sk 3 (.aa (.aa (.sk 1 (.aa (.sk 5 (.aa (.sk 141 (.aa (.aa (.aa (.sk 34 .nil rfl)))) rfl)) rfl)) rfl))) rfl)))),rfl,rfl,?_⟩;exact ⟨⟨Nat.zero_le _,by decide⟩,gD,by simp [Nat.mod_one]⟩
     rintro mm aW _ ⟨k,c,V,aC,rfl,rfl,⟨⟨hk,hc⟩,hV,he⟩⟩
     obtain ⟨az,rfl⟩:∃ az:Nat→Value,aW=.slice (some ⟨0,0,none⟩) m cx::.slice (some ⟨1,0,none⟩) i cd::.int .i64 j::zs az 3 3 (.int .u32 0::.int .i64 i::zs az 8 1 (.int .u64 qt::zs az 10 5 (.int .u32 c::zs az 16 141 (.slice (some ⟨1,0,none⟩) i cd::.int .i64 i::.int .i64 k::zs az 160 34 [])))):=bI aC;clear aC;conv=>whnf
     refine aN (fun h3=>?_) (fun h3=>?_)
     ·have h3:k < i:=by simpa using h3
      obtain ⟨x,hx⟩:∃ x,x=an D k:=⟨_,rfl⟩;obtain ⟨l,hl⟩:∃ l,l=an V (j+k):=⟨_,rfl⟩;have ik:x < 4294967296:=by rw [hx]; exact cI D k
      have dS:l < 4294967296:=by rw [hl]; exact cI V (j+k)
      obtain ⟨t,ht⟩:∃ t,t=l+x+c:=⟨_,rfl⟩;have ax:=Bl (t:=t) (i:=k) (j:=j) he (by rw [← hl,← hx]; exact ht)
      have gY:t % B < 4294967296:=Nat.mod_lt _ (by decide)
      have fE:t / B≤1:=by show t / 4294967296≤1; omega
      have vB:=lS hV (show j+k < j+i+1 by omega) (show t % B < B from gY)
      have e6:IntKind.i64.wrap (((j:Nat):Int)+((k:Nat):Int))=((j+k:Nat):Int):=by rw [ay (by omega) (by omega)]; omega
      have e7:IntKind.i64.wrap (((k:Nat):Int)+1)=((k+1:Nat):Int):=by rw [ay (by omega) (by omega)]; omega
      conv=>whnf
      refine ⟨⟨by omega,by omega⟩,?_⟩
      simp only [toNat_cast,aB,Nat.zero_add];conv=>whnf
      refine ⟨by show k < nl D; omega,?_⟩
      conv=>whnf
      simp only [e6];refine ⟨⟨by omega,by omega⟩,?_⟩
      simp only [toNat_cast,aB,Nat.zero_add];conv=>whnf
      refine ⟨by show j+k < m; omega,?_⟩
      conv=>whnf
      rw [← hl,← hx];refine ⟨(l,x,c),rfl,⟨dS,ik,hc⟩,?_⟩;simp only [uq,← ht,e6];conv=>whnf
      refine ⟨⟨by omega,by omega⟩,?_⟩
      simp only [toNat_cast,aB,Nat.zero_add];conv=>whnf
      refine ⟨by show j+k < m; omega,?_⟩
      conv=>whnf
      simp only [e7];rw [show t % 4294967296=t % B from rfl,fw gY]
      refine .inl ⟨_,?_,k+1,t / B,cF V (j+k) (t % B),(.aa (.aa (.aa (.sk 3 (.aa (.aa (.sk 1 (.aa (.sk 5 (.aa (.sk 141 (.aa (.aa (.aa (.sk 34 .nil rfl)))) rfl)) rfl)) rfl))) rfl)))),rfl,rfl,?_⟩
      ·omega
      ·exact ⟨⟨by omega,fE⟩,vB,ax⟩
     ·have h3:k=i:=by
       have h3:¬ k < i:=by simpa using h3
       omega
      subst h3;have kJ:D < B ^ k:=by rw [bO]; exact bW D
      have gg:=Bm (V:=V) (R:=X % (D*B ^ j)) (k:=j+k) hV (Nat.lt_of_lt_of_le (Nat.mod_lt _ hE) (by rw [Nat.add_comm,Nat.pow_add]; exact Nat.mul_le_mul_right _ (Nat.le_of_lt kJ))) hc (by
       rw [he,Nat.mod_eq_of_lt kJ]; exact ff)
      have gZ:qt - 1=X / (D*B ^ j):=by rw [im]; rfl
      have ep:IntKind.u64.wrap ((qt:Int) - 1)=((qt - 1:Nat):Int):=by
       have:1≤qt:=by rw [im]; exact Nat.le_add_left _ _
       have:=hT.1;rw [bL (by omega) (by omega)]; omega
      have ve:(qt - 1) % B=qt - 1:=Nat.mod_eq_of_lt (by have:=hT.1; show qt - 1 < 4294967296; omega)
      conv=>whnf
      simp only [e1];refine ⟨⟨by omega,by omega⟩,?_⟩
      simp only [toNat_cast,aB,Nat.zero_add];conv=>whnf
      refine ⟨by show j+k < m; omega,?_⟩
      conv=>whnf
      rw [show IntKind.u32.wrap (((an V (j+k):Nat):Int)+(c:Int))=(((an V (j+k)+c) % B:Nat):Int) from eJ (an V (j+k)+c)]
      refine ⟨⟨by omega,by omega⟩,?_⟩
      simp only [toNat_cast,aB,Nat.zero_add];conv=>whnf
      refine ⟨by show j+k < m; omega,?_⟩
      conv=>whnf
      simp only [ep,eJ,ve];rw [fw (Nat.mod_lt _ (by decide)),gg]
      exact rD (i:=⟨X,m,cx,D,cd,j⟩) rfl gZ rfl
   skip
   skip
 ·have al:Q < q:=by have:=F.fB; omega
  rw [show decide (((q / B:Nat):Int) > 0)=true from decide_eq_true (by show (((q / 4294967296:Nat):Int) > 0); omega)]
  conv=>whnf
  have ep:IntKind.u64.wrap ((q:Int) - 1)=((q - 1:Nat):Int):=by rw [bL (by omega) (by omega)]; omega
  have cj:(q - 1)*d1+(r+d1)=top:=by
   have h1:(q - 1)*d1+d1=q*d1:=by
    conv=>rhs; rw [show q=(q - 1)+1 by omega,Nat.add_mul,Nat.one_mul]
   omega
  have ff:r+d1 < 18446744073709551616:=Nat.lt_of_le_of_lt (Nat.le_trans (Nat.le_add_left _ _) (Nat.le_of_eq cj)) HC;have er:IntKind.u64.wrap ((r:Int)+(d1:Int))=((r+d1:Nat):Int):=by rw [bL (by omega) (by omega)]; omega
  simp only [ep,e4];refine ⟨⟨by omega,by omega⟩,?_⟩
  simp only [toNat_cast,aB,Nat.zero_add];conv=>whnf
  refine ⟨by show n1 < nl D; omega,?_⟩
  conv=>whnf
  simp only [kd _ zK];rw [← fZ,er];simp only [cf,jE];rcases Nat.lt_or_ge (r+d1) 4294967296 with lQ | lQ
  ·rw [show decide ((((r+d1) / B:Nat):Int) > 0)=false from decide_eq_false (by show ¬ ((((r+d1) / 4294967296:Nat):Int) > 0); omega)]
   conv=>whnf
   refine .inr ⟨[0,1],[0,1,2,6,7,9,10],?_⟩;conv=>whnf
   intro _;conv=>whnf
   refine ⟨_,?_,q - 1,r+d1,(.aa (.aa (.aa (.sk 3 (.aa (.aa (.sk 1 (.aa (.aa (.sk 183 .nil rfl))) rfl))) rfl)))),rfl,rfl,?_⟩
   ·omega
   ·exact ⟨cj,by omega,by omega⟩
  ·rw [show decide ((((r+d1) / B:Nat):Int) > 0)=true from decide_eq_true (by show ((((r+d1) / 4294967296:Nat):Int) > 0); omega)]
   conv=>whnf
   simp only [cf,jE];rcases Nat.lt_or_ge (q - 1) 4294967296 with vd | vd
   ·rw [show (((((q - 1) / B:Nat):Int) == 0):Bool)=true by show decide ((((q - 1) / 4294967296:Nat):Int)=0)=true; exact decide_eq_true (by omega)]
    conv=>whnf
    obtain ⟨qt,og⟩:∃ qt,qt=q - 1:=⟨_,rfl⟩;have hT:qt < 4294967296∧Q≤qt∧qt≤Q+1:=by
     have h3:q - 1≤X / B ^ j / D+1:=Gq (eE n) F.fW F.fD cj vd F.fP Dl (.inl lQ);rw [← F.fQ] at h3;omega
    rw [← og];clear xV vd al ep cj ff er lQ he hr DU fj og;conv=>whnf
    refine .inl ⟨fun mm tz hz=>∃ (i:Nat) (c:Nat) (b:Nat) (Z:Nat),bB (some (.slice (some ⟨0,0,none⟩) m cx)::some (.slice (some ⟨1,0,none⟩) n2 cd)::some (.int .i64 j)::aG 3 (some (.int .u32 0)::some (.int .i64 n2)::aG 1 (some (.int .u64 qt)::aG 1 (some (.int .u64 c)::some (.int .u32 b)::aG 88 (some (.slice (some ⟨1,0,none⟩) n2 cd)::some (.int .i64 n2)::some (.int .i64 i)::aG 90 []))))) tz∧hz=[some (.flat true m 1 (bo Z)),some (dN D)]∧n2 - i=mm∧((i≤n2∧c < 4294967296∧b≤1)∧Z < B ^ (j+n2+1)∧Z+qt*(D % B ^ i)*B ^ j=X+(b+c)*B ^ (j+i)),.inr ⟨[0,1],[0,1,2,6,7,9,11,12,101,102,103],?_⟩,?_⟩
    ·conv=>whnf
     intro _;conv=>whnf
     refine ⟨_,0,0,0,X,(.aa (.aa (.aa (.sk 3 (.aa (.aa (.sk 1 (.aa (.sk 1 (.aa (.aa (.sk 88 (.aa (.aa (.aa (.sk 90 .nil rfl)))) rfl))) rfl)) rfl))) rfl)))),rfl,rfl,?_⟩;exact ⟨⟨Nat.zero_le _,by decide,by decide⟩,F.fX,by simp [Nat.mod_one]⟩
    rintro mm aW _ ⟨i,c,b,Z,aC,rfl,rfl,⟨⟨hi,hc,hb⟩,hZ,he⟩⟩
    obtain ⟨az,rfl⟩:∃ az:Nat→Value,aW=.slice (some ⟨0,0,none⟩) m cx::.slice (some ⟨1,0,none⟩) n2 cd::.int .i64 j::zs az 3 3 (.int .u32 0::.int .i64 n2::zs az 8 1 (.int .u64 qt::zs az 10 1 (.int .u64 c::.int .u32 b::zs az 13 88 (.slice (some ⟨1,0,none⟩) n2 cd::.int .i64 n2::.int .i64 i::zs az 104 90 [])))):=bI aC;clear aC;conv=>whnf
    refine aN (fun h1=>?_) (fun h1=>?_)
    ·have h1:i < n2:=by simpa using h1
     conv=>whnf
     refine ⟨⟨by omega,by omega⟩,?_⟩
     simp only [toNat_cast,aB,Nat.zero_add];conv=>whnf
     refine ⟨by show i < nl D; omega,?_⟩
     conv=>whnf
     obtain ⟨x,hx⟩:∃ x,x=an D i:=⟨_,rfl⟩;obtain ⟨l,hl⟩:∃ l,l=an Z (j+i):=⟨_,rfl⟩;obtain ⟨t,ht⟩:∃ t,t=c+qt*an D i:=⟨_,rfl⟩;have ik:x < B:=by rw [hx]; exact cI D i
     have dS:l < 4294967296:=by rw [hl]; exact cI Z (j+i)
     obtain ⟨hv,fE⟩:=BD (t:=t) hc hT.1 ik (by rw [hx]; exact ht)
     have oh:t % B < 4294967296:=Nat.mod_lt _ (by decide)
     obtain ⟨d,hd⟩:∃ d,d=(l+2*4294967296 - t % B - b) % 4294967296:=⟨_,rfl⟩;obtain ⟨b',bA⟩:∃ b',b'=if l < t % B+b then 1 else 0:=⟨_,rfl⟩
     have dJ:d < 4294967296:=by rw [hd]; exact Nat.mod_lt _ (by decide)
     have ax:=Bj (i:=i) (j:=j) (d:=d) (b':=b') he ht (by
      rw [← hl,bA,hB,← hB];clear he hZ ht hv;obtain ⟨u,hu⟩:∃ u,u=t % B:=⟨_,rfl⟩;rw [← hu] at hd oh ⊢
      split <;> omega)
     have gD:=lS hZ (show j+i < j+n2+1 by omega) (show d < B from dJ)
     have dF:b'≤1:=by rw [bA]; split <;> omega
     have e6:IntKind.i64.wrap (((j:Nat):Int)+((i:Nat):Int))=((j+i:Nat):Int):=by rw [ay (by omega) (by omega)]; omega
     have e7:IntKind.i64.wrap (((i:Nat):Int)+1)=((i+1:Nat):Int):=by rw [ay (by omega) (by omega)]; omega
     rw [← hx];simp only [kd _ ik,hv,e6];refine ⟨⟨by omega,by omega⟩,?_⟩
     simp only [toNat_cast,aB,Nat.zero_add];conv=>whnf
     refine ⟨by show j+i < m; omega,?_⟩
     conv=>whnf
     rw [← hl];simp only [eJ];refine ⟨(l,t % B,b),rfl,⟨dS,oh,hb⟩,?_⟩;simp only [kV,← hd,← bA,e6];conv=>whnf
     refine ⟨⟨by omega,by omega⟩,?_⟩
     simp only [toNat_cast,aB,Nat.zero_add];conv=>whnf
     refine ⟨by show j+i < m; omega,?_⟩
     conv=>whnf
     simp only [cf,jE,e7];rw [fw dJ];refine .inl ⟨_,?_,i+1,t / B,b',cF Z (j+i) d,(.aa (.aa (.aa (.sk 3 (.aa (.aa (.sk 1 (.aa (.sk 1 (.aa (.aa (.sk 88 (.aa (.aa (.aa (.sk 90 .nil rfl)))) rfl))) rfl)) rfl))) rfl)))),rfl,rfl,?_⟩
     ·omega
     ·exact ⟨⟨by omega,fE,dF⟩,gD,ax⟩
    ·have h1:i=n2:=by
      have h1:¬ i < n2:=by simpa using h1
      omega
     subst h1;obtain ⟨l,hl⟩:∃ l,l=an Z (j+i):=⟨_,rfl⟩;have dS:l < 4294967296:=by rw [hl]; exact cI Z (j+i)
     obtain ⟨d,hd⟩:∃ d,d=(l+2*4294967296 - c - b) % 4294967296:=⟨_,rfl⟩;obtain ⟨b',bA⟩:∃ b',b'=if l < c+b then 1 else 0:=⟨_,rfl⟩
     have dJ:d < 4294967296:=by rw [hd]; exact Nat.mod_lt _ (by decide)
     have ax:=Bk (j:=j) (d:=d) (b':=b') (by rw [bO]; exact bW D) hc he (by
      rw [← hl,bA,hB,← hB];clear he hZ
      split <;> omega)
     have gD:=lS hZ (show j+i < j+i+1 by omega) (show d < B from dJ)
     have oi:c % B=c:=Nat.mod_eq_of_lt hc;have dF:b'≤1:=by rw [bA]; split <;> omega
     have vA:qt % B=qt:=Nat.mod_eq_of_lt hT.1;have hE:0 < D*B ^ j:=Nat.mul_pos F.Ao (eE j);have oj:Q=X / (D*B ^ j):=by rw [F.fQ,Nat.div_div_eq_div_mul,Nat.mul_comm]
     conv=>whnf
     simp only [e1];refine ⟨⟨by omega,by omega⟩,?_⟩
     simp only [toNat_cast,aB,Nat.zero_add];conv=>whnf
     refine ⟨by show j+i < m; omega,?_⟩
     conv=>whnf
     rw [← hl];simp only [eJ,oi];refine ⟨(l,c,b),rfl,⟨dS,hc,hb⟩,?_⟩;simp only [kV,← hd,← bA,e1];conv=>whnf
     refine ⟨⟨by omega,by omega⟩,?_⟩
     simp only [toNat_cast,aB,Nat.zero_add];conv=>whnf
     refine ⟨by show j+i < m; omega,?_⟩
     conv=>whnf
     rw [fw dJ];refine aN (fun J=>?_) (fun J=>?_)
     ·have J:b'=0:=by
       have:=of_decide_eq_true J;omega
      clear bA;subst J;rw [Nat.zero_mul,Nat.add_zero] at ax;obtain ⟨im,ff⟩:=A0 hE ax (by rw [← oj]; exact hT.2.1)
      conv=>whnf
      simp only [eJ,vA];exact rD (i:=⟨X,m,cx,D,cd,j⟩) ff im rfl
     ·have J:b'=1:=by
       have:=of_decide_eq_false J;omega
      clear bA;subst J;rw [Nat.one_mul] at ax;obtain ⟨im,ff⟩:=A1 hE ax gD (by rw [← oj]; exact hT.2.2)
      obtain ⟨Y,hY⟩:∃ Y,Y=cF Z (j+i) d:=⟨_,rfl⟩;rw [← hY] at ff gD ⊢;clear ax he hZ hY hc hb hl dS hd dJ oi;conv=>whnf
      refine .inl ⟨fun mm tz hz=>∃ (k:Nat) (c:Nat) (V:Nat),bB (some (.slice (some ⟨0,0,none⟩) m cx)::some (.slice (some ⟨1,0,none⟩) i cd)::some (.int .i64 j)::aG 3 (some (.int .u32 0)::some (.int .i64 i)::aG 1 (some (.int .u64 qt)::aG 5 (some (.int .u32 c)::aG 141 (some (.slice (some ⟨1,0,none⟩) i cd)::some (.int .i64 i)::some (.int .i64 k)::aG 34 []))))) tz∧hz=[some (.flat true m 1 (bo V)),some (dN D)]∧i - k=mm∧((k≤i∧c≤1)∧V < B ^ (j+i+1)∧V+c*B ^ (j+k)=Y+D % B ^ k*B ^ j),.inr ⟨[0,1],[0,1,2,6,7,9,15,157,158,159],?_⟩,?_⟩
      ·conv=>whnf
       intro _;conv=>whnf
       refine ⟨_,0,0,Y,(.aa (.aa (.aa (.sk 3 (.aa (.aa (.sk 1 (.aa (.sk 5 (.aa (.sk 141 (.aa (.aa (.aa (.sk 34 .nil rfl)))) rfl)) rfl)) rfl))) rfl)))),rfl,rfl,?_⟩;exact ⟨⟨Nat.zero_le _,by decide⟩,gD,by simp [Nat.mod_one]⟩
      rintro mm aW _ ⟨k,c,V,aC,rfl,rfl,⟨⟨hk,hc⟩,hV,he⟩⟩
      obtain ⟨az,rfl⟩:∃ az:Nat→Value,aW=.slice (some ⟨0,0,none⟩) m cx::.slice (some ⟨1,0,none⟩) i cd::.int .i64 j::zs az 3 3 (.int .u32 0::.int .i64 i::zs az 8 1 (.int .u64 qt::zs az 10 5 (.int .u32 c::zs az 16 141 (.slice (some ⟨1,0,none⟩) i cd::.int .i64 i::.int .i64 k::zs az 160 34 [])))):=bI aC;clear aC;conv=>whnf
      refine aN (fun h3=>?_) (fun h3=>?_)
      ·have h3:k < i:=by simpa using h3
       obtain ⟨x,hx⟩:∃ x,x=an D k:=⟨_,rfl⟩;obtain ⟨l,hl⟩:∃ l,l=an V (j+k):=⟨_,rfl⟩;have ik:x < 4294967296:=by rw [hx]; exact cI D k
       have dS:l < 4294967296:=by rw [hl]; exact cI V (j+k)
       obtain ⟨t,ht⟩:∃ t,t=l+x+c:=⟨_,rfl⟩;have ax:=Bl (t:=t) (i:=k) (j:=j) he (by rw [← hl,← hx]; exact ht)
       have gY:t % B < 4294967296:=Nat.mod_lt _ (by decide)
       have fE:t / B≤1:=by show t / 4294967296≤1; omega
       have vB:=lS hV (show j+k < j+i+1 by omega) (show t % B < B from gY)
       have e6:IntKind.i64.wrap (((j:Nat):Int)+((k:Nat):Int))=((j+k:Nat):Int):=by rw [ay (by omega) (by omega)]; omega
       have e7:IntKind.i64.wrap (((k:Nat):Int)+1)=((k+1:Nat):Int):=by rw [ay (by omega) (by omega)]; omega
       conv=>whnf
       refine ⟨⟨by omega,by omega⟩,?_⟩
       simp only [toNat_cast,aB,Nat.zero_add];conv=>whnf
       refine ⟨by show k < nl D; omega,?_⟩
       conv=>whnf
       simp only [e6];refine ⟨⟨by omega,by omega⟩,?_⟩
       simp only [toNat_cast,aB,Nat.zero_add];conv=>whnf
       refine ⟨by show j+k < m; omega,?_⟩
       conv=>whnf
       rw [← hl,← hx];refine ⟨(l,x,c),rfl,⟨dS,ik,hc⟩,?_⟩;simp only [uq,← ht,e6];conv=>whnf
       refine ⟨⟨by omega,by omega⟩,?_⟩
       simp only [toNat_cast,aB,Nat.zero_add];conv=>whnf
       refine ⟨by show j+k < m; omega,?_⟩
       conv=>whnf
       simp only [e7];rw [show t % 4294967296=t % B from rfl,fw gY]
       refine .inl ⟨_,?_,k+1,t / B,cF V (j+k) (t % B),(.aa (.aa (.aa (.sk 3 (.aa (.aa (.sk 1 (.aa (.sk 5 (.aa (.sk 141 (.aa (.aa (.aa (.sk 34 .nil rfl)))) rfl)) rfl)) rfl))) rfl)))),rfl,rfl,?_⟩
       ·omega
       ·exact ⟨⟨by omega,fE⟩,vB,ax⟩
      ·have h3:k=i:=by
        have h3:¬ k < i:=by simpa using h3
        omega
       subst h3;have kJ:D < B ^ k:=by rw [bO]; exact bW D
       have gg:=Bm (V:=V) (R:=X % (D*B ^ j)) (k:=j+k) hV (Nat.lt_of_lt_of_le (Nat.mod_lt _ hE) (by rw [Nat.add_comm,Nat.pow_add]; exact Nat.mul_le_mul_right _ (Nat.le_of_lt kJ))) hc (by
        rw [he,Nat.mod_eq_of_lt kJ]; exact ff)
       have gZ:qt - 1=X / (D*B ^ j):=by rw [im]; rfl
       have ep:IntKind.u64.wrap ((qt:Int) - 1)=((qt - 1:Nat):Int):=by
        have:1≤qt:=by rw [im]; exact Nat.le_add_left _ _
        have:=hT.1;rw [bL (by omega) (by omega)]; omega
       have ve:(qt - 1) % B=qt - 1:=Nat.mod_eq_of_lt (by have:=hT.1; show qt - 1 < 4294967296; omega)
       conv=>whnf
       simp only [e1];refine ⟨⟨by omega,by omega⟩,?_⟩
       simp only [toNat_cast,aB,Nat.zero_add];conv=>whnf
       refine ⟨by show j+k < m; omega,?_⟩
       conv=>whnf
       rw [show IntKind.u32.wrap (((an V (j+k):Nat):Int)+(c:Int))=(((an V (j+k)+c) % B:Nat):Int) from eJ (an V (j+k)+c)]
       refine ⟨⟨by omega,by omega⟩,?_⟩
       simp only [toNat_cast,aB,Nat.zero_add];conv=>whnf
       refine ⟨by show j+k < m; omega,?_⟩
       conv=>whnf
       simp only [ep,eJ,ve];rw [fw (Nat.mod_lt _ (by decide)),gg]
       exact rD (i:=⟨X,m,cx,D,cd,j⟩) rfl gZ rfl
    skip
    skip
   ·rw [show (((((q - 1) / B:Nat):Int) == 0):Bool)=false by show decide ((((q - 1) / 4294967296:Nat):Int)=0)=false; exact decide_eq_false (by omega)]
    conv=>whnf
    refine .inr ⟨[0,1],[0,1,2,6,7,9,10],?_⟩;conv=>whnf
    intro _;conv=>whnf
    refine ⟨_,?_,q - 1,r+d1,(.aa (.aa (.aa (.sk 3 (.aa (.aa (.sk 1 (.aa (.aa (.sk 183 .nil rfl))) rfl))) rfl)))),rfl,rfl,?_⟩
    ·omega
    ·exact ⟨cj,by omega,by omega⟩
open Go Go.Ae
def Eh:Env:=En [(161,.q r8),(136,.q wA),(183,.q Cu),(185,.q Cv),(187,.q BE),(184,.p CL)] [(186,Ak wY)]
theorem aee:EnvOk Tryz.prog Eh:=bH ⟨Cb,E3,Wm,Wn,TD,YX,trivial⟩ ⟨Wo,trivial⟩
theorem UO:gf Tryz.prog 163 (Ak gz):=by
 refine Oa aee aP Tryz.func163 (enters_of Tryz.func163 (by kernel_rfl) rfl) ?_
 intro ⟨A,ca,D,cd⟩ hp;have hp:(nl A≤137438953472∧nl D≤137438953472)∧D≠0:=hp;conv=>whnf
 refine ⟨(A,ca,D,cd),[0,1],rfl,hp.1,?_⟩;conv=>whnf
 refine ⟨ar.aE (fun h=>h) (fun r hr=>rfl),?_⟩
 conv=>whnf
 refine ⟨ar.aE (fun h=>h) (fun r hr=>rfl),?_⟩
 conv=>whnf
 refine ⟨_,rfl,?_⟩;conv=>whnf
 refine aN (fun h0=>?_) (fun h0=>?_)
 ·have h0:A < D:=by
   have h0:cL A D < 0:=of_decide_eq_true h0;rcases Nat.lt_or_ge A D with h | h
   ·exact h
   ·rw [cL,if_neg (by omega)] at h0
    split at h0 <;> omega
  conv=>whnf
  exact Um h0
 ·have h0:D≤A:=by
   have h0:¬ cL A D < 0:=of_decide_eq_false h0;rcases Nat.lt_or_ge A D with h | h
   ·rw [cL,if_pos h] at h0;omega
   ·exact h
  have pC:0 < D:=Nat.pos_of_ne_zero hp.2;conv=>whnf
  refine aN (fun h1=>?_) (fun h1=>?_)
  ·have h1:nl D=1:=by
    have h1:((nl D:Nat):Int)=1:=by simpa using h1
    omega
   obtain ⟨eO,dS,pf⟩:=ZH h1;conv=>whnf
   refine ⟨⟨by omega,by show ((0:Nat):Int) < ((nl D:Nat):Int); omega⟩,?_⟩
   simp only [toNat_0,aB,Nat.zero_add];conv=>whnf
   refine ⟨by show 0 < nl D; omega,?_⟩
   conv=>whnf
   rw [eO];refine ⟨(A,ca,D),[0],rfl,⟨hp.1.1,pf,dS⟩,?_⟩;conv=>whnf
   refine ⟨ar.aE (fun h=>h) (fun r hr=>rfl),?_⟩
   conv=>whnf
   refine ⟨_,rfl,?_⟩;conv=>whnf
   refine ⟨some (1,A % D,1),[3],rfl,⟨by rw [Nat.pow_one]; exact Nat.lt_trans (Nat.mod_lt _ pf) dS,by decide⟩,?_⟩
   conv=>whnf
   have Jv:A % D < 4294967296:=Nat.lt_trans (Nat.mod_lt _ pf) dS;refine ⟨LY Jv (Nat.le_refl _),?_⟩;conv=>whnf
   refine ⟨_,rfl,?_⟩;conv=>whnf
   refine LX (q:=2) (r:=3) h0 (by decide) (by decide) (by decide) rfl rfl rfl rfl ⟨(fun h=>by cases h),rfl,kR (Nat.div_le_self _ _),fun _ _=>rfl,fun r hr v hv=>dC (l:=bo (A / D) r) rfl v hv⟩ ?_
   exact LY Jv (jD (n:=1) (by rw [Nat.pow_one]; exact Jv))
  ·have h1:nl D≠1:=by
    intro e;have e2:((nl D:Nat):Int)=1:=by rw [e]; rfl
    simp [e2] at h1
   have hnD:=kR h0;have J:2≤nl D:=by have:=yL hp.2; omega
   obtain ⟨n,hn⟩:∃ n,n=nl D - 1:=⟨_,rfl⟩;obtain ⟨s,hs⟩:∃ s,s=32 - fa (an D n):=⟨_,rfl⟩;obtain ⟨f1,f2,f3,f4,f5⟩:=SX (D:=D) (n:=n) (s:=s) (by omega) hs
   obtain ⟨E,hE⟩:∃ E,E=D*2 ^ s:=⟨_,rfl⟩;have hEp:0 < E:=by rw [hE]; exact Nat.mul_pos pC (Nat.pow_pos (by decide))
   rw [← hE] at f3 f4 f5;have hEn:nl E=nl D:=by omega
   have e1:IntKind.i64.wrap (((nl D:Nat):Int) - 1)=((n:Nat):Int):=by rw [ay (by omega) (by omega)]; omega
   conv=>whnf
   simp only [e1];refine ⟨⟨by omega,by show ((n:Nat):Int) < ((nl D:Nat):Int); omega⟩,?_⟩
   simp only [toNat_cast,aB,Nat.zero_add];conv=>whnf
   refine ⟨by show n < nl D; omega,?_⟩
   conv=>whnf
   refine ⟨an D n,rfl,cI D n,?_⟩;simp only [CL,← hs];conv=>whnf
   refine ⟨(A,ca,s),[0],rfl,⟨hp.1.1,f1⟩,?_⟩;conv=>whnf
   refine ⟨ar.aE (fun h=>h) (fun r hr=>rfl),?_⟩
   conv=>whnf
   refine ⟨_,rfl,?_⟩;conv=>whnf
   refine ⟨(D,cd,s),[1],rfl,⟨hp.1.2,f1⟩,?_⟩;conv=>whnf
   refine ⟨ar.aE (fun h=>h) (fun r hr=>rfl),?_⟩
   conv=>whnf
   refine ⟨_,rfl,?_⟩;conv=>whnf
   rw [show (A,ca,s).1*2 ^ (A,ca,s).2.2=A*2 ^ s from rfl,show (D,cd,s).1*2 ^ (D,cd,s).2.2=E from hE.symm]
   have aef:E < B ^ (nl D+1):=Nat.lt_of_lt_of_le (bW E) (Nat.pow_le_pow_right (by decide) (by omega))
   refine ⟨some (nl D+1,E,nl D+1),[3],rfl,⟨aef,by omega⟩,?_⟩
   conv=>whnf
   refine ⟨⟨(fun h=>by cases h),rfl,Nat.le_refl _,fun _ _=>rfl,fun r hr v hv=>dC (l:=bo E r) rfl v hv⟩,?_⟩
   conv=>whnf
   refine ⟨_,rfl,?_⟩;conv=>whnf
   obtain ⟨k,hk⟩:∃ k,k=nl A+1 - nl D:=⟨_,rfl⟩;have e2:IntKind.i64.wrap (((nl A+1:Nat):Int) - ((nl E:Nat):Int))=((k:Nat):Int):=by rw [ay (by omega) (by omega)]; omega
   simp only [e2];refine ⟨⟨by omega,by omega,by show ((k:Nat):Int)*((4:Nat):Int)≤_; omega⟩,?_⟩
   simp only [toNat_cast,tD];conv=>whnf
   refine .inl ⟨fun mm tz hz=>∃ (i:Nat) (U:Nat) (Q:Nat),bB (aG 8 (some (.int .i64 s)::some (.slice (some ⟨2,0,none⟩) (nl A+1) (nl A+1))::some (.slice (some ⟨3,0,none⟩) (nl E) (nl D+1))::some (.slice (some ⟨4,0,none⟩) k k)::some (.int .i64 (IntKind.i64.wrap ((i:Int) - 1)))::aG 60 [])) tz∧hz=[some (.flat false (nl A) 1 (bo A)),some (.flat false (nl D) 1 (bo D)),some (.flat true (nl A+1) 1 (bo U)),some (.flat true (nl D+1) 1 (bo E)),some (.flat true k 1 (bo Q))]∧i=mm∧(i≤k∧Q*E+U=A*2 ^ s∧U < E*B ^ i∧Q % B ^ i=0),.inl ⟨_,k,A*2 ^ s,0,(.sk 8 (.aa (.aa (.aa (.aa (.aa (.sk 60 .nil rfl)))))) rfl),rfl,rfl,?_⟩,?_⟩
   ·exact ⟨Nat.le_refl _,by rw [Nat.zero_mul,Nat.zero_add],Uk f1 f5 (by omega) (by omega),Nat.zero_mod _⟩
   rintro mm aW _ ⟨i,U,Q,aC,rfl,rfl,⟨hi,DV,hU,hQm⟩⟩
   obtain ⟨az,rfl⟩:∃ az:Nat→Value,aW=zs az 0 8 (.int .i64 s::.slice (some ⟨2,0,none⟩) (nl A+1) (nl A+1)::.slice (some ⟨3,0,none⟩) (nl E) (nl D+1)::.slice (some ⟨4,0,none⟩) k k::.int .i64 (IntKind.i64.wrap ((i:Int) - 1))::zs az 13 60 []):=bI aC;clear aC;conv=>whnf
   refine aN (fun h3=>?_) (fun h3=>?_)
   ·have h3:0 < i:=by
     rcases Nat.eq_zero_or_pos i with h | h
     ·subst h; revert h3; decide
     ·exact h
    obtain ⟨i,rfl⟩:∃ i',i=i'+1:=⟨i - 1,by omega⟩
    have ei:IntKind.i64.wrap (((i+1:Nat):Int) - 1)=((i:Nat):Int):=by rw [ay (by omega) (by omega)]; omega
    simp only [ei];obtain ⟨g1,g2,g3,g4⟩:=Ul hEp DV hU hQm;conv=>whnf
    refine ⟨⟨U,nl A+1,nl A+1,E,nl D+1,i⟩,[2,3],rfl,⟨by show nl A+1≤_; omega,by show 2≤nl E; omega,by show 2147483648≤an E (nl E - 1); rw [show nl E - 1=n by omega]; exact f4,by show i+nl E < nl A+1; omega,hU⟩,by decide,?_⟩
    conv=>whnf
    refine ⟨ar.aE (fun h=>h) (fun r hr=>rfl),?_⟩
    conv=>whnf
    refine ⟨⟨(fun h=>by cases h),rfl,by show nl E≤nl D+1; omega,fun _ _=>rfl,fun r hr v hv=>dC (l:=bo E r) rfl v hv⟩,?_⟩
    conv=>whnf
    refine ⟨_,rfl,?_⟩;conv=>whnf
    refine ⟨⟨by omega,by omega⟩,?_⟩
    simp only [toNat_cast,aB,Nat.zero_add];conv=>whnf
    refine ⟨by show i < k; omega,?_⟩
    conv=>whnf
    rw [fw g1];refine .inl ⟨_,?_,i,U % (E*B ^ i),cF Q i (U / (E*B ^ i)),(.sk 8 (.aa (.aa (.aa (.aa (.aa (.sk 60 .nil rfl)))))) rfl),rfl,rfl,?_⟩
    ·omega
    ·exact ⟨by omega,g2,g3,g4⟩
   ·have h3:i=0:=by
     rcases Nat.eq_zero_or_pos i with h | h
     ·exact h
     ·have e:IntKind.i64.wrap ((i:Int) - 1)=((i - 1:Nat):Int):=by rw [ay (by omega) (by omega)]; omega
      rw [e] at h3;exact absurd h3 (by simp)
    subst h3;rw [Nat.pow_zero,Nat.mul_one] at hU;rw [hE] at DV hU;obtain ⟨g1,g2,g3⟩:=Vx pC DV hU;have hUn:nl U≤nl E:=kR (by rw [hE]; exact Nat.le_of_lt hU)
    have QV:U < B ^ (nl A+1):=Nat.lt_of_lt_of_le (bW U) (Nat.pow_le_pow_right (by decide) (by omega))
    have QW:Q < B ^ k:=by
     rw [g1];refine (Nat.div_lt_iff_lt_mul pC).2 ?_;refine Nat.lt_of_lt_of_le (bW A) ?_;have h5:B ^ n≤D:=by rw [show n=nl D - 1 from hn]; exact RI hp.2
     rw [show nl A=k+n by omega,Nat.pow_add]
     exact Nat.mul_le_mul_left _ h5
    have hQn:=jD QW;have hRn:nl (A % D)≤nl U:=by rw [← g3]; exact kR (Nat.div_le_self _ _)
    conv=>whnf
    refine ⟨some (k,Q,k),[4],rfl,⟨QW,by omega⟩,?_⟩
    conv=>whnf
    refine ⟨⟨(fun h=>by cases h),rfl,Nat.le_refl _,fun _ _=>rfl,fun r hr v hv=>dC (l:=bo Q r) rfl v hv⟩,?_⟩
    conv=>whnf
    refine ⟨_,rfl,?_⟩;conv=>whnf
    refine ⟨some (nl A+1,U,nl A+1),[2],rfl,⟨QV,by omega⟩,?_⟩
    conv=>whnf
    refine ⟨⟨(fun h=>by cases h),rfl,Nat.le_refl _,fun _ _=>rfl,fun r hr v hv=>dC (l:=bo U r) rfl v hv⟩,?_⟩
    conv=>whnf
    refine ⟨_,rfl,?_⟩;conv=>whnf
    refine ⟨(U,nl A+1,s),[2],rfl,⟨by show nl U≤_; omega,f1⟩,?_⟩
    conv=>whnf
    refine ⟨⟨(fun h=>by cases h),rfl,by show nl U≤nl A+1; omega,fun _ _=>rfl,fun r hr v hv=>dC (l:=bo U r) rfl v hv⟩,?_⟩
    conv=>whnf
    refine ⟨_,rfl,?_⟩;conv=>whnf
    show zF gz (A,ca,D,cd) (.tuple ⟨[.slice (some ⟨4,0,none⟩) (nl Q) k,.slice (some ⟨5,0,none⟩) (nl (U / 2 ^ s)) aO]⟩) _
    rw [g3];clear g2 DV QV;subst g1;refine LX (q:=4) (r:=5) h0 (by decide) (by decide) (by decide) rfl rfl rfl rfl ⟨(fun h=>by cases h),rfl,hQn,fun _ _=>rfl,fun r hr v hv=>dC (l:=bo (A / D) r) rfl v hv⟩ ⟨(fun h=>by cases h),rfl,hRn,fun r _=>by rw [← g3]; rfl,fun r hr v hv=>dC (l:=bo (A % D) r) rfl v hv⟩
set_option maxHeartbeats 1000000
open Go Go.Ae
theorem Mq:bh Tryz.prog 141 wM:=by
 refine bk Dk aP Tryz.func141 (enters_of Tryz.func141 (by kernel_rfl) rfl) (fun _=>rfl) (fun _=>rfl) ?_
 intro ⟨b,s⟩ hp;have hp:s.size≤549755813888:=hp;conv=>whnf
 refine aN (fun h1=>?_) (fun h1=>?_)
 ·have h1:¬ s.size≤7:=by
   have h1:=of_decide_eq_true h1;have h1:((s.size:Nat):Int) > 7:=h1;omega
  conv=>whnf
  simp only [wM,h1,if_false,decide_false]
 ·have h1:s.size≤7:=by
   have h1:=of_decide_eq_false h1;have h1:¬ ((s.size:Nat):Int) > 7:=h1;omega
  have fc:=h1;conv=>whnf
  refine .inl ⟨fun mm tz hz=>∃ (i:Nat) (N:Nat),bB (aG 1 (some (.pointer (some ⟨0,0,none⟩))::some (.int .i64 0)::some (.bool false)::some (.int .i64 N)::aG 7 (some (.int .i64 s.size)::some (.int .i64 i)::aG 16 []))) tz∧hz=[some (.aS true 2 [[.bool b,.string s]])]∧s.size - i=mm∧(i≤s.size∧N=ab s / C ^ (s.size - i)),.inl ⟨_,0,0,(.sk 1 (.aa (.aa (.aa (.aa (.sk 7 (.aa (.aa (.sk 16 .nil rfl))) rfl))))) rfl),rfl,rfl,?_⟩,?_⟩
  ·exact ⟨Nat.zero_le _,by rw [Nat.sub_zero,Nat.div_eq_of_lt (gn s)]⟩
  rintro mm aW _ ⟨i,N,aC,rfl,rfl,⟨hi,hN⟩⟩
  obtain ⟨az,rfl⟩:∃ az:Nat→Value,aW=zs az 0 1 (.pointer (some ⟨0,0,none⟩)::.int .i64 0::.bool false::.int .i64 N::zs az 5 7 (.int .i64 s.size::.int .i64 i::zs az 14 16 [])):=bI aC;clear aC;have al:=Cx s hi;rw [← hN] at al;have mF:=al;have al:=Nat.lt_of_lt_of_le al (nT (show i≤7 by omega))
  conv=>whnf
  refine aN (fun J=>?_) (fun J=>?_)
  ·have J:i < s.size:=by simpa using J
   have ax:=yr J;rw [← hN] at ax;have hb:bZ s i < 256:=we s i;have eN:((N:Nat):Int)*256+((bZ s i:Nat):Int)=((N*256+bZ s i:Nat):Int):=by omega
   conv=>whnf
   refine ⟨⟨by omega,by omega⟩,?_⟩
   try simp (disch:=omega) only [ay,bL,db,dD,cf,dU,dv,dW,c5,dh,dt,dB,dw,dK,toNat_cast,aB,Nat.zero_add,dT,toNat_0,toNat_1,Nat.sub_zero,dZ,ef,eF,eG,dM,dY,dV,eg]
   conv=>whnf
   have e3:IntKind.i64.wrap (((i:Nat):Int)+1)=((i+1:Nat):Int):=by rw [ay (by omega) (by omega)]; rfl
   have Jw:=Nat.lt_of_lt_of_le mF (Db (show i≤6 by omega))
   rw [Nw (by omega) hb,e3]
   refine .inl ⟨_,?_,i+1,N*256+bZ s i,(.sk 1 (.aa (.aa (.aa (.aa (.sk 7 (.aa (.aa (.sk 16 .nil rfl))) rfl))))) rfl),rfl,rfl,?_⟩
   ·omega
   ·exact ⟨by omega,ax.symm⟩
  ·have J:i=s.size:=by
    have J:¬ i < s.size:=by simpa using J
    omega
   subst J;rw [Nat.sub_self,Nat.pow_zero,Nat.div_one] at hN;subst hN;cases b with
   | true =>
    conv=>whnf
    try simp (disch:=omega) only [ay,bL,db,dD,cf,dU,dv,dW,c5,dh,dt,dB,dw,dK,toNat_cast,aB,Nat.zero_add,dT,toNat_0,toNat_1,Nat.sub_zero,dZ,ef,eF,eG,dM,dY,dV,eg]
    have e:IV.z (true,s)=-(ab s:Int):=rfl;simp only [wM,e,fc,if_true,decide_true,Int.zero_sub]
   | false =>
    conv=>whnf
    have e:IV.z (false,s)=(ab s:Int):=rfl;simp only [wM,e,fc,if_true,decide_true]
def Ei:Env:=En [(131,.q uJ),(135,.q uI),(139,.q Ct),(136,.q wA),(141,.p wM)]
theorem Ir:EnvOk Tryz.prog Ei:=bH ⟨GF,Cc,Wl,E3,Mq,trivial⟩ trivial
theorem r9:bh Tryz.prog 83 eY:=by
 refine bk Ir aP Tryz.func83 (enters_of Tryz.func83 (by kernel_rfl) rfl) (fun _=>rfl) (fun _=>rfl) ?_
 intro (n:Int) hp;have hp:-9223372036854775808≤n∧n < 9223372036854775808:=hp;conv=>whnf
 obtain ⟨N,hN⟩:∃ N:Nat,N=n.natAbs:=⟨_,rfl⟩;have Aw:N < 18446744073709551616:=by omega
 have hl:=MI Aw;refine aN (fun h1=>?_) (fun h1=>?_)
 ·have h1:n < 0:=of_decide_eq_true h1;have e1:IntKind.u64.wrap (0 - IntKind.u64.wrap n)=(N:Int):=by
   rw [BB,BB]; omega
  conv=>whnf
  simp only [e1];refine ⟨(decide (n < 0),some (2,N,2)),[1],rfl,⟨Og Aw,by decide⟩,?_⟩
  conv=>whnf
  refine ⟨MJ Aw,?_⟩;conv=>whnf
  refine ⟨_,rfl,?_⟩;conv=>whnf
  show ll (decide (n < 0)) N=aH n
  rw [jc]
  congr 1
  simp only [a9,h1,decide_true,decide_false,if_true,Bool.false_eq_true,if_false];omega
 ·have h1:¬ n < 0:=of_decide_eq_false h1;have e1:IntKind.u64.wrap n=(N:Int):=by
   rw [BB]; omega
  conv=>whnf
  simp only [e1];refine ⟨(decide (n < 0),some (2,N,2)),[1],rfl,⟨Og Aw,by decide⟩,?_⟩
  conv=>whnf
  refine ⟨MJ Aw,?_⟩;conv=>whnf
  refine ⟨_,rfl,?_⟩;conv=>whnf
  show ll (decide (n < 0)) N=aH n
  rw [jc]
  congr 1
  simp only [a9,h1,decide_true,decide_false,if_true,Bool.false_eq_true,if_false];omega
theorem OB:bh Tryz.prog 92 fi:=by
 refine bk Ir aP Tryz.func92 (enters_of Tryz.func92 (by kernel_rfl) rfl) (fun _=>rfl) (fun _=>rfl) ?_
 intro ⟨⟨b,s⟩,⟨c,t⟩⟩ hp;have hp:s.size≤549755813888∧t.size≤549755813888:=hp;conv=>whnf
 refine .inl ⟨12,[[],[0],[],[2],[0,1,2,3],[],[5],[5,6],[],[8],[5,6,7,8,9],[5,6,7,8,9,10],[0,1,2,3,4,5,6,7,8,9,10,11],[0,1,2,3,4,5,6,7,8,9,10,11,12]],by kernel_rfl,?_⟩
 conv=>whnf
 refine ⟨s,[],rfl,by show s.size≤1099511627776; omega,?_⟩
 conv=>whnf
 refine ⟨_,rfl,?_⟩;conv=>whnf
 refine ⟨t,[],rfl,by show t.size≤1099511627776; omega,?_⟩
 conv=>whnf
 refine ⟨_,rfl,?_⟩;conv=>whnf
 refine ⟨(ab s,aO,ab t,aO),[10,13],rfl,⟨IV.nl (i:=(b,s)) hp.1,IV.nl (i:=(c,t)) hp.2⟩,?_⟩;conv=>whnf
 refine ⟨ar.aE (fun h=>h) (fun r hr=>rfl),?_⟩
 conv=>whnf
 refine ⟨ar.aE (fun h=>h) (fun r hr=>rfl),?_⟩
 conv=>whnf
 refine ⟨_,rfl,?_⟩;conv=>whnf
 have g0:=IV.nl (i:=(b,s)) hp.1;have iu:=IV.nl (i:=(c,t)) hp.2;have g0:nl (ab s)≤137438953472:=g0;have iu:nl (ab t)≤137438953472:=iu;have hmul:=Un (ab s) (ab t);refine ⟨(b != c,some (nl (ab s*ab t),ab s*ab t,aO)),[14],rfl,⟨bW _,by omega⟩,?_⟩
 conv=>whnf
 refine ⟨ar.aE (fun h=>h) (fun r hr=>rfl),?_⟩
 conv=>whnf
 refine ⟨_,rfl,?_⟩;conv=>whnf
 show ll (b != c) (ab s*ab t)=_
 rw [jc,Vy]
 rfl
open Go Go.Ae
theorem abq:bh Tryz.prog 130 gP:=by
 refine bk Ir aP Tryz.func130 (enters_of Tryz.func130 (by kernel_rfl) rfl) (fun _=>rfl) (fun _=>rfl) ?_
 intro ⟨b,s⟩ hp;have hp:s.size≤549755813888:=hp;have g0:nl (ab s)≤137438953472:=IV.nl (i:=(b,s)) hp;conv=>whnf
 refine .inl ⟨6,[[],[0],[0,1],[],[3],[3,4],[0,1,2,3,4,5],[0,1,2,3,4,5,6]],by kernel_rfl,?_⟩
 conv=>whnf
 refine ⟨s,[],rfl,by show s.size≤1099511627776; omega,?_⟩
 conv=>whnf
 refine ⟨_,rfl,?_⟩;conv=>whnf
 refine ⟨(!b,some (nl (ab s),ab s,aO)),[7],rfl,⟨bW _,by omega⟩,?_⟩
 conv=>whnf
 refine ⟨ar.aE (fun h=>h) (fun r hr=>rfl),?_⟩
 conv=>whnf
 refine ⟨_,rfl,?_⟩;conv=>whnf
 show ll (!b) (ab s)=_
 rw [jc,FN]
 rfl
def Ej:Env:=En [(131,.q uJ),(135,.q uI),(142,.q CM),(143,.q Cs),(136,.q wA),(141,.p wM),(83,.p eY)]
theorem PW:EnvOk Tryz.prog Ej:=bH ⟨GF,Cc,YY,Wk,E3,Mq,r9,trivial⟩ trivial
theorem G9:bh Tryz.prog 97 iU:=by
 refine bk PW aP Tryz.func97 (enters_of Tryz.func97 (by kernel_rfl) rfl) (fun _=>rfl) (fun _=>rfl) ?_
 intro ⟨⟨b,s⟩,⟨c,t⟩⟩ hp;have hp:s.size≤549755813888∧t.size≤549755813888:=hp;have g0:nl (ab s)≤137438953472:=IV.nl (i:=(b,s)) hp.1;have iu:nl (ab t)≤137438953472:=IV.nl (i:=(c,t)) hp.2;conv=>whnf
 refine ⟨(b,s),rfl,hp.1,?_⟩;conv=>whnf
 refine aN (fun h1=>?_) (fun h1=>?_)
 ·have h1:s.size≤7:=of_decide_eq_true h1;conv=>whnf
  refine ⟨(c,t),rfl,hp.2,?_⟩;conv=>whnf
  refine aN (fun J=>?_) (fun J=>?_)
  ·have J:t.size≤7:=of_decide_eq_true J;conv=>whnf
   have z1:=Gr (i:=(b,s)) h1;have z2:=Gr (i:=(c,t)) J;have ew:IntKind.i64.wrap ((if (b,s).snd.size≤7 then IV.z (b,s) else 0)+if (c,t).snd.size≤7 then IV.z (c,t) else 0)=IV.z (b,s)+IV.z (c,t):=by
    rw [if_pos h1,if_pos J];exact ay (by omega) (by omega)
   rw [ew];refine ⟨IV.z (b,s)+IV.z (c,t),rfl,⟨by omega,by omega⟩,?_⟩
   conv=>whnf
   rfl
  ·conv=>whnf
   refine .inl ⟨5,[[],[0],[0,1],[],[3],[0,1,2,3,4],[0,1,2,3,4,5],[0,1,2,3,4,5,6]],by kernel_rfl,?_⟩
   conv=>whnf
   refine ⟨s,[],rfl,by show s.size≤1099511627776; omega,?_⟩
   conv=>whnf
   refine ⟨_,rfl,?_⟩;conv=>whnf
   refine ⟨t,[],rfl,by show t.size≤1099511627776; omega,?_⟩
   conv=>whnf
   refine ⟨_,rfl,?_⟩;conv=>whnf
   refine aN (fun h5=>?_) (fun h5=>?_)
   ·have h5:b=c:=eq_of_beq h5;conv=>whnf
    refine .inl ⟨5,[[],[0],[],[],[2,3],[0,1,2,3,4],[0,1,2,3,4,5]],by kernel_rfl,?_⟩
    conv=>whnf
    refine ⟨(ab s,aO,ab t,aO),[5,8],rfl,⟨g0,iu⟩,?_⟩;conv=>whnf
    refine ⟨ar.aE (fun h=>h) (fun r hr=>rfl),?_⟩
    conv=>whnf
    refine ⟨ar.aE (fun h=>h) (fun r hr=>rfl),?_⟩
    conv=>whnf
    refine ⟨_,rfl,?_⟩;conv=>whnf
    have hal:=L4 (ab s) (ab t);refine ⟨(b,some (nl (ab s+ab t),ab s+ab t,aO)),[13],rfl,⟨bW _,by omega⟩,?_⟩
    conv=>whnf
    refine ⟨ar.aE (fun h=>h) (fun r hr=>rfl),?_⟩
    conv=>whnf
    refine ⟨_,rfl,?_⟩;conv=>whnf
    show ll b (ab s+ab t)=aH (IV.z (b,s)+IV.z (c,t))
    rw [jc,LZ,h5]
    rfl
   ·have h5:b≠c:=by
     intro e;subst e;cases b <;> cases h5
    conv=>whnf
    refine ⟨(ab s,aO,ab t,aO),[5,8],rfl,⟨g0,iu⟩,?_⟩;conv=>whnf
    refine ⟨ar.aE (fun h=>h) (fun r hr=>rfl),?_⟩
    conv=>whnf
    refine ⟨ar.aE (fun h=>h) (fun r hr=>rfl),?_⟩
    conv=>whnf
    refine ⟨_,rfl,?_⟩;conv=>whnf
    refine aN (fun h6=>?_) (fun h6=>?_)
    ·have h6:ab s≤ab t:=by
      have h6:cL (ab s) (ab t) < 0:=of_decide_eq_true h6;unfold cL at h6
      split at h6
      ·omega
      ·split at h6 <;> omega
     have kO:=kR (Nat.sub_le (ab t) (ab s));conv=>whnf
     refine .inl ⟨5,[[],[0],[],[],[2,3],[0,1,2,3,4],[0,1,2,3,4,5]],by kernel_rfl,?_⟩
     conv=>whnf
     refine ⟨(ab t,aO,ab s,aO),[8,5],rfl,⟨⟨iu,g0⟩,h6⟩,?_⟩;conv=>whnf
     refine ⟨ar.aE (fun h=>h) (fun r hr=>rfl),?_⟩
     conv=>whnf
     refine ⟨ar.aE (fun h=>h) (fun r hr=>rfl),?_⟩
     conv=>whnf
     refine ⟨_,rfl,?_⟩;conv=>whnf
     refine ⟨(c,some (nl (ab t - ab s),ab t - ab s,aO)),[13],rfl,⟨bW _,by omega⟩,?_⟩
     conv=>whnf
     refine ⟨ar.aE (fun h=>h) (fun r hr=>rfl),?_⟩
     conv=>whnf
     refine ⟨_,rfl,?_⟩;conv=>whnf
     show ll c (ab t - ab s)=aH (IV.z (b,s)+IV.z (c,t))
     rw [jc,Bn (Ne.symm h5) h6,Int.add_comm]
     rfl
    ·have h6:ab t≤ab s:=by
      have h6:¬ cL (ab s) (ab t) < 0:=of_decide_eq_false h6;unfold cL at h6
      split at h6
      ·omega
      ·split at h6 <;> omega
     have kO:=kR (Nat.sub_le (ab s) (ab t));conv=>whnf
     refine .inl ⟨5,[[],[0],[],[],[2,3],[0,1,2,3,4],[0,1,2,3,4,5]],by kernel_rfl,?_⟩
     conv=>whnf
     refine ⟨(ab s,aO,ab t,aO),[5,8],rfl,⟨⟨g0,iu⟩,h6⟩,?_⟩;conv=>whnf
     refine ⟨ar.aE (fun h=>h) (fun r hr=>rfl),?_⟩
     conv=>whnf
     refine ⟨ar.aE (fun h=>h) (fun r hr=>rfl),?_⟩
     conv=>whnf
     refine ⟨_,rfl,?_⟩;conv=>whnf
     refine ⟨(b,some (nl (ab s - ab t),ab s - ab t,aO)),[13],rfl,⟨bW _,by omega⟩,?_⟩
     conv=>whnf
     refine ⟨ar.aE (fun h=>h) (fun r hr=>rfl),?_⟩
     conv=>whnf
     refine ⟨_,rfl,?_⟩;conv=>whnf
     show ll b (ab s - ab t)=aH (IV.z (b,s)+IV.z (c,t))
     rw [jc,Bn h5 h6]
     rfl
 ·conv=>whnf
  refine .inl ⟨5,[[],[0],[0,1],[],[3],[0,1,2,3,4],[0,1,2,3,4,5],[0,1,2,3,4,5,6]],by kernel_rfl,?_⟩
  conv=>whnf
  refine ⟨s,[],rfl,by show s.size≤1099511627776; omega,?_⟩
  conv=>whnf
  refine ⟨_,rfl,?_⟩;conv=>whnf
  refine ⟨t,[],rfl,by show t.size≤1099511627776; omega,?_⟩
  conv=>whnf
  refine ⟨_,rfl,?_⟩;conv=>whnf
  refine aN (fun h5=>?_) (fun h5=>?_)
  ·have h5:b=c:=eq_of_beq h5;conv=>whnf
   refine .inl ⟨5,[[],[0],[],[],[2,3],[0,1,2,3,4],[0,1,2,3,4,5]],by kernel_rfl,?_⟩
   conv=>whnf
   refine ⟨(ab s,aO,ab t,aO),[5,8],rfl,⟨g0,iu⟩,?_⟩;conv=>whnf
   refine ⟨ar.aE (fun h=>h) (fun r hr=>rfl),?_⟩
   conv=>whnf
   refine ⟨ar.aE (fun h=>h) (fun r hr=>rfl),?_⟩
   conv=>whnf
   refine ⟨_,rfl,?_⟩;conv=>whnf
   have hal:=L4 (ab s) (ab t);refine ⟨(b,some (nl (ab s+ab t),ab s+ab t,aO)),[13],rfl,⟨bW _,by omega⟩,?_⟩
   conv=>whnf
   refine ⟨ar.aE (fun h=>h) (fun r hr=>rfl),?_⟩
   conv=>whnf
   refine ⟨_,rfl,?_⟩;conv=>whnf
   show ll b (ab s+ab t)=aH (IV.z (b,s)+IV.z (c,t))
   rw [jc,LZ,h5]
   rfl
  ·have h5:b≠c:=by
    intro e;subst e;cases b <;> cases h5
   conv=>whnf
   refine ⟨(ab s,aO,ab t,aO),[5,8],rfl,⟨g0,iu⟩,?_⟩;conv=>whnf
   refine ⟨ar.aE (fun h=>h) (fun r hr=>rfl),?_⟩
   conv=>whnf
   refine ⟨ar.aE (fun h=>h) (fun r hr=>rfl),?_⟩
   conv=>whnf
   refine ⟨_,rfl,?_⟩;conv=>whnf
   refine aN (fun h6=>?_) (fun h6=>?_)
   ·have h6:ab s≤ab t:=by
     have h6:cL (ab s) (ab t) < 0:=of_decide_eq_true h6;unfold cL at h6
     split at h6
     ·omega
     ·split at h6 <;> omega
    have kO:=kR (Nat.sub_le (ab t) (ab s));conv=>whnf
    refine .inl ⟨5,[[],[0],[],[],[2,3],[0,1,2,3,4],[0,1,2,3,4,5]],by kernel_rfl,?_⟩
    conv=>whnf
    refine ⟨(ab t,aO,ab s,aO),[8,5],rfl,⟨⟨iu,g0⟩,h6⟩,?_⟩;conv=>whnf
    refine ⟨ar.aE (fun h=>h) (fun r hr=>rfl),?_⟩
    conv=>whnf
    refine ⟨ar.aE (fun h=>h) (fun r hr=>rfl),?_⟩
    conv=>whnf
    refine ⟨_,rfl,?_⟩;conv=>whnf
    refine ⟨(c,some (nl (ab t - ab s),ab t - ab s,aO)),[13],rfl,⟨bW _,by omega⟩,?_⟩
    conv=>whnf
    refine ⟨ar.aE (fun h=>h) (fun r hr=>rfl),?_⟩
    conv=>whnf
    refine ⟨_,rfl,?_⟩;conv=>whnf
    show ll c (ab t - ab s)=aH (IV.z (b,s)+IV.z (c,t))
    rw [jc,Bn (Ne.symm h5) h6,Int.add_comm]
    rfl
   ·have h6:ab t≤ab s:=by
     have h6:¬ cL (ab s) (ab t) < 0:=of_decide_eq_false h6;unfold cL at h6
     split at h6
     ·omega
     ·split at h6 <;> omega
    have kO:=kR (Nat.sub_le (ab s) (ab t));conv=>whnf
    refine .inl ⟨5,[[],[0],[],[],[2,3],[0,1,2,3,4],[0,1,2,3,4,5]],by kernel_rfl,?_⟩
    conv=>whnf
    refine ⟨(ab s,aO,ab t,aO),[5,8],rfl,⟨⟨g0,iu⟩,h6⟩,?_⟩;conv=>whnf
    refine ⟨ar.aE (fun h=>h) (fun r hr=>rfl),?_⟩
    conv=>whnf
    refine ⟨ar.aE (fun h=>h) (fun r hr=>rfl),?_⟩
    conv=>whnf
    refine ⟨_,rfl,?_⟩;conv=>whnf
    refine ⟨(b,some (nl (ab s - ab t),ab s - ab t,aO)),[13],rfl,⟨bW _,by omega⟩,?_⟩
    conv=>whnf
    refine ⟨ar.aE (fun h=>h) (fun r hr=>rfl),?_⟩
    conv=>whnf
    refine ⟨_,rfl,?_⟩;conv=>whnf
    show ll b (ab s - ab t)=aH (IV.z (b,s)+IV.z (c,t))
    rw [jc,Bn h5 h6]
    rfl
def Ek:Env:=En [(97,.p iU)]
theorem aeg:EnvOk Tryz.prog Ek:=bH ⟨G9,trivial⟩ trivial
theorem abr:bh Tryz.prog 164 mn:=by
 refine bk aeg aP Tryz.func164 (enters_of Tryz.func164 (by kernel_rfl) rfl) (fun _=>rfl) (fun _=>rfl) ?_
 intro ⟨⟨b,s⟩,⟨c,t⟩⟩ hp;have hp:s.size≤549755813888∧t.size≤549755813888:=hp;conv=>whnf
 refine ⟨((b,s),(!c,t)),rfl,hp,?_⟩;conv=>whnf
 show aH (IV.z (b,s)+a9 (!c) (ab t))=aH (IV.z (b,s) - IV.z (c,t))
 rw [FN]
 rfl
theorem Ha:bh Tryz.prog 87 lu:=by
 refine bk PW aP Tryz.func87 (enters_of Tryz.func87 (by kernel_rfl) rfl) (fun _=>rfl) (fun _=>rfl) ?_
 intro ⟨⟨b,s⟩,⟨c,t⟩⟩ hp;have hp:s.size≤549755813888∧t.size≤549755813888:=hp;have g0:nl (ab s)≤137438953472:=IV.nl (i:=(b,s)) hp.1;have iu:nl (ab t)≤137438953472:=IV.nl (i:=(c,t)) hp.2;conv=>whnf
 refine .inl ⟨5,[[],[0],[0,1],[],[3],[0,1,2,3,4],[0,1,2,3,4,5],[0,1,2,3,4,5,6]],by kernel_rfl,?_⟩
 conv=>whnf
 refine ⟨s,[],rfl,by show s.size≤1099511627776; omega,?_⟩
 conv=>whnf
 refine ⟨_,rfl,?_⟩;conv=>whnf
 refine ⟨t,[],rfl,by show t.size≤1099511627776; omega,?_⟩
 conv=>whnf
 refine ⟨_,rfl,?_⟩;conv=>whnf
 have fin:∀ (z:Int),z=dO (IV.z (b,s)) (IV.z (c,t))→Value.int .i64 z=lu.val ((b,s),(c,t)):=fun z h=>by rw [h]; rfl
 cases b with
 | false =>
  conv=>whnf
  cases c with
  | false =>
   conv=>whnf
   refine ⟨(ab s,aO,ab t,aO),[4,7],rfl,⟨g0,iu⟩,?_⟩;conv=>whnf
   refine ⟨ar.aE (fun h=>h) (fun r hr=>rfl),?_⟩
   conv=>whnf
   refine ⟨ar.aE (fun h=>h) (fun r hr=>rfl),?_⟩
   conv=>whnf
   refine ⟨_,rfl,?_⟩;conv=>whnf
   exact fin _ (BF _ _).symm
  | true =>
   conv=>whnf
   rcases Nat.eq_zero_or_pos (ab t) with h1 | h1
   ·rw [wC h1];conv=>whnf
    refine ⟨(ab s,aO,ab t,aO),[4,7],rfl,⟨g0,iu⟩,?_⟩;conv=>whnf
    refine ⟨ar.aE (fun h=>h) (fun r hr=>rfl),?_⟩
    conv=>whnf
    refine ⟨ar.aE (fun h=>h) (fun r hr=>rfl),?_⟩
    conv=>whnf
    refine ⟨_,rfl,?_⟩;conv=>whnf
    refine fin _ ?_;show cL (ab s) (ab t)=dO ((ab s:Nat):Int) (-((ab t:Nat):Int))
    rw [h1];exact (BF _ 0).symm
   ·rw [wK h1];conv=>whnf
    exact fin _ (ub (show -((ab t:Nat):Int) < ((ab s:Nat):Int) by omega)).symm
 | true =>
  conv=>whnf
  rcases Nat.eq_zero_or_pos (ab s) with J | J
  ·try rw [wC J]
   cases c with
   | false =>
    conv=>whnf
    try rw [wC J]
    conv=>whnf
    refine ⟨(ab s,aO,ab t,aO),[4,7],rfl,⟨g0,iu⟩,?_⟩;conv=>whnf
    refine ⟨ar.aE (fun h=>h) (fun r hr=>rfl),?_⟩
    conv=>whnf
    refine ⟨ar.aE (fun h=>h) (fun r hr=>rfl),?_⟩
    conv=>whnf
    refine ⟨_,rfl,?_⟩;conv=>whnf
    refine fin _ ?_;show cL (ab s) (ab t)=dO (-((ab s:Nat):Int)) ((ab t:Nat):Int)
    rw [J];exact (BF 0 _).symm
   | true =>
    conv=>whnf
    try rw [wC J]
    conv=>whnf
    rcases Nat.eq_zero_or_pos (ab t) with h1 | h1
    ·rw [wC h1];conv=>whnf
     refine ⟨(ab s,aO,ab t,aO),[4,7],rfl,⟨g0,iu⟩,?_⟩;conv=>whnf
     refine ⟨ar.aE (fun h=>h) (fun r hr=>rfl),?_⟩
     conv=>whnf
     refine ⟨ar.aE (fun h=>h) (fun r hr=>rfl),?_⟩
     conv=>whnf
     refine ⟨_,rfl,?_⟩;conv=>whnf
     refine fin _ ?_;show cL (ab s) (ab t)=dO (-((ab s:Nat):Int)) (-((ab t:Nat):Int))
     rw [h1,J]
     rfl
    ·rw [wK h1];conv=>whnf
     exact fin _ (ub (show -((ab t:Nat):Int) < -((ab s:Nat):Int) by omega)).symm
  ·try rw [wK J]
   cases c with
   | false =>
    conv=>whnf
    try rw [wK J]
    conv=>whnf
    exact fin _ (ua (show -((ab s:Nat):Int) < ((ab t:Nat):Int) by omega)).symm
   | true =>
    conv=>whnf
    try rw [wK J]
    conv=>whnf
    rcases Nat.eq_zero_or_pos (ab t) with h1 | h1
    ·rw [wC h1];conv=>whnf
     exact fin _ (ua (show -((ab s:Nat):Int) < -((ab t:Nat):Int) by omega)).symm
    ·rw [wK h1];conv=>whnf
     refine ⟨(ab t,aO,ab s,aO),[7,4],rfl,⟨iu,g0⟩,?_⟩;conv=>whnf
     refine ⟨ar.aE (fun h=>h) (fun r hr=>rfl),?_⟩
     conv=>whnf
     refine ⟨ar.aE (fun h=>h) (fun r hr=>rfl),?_⟩
     conv=>whnf
     refine ⟨_,rfl,?_⟩;conv=>whnf
     exact fin _ (MH _ _).symm
open Go Go.Ae
def El:Env:=En [(131,.q uJ),(135,.q uI),(83,.p eY),(97,.p iU),(164,.p mn)] [(163,Ak gz)]
theorem PX:EnvOk Tryz.prog El:=bH ⟨GF,Cc,r9,G9,abr,trivial⟩ ⟨UO,trivial⟩
theorem abt:bh Tryz.prog 133 uZ:=by
 refine bk PX aP Tryz.func133 (enters_of Tryz.func133 (by kernel_rfl) rfl) (fun _=>rfl) (fun _=>rfl) ?_
 intro ⟨⟨b,s⟩,⟨c,t⟩⟩ hp;have hp:s.size≤549755813888∧t.size≤549755813888:=hp;have g0:nl (ab s)≤137438953472:=IV.nl (i:=(b,s)) hp.1;have iu:nl (ab t)≤137438953472:=IV.nl (i:=(c,t)) hp.2;conv=>whnf
 refine .inl ⟨5,[[],[0],[0,1],[],[3],[0,1,2,3,4],[0,1,2,3,4,5],[0,1,2,3,4,5,6]],by kernel_rfl,?_⟩
 conv=>whnf
 refine ⟨s,[],rfl,by show s.size≤1099511627776; omega,?_⟩
 conv=>whnf
 refine ⟨_,rfl,?_⟩;conv=>whnf
 refine ⟨t,[],rfl,by show t.size≤1099511627776; omega,?_⟩
 conv=>whnf
 refine ⟨_,rfl,?_⟩;conv=>whnf
 refine .inl ⟨fun mm tz hz=>∃ (A:Nat) (D:Nat) (ca:Nat) (cd:Nat),bB (aG 4 (some (.pointer (some ⟨0,0,none⟩))::some (.slice (some ⟨1,0,none⟩) (nl A) ca)::some (.slice (some ⟨2,0,none⟩) (nl D) cd)::aG 21 [])) tz∧hz=[some (.aS true 2 [[.bool false,.string ⟨#[]⟩]]),some (dN A),some (dN D)]∧D=mm∧((nl A≤137438953472∧nl D≤137438953472)∧Nat.gcd A D=Nat.gcd (ab s) (ab t)),.inr ⟨[2,5,8],[4,5,6],?_⟩,?_⟩
 ·conv=>whnf
  intro _;conv=>whnf
  refine ⟨_,ab s,ab t,aO,aO,(.sk 4 (.aa (.aa (.aa (.sk 21 .nil rfl)))) rfl),rfl,rfl,?_⟩;exact ⟨⟨g0,iu⟩,rfl⟩
 rintro mm aW _ ⟨A,D,ca,cd,aC,rfl,rfl,⟨cE,hg⟩⟩
 obtain ⟨az,rfl⟩:∃ az:Nat→Value,aW=zs az 0 4 (.pointer (some ⟨0,0,none⟩)::.slice (some ⟨1,0,none⟩) (nl A) ca::.slice (some ⟨2,0,none⟩) (nl D) cd::zs az 7 21 []):=bI aC;clear aC;conv=>whnf
 refine aN (fun h1=>?_) (fun h1=>?_)
 ·have h1:=WR (of_decide_eq_true h1);conv=>whnf
  refine ⟨(A,ca,D,cd),[1,2],rfl,⟨cE,by show D≠0; omega⟩,by decide,?_⟩
  rcases Nat.lt_or_ge A D with J | J
  ·have ev:gz.val (A,ca,D,cd)=.tuple ⟨[.slice none 0 0,one A ca]⟩:=if_pos J;have en:gz.new (A,ca,D,cd)=[]:=if_pos J;rw [ev,en];conv=>whnf
   refine ⟨ar.aE (fun h=>h) (fun r hr=>rfl),?_⟩
   conv=>whnf
   refine ⟨ar.aE (fun h=>h) (fun r hr=>rfl),?_⟩
   conv=>whnf
   refine ⟨_,rfl,?_⟩;conv=>whnf
   refine .inr ⟨[0,2,1],[4,5,6],?_⟩;conv=>whnf
   intro _;conv=>whnf
   refine ⟨_,?_,D,A,cd,ca,(.sk 4 (.aa (.aa (.aa (.sk 21 .nil rfl)))) rfl),rfl,rfl,?_⟩
   ·omega
   ·exact ⟨⟨cE.2,cE.1⟩,by rw [Nat.gcd_comm]; exact hg⟩
  ·have ev:gz.val (A,ca,D,cd)=.tuple ⟨[kI 2 (A / D),kI 3 (A % D)]⟩:=if_neg (Nat.not_lt.2 J);have en:gz.new (A,ca,D,cd)=[dN (A / D),dN (A % D)]:=if_neg (Nat.not_lt.2 J);rw [ev,en];conv=>whnf
   refine ⟨ar.aE (fun h=>h) (fun r hr=>rfl),?_⟩
   conv=>whnf
   refine ⟨ar.aE (fun h=>h) (fun r hr=>rfl),?_⟩
   conv=>whnf
   refine ⟨_,rfl,?_⟩;conv=>whnf
   have hm:=Nat.mod_lt A h1;have kO:=kR (Nat.le_of_lt hm);refine .inr ⟨[0,2,4],[4,5,6],?_⟩;conv=>whnf
   intro _;conv=>whnf
   refine ⟨_,?_,D,A % D,cd,aO,(.sk 4 (.aa (.aa (.aa (.sk 21 .nil rfl)))) rfl),rfl,rfl,?_⟩
   ·omega
   ·exact ⟨⟨cE.2,by omega⟩,by rw [Nat.gcd_comm,← Nat.gcd_rec,Nat.gcd_comm]; exact hg⟩
 ·have h1:=SZ (of_decide_eq_false h1);subst h1;rw [Nat.gcd_zero_right] at hg;conv=>whnf
  refine ⟨(false,some (nl A,A,ca)),[1],rfl,⟨bW _,by omega⟩,?_⟩
  conv=>whnf
  refine ⟨ar.aE (fun h=>h) (fun r hr=>rfl),?_⟩
  conv=>whnf
  refine ⟨_,rfl,?_⟩;conv=>whnf
  show ll false A=aH ((Int.gcd (IV.z (b,s)) (IV.z (c,t)):Nat):Int)
  rw [jc,hg];unfold Int.gcd IV.z;rw [tV,tV]
  rfl
theorem abu:bh Tryz.prog 134 iF:=by
 refine bk PX aP Tryz.func134 (enters_of Tryz.func134 (by kernel_rfl) rfl) (fun _=>rfl) (fun _=>rfl) ?_
 intro ⟨⟨b,s⟩,⟨c,t⟩⟩ hp;have hp:s.size≤549755813888∧t.size≤549755813888:=hp;have g0:nl (ab s)≤137438953472:=IV.nl (i:=(b,s)) hp.1;have iu:nl (ab t)≤137438953472:=IV.nl (i:=(c,t)) hp.2;conv=>whnf
 refine ⟨t,[],rfl,by show t.size≤1099511627776; omega,?_⟩
 conv=>whnf
 refine ⟨_,rfl,?_⟩;conv=>whnf
 refine aN (fun h1=>?_) (fun h1=>?_)
 ·have h1:ab t=0:=by
   have h1:((nl (ab t):Nat):Int)=0:=by simpa using h1
   exact K7 (by omega)
  have hz:IV.z (c,t)=0:=Fm.2 h1;conv=>whnf
  have e:Int.fdiv (IV.z (b,s)) 0=0:=Int.fdiv_zero _;simp only [iF,hz,e,if_true,wg]
  rfl
 ·have h1:ab t≠0:=by
   intro e;rw [e,rP] at h1;cases h1
  conv=>whnf
  refine ⟨s,[],rfl,by show s.size≤1099511627776; omega,?_⟩
  conv=>whnf
  refine ⟨_,rfl,?_⟩;conv=>whnf
  refine ⟨(ab s,aO,ab t,aO),[5,4],rfl,⟨⟨g0,iu⟩,h1⟩,by decide,?_⟩
  have pC:0 < ab t:=Nat.pos_of_ne_zero h1;rcases Nat.lt_or_ge (ab s) (ab t) with J | J
  ·rw [show gz.val (ab s,aO,ab t,aO)=.tuple ⟨[.slice none 0 0,one (ab s) aO]⟩ from if_pos J,show gz.new (ab s,aO,ab t,aO)=[] from if_pos J]
   have hQ:0=ab s / ab t:=(Nat.div_eq_of_lt J).symm;have hR:ab s=ab s % ab t:=(Nat.mod_eq_of_lt J).symm;conv=>whnf
   refine ⟨ar.aE (fun h=>h) (fun r hr=>rfl),?_⟩
   conv=>whnf
   refine ⟨ar.aE (fun h=>h) (fun r hr=>rfl),?_⟩
   conv=>whnf
   refine ⟨_,rfl,?_⟩;conv=>whnf
   refine .inl ⟨13,[[],[0],[],[2],[0,1,2,3],[],[0,1,2,3,4,5],[],[7],[],[0,1,2,3,4,5,6,7,8,9],[],[],[0,1,2,3,4,5,6,7,8,9,10,11,12],[0,1,2,3,4,5,6,7,8,9,10,11,12,13]],by kernel_rfl,?_⟩
   conv=>whnf
   refine ⟨(b != c,none),[],rfl,trivial,?_⟩;conv=>whnf
   skip
   conv=>whnf
   obtain ⟨qs,rl⟩:∃ qs,qs=nb (0):=⟨_,rfl⟩;obtain ⟨qb,qR⟩:∃ qb:Bool,qb=((b != c) && (0) != 0):=⟨_,rfl⟩;obtain ⟨rs,iI⟩:∃ rs,rs=nb (ab s):=⟨_,rfl⟩;obtain ⟨rb,vC⟩:∃ rb:Bool,rb=(b && (ab s) != 0):=⟨_,rfl⟩;refine ⟨.agg ⟨[.bool qb,.string qs]⟩,by rw [rl,qR]; rfl,?_⟩
   conv=>whnf
   refine ⟨(b,some (nl (ab s),ab s,aO)),[5],rfl,⟨bW _,by omega⟩,?_⟩
   conv=>whnf
   refine ⟨ar.aE (fun h=>h) (fun r hr=>rfl),?_⟩
   conv=>whnf
   refine ⟨.agg ⟨[.bool rb,.string rs]⟩,by rw [iI,vC]; rfl,?_⟩
   conv=>whnf
   have eQ:Value.agg ⟨[.bool qb,.string qs]⟩=aH (a9 (b != c) (ab s / ab t)):=by rw [rl,qR,← hQ]; exact jc _ _
   have eR:Value.agg ⟨[.bool rb,.string rs]⟩=aH (a9 b (ab s % ab t)):=by rw [iI,vC,← hR]; exact jc _ _
   have fin:∀ (q r:Value),q=aH (Int.fdiv (IV.z (b,s)) (IV.z (c,t)))→r=aH (Int.fmod (IV.z (b,s)) (IV.z (c,t)))→Value.tuple ⟨[q,r,.int .i64 0]⟩=iF.val ((b,s),(c,t)):=fun q r hq hr=>by
    have hz:IV.z (c,t)≠0:=fun e=>h1 (Fm.1 e)
    simp only [iF,if_neg hz];rw [hq,hr]
   rcases Nat.eq_zero_or_pos (ab s) with h3 | h3
   ·rw [show (!rs.toList == (⟨#[]⟩:ByteArray).toList)=false by rw [iI]; exact wD h3]
    conv=>whnf
    refine .inr (.inl ⟨(.br 0 (.br 1 (.br 2 (.br 3 (.br 4 .leaf .leaf) .leaf) .leaf) (.br 2 (.br 1 (.br 3 (.br 4 .leaf .leaf) .leaf) .leaf) .leaf)) (.br 1 (.br 0 (.br 2 (.br 3 (.br 4 .leaf .leaf) .leaf) .leaf) .leaf) .leaf)),by kernel_rfl,?_⟩)
    have f1:=wh (b:=b) (c:=c) pC (.inl (show ab s % ab t=0 by rw [← hR]; exact h3))
    repeat' ((conv=>whnf); first | exact True.intro | refine And.intro ?_ ?_)
    all_goals conv=>whnf
    all_goals exact fin _ _ (eQ.trans (congrArg aH f1.1.symm)) (eR.trans (congrArg aH f1.2.symm))
   ·rw [show (!rs.toList == (⟨#[]⟩:ByteArray).toList)=true by rw [iI]; exact wL (Nat.ne_of_gt h3)]
    conv=>whnf
    refine aN (fun h4=>?_) (fun h4=>?_)
    ·conv=>whnf
     refine .inl ⟨5,[[],[],[0,1],[],[],[0,1,2,3,4],[0,1,2,3,4,5],[0,1,2,3,4,5,6]],by kernel_rfl,?_⟩
     conv=>whnf
     have h4:b≠c:=by
      intro e;subst e;cases b <;> cases h4
     have f1:=ES (b:=b) (c:=c) pC (show ab s % ab t≠0 by rw [← hR]; exact Nat.ne_of_gt h3) h4
     have DW:IV.z (qb,qs)=a9 (b != c) (ab s / ab t):=by rw [rl,qR,← hQ]; exact Cw _ _
     have pD:IV.z (rb,rs)=a9 b (ab s % ab t):=by rw [iI,vC,← hR]; exact Cw _ _
     have sq:qs.size≤s.size:=by rw [rl,hQ]; exact Bb (Nat.div_le_self _ _)
     have sr:rs.size≤s.size:=by rw [iI,hR]; exact Bb (Nat.mod_le _ _)
     have s1:=GW;refine ⟨(1:Int),rfl,⟨by decide,by decide⟩,?_⟩
     obtain ⟨v1,lM⟩:∃ v1,v1=nb 1:=⟨_,rfl⟩;rw [show eY.val (1:Int)=.agg ⟨[.bool false,.string v1]⟩ by rw [lM]; rfl]
     rw [← lM] at s1;conv=>whnf
     refine ⟨((qb,qs),(false,v1)),rfl,⟨by show qs.size≤_; omega,by show v1.size≤_; omega⟩,?_⟩
     obtain ⟨q2,fj⟩:∃ q2,q2=nb (IV.z (qb,qs) - IV.z (false,v1)).natAbs:=⟨_,rfl⟩;obtain ⟨b2,dF⟩:∃ b2:Bool,b2=decide (IV.z (qb,qs) - IV.z (false,v1) < 0):=⟨_,rfl⟩;rw [show mn.val ((qb,qs),(false,v1))=.agg ⟨[.bool b2,.string q2]⟩ by rw [fj,dF]; rfl]
     conv=>whnf
     refine ⟨((rb,rs),(c,t)),rfl,⟨by show rs.size≤_; omega,hp.2⟩,?_⟩
     obtain ⟨q3,gZ⟩:∃ q3,q3=nb (IV.z (rb,rs)+IV.z (c,t)).natAbs:=⟨_,rfl⟩;obtain ⟨b3,s3⟩:∃ b3:Bool,b3=decide (IV.z (rb,rs)+IV.z (c,t) < 0):=⟨_,rfl⟩;rw [show iU.val ((rb,rs),(c,t))=.agg ⟨[.bool b3,.string q3]⟩ by rw [gZ,s3]; rfl]
     have e2:Value.agg ⟨[.bool b2,.string q2]⟩=aH (a9 (b != c) (ab s / ab t) - 1):=by
      have:IV.z (false,v1)=1:=by rw [lM]; show a9 false (ab (nb 1))=1; rw [g8]; rfl
      rw [fj,dF,DW,this]; rfl
     have e3:Value.agg ⟨[.bool b3,.string q3]⟩=aH (a9 b (ab s % ab t)+a9 c (ab t)):=by
      rw [gZ,s3,pD]; rfl
     conv=>whnf
     refine .inr (.inl ⟨(.br 0 (.br 1 (.br 2 (.br 3 (.br 4 .leaf .leaf) .leaf) .leaf) (.br 2 (.br 1 (.br 3 (.br 4 .leaf .leaf) .leaf) .leaf) .leaf)) (.br 1 (.br 0 (.br 2 (.br 3 (.br 4 .leaf .leaf) .leaf) .leaf) .leaf) .leaf)),by kernel_rfl,?_⟩)
     repeat' ((conv=>whnf); first | exact True.intro | refine And.intro ?_ ?_)
     all_goals conv=>whnf
     all_goals exact fin _ _ (e2.trans (congrArg aH f1.1.symm)) (e3.trans (congrArg aH f1.2.symm))
    ·conv=>whnf
     refine .inr (.inl ⟨(.br 0 (.br 1 (.br 2 (.br 3 (.br 4 .leaf .leaf) .leaf) .leaf) (.br 2 (.br 1 (.br 3 (.br 4 .leaf .leaf) .leaf) .leaf) .leaf)) (.br 1 (.br 0 (.br 2 (.br 3 (.br 4 .leaf .leaf) .leaf) .leaf) .leaf) .leaf)),by kernel_rfl,?_⟩)
     have h4:b=c:=by
      cases b <;> cases c <;> first | rfl | cases h4
     have f1:=wh (b:=b) (c:=c) (A:=ab s) pC (.inr h4)
     repeat' ((conv=>whnf); first | exact True.intro | refine And.intro ?_ ?_)
     all_goals conv=>whnf
     all_goals exact fin _ _ (eQ.trans (congrArg aH f1.1.symm)) (eR.trans (congrArg aH f1.2.symm))
  ·rw [show gz.val (ab s,aO,ab t,aO)=.tuple ⟨[kI 2 (ab s / ab t),kI 3 (ab s % ab t)]⟩ from if_neg (Nat.not_lt.2 J),show gz.new (ab s,aO,ab t,aO)=[dN (ab s / ab t),dN (ab s % ab t)] from if_neg (Nat.not_lt.2 J)]
   have hQ:ab s / ab t=ab s / ab t:=rfl;have hR:ab s % ab t=ab s % ab t:=rfl;conv=>whnf
   refine ⟨ar.aE (fun h=>h) (fun r hr=>rfl),?_⟩
   conv=>whnf
   refine ⟨ar.aE (fun h=>h) (fun r hr=>rfl),?_⟩
   conv=>whnf
   refine ⟨_,rfl,?_⟩;conv=>whnf
   refine .inl ⟨13,[[],[0],[],[2],[0,1,2,3],[],[0,1,2,3,4,5],[],[7],[],[0,1,2,3,4,5,6,7,8,9],[],[],[0,1,2,3,4,5,6,7,8,9,10,11,12],[0,1,2,3,4,5,6,7,8,9,10,11,12,13]],by kernel_rfl,?_⟩
   conv=>whnf
   refine ⟨(b != c,some (nl (ab s / ab t),ab s / ab t,aO)),[6],rfl,⟨bW _,by have:=kR (Nat.div_le_self (ab s) (ab t)); omega⟩,?_⟩
   conv=>whnf
   refine ⟨ar.aE (fun h=>h) (fun r hr=>rfl),?_⟩
   conv=>whnf
   obtain ⟨qs,rl⟩:∃ qs,qs=nb (ab s / ab t):=⟨_,rfl⟩;obtain ⟨qb,qR⟩:∃ qb:Bool,qb=((b != c) && (ab s / ab t) != 0):=⟨_,rfl⟩;obtain ⟨rs,iI⟩:∃ rs,rs=nb (ab s % ab t):=⟨_,rfl⟩;obtain ⟨rb,vC⟩:∃ rb:Bool,rb=(b && (ab s % ab t) != 0):=⟨_,rfl⟩;refine ⟨.agg ⟨[.bool qb,.string qs]⟩,by rw [rl,qR]; rfl,?_⟩
   conv=>whnf
   refine ⟨(b,some (nl (ab s % ab t),ab s % ab t,aO)),[7],rfl,⟨bW _,by have:=kR (Nat.mod_le (ab s) (ab t)); omega⟩,?_⟩
   conv=>whnf
   refine ⟨ar.aE (fun h=>h) (fun r hr=>rfl),?_⟩
   conv=>whnf
   refine ⟨.agg ⟨[.bool rb,.string rs]⟩,by rw [iI,vC]; rfl,?_⟩
   conv=>whnf
   have eQ:Value.agg ⟨[.bool qb,.string qs]⟩=aH (a9 (b != c) (ab s / ab t)):=by rw [rl,qR,← hQ]; exact jc _ _
   have eR:Value.agg ⟨[.bool rb,.string rs]⟩=aH (a9 b (ab s % ab t)):=by rw [iI,vC,← hR]; exact jc _ _
   have fin:∀ (q r:Value),q=aH (Int.fdiv (IV.z (b,s)) (IV.z (c,t)))→r=aH (Int.fmod (IV.z (b,s)) (IV.z (c,t)))→Value.tuple ⟨[q,r,.int .i64 0]⟩=iF.val ((b,s),(c,t)):=fun q r hq hr=>by
    have hz:IV.z (c,t)≠0:=fun e=>h1 (Fm.1 e)
    simp only [iF,if_neg hz];rw [hq,hr]
   rcases Nat.eq_zero_or_pos (ab s % ab t) with h3 | h3
   ·rw [show (!rs.toList == (⟨#[]⟩:ByteArray).toList)=false by rw [iI]; exact wD h3]
    conv=>whnf
    refine .inr (.inl ⟨(.br 0 (.br 1 (.br 2 (.br 3 (.br 4 .leaf .leaf) .leaf) .leaf) (.br 2 (.br 1 (.br 3 (.br 4 .leaf .leaf) .leaf) .leaf) .leaf)) (.br 1 (.br 0 (.br 2 (.br 3 (.br 4 .leaf .leaf) .leaf) .leaf) .leaf) .leaf)),by kernel_rfl,?_⟩)
    have f1:=wh (b:=b) (c:=c) pC (.inl (show ab s % ab t=0 by rw [← hR]; exact h3))
    repeat' ((conv=>whnf); first | exact True.intro | refine And.intro ?_ ?_)
    all_goals conv=>whnf
    all_goals exact fin _ _ (eQ.trans (congrArg aH f1.1.symm)) (eR.trans (congrArg aH f1.2.symm))
   ·rw [show (!rs.toList == (⟨#[]⟩:ByteArray).toList)=true by rw [iI]; exact wL (Nat.ne_of_gt h3)]
    conv=>whnf
    refine aN (fun h4=>?_) (fun h4=>?_)
    ·conv=>whnf
     refine .inl ⟨5,[[],[],[0,1],[],[],[0,1,2,3,4],[0,1,2,3,4,5],[0,1,2,3,4,5,6]],by kernel_rfl,?_⟩
     conv=>whnf
     have h4:b≠c:=by
      intro e;subst e;cases b <;> cases h4
     have f1:=ES (b:=b) (c:=c) pC (show ab s % ab t≠0 by rw [← hR]; exact Nat.ne_of_gt h3) h4
     have DW:IV.z (qb,qs)=a9 (b != c) (ab s / ab t):=by rw [rl,qR,← hQ]; exact Cw _ _
     have pD:IV.z (rb,rs)=a9 b (ab s % ab t):=by rw [iI,vC,← hR]; exact Cw _ _
     have sq:qs.size≤s.size:=by rw [rl,hQ]; exact Bb (Nat.div_le_self _ _)
     have sr:rs.size≤s.size:=by rw [iI,hR]; exact Bb (Nat.mod_le _ _)
     have s1:=GW;refine ⟨(1:Int),rfl,⟨by decide,by decide⟩,?_⟩
     obtain ⟨v1,lM⟩:∃ v1,v1=nb 1:=⟨_,rfl⟩;rw [show eY.val (1:Int)=.agg ⟨[.bool false,.string v1]⟩ by rw [lM]; rfl]
     rw [← lM] at s1;conv=>whnf
     refine ⟨((qb,qs),(false,v1)),rfl,⟨by show qs.size≤_; omega,by show v1.size≤_; omega⟩,?_⟩
     obtain ⟨q2,fj⟩:∃ q2,q2=nb (IV.z (qb,qs) - IV.z (false,v1)).natAbs:=⟨_,rfl⟩;obtain ⟨b2,dF⟩:∃ b2:Bool,b2=decide (IV.z (qb,qs) - IV.z (false,v1) < 0):=⟨_,rfl⟩;rw [show mn.val ((qb,qs),(false,v1))=.agg ⟨[.bool b2,.string q2]⟩ by rw [fj,dF]; rfl]
     conv=>whnf
     refine ⟨((rb,rs),(c,t)),rfl,⟨by show rs.size≤_; omega,hp.2⟩,?_⟩
     obtain ⟨q3,gZ⟩:∃ q3,q3=nb (IV.z (rb,rs)+IV.z (c,t)).natAbs:=⟨_,rfl⟩;obtain ⟨b3,s3⟩:∃ b3:Bool,b3=decide (IV.z (rb,rs)+IV.z (c,t) < 0):=⟨_,rfl⟩;rw [show iU.val ((rb,rs),(c,t))=.agg ⟨[.bool b3,.string q3]⟩ by rw [gZ,s3]; rfl]
     have e2:Value.agg ⟨[.bool b2,.string q2]⟩=aH (a9 (b != c) (ab s / ab t) - 1):=by
      have:IV.z (false,v1)=1:=by rw [lM]; show a9 false (ab (nb 1))=1; rw [g8]; rfl
      rw [fj,dF,DW,this]; rfl
     have e3:Value.agg ⟨[.bool b3,.string q3]⟩=aH (a9 b (ab s % ab t)+a9 c (ab t)):=by
      rw [gZ,s3,pD]; rfl
     conv=>whnf
     refine .inr (.inl ⟨(.br 0 (.br 1 (.br 2 (.br 3 (.br 4 .leaf .leaf) .leaf) .leaf) (.br 2 (.br 1 (.br 3 (.br 4 .leaf .leaf) .leaf) .leaf) .leaf)) (.br 1 (.br 0 (.br 2 (.br 3 (.br 4 .leaf .leaf) .leaf) .leaf) .leaf) .leaf)),by kernel_rfl,?_⟩)
     repeat' ((conv=>whnf); first | exact True.intro | refine And.intro ?_ ?_)
     all_goals conv=>whnf
     all_goals exact fin _ _ (e2.trans (congrArg aH f1.1.symm)) (e3.trans (congrArg aH f1.2.symm))
    ·conv=>whnf
     refine .inr (.inl ⟨(.br 0 (.br 1 (.br 2 (.br 3 (.br 4 .leaf .leaf) .leaf) .leaf) (.br 2 (.br 1 (.br 3 (.br 4 .leaf .leaf) .leaf) .leaf) .leaf)) (.br 1 (.br 0 (.br 2 (.br 3 (.br 4 .leaf .leaf) .leaf) .leaf) .leaf) .leaf)),by kernel_rfl,?_⟩)
     have h4:b=c:=by
      cases b <;> cases c <;> first | rfl | cases h4
     have f1:=wh (b:=b) (c:=c) (A:=ab s) pC (.inr h4)
     repeat' ((conv=>whnf); first | exact True.intro | refine And.intro ?_ ?_)
     all_goals conv=>whnf
     all_goals exact fin _ _ (eQ.trans (congrArg aH f1.1.symm)) (eR.trans (congrArg aH f1.2.symm))
open Go Go.Ae
theorem BN:bh Tryz.prog 191 kv:=by
 refine bk lG aP Tryz.func191 (enters_of Tryz.func191 (by kernel_rfl) rfl) (fun _=>rfl) (fun _=>rfl) ?_
 intro (s:ByteArray) (hs:s.size≤1099511627776);simp only [kv];conv=>whnf
 refine .inl ⟨fun mm tz hz=>∃ (u:ByteArray),bB (some (.string u)::aG 13 []) tz∧hz=[]∧u.size=mm∧(ab u=ab s∧u.size≤s.size),.inl ⟨_,s,(.aa (.sk 13 .nil rfl)),rfl,rfl,?_⟩,?_⟩
 ·exact ⟨rfl,Nat.le_refl _⟩
 rintro mm aW _ ⟨u,aC,rfl,rfl,⟨hu,hle⟩⟩
 obtain ⟨az,rfl⟩:∃ az:Nat→Value,aW=.string u::zs az 1 13 []:=bI aC;clear aC;conv=>whnf
 rcases Nat.eq_zero_or_pos u.size with h1 | h1
 ·rw [show decide (((u.size:Nat):Int) > 0)=false from decide_eq_false (by omega)]
  conv=>whnf
  rw [← hu,← yM (.inl h1)]
 ·rw [show decide (((u.size:Nat):Int) > 0)=true from decide_eq_true (by omega)]
  conv=>whnf
  refine ⟨⟨by omega,by omega⟩,?_⟩
  conv=>whnf
  refine aN (fun J=>?_) (fun J=>?_)
  ·have J:bZ u 0=0:=by
    have J:((bZ u 0:Nat):Int)=0:=by simpa using J
    omega
   obtain ⟨d1,d2⟩:=drop_zero (by omega) J
   conv=>whnf
   refine ⟨⟨by decide,by show (1:Int)≤((u.size:Nat):Int); omega,Int.le_refl _⟩,?_⟩
   conv=>whnf
   refine .inl ⟨_,?_,u.extract 1 u.size,(.aa (.sk 13 .nil rfl)),rfl,rfl,?_⟩
   ·rw [d2]; omega
   ·exact ⟨by rw [d1,hu],by rw [d2]; omega⟩
  ·have J:bZ u 0≠0:=by
    intro h;have e:bZ u (Int.toNat 0)=bZ u 0:=rfl;rw [e,h] at J;simp at J
   conv=>whnf
   rw [← hu,← yM (.inr J)]
def Era:Env:=En [(191,.p kv)]
theorem zo:EnvOk Tryz.prog Era:=bH ⟨BN,trivial⟩ trivial
theorem Fy:bh Tryz.prog 179 je:=by
 refine bk zo aP Tryz.func179 (enters_of Tryz.func179 (by kernel_rfl) rfl) (fun _=>rfl) (fun _=>rfl) ?_
 intro ⟨b,s⟩ hp;have hp:s.size≤549755813888:=hp;obtain ⟨m,hm⟩:∃ m,m=nb (ab s):=⟨_,rfl⟩;have PY:kv.val s=.string m:=by rw [hm]; rfl
 have fin:Value.agg ⟨[.bool (b && ab s != 0),.string m]⟩=aH (IV.z (b,s)):=by rw [hm]; exact jc b (ab s)
 conv=>whnf
 rcases Nat.eq_zero_or_pos s.size with h1 | h1
 ·rw [show decide ((((b,s).snd.size:Nat):Int) > 0)=false from decide_eq_false (by show ¬ (((s.size:Nat):Int) > 0); omega)]
  conv=>whnf
  refine ⟨s,rfl,by show s.size≤1099511627776; omega,?_⟩
  rw [PY];cases b with
  | false =>
   conv=>whnf
   exact fin
  | true =>
   conv=>whnf
   refine Eq.trans ?_ fin;rw [hm];show Value.agg ⟨[.bool (!(nb (ab s)).toList == (⟨#[]⟩:ByteArray).toList),.string (nb (ab s))]⟩=_
   rw [FO,Bool.true_and]
 ·rw [show decide ((((b,s).snd.size:Nat):Int) > 0)=true from decide_eq_true (by show (((s.size:Nat):Int) > 0); omega)]
  conv=>whnf
  refine ⟨⟨by decide,by show (0:Int) < ((s.size:Nat):Int); omega⟩,?_⟩
  conv=>whnf
  refine aN (fun J=>?_) (fun J=>?_)
  ·have J:bZ s 0≠0:=by
    intro h;have e:bZ (b,s).snd (Int.toNat 0)=bZ s 0:=rfl;rw [e,h] at J;simp at J
   conv=>whnf
   exact Uo h1 J
  ·conv=>whnf
   refine ⟨s,rfl,by show s.size≤1099511627776; omega,?_⟩
   rw [PY];cases b with
   | false =>
    conv=>whnf
    exact fin
   | true =>
    conv=>whnf
    refine Eq.trans ?_ fin;rw [hm];show Value.agg ⟨[.bool (!(nb (ab s)).toList == (⟨#[]⟩:ByteArray).toList),.string (nb (ab s))]⟩=_
    rw [FO,Bool.true_and]
theorem Fz:bh Tryz.prog 193 jY:=by
 refine bk zo aP Tryz.func193 (enters_of Tryz.func193 (by kernel_rfl) rfl) (fun _=>rfl) (fun _=>rfl) ?_
 intro (s:ByteArray) (hp:s.size≤7);conv=>whnf
 refine .inl ⟨fun mm tz hz=>∃ (i:Nat) (N:Nat),bB (some (.string s)::aG 2 (some (.int .i64 N)::some (.int .i64 i)::aG 14 [])) tz∧hz=[]∧s.size - i=mm∧(i≤s.size∧N=ab s / C ^ (s.size - i)),.inl ⟨_,0,0,(.aa (.sk 2 (.aa (.aa (.sk 14 .nil rfl))) rfl)),rfl,rfl,?_⟩,?_⟩
 ·exact ⟨Nat.zero_le _,by rw [Nat.sub_zero,Nat.div_eq_of_lt (gn s)]⟩
 rintro mm aW _ ⟨i,N,aC,rfl,rfl,⟨hi,hN⟩⟩
 obtain ⟨az,rfl⟩:∃ az:Nat→Value,aW=.string s::zs az 1 2 (.int .i64 N::.int .i64 i::zs az 5 14 []):=bI aC;clear aC;have mF:=Cx s hi;rw [← hN] at mF;have al:=Nat.lt_of_lt_of_le mF (nT (show i≤7 by omega))
 conv=>whnf
 refine aN (fun J=>?_) (fun J=>?_)
 ·have J:i < s.size:=by simpa using J
  have ax:=yr J;rw [← hN] at ax;have hb:bZ s i < 256:=we s i;have e3:IntKind.i64.wrap (((i:Nat):Int)+1)=((i+1:Nat):Int):=by rw [ay (by omega) (by omega)]; rfl
  have Jw:=Nat.lt_of_lt_of_le mF (Db (show i≤6 by omega))
  conv=>whnf
  refine ⟨⟨by omega,by omega⟩,?_⟩
  simp only [toNat_cast];conv=>whnf
  rw [MK (by omega) hb,e3]
  refine .inl ⟨_,?_,i+1,N*256+bZ s i,(.aa (.sk 2 (.aa (.aa (.sk 14 .nil rfl))) rfl)),rfl,rfl,?_⟩
  ·omega
  ·exact ⟨by omega,ax.symm⟩
 ·have J:i=s.size:=by
   have J:¬ i < s.size:=by simpa using J
   omega
  subst J;rw [Nat.sub_self,Nat.pow_zero,Nat.div_one] at hN;subst hN;conv=>whnf
  rfl
def Erb:Env:=En [(193,.p jY)]
theorem acy:EnvOk Tryz.prog Erb:=bH ⟨Fz,trivial⟩ trivial
theorem UP:bh Tryz.prog 181 wZ:=by
 refine bk acy aP Tryz.func181 (enters_of Tryz.func181 (by kernel_rfl) rfl) (fun _=>rfl) (fun _=>rfl) ?_
 intro ⟨b,s⟩ hp;have hp:s.size≤7:=hp;have al:=Nat.lt_of_lt_of_le (gn s) (nT hp);cases b with
 | true =>
  conv=>whnf
  refine ⟨s,rfl,hp,?_⟩;conv=>whnf
  rw [ay (by omega) (by omega)]
  show Value.int .i64 (0 - (ab s:Int))=.int .i64 (-(ab s:Int))
  rw [Int.zero_sub]
 | false =>
  conv=>whnf
  refine ⟨s,rfl,hp,?_⟩;conv=>whnf
  rfl
theorem YZ:bh Tryz.prog 177 Ic:=by
 refine bk lG aP Tryz.func177 (enters_of Tryz.func177 (by kernel_rfl) rfl) (fun _=>rfl) (fun _=>rfl) ?_
 intro (n:Nat) (hp:n < 9223372036854775808);conv=>whnf
 refine aN (fun h1=>?_) (fun h1=>?_)
 ·have h1:n < 256:=by
   have:=of_decide_eq_true h1;omega
  conv=>whnf
  refine aN (fun J=>?_) (fun J=>?_)
  ·have J:n=0:=by
    have J:((n:Nat):Int)=0:=by simpa using J
    omega
   subst J;conv=>whnf
   show Value.string ⟨#[]⟩=.string (nb 0)
   rw [pQ]
  ·have J:n≠0:=by
    intro e;subst e;simp at J
   conv=>whnf
   rw [p5];refine ⟨⟨Nat.le_refl _,fun r hr=>by
    have h0:r=0:=by
     have hr:r < 1:=hr;omega
    subst h0;exact ⟨_,rfl⟩⟩,?_⟩
   have e:=Ep (g:=fun r=>[[Value.int .u8 ((n % C:Nat):Int)]].getD r []) (i:=0) (m:=1) (X:=n) (fun r hr=>by
    have:r=0:=by omega
    subst this;show [Value.int .u8 ((n % C:Nat):Int)]=[Value.int .u8 ((n / C ^ 0 % C:Nat):Int)]
    rw [Nat.pow_zero,Nat.div_one])
   conv=>whnf
   show _=Value.string (nb n)
   rw [xl (N:=n) (n:=1) h1 (.inr (by show 1≤n; omega)),← e]
   rfl
 ·have h1:256≤n:=by
   have:=of_decide_eq_false h1;omega
  conv=>whnf
  refine .inl ⟨fun mm tz hz=>∃ (i:Nat) (m:Nat) (g:Nat→List Value),bB (some (.int .i64 m)::aG 2 (some (.pointer (some ⟨0,0,none⟩))::some (.int .i64 i)::aG 21 [])) tz∧hz=[some (.flat true 8 1 g)]∧m=mm∧((i≤8∧m=n / C ^ (8 - i))∧(i=8∨C ^ (8 - i - 1)≤n)∧(∀ r,i≤r→r < 8→g r=[.int .u8 ((n / C ^ (7 - r) % C:Nat):Int)])∧(∀ r,r < 8→∃ x:Int,g r=[.int .u8 x])),.inl ⟨_,8,n,_,(.aa (.sk 2 (.aa (.aa (.sk 21 .nil rfl))) rfl)),rfl,rfl,?_⟩,?_⟩
  ·exact ⟨⟨Nat.le_refl _,by simp⟩,.inl rfl,fun r h1 J=>absurd h1 (by omega),fun r hr=>⟨0,rfl⟩⟩
  rintro mm aW _ ⟨i,m,g,aC,rfl,rfl,⟨⟨hi,hm⟩,ho,hg,cS⟩⟩
  obtain ⟨az,rfl⟩:∃ az:Nat→Value,aW=.int .i64 m::zs az 1 2 (.pointer (some ⟨0,0,none⟩)::.int .i64 i::zs az 5 21 []):=bI aC;clear aC;conv=>whnf
  refine aN (fun J=>?_) (fun J=>?_)
  ·have J:0 < m:=by
    have:=of_decide_eq_true J;omega
   have fN:0 < i:=by
    rcases Nat.eq_zero_or_pos i with h | h
    ·subst h;rw [hm] at J;rw [PD hp] at J;exact absurd J (by decide)
    ·exact h
   obtain ⟨i,rfl⟩:∃ i',i=i'+1:=⟨i - 1,by omega⟩
   have ei:IntKind.i64.wrap (((i+1:Nat):Int) - 1)=((i:Nat):Int):=by rw [ay (by omega) (by omega)]; omega
   have eH:m / 256=n / C ^ (8 - i):=by
    rw [hm,Er,show 8 - (i+1)+1=8 - i by omega]
   have Is:C ^ (8 - (i+1))≤n:=by
    rcases Nat.lt_or_ge n (C ^ (8 - (i+1))) with h | h
    ·rw [hm,Nat.div_eq_of_lt h] at J;exact absurd J (by decide)
    ·exact h
   conv=>whnf
   simp only [ei];refine ⟨⟨by omega,by omega⟩,?_⟩
   simp only [toNat_cast,aB,Nat.zero_add];conv=>whnf
   refine ⟨by show i < 8; omega,?_⟩
   conv=>whnf
   obtain ⟨x,hx⟩:=cS i (by omega)
   rw [hx];conv=>whnf
   rw [p5,c5,show ((m:Nat):Int) / 256=((m / 256:Nat):Int) from rfl]
   refine .inl ⟨_,?_,i,m / 256,_,(.aa (.sk 2 (.aa (.aa (.sk 21 .nil rfl))) rfl)),rfl,rfl,?_⟩
   ·omega
   ·refine ⟨⟨by omega,eH⟩,.inr (by rw [show 8 - i - 1=8 - (i+1) by omega]; exact Is),fun r im ff=>?_,fun r hr=>?_⟩
    rotate_left
    ·by_cases he:r=i
     ·exact ⟨_,if_pos he⟩
     ·rw [if_neg he]; exact cS r hr
    by_cases he:r=i
    ·subst he;rw [if_pos rfl,hm,show 7 - r=8 - (r+1) by omega]
    ·rw [if_neg he];exact hg r (by omega) ff
  ·have J:m=0:=by
    have:=of_decide_eq_false J;omega
   have al:n < C ^ (8 - i):=by
    rw [J] at hm;have h3:=Nat.mod_lt n (gO (8 - i));have h4:=Nat.mod_add_div n (C ^ (8 - i));rw [← hm,Nat.mul_zero,Nat.add_zero] at h4;rw [← h4]; exact h3
   obtain ⟨k,hk⟩:∃ k,8 - i=k+1:=⟨8 - i - 1,by
    rcases Nat.eq_zero_or_pos (8 - i) with h | h
    ·rw [h,Nat.pow_zero] at al; omega
    ·omega⟩
   rw [hk] at al;have ho:C ^ k≤n:=by
    rcases ho with h | h
    ·omega
    ·rw [show 8 - i - 1=k by omega] at h; exact h
   have e:=Ep (g:=g) (i:=i) (m:=k+1) (X:=n) (fun r hr=>by
    rw [hg (i+r) (by omega) (by omega),show 7 - (i+r)=k+1 - 1 - r by omega])
   conv=>whnf
   refine ⟨⟨by omega,by omega,Int.le_refl _,Nat.le_refl _,rfl⟩,?_⟩
   simp only [toNat_cast,aB,Nat.zero_add,hk];conv=>whnf
   refine ⟨⟨by show i+(k+1)≤8; omega,fun r hr=>cS (i+r) (by omega)⟩,?_⟩
   conv=>whnf
   show Value.string ⟨⟨bytesOf g i (k+1)⟩⟩=Value.string (nb n)
   rw [e,xl al (.inr ho)]
theorem E4:bh Tryz.prog 180 rR:=by
 refine bk lG aP Tryz.func180 (enters_of Tryz.func180 (by kernel_rfl) rfl) (fun _=>rfl) (fun _=>rfl) ?_
 intro ⟨A,D⟩ hp;have hp:aT A≤1099511627776∧aT D≤1099511627776:=hp;simp only [rR];obtain ⟨a,ha⟩:∃ a,a=nb A:=⟨_,rfl⟩;obtain ⟨d,hd⟩:∃ d,d=nb D:=⟨_,rfl⟩;rw [← ha,← hd];have l1:a.size=d.size→Op.bytesLess a.toList d.toList=decide (A < D):=fun h=>by rw [ha,hd] at h ⊢; exact Up h
 have l2:(a.toList == d.toList)=decide (A=D):=by rw [ha,hd]; exact Uq
 have l3:a.size < d.size→A < D:=fun h=>by rw [ha,hd] at h; exact L5 h
 have l4:d.size < a.size→D < A:=fun h=>by rw [ha,hd] at h; exact L5 h
 conv=>whnf
 refine aN (fun h1=>?_) (fun h1=>?_)
 ·have h1:a.size≠d.size:=by
   intro e;rw [e] at h1;simp at h1
  conv=>whnf
  refine aN (fun J=>?_) (fun J=>?_)
  ·have J:=l3 (by have:=of_decide_eq_true J; omega)
   conv=>whnf
   rw [cL,if_pos J]
  ·have J:=l4 (by have:=of_decide_eq_false J; omega)
   conv=>whnf
   rw [cL,if_neg (by omega),if_pos J]
 ·have h1:a.size=d.size:=by
   have h1:((a.size:Nat):Int)=((d.size:Nat):Int):=by simpa using h1
   omega
  conv=>whnf
  rw [l1 h1];refine aN (fun J=>?_) (fun J=>?_)
  ·have J:=of_decide_eq_true J;conv=>whnf
   rw [cL,if_pos J]
  ·have J:=of_decide_eq_false J;conv=>whnf
   rw [l1 h1,l2];refine aN (fun h3=>?_) (fun h3=>?_)
   ·have h3:D < A:=by
     simp [J] at h3;omega
    conv=>whnf
    rw [cL,if_neg J,if_pos h3]
   ·have h3:A=D:=by
     simpa [J] using h3
    conv=>whnf
    subst h3;rw [cL,if_neg J,if_neg J]
end Go.Proofs.YtlapbjdhekcipaaGreat
