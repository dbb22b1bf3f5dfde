import Derived.Test.YtlapbjdhekcipaaGreatXF
set_option linter.unusedVariables false
set_option linter.unusedSimpArgs false
set_option maxRecDepth 20000
set_option maxHeartbeats 4000000
namespace Go.Proofs.YtlapbjdhekcipaaGreat
open Go Go.Ae
def Eg:Env:=En [(167,.p lO),(197,.p uK)]
theorem ae1:EnvOk Tryz.prog Eg:=bD ⟨ND,WV,trivial⟩ trivial
theorem W4:fM Tryz.prog 186 (AD xq):=by
 refine OG ae1 aN Tryz.func186 (enters_of Tryz.func186 (by kernel_rfl) rfl) ?_
 intro ⟨X,m,cx,D,cd,j⟩ hp;have hp:m≤137438953473∧2≤nl D∧2147483648≤ao D (nl D - 1)∧j+nl D < m∧X < D*B ^ (j+1):=hp;obtain ⟨n,hn⟩:∃ n,n=nl D - 2:=⟨_,rfl⟩;obtain ⟨n1,Aj⟩:∃ n1,n1=nl D - 1:=⟨_,rfl⟩;obtain ⟨n2,bR⟩:∃ n2,n2=nl D:=⟨_,rfl⟩;rw [← Aj,← bR] at hp;have hn:n2=n+2∧n1=n+1:=by omega
 have IJ:=cK X (j+n2);have Qu:=cK X (j+n1);have IK:=cK X (j+n);have z7:=cK D n1;have Qv:=cK D n;have hB:B=4294967296:=rfl;conv=>whnf
 refine .inl ⟨16,[[],[],[],[1,2],[0,1,2,3],[0,1,2,3,4],[0,1,2,3,4,5],[0,1,2,3,4,5,6],[],[],[],[9,10],[9,10,11],[8,9,10,11,12],[8,9,10,11,12,13],[8,9,10,11,12,13,14],[0,1,2,3,4,5,6,7,8,9,10,11,12,13,14,15],[0,1,2,3,4,5,6,7,8,9,10,11,12,13,14,15,16]],by kernel_rfl,?_⟩
 conv=>whnf
 rw [← bR];have e1:IntKind.i64.wrap (((j:Nat):Int)+((n2:Nat):Int))=((j+n2:Nat):Int):=by rw [ax (by omega) (by omega)]; omega
 have e2:IntKind.i64.wrap (((j+n2:Nat):Int) - 1)=((j+n1:Nat):Int):=by rw [ax (by omega) (by omega)]; omega
 have e3:IntKind.i64.wrap (((j+n2:Nat):Int) - 2)=((j+n:Nat):Int):=by rw [ax (by omega) (by omega)]; omega
 have e4:IntKind.i64.wrap (((n2:Nat):Int) - 1)=((n1:Nat):Int):=by rw [ax (by omega) (by omega)]; omega
 have e5:IntKind.i64.wrap (((n2:Nat):Int) - 2)=((n:Nat):Int):=by rw [ax (by omega) (by omega)]; omega
 simp only [e1];refine ⟨⟨by omega,by omega⟩,?_⟩
 simp only [toNat_cast,ay,Nat.zero_add];conv=>whnf
 refine ⟨by show j+n2 < m; omega,?_⟩
 conv=>whnf
 simp only [e1,e2];refine ⟨⟨by omega,by omega⟩,?_⟩
 simp only [toNat_cast,ay,Nat.zero_add];conv=>whnf
 refine ⟨by show j+n1 < m; omega,?_⟩
 conv=>whnf
 have kF:∀ l:Nat,l < B→IntKind.u64.wrap ((l:Nat):Int)=(l:Int):=fun l hl=>bL (by omega) (by omega)
 have rh:∀ l:Nat,l < B→IntKind.u64.wrap ((l:Int)*4294967296)=(l:Int)*4294967296:=fun l hl=>bL (by omega) (by omega)
 simp only [kF _ IJ,kF _ Qu,dx,rh _ IJ,dy _ _ IJ Qu];obtain ⟨top,vg⟩:∃ top,top=ao X (j+n2)*4294967296+ao X (j+n1):=⟨_,rfl⟩;have ae2:((ao X (j+n2):Nat):Int)*4294967296+((ao X (j+n1):Nat):Int)=(top:Int):=by omega
 simp only [ae2];obtain ⟨d1,gg⟩:∃ d1,d1=ao D n1:=⟨_,rfl⟩;obtain ⟨d0,fC⟩:∃ d0,d0=ao D n:=⟨_,rfl⟩;have hp3:2147483648≤d1:=by rw [gg]; exact hp.2.2.1
 have afp:d1 < 4294967296:=by rw [gg]; exact z7
 have DJ:d0 < 4294967296:=by rw [fC]; exact Qv
 have HV:top < 18446744073709551616:=by omega
 refine .inl ⟨17,[[],[],[],[2],[1,2,3],[1,2,3,4],[1,2,3,4,5],[0,1,2,3,4,5,6],[],[],[],[10],[9,10,11],[9,10,11,12],[9,10,11,12,13],[8,9,10,11,12,13,14],[0,1,2,3,4,5,6,7],[0,1,2,3,4,5,6,7,8,9,10,11,12,13,14,15,16]],by kernel_rfl,?_⟩
 conv=>whnf
 simp only [e4];refine ⟨⟨by omega,by omega⟩,?_⟩
 simp only [toNat_cast,ay,Nat.zero_add];conv=>whnf
 refine ⟨by show n1 < nl D; omega,?_⟩
 conv=>whnf
 simp only [kF _ z7];rw [← gg];have aE:decide ((d1:Int)≠0)=true:=decide_eq_true (by omega)
 rw [aE];conv=>whnf
 simp only [e4];refine ⟨⟨by omega,by omega⟩,?_⟩
 simp only [toNat_cast,ay,Nat.zero_add];conv=>whnf
 refine ⟨by show n1 < nl D; omega,?_⟩
 conv=>whnf
 simp only [kF _ z7];rw [← gg,aE];conv=>whnf
 obtain ⟨w0,JN⟩:∃ w0,w0=ao X (j+n):=⟨_,rfl⟩;rw [← JN] at IK;obtain ⟨Q,hQ⟩:∃ Q,Q=X / B ^ j / D:=⟨_,rfl⟩;obtain ⟨q0,m5⟩:∃ q0,q0=top / d1:=⟨_,rfl⟩;have F:=aaq bR hn.1 hn.2 hp.2.2.1 hp.2.2.2.2 vg gg fC JN hQ m5;clear hQ;obtain ⟨nT,hp4⟩:m≤137438953473∧j+n2 < m:=⟨hp.1,hp.2.2.2.1⟩;clear hp;have fq3:q0≤4294967297:=F.Rk;have eq0:IntKind.u64.wrap ((q0:Nat):Int)=((q0:Nat):Int):=bL (by omega) (by omega)
 simp only [F9,M5];rw [← m5,eq0];refine .inl ⟨fun mm tz hz=>∃ (q:Nat) (r:Nat),bA (some (.slice (some ⟨0,0,none⟩) m cx)::some (.slice (some ⟨1,0,none⟩) n2 cd)::some (.int .i64 j)::aF 3 (some (.int .u32 0)::some (.int .i64 n2)::aF 1 (some (.int .u64 q)::some (.int .u64 r)::aF 183 []))) tz∧hz=[some (.flat true m 1 (bo X)),some (dN D)]∧q=mm∧(q*d1+r=top∧Q≤q∧q≤4294967297),.inr ⟨[0,1],[0,1,2,6,7,9,10],?_⟩,?_⟩
 ·conv=>whnf
  intro _;conv=>whnf
  refine ⟨_,q0,top % d1,(.aa (.aa (.aa (.sk 3 (.aa (.aa (.sk 1 (.aa (.aa (.sk 183 .nil rfl))) rfl))) rfl)))),rfl,rfl,?_⟩;exact ⟨by rw [m5,Nat.mul_comm]; exact Nat.div_add_mod top d1,F.fq,F.Rk⟩
 rintro mm aT _ ⟨q,r,aw,rfl,rfl,⟨he,Ep,fo⟩⟩
 obtain ⟨az,rfl⟩:∃ az:Nat→Value,aT=.slice (some ⟨0,0,none⟩) m cx::.slice (some ⟨1,0,none⟩) n2 cd::.int .i64 j::zs az 3 3 (.int .u32 0::.int .i64 n2::zs az 8 1 (.int .u64 q::.int .u64 r::zs az 11 183 [])):=bI aw;clear aw;have hr:r < 18446744073709551616:=Nat.lt_of_le_of_lt (Nat.le_trans (Nat.le_add_left _ _) (Nat.le_of_eq he)) HV;refine .inl ⟨27,[[],[0],[0,1],[0,1,2],[0,1,2,3],[0,1,2,3,4],[0,1,2,3,4,5],[0,1,2,3,4,5,6],[0,1,2,3,4,5,6,7],[0,1,2,3,4,5,6,7],[0,1,2,3,4,5,6,7],[0,1,2,3,4,5,6,7,10],[0,1,2,3,4,5,6,7,9,10,11],[0,1,2,3,4,5,6,7,9,10,11,12],[0,1,2,3,4,5,6,7,9,10,11,12,13],[0,1,2,3,4,5,6,7,8,9,10,11,12,13,14],[0,1,2,3,4,5,6,7],[0,1,2,3,4,5,6,7,16],[0,1,2,3,4,5,6,7],[0,1,2,3,4,5,6,7],[0,1,2,3,4,5,6,7],[0,1,2,3,4,5,6,7,19,20],[0,1,2,3,4,5,6,7,19,20,21],[0,1,2,3,4,5,6,7,18,19,20,21,22],[0,1,2,3,4,5,6,7,18,19,20,21,22,23],[0,1,2,3,4,5,6,7,18,19,20,21,22,23,24],[0,1,2,3,4,5,6,7,16,17,18,19,20,21,22,23,24,25],[0,1,2,3,4,5,6,7,8,9,10,11,12,13,14,15,16,17,18,19,20,21,22,23,24,25,26],[0,1,2,3,4,5,6,7,8,9,10,11,12,13,14,15,16,17,18,19,20,21,22,23,24,25,26,27],[0,1,2,3,4,5,6,7,8,9,10,11,12,13,14,15,16,17,18,19,20,21,22,23,24,25,26,27,28]],by kernel_rfl,?_⟩
 conv=>whnf
 simp only [cl,jO];rcases Nat.lt_or_ge q 4294967296 with my | my
 ·rw [show decide (((q / B:Nat):Int) > 0)=false from decide_eq_false (by show ¬ (((q / 4294967296:Nat):Int) > 0); omega)]
  conv=>whnf
  simp only [cl,jO];have pK:q*d0≤r*B+w0∨B≤r→q≤Q+1:=fun h=>by
   rw [F.fQ];exact GG (eh n) F.fW F.fD he my F.fP DJ h.symm
  rcases Nat.lt_or_ge r 4294967296 with mz | mz
  ·rw [show (((((r / B:Nat):Int) == 0):Bool))=true by show decide (((r / 4294967296:Nat):Int)=0)=true; exact decide_eq_true (by omega)]
   conv=>whnf
   simp only [e5];refine ⟨⟨by omega,by omega⟩,?_⟩
   simp only [toNat_cast,ay,Nat.zero_add];conv=>whnf
   refine ⟨by show n < nl D; omega,?_⟩
   conv=>whnf
   simp only [kF _ Qv];rw [← fC,(ac0 fo DJ).1];simp only [e1,e3];obtain ⟨vq,cY⟩:∃ v,v=Value.int .u64 ((q*d0:Nat):Int):=⟨_,rfl⟩;rw [← cY];refine ⟨⟨by omega,by omega⟩,?_⟩
   simp only [toNat_cast,ay,Nat.zero_add];conv=>whnf
   refine ⟨by show j+n < m; omega,?_⟩
   conv=>whnf
   rw [← JN];simp only [kF _ IK,dx,rh r mz,dy _ _ mz IK];rw [show ((r:Nat):Int)*4294967296+((w0:Nat):Int)=((r*4294967296+w0:Nat):Int) by omega]
   obtain ⟨qd,rI⟩:∃ qd,qd=q*d0:=⟨_,rfl⟩;obtain ⟨AP,IL⟩:∃ AP,AP=r*4294967296+w0:=⟨_,rfl⟩;rw [cY,← rI,← IL];conv=>whnf
   rcases Nat.lt_or_ge AP qd with Ii | afq
   ·rw [show decide ((qd:Int) > (AP:Int))=true from decide_eq_true (by omega)]
    have an:Q < q:=by
     rw [F.fQ];refine Wc F.AH (eh n) F.fW F.fD he ?_;rw [← rI];show r*4294967296+w0 < qd
     omega
    clear cY rI IL Ii;conv=>whnf
    have ep:IntKind.u64.wrap ((q:Int) - 1)=((q - 1:Nat):Int):=by rw [bL (by omega) (by omega)]; omega
    have bO:(q - 1)*d1+(r+d1)=top:=by
     have h1:(q - 1)*d1+d1=q*d1:=by
      conv=>rhs; rw [show q=(q - 1)+1 by omega,Nat.add_mul,Nat.one_mul]
     omega
    have ff:r+d1 < 18446744073709551616:=Nat.lt_of_le_of_lt (Nat.le_trans (Nat.le_add_left _ _) (Nat.le_of_eq bO)) HV;have er:IntKind.u64.wrap ((r:Int)+(d1:Int))=((r+d1:Nat):Int):=by rw [bL (by omega) (by omega)]; omega
    simp only [ep,e4];refine ⟨⟨by omega,by omega⟩,?_⟩
    simp only [toNat_cast,ay,Nat.zero_add];conv=>whnf
    refine ⟨by show n1 < nl D; omega,?_⟩
    conv=>whnf
    simp only [kF _ z7];rw [← gg,er];simp only [cl,jO];rcases Nat.lt_or_ge (r+d1) 4294967296 with mz | mz
    ·rw [show decide ((((r+d1) / B:Nat):Int) > 0)=false from decide_eq_false (by show ¬ ((((r+d1) / 4294967296:Nat):Int) > 0); omega)]
     conv=>whnf
     refine .inr ⟨[0,1],[0,1,2,6,7,9,10],?_⟩;conv=>whnf
     intro _;conv=>whnf
     refine ⟨_,?_,q - 1,r+d1,(.aa (.aa (.aa (.sk 3 (.aa (.aa (.sk 1 (.aa (.aa (.sk 183 .nil rfl))) rfl))) rfl)))),rfl,rfl,?_⟩
     ·omega
     ·exact ⟨bO,by omega,by omega⟩
    ·rw [show decide ((((r+d1) / B:Nat):Int) > 0)=true from decide_eq_true (by show ((((r+d1) / 4294967296:Nat):Int) > 0); omega)]
     conv=>whnf
     simp only [cl,jO];rcases Nat.lt_or_ge (q - 1) 4294967296 with vm | vm
     ·rw [show (((((q - 1) / B:Nat):Int) == 0):Bool)=true by show decide ((((q - 1) / 4294967296:Nat):Int)=0)=true; exact decide_eq_true (by omega)]
      conv=>whnf
      obtain ⟨qt,oM⟩:∃ qt,qt=q - 1:=⟨_,rfl⟩;have hT:qt < 4294967296∧Q≤qt∧qt≤Q+1:=by
       have h3:q - 1≤X / B ^ j / D+1:=GG (eh n) F.fW F.fD bO vm F.fP DJ (.inl mz);rw [← F.fQ] at h3;omega
      rw [← oM];clear my vm an ep bO ff er mz he hr Ep fo oM;conv=>whnf
      refine .inl ⟨fun mm tz hz=>∃ (i:Nat) (c:Nat) (b:Nat) (Z:Nat),bA (some (.slice (some ⟨0,0,none⟩) m cx)::some (.slice (some ⟨1,0,none⟩) n2 cd)::some (.int .i64 j)::aF 3 (some (.int .u32 0)::some (.int .i64 n2)::aF 1 (some (.int .u64 qt)::aF 1 (some (.int .u64 c)::some (.int .u32 b)::aF 88 (some (.slice (some ⟨1,0,none⟩) n2 cd)::some (.int .i64 n2)::some (.int .i64 i)::aF 90 []))))) tz∧hz=[some (.flat true m 1 (bo Z)),some (dN D)]∧n2 - i=mm∧((i≤n2∧c < 4294967296∧b≤1)∧Z < B ^ (j+n2+1)∧Z+qt*(D % B ^ i)*B ^ j=X+(b+c)*B ^ (j+i)),.inr ⟨[0,1],[0,1,2,6,7,9,11,12,101,102,103],?_⟩,?_⟩
      ·conv=>whnf
       intro _;conv=>whnf
       refine ⟨_,0,0,0,X,(.aa (.aa (.aa (.sk 3 (.aa (.aa (.sk 1 (.aa (.sk 1 (.aa (.aa (.sk 88 (.aa (.aa (.aa (.sk 90 .nil rfl)))) rfl))) rfl)) rfl))) rfl)))),rfl,rfl,?_⟩;exact ⟨⟨Nat.zero_le _,by decide,by decide⟩,F.fX,by simp [Nat.mod_one]⟩
      rintro mm aT _ ⟨i,c,b,Z,aw,rfl,rfl,⟨⟨hi,hc,hb⟩,hZ,he⟩⟩
      obtain ⟨az,rfl⟩:∃ az:Nat→Value,aT=.slice (some ⟨0,0,none⟩) m cx::.slice (some ⟨1,0,none⟩) n2 cd::.int .i64 j::zs az 3 3 (.int .u32 0::.int .i64 n2::zs az 8 1 (.int .u64 qt::zs az 10 1 (.int .u64 c::.int .u32 b::zs az 13 88 (.slice (some ⟨1,0,none⟩) n2 cd::.int .i64 n2::.int .i64 i::zs az 104 90 [])))):=bI aw;clear aw;conv=>whnf
      refine aK (fun h1=>?_) (fun h1=>?_)
      ·have h1:i < n2:=by simpa using h1
       conv=>whnf
       refine ⟨⟨by omega,by omega⟩,?_⟩
       simp only [toNat_cast,ay,Nat.zero_add];conv=>whnf
       refine ⟨by show i < nl D; omega,?_⟩
       conv=>whnf
       obtain ⟨x,hx⟩:∃ x,x=ao D i:=⟨_,rfl⟩;obtain ⟨l,hl⟩:∃ l,l=ao Z (j+i):=⟨_,rfl⟩;obtain ⟨t,ht⟩:∃ t,t=c+qt*ao D i:=⟨_,rfl⟩;have iA:x < B:=by rw [hx]; exact cK D i
       have dR:l < 4294967296:=by rw [hl]; exact cK Z (j+i)
       obtain ⟨hv,fI⟩:=BW (t:=t) hc hT.1 iA (by rw [hx]; exact ht)
       have oN:t % B < 4294967296:=Nat.mod_lt _ (by decide)
       obtain ⟨d,hd⟩:∃ d,d=(l+2*4294967296 - t % B - b) % 4294967296:=⟨_,rfl⟩;obtain ⟨b',bz⟩:∃ b',b'=if l < t % B+b then 1 else 0:=⟨_,rfl⟩
       have dJ:d < 4294967296:=by rw [hd]; exact Nat.mod_lt _ (by decide)
       have au:=BC (i:=i) (j:=j) (d:=d) (b':=b') he ht (by
        rw [← hl,bz,hB,← hB];clear he hZ ht hv;obtain ⟨u,hu⟩:∃ u,u=t % B:=⟨_,rfl⟩;rw [← hu] at hd oN ⊢
        split <;> omega)
       have gK:=mB hZ (show j+i < j+n2+1 by omega) (show d < B from dJ)
       have dG:b'≤1:=by rw [bz]; split <;> omega
       have e6:IntKind.i64.wrap (((j:Nat):Int)+((i:Nat):Int))=((j+i:Nat):Int):=by rw [ax (by omega) (by omega)]; omega
       have e7:IntKind.i64.wrap (((i:Nat):Int)+1)=((i+1:Nat):Int):=by rw [ax (by omega) (by omega)]; omega
       rw [← hx];simp only [kF _ iA,hv,e6];refine ⟨⟨by omega,by omega⟩,?_⟩
       simp only [toNat_cast,ay,Nat.zero_add];conv=>whnf
       refine ⟨by show j+i < m; omega,?_⟩
       conv=>whnf
       rw [← hl];simp only [eI];refine ⟨(l,t % B,b),rfl,⟨dR,oN,hb⟩,?_⟩;simp only [lO,← hd,← bz,e6];conv=>whnf
       refine ⟨⟨by omega,by omega⟩,?_⟩
       simp only [toNat_cast,ay,Nat.zero_add];conv=>whnf
       refine ⟨by show j+i < m; omega,?_⟩
       conv=>whnf
       simp only [cl,jO,e7];rw [fE dJ];refine .inl ⟨_,?_,i+1,t / B,b',cH Z (j+i) d,(.aa (.aa (.aa (.sk 3 (.aa (.aa (.sk 1 (.aa (.sk 1 (.aa (.aa (.sk 88 (.aa (.aa (.aa (.sk 90 .nil rfl)))) rfl))) rfl)) rfl))) rfl)))),rfl,rfl,?_⟩
       ·omega
       ·exact ⟨⟨by omega,fI,dG⟩,gK,au⟩
      ·have h1:i=n2:=by
        have h1:¬ i < n2:=by simpa using h1
        omega
       subst h1;obtain ⟨l,hl⟩:∃ l,l=ao Z (j+i):=⟨_,rfl⟩;have dR:l < 4294967296:=by rw [hl]; exact cK Z (j+i)
       obtain ⟨d,hd⟩:∃ d,d=(l+2*4294967296 - c - b) % 4294967296:=⟨_,rfl⟩;obtain ⟨b',bz⟩:∃ b',b'=if l < c+b then 1 else 0:=⟨_,rfl⟩
       have dJ:d < 4294967296:=by rw [hd]; exact Nat.mod_lt _ (by decide)
       have au:=BD (j:=j) (d:=d) (b':=b') (by rw [bR]; exact b6 D) hc he (by
        rw [← hl,bz,hB,← hB];clear he hZ
        split <;> omega)
       have gK:=mB hZ (show j+i < j+i+1 by omega) (show d < B from dJ)
       have oO:c % B=c:=Nat.mod_eq_of_lt hc;have dG:b'≤1:=by rw [bz]; split <;> omega
       have vR:qt % B=qt:=Nat.mod_eq_of_lt hT.1;have hE:0 < D*B ^ j:=Nat.mul_pos F.AH (eh j);have oQ:Q=X / (D*B ^ j):=by rw [F.fQ,Nat.div_div_eq_div_mul,Nat.mul_comm]
       conv=>whnf
       simp only [e1];refine ⟨⟨by omega,by omega⟩,?_⟩
       simp only [toNat_cast,ay,Nat.zero_add];conv=>whnf
       refine ⟨by show j+i < m; omega,?_⟩
       conv=>whnf
       rw [← hl];simp only [eI,oO];refine ⟨(l,c,b),rfl,⟨dR,hc,hb⟩,?_⟩;simp only [lO,← hd,← bz,e1];conv=>whnf
       refine ⟨⟨by omega,by omega⟩,?_⟩
       simp only [toNat_cast,ay,Nat.zero_add];conv=>whnf
       refine ⟨by show j+i < m; omega,?_⟩
       conv=>whnf
       rw [fE dJ];refine aK (fun J=>?_) (fun J=>?_)
       ·have J:b'=0:=by
         have:=of_decide_eq_true J;omega
        clear bz;subst J;rw [Nat.zero_mul,Nat.add_zero] at au;obtain ⟨iD,ff⟩:=Bk hE au (by rw [← oQ]; exact hT.2.1)
        conv=>whnf
        simp only [eI,vR];exact rQ (i:=⟨X,m,cx,D,cd,j⟩) ff iD rfl
       ·have J:b'=1:=by
         have:=of_decide_eq_false J;omega
        clear bz;subst J;rw [Nat.one_mul] at au;obtain ⟨iD,ff⟩:=Bl hE au gK (by rw [← oQ]; exact hT.2.2)
        obtain ⟨Y,hY⟩:∃ Y,Y=cH Z (j+i) d:=⟨_,rfl⟩;rw [← hY] at ff gK ⊢;clear au he hZ hY hc hb hl dR hd dJ oO;conv=>whnf
        refine .inl ⟨fun mm tz hz=>∃ (k:Nat) (c:Nat) (V:Nat),bA (some (.slice (some ⟨0,0,none⟩) m cx)::some (.slice (some ⟨1,0,none⟩) i cd)::some (.int .i64 j)::aF 3 (some (.int .u32 0)::some (.int .i64 i)::aF 1 (some (.int .u64 qt)::aF 5 (some (.int .u32 c)::aF 141 (some (.slice (some ⟨1,0,none⟩) i cd)::some (.int .i64 i)::some (.int .i64 k)::aF 34 []))))) tz∧hz=[some (.flat true m 1 (bo V)),some (dN D)]∧i - k=mm∧((k≤i∧c≤1)∧V < B ^ (j+i+1)∧V+c*B ^ (j+k)=Y+D % B ^ k*B ^ j),.inr ⟨[0,1],[0,1,2,6,7,9,15,157,158,159],?_⟩,?_⟩
        ·conv=>whnf
         intro _;conv=>whnf
         refine ⟨_,0,0,Y,(.aa (.aa (.aa (.sk 3 (.aa (.aa (.sk 1 (.aa (.sk 5 (.aa (.sk 141 (.aa (.aa (.aa (.sk 34 .nil rfl)))) rfl)) rfl)) rfl))) rfl)))),rfl,rfl,?_⟩;exact ⟨⟨Nat.zero_le _,by decide⟩,gK,by simp [Nat.mod_one]⟩
        rintro mm aT _ ⟨k,c,V,aw,rfl,rfl,⟨⟨hk,hc⟩,hV,he⟩⟩
        obtain ⟨az,rfl⟩:∃ az:Nat→Value,aT=.slice (some ⟨0,0,none⟩) m cx::.slice (some ⟨1,0,none⟩) i cd::.int .i64 j::zs az 3 3 (.int .u32 0::.int .i64 i::zs az 8 1 (.int .u64 qt::zs az 10 5 (.int .u32 c::zs az 16 141 (.slice (some ⟨1,0,none⟩) i cd::.int .i64 i::.int .i64 k::zs az 160 34 [])))):=bI aw;clear aw;conv=>whnf
        refine aK (fun h3=>?_) (fun h3=>?_)
        ·have h3:k < i:=by simpa using h3
         obtain ⟨x,hx⟩:∃ x,x=ao D k:=⟨_,rfl⟩;obtain ⟨l,hl⟩:∃ l,l=ao V (j+k):=⟨_,rfl⟩;have iA:x < 4294967296:=by rw [hx]; exact cK D k
         have dR:l < 4294967296:=by rw [hl]; exact cK V (j+k)
         obtain ⟨t,ht⟩:∃ t,t=l+x+c:=⟨_,rfl⟩;have au:=BE (t:=t) (i:=k) (j:=j) he (by rw [← hl,← hx]; exact ht)
         have ic:t % B < 4294967296:=Nat.mod_lt _ (by decide)
         have fI:t / B≤1:=by show t / 4294967296≤1; omega
         have vS:=mB hV (show j+k < j+i+1 by omega) (show t % B < B from ic)
         have e6:IntKind.i64.wrap (((j:Nat):Int)+((k:Nat):Int))=((j+k:Nat):Int):=by rw [ax (by omega) (by omega)]; omega
         have e7:IntKind.i64.wrap (((k:Nat):Int)+1)=((k+1:Nat):Int):=by rw [ax (by omega) (by omega)]; omega
         conv=>whnf
         refine ⟨⟨by omega,by omega⟩,?_⟩
         simp only [toNat_cast,ay,Nat.zero_add];conv=>whnf
         refine ⟨by show k < nl D; omega,?_⟩
         conv=>whnf
         simp only [e6];refine ⟨⟨by omega,by omega⟩,?_⟩
         simp only [toNat_cast,ay,Nat.zero_add];conv=>whnf
         refine ⟨by show j+k < m; omega,?_⟩
         conv=>whnf
         rw [← hl,← hx];refine ⟨(l,x,c),rfl,⟨dR,iA,hc⟩,?_⟩;simp only [uK,← ht,e6];conv=>whnf
         refine ⟨⟨by omega,by omega⟩,?_⟩
         simp only [toNat_cast,ay,Nat.zero_add];conv=>whnf
         refine ⟨by show j+k < m; omega,?_⟩
         conv=>whnf
         simp only [e7];rw [show t % 4294967296=t % B from rfl,fE ic]
         refine .inl ⟨_,?_,k+1,t / B,cH V (j+k) (t % B),(.aa (.aa (.aa (.sk 3 (.aa (.aa (.sk 1 (.aa (.sk 5 (.aa (.sk 141 (.aa (.aa (.aa (.sk 34 .nil rfl)))) rfl)) rfl)) rfl))) rfl)))),rfl,rfl,?_⟩
         ·omega
         ·exact ⟨⟨by omega,fI⟩,vS,au⟩
        ·have h3:k=i:=by
          have h3:¬ k < i:=by simpa using h3
          omega
         subst h3;have ll:D < B ^ k:=by rw [bR]; exact b6 D
         have gi:=BF (V:=V) (R:=X % (D*B ^ j)) (k:=j+k) hV (Nat.lt_of_lt_of_le (Nat.mod_lt _ hE) (by rw [Nat.add_comm,Nat.pow_add]; exact Nat.mul_le_mul_right _ (Nat.le_of_lt ll))) hc (by
          rw [he,Nat.mod_eq_of_lt ll]; exact ff)
         have ie:qt - 1=X / (D*B ^ j):=by rw [iD]; rfl
         have ep:IntKind.u64.wrap ((qt:Int) - 1)=((qt - 1:Nat):Int):=by
          have:1≤qt:=by rw [iD]; exact Nat.le_add_left _ _
          have:=hT.1;rw [bL (by omega) (by omega)]; omega
         have vn:(qt - 1) % B=qt - 1:=Nat.mod_eq_of_lt (by have:=hT.1; show qt - 1 < 4294967296; omega)
         conv=>whnf
         simp only [e1];refine ⟨⟨by omega,by omega⟩,?_⟩
         simp only [toNat_cast,ay,Nat.zero_add];conv=>whnf
         refine ⟨by show j+k < m; omega,?_⟩
         conv=>whnf
         rw [show IntKind.u32.wrap (((ao V (j+k):Nat):Int)+(c:Int))=(((ao V (j+k)+c) % B:Nat):Int) from eI (ao V (j+k)+c)]
         refine ⟨⟨by omega,by omega⟩,?_⟩
         simp only [toNat_cast,ay,Nat.zero_add];conv=>whnf
         refine ⟨by show j+k < m; omega,?_⟩
         conv=>whnf
         simp only [ep,eI,vn];rw [fE (Nat.mod_lt _ (by decide)),gi]
         exact rQ (i:=⟨X,m,cx,D,cd,j⟩) rfl ie rfl
      skip
      skip
     ·rw [show (((((q - 1) / B:Nat):Int) == 0):Bool)=false by show decide ((((q - 1) / 4294967296:Nat):Int)=0)=false; exact decide_eq_false (by omega)]
      conv=>whnf
      refine .inr ⟨[0,1],[0,1,2,6,7,9,10],?_⟩;conv=>whnf
      intro _;conv=>whnf
      refine ⟨_,?_,q - 1,r+d1,(.aa (.aa (.aa (.sk 3 (.aa (.aa (.sk 1 (.aa (.aa (.sk 183 .nil rfl))) rfl))) rfl)))),rfl,rfl,?_⟩
      ·omega
      ·exact ⟨bO,by omega,by omega⟩
   ·rw [show decide ((qd:Int) > (AP:Int))=false from decide_eq_false (by omega)]
    conv=>whnf
    obtain ⟨qt,oM⟩:∃ qt,qt=q:=⟨_,rfl⟩;have hT:qt < 4294967296∧Q≤qt∧qt≤Q+1:=by
     have h3:=pK (.inl (by rw [← rI]; show qd≤r*4294967296+w0; omega))
     exact ⟨by omega,by omega,by omega⟩
    rw [← oM];clear cY rI IL my pK mz he hr Ep fo oM;conv=>whnf
    refine .inl ⟨fun mm tz hz=>∃ (i:Nat) (c:Nat) (b:Nat) (Z:Nat),bA (some (.slice (some ⟨0,0,none⟩) m cx)::some (.slice (some ⟨1,0,none⟩) n2 cd)::some (.int .i64 j)::aF 3 (some (.int .u32 0)::some (.int .i64 n2)::aF 1 (some (.int .u64 qt)::aF 1 (some (.int .u64 c)::some (.int .u32 b)::aF 88 (some (.slice (some ⟨1,0,none⟩) n2 cd)::some (.int .i64 n2)::some (.int .i64 i)::aF 90 []))))) tz∧hz=[some (.flat true m 1 (bo Z)),some (dN D)]∧n2 - i=mm∧((i≤n2∧c < 4294967296∧b≤1)∧Z < B ^ (j+n2+1)∧Z+qt*(D % B ^ i)*B ^ j=X+(b+c)*B ^ (j+i)),.inr ⟨[0,1],[0,1,2,6,7,9,11,12,101,102,103],?_⟩,?_⟩
    ·conv=>whnf
     intro _;conv=>whnf
     refine ⟨_,0,0,0,X,(.aa (.aa (.aa (.sk 3 (.aa (.aa (.sk 1 (.aa (.sk 1 (.aa (.aa (.sk 88 (.aa (.aa (.aa (.sk 90 .nil rfl)))) rfl))) rfl)) rfl))) rfl)))),rfl,rfl,?_⟩;exact ⟨⟨Nat.zero_le _,by decide,by decide⟩,F.fX,by simp [Nat.mod_one]⟩
    rintro mm aT _ ⟨i,c,b,Z,aw,rfl,rfl,⟨⟨hi,hc,hb⟩,hZ,he⟩⟩
    obtain ⟨az,rfl⟩:∃ az:Nat→Value,aT=.slice (some ⟨0,0,none⟩) m cx::.slice (some ⟨1,0,none⟩) n2 cd::.int .i64 j::zs az 3 3 (.int .u32 0::.int .i64 n2::zs az 8 1 (.int .u64 qt::zs az 10 1 (.int .u64 c::.int .u32 b::zs az 13 88 (.slice (some ⟨1,0,none⟩) n2 cd::.int .i64 n2::.int .i64 i::zs az 104 90 [])))):=bI aw;clear aw;conv=>whnf
    refine aK (fun h1=>?_) (fun h1=>?_)
    ·have h1:i < n2:=by simpa using h1
     conv=>whnf
     refine ⟨⟨by omega,by omega⟩,?_⟩
     simp only [toNat_cast,ay,Nat.zero_add];conv=>whnf
     refine ⟨by show i < nl D; omega,?_⟩
     conv=>whnf
     obtain ⟨x,hx⟩:∃ x,x=ao D i:=⟨_,rfl⟩;obtain ⟨l,hl⟩:∃ l,l=ao Z (j+i):=⟨_,rfl⟩;obtain ⟨t,ht⟩:∃ t,t=c+qt*ao D i:=⟨_,rfl⟩;have iA:x < B:=by rw [hx]; exact cK D i
     have dR:l < 4294967296:=by rw [hl]; exact cK Z (j+i)
     obtain ⟨hv,fI⟩:=BW (t:=t) hc hT.1 iA (by rw [hx]; exact ht)
     have oN:t % B < 4294967296:=Nat.mod_lt _ (by decide)
     obtain ⟨d,hd⟩:∃ d,d=(l+2*4294967296 - t % B - b) % 4294967296:=⟨_,rfl⟩;obtain ⟨b',bz⟩:∃ b',b'=if l < t % B+b then 1 else 0:=⟨_,rfl⟩
     have dJ:d < 4294967296:=by rw [hd]; exact Nat.mod_lt _ (by decide)
     have au:=BC (i:=i) (j:=j) (d:=d) (b':=b') he ht (by
      rw [← hl,bz,hB,← hB];clear he hZ ht hv;obtain ⟨u,hu⟩:∃ u,u=t % B:=⟨_,rfl⟩;rw [← hu] at hd oN ⊢
      split <;> omega)
     have gK:=mB hZ (show j+i < j+n2+1 by omega) (show d < B from dJ)
     have dG:b'≤1:=by rw [bz]; split <;> omega
     have e6:IntKind.i64.wrap (((j:Nat):Int)+((i:Nat):Int))=((j+i:Nat):Int):=by rw [ax (by omega) (by omega)]; omega
     have e7:IntKind.i64.wrap (((i:Nat):Int)+1)=((i+1:Nat):Int):=by rw [ax (by omega) (by omega)]; omega
     rw [← hx];simp only [kF _ iA,hv,e6];refine ⟨⟨by omega,by omega⟩,?_⟩
     simp only [toNat_cast,ay,Nat.zero_add];conv=>whnf
     refine ⟨by show j+i < m; omega,?_⟩
     conv=>whnf
     rw [← hl];simp only [eI];refine ⟨(l,t % B,b),rfl,⟨dR,oN,hb⟩,?_⟩;simp only [lO,← hd,← bz,e6];conv=>whnf
     refine ⟨⟨by omega,by omega⟩,?_⟩
     simp only [toNat_cast,ay,Nat.zero_add];conv=>whnf
     refine ⟨by show j+i < m; omega,?_⟩
     conv=>whnf
     simp only [cl,jO,e7];rw [fE dJ];refine .inl ⟨_,?_,i+1,t / B,b',cH Z (j+i) d,(.aa (.aa (.aa (.sk 3 (.aa (.aa (.sk 1 (.aa (.sk 1 (.aa (.aa (.sk 88 (.aa (.aa (.aa (.sk 90 .nil rfl)))) rfl))) rfl)) rfl))) rfl)))),rfl,rfl,?_⟩
     ·omega
     ·exact ⟨⟨by omega,fI,dG⟩,gK,au⟩
    ·have h1:i=n2:=by
      have h1:¬ i < n2:=by simpa using h1
      omega
     subst h1;obtain ⟨l,hl⟩:∃ l,l=ao Z (j+i):=⟨_,rfl⟩;have dR:l < 4294967296:=by rw [hl]; exact cK Z (j+i)
     obtain ⟨d,hd⟩:∃ d,d=(l+2*4294967296 - c - b) % 4294967296:=⟨_,rfl⟩;obtain ⟨b',bz⟩:∃ b',b'=if l < c+b then 1 else 0:=⟨_,rfl⟩
     have dJ:d < 4294967296:=by rw [hd]; exact Nat.mod_lt _ (by decide)
     have au:=BD (j:=j) (d:=d) (b':=b') (by rw [bR]; exact b6 D) hc he (by
      rw [← hl,bz,hB,← hB];clear he hZ
      split <;> omega)
     have gK:=mB hZ (show j+i < j+i+1 by omega) (show d < B from dJ)
     have oO:c % B=c:=Nat.mod_eq_of_lt hc;have dG:b'≤1:=by rw [bz]; split <;> omega
     have vR:qt % B=qt:=Nat.mod_eq_of_lt hT.1;have hE:0 < D*B ^ j:=Nat.mul_pos F.AH (eh j);have oQ:Q=X / (D*B ^ j):=by rw [F.fQ,Nat.div_div_eq_div_mul,Nat.mul_comm]
     conv=>whnf
     simp only [e1];refine ⟨⟨by omega,by omega⟩,?_⟩
     simp only [toNat_cast,ay,Nat.zero_add];conv=>whnf
     refine ⟨by show j+i < m; omega,?_⟩
     conv=>whnf
     rw [← hl];simp only [eI,oO];refine ⟨(l,c,b),rfl,⟨dR,hc,hb⟩,?_⟩;simp only [lO,← hd,← bz,e1];conv=>whnf
     refine ⟨⟨by omega,by omega⟩,?_⟩
     simp only [toNat_cast,ay,Nat.zero_add];conv=>whnf
     refine ⟨by show j+i < m; omega,?_⟩
     conv=>whnf
     rw [fE dJ];refine aK (fun J=>?_) (fun J=>?_)
     ·have J:b'=0:=by
       have:=of_decide_eq_true J;omega
      clear bz;subst J;rw [Nat.zero_mul,Nat.add_zero] at au;obtain ⟨iD,ff⟩:=Bk hE au (by rw [← oQ]; exact hT.2.1)
      conv=>whnf
      simp only [eI,vR];exact rQ (i:=⟨X,m,cx,D,cd,j⟩) ff iD rfl
     ·have J:b'=1:=by
       have:=of_decide_eq_false J;omega
      clear bz;subst J;rw [Nat.one_mul] at au;obtain ⟨iD,ff⟩:=Bl hE au gK (by rw [← oQ]; exact hT.2.2)
      obtain ⟨Y,hY⟩:∃ Y,Y=cH Z (j+i) d:=⟨_,rfl⟩;rw [← hY] at ff gK ⊢;clear au he hZ hY hc hb hl dR hd dJ oO;conv=>whnf
      refine .inl ⟨fun mm tz hz=>∃ (k:Nat) (c:Nat) (V:Nat),bA (some (.slice (some ⟨0,0,none⟩) m cx)::some (.slice (some ⟨1,0,none⟩) i cd)::some (.int .i64 j)::aF 3 (some (.int .u32 0)::some (.int .i64 i)::aF 1 (some (.int .u64 qt)::aF 5 (some (.int .u32 c)::aF 141 (some (.slice (some ⟨1,0,none⟩) i cd)::some (.int .i64 i)::some (.int .i64 k)::aF 34 []))))) tz∧hz=[some (.flat true m 1 (bo V)),some (dN D)]∧i - k=mm∧((k≤i∧c≤1)∧V < B ^ (j+i+1)∧V+c*B ^ (j+k)=Y+D % B ^ k*B ^ j),.inr ⟨[0,1],[0,1,2,6,7,9,15,157,158,159],?_⟩,?_⟩
      ·conv=>whnf
       intro _;conv=>whnf
       refine ⟨_,0,0,Y,(.aa (.aa (.aa (.sk 3 (.aa (.aa (.sk 1 (.aa (.sk 5 (.aa (.sk 141 (.aa (.aa (.aa (.sk 34 .nil rfl)))) rfl)) rfl)) rfl))) rfl)))),rfl,rfl,?_⟩;exact ⟨⟨Nat.zero_le _,by decide⟩,gK,by simp [Nat.mod_one]⟩
      rintro mm aT _ ⟨k,c,V,aw,rfl,rfl,⟨⟨hk,hc⟩,hV,he⟩⟩
      obtain ⟨az,rfl⟩:∃ az:Nat→Value,aT=.slice (some ⟨0,0,none⟩) m cx::.slice (some ⟨1,0,none⟩) i cd::.int .i64 j::zs az 3 3 (.int .u32 0::.int .i64 i::zs az 8 1 (.int .u64 qt::zs az 10 5 (.int .u32 c::zs az 16 141 (.slice (some ⟨1,0,none⟩) i cd::.int .i64 i::.int .i64 k::zs az 160 34 [])))):=bI aw;clear aw;conv=>whnf
      refine aK (fun h3=>?_) (fun h3=>?_)
      ·have h3:k < i:=by simpa using h3
       obtain ⟨x,hx⟩:∃ x,x=ao D k:=⟨_,rfl⟩;obtain ⟨l,hl⟩:∃ l,l=ao V (j+k):=⟨_,rfl⟩;have iA:x < 4294967296:=by rw [hx]; exact cK D k
       have dR:l < 4294967296:=by rw [hl]; exact cK V (j+k)
       obtain ⟨t,ht⟩:∃ t,t=l+x+c:=⟨_,rfl⟩;have au:=BE (t:=t) (i:=k) (j:=j) he (by rw [← hl,← hx]; exact ht)
       have ic:t % B < 4294967296:=Nat.mod_lt _ (by decide)
       have fI:t / B≤1:=by show t / 4294967296≤1; omega
       have vS:=mB hV (show j+k < j+i+1 by omega) (show t % B < B from ic)
       have e6:IntKind.i64.wrap (((j:Nat):Int)+((k:Nat):Int))=((j+k:Nat):Int):=by rw [ax (by omega) (by omega)]; omega
       have e7:IntKind.i64.wrap (((k:Nat):Int)+1)=((k+1:Nat):Int):=by rw [ax (by omega) (by omega)]; omega
       conv=>whnf
       refine ⟨⟨by omega,by omega⟩,?_⟩
       simp only [toNat_cast,ay,Nat.zero_add];conv=>whnf
       refine ⟨by show k < nl D; omega,?_⟩
       conv=>whnf
       simp only [e6];refine ⟨⟨by omega,by omega⟩,?_⟩
       simp only [toNat_cast,ay,Nat.zero_add];conv=>whnf
       refine ⟨by show j+k < m; omega,?_⟩
       conv=>whnf
       rw [← hl,← hx];refine ⟨(l,x,c),rfl,⟨dR,iA,hc⟩,?_⟩;simp only [uK,← ht,e6];conv=>whnf
       refine ⟨⟨by omega,by omega⟩,?_⟩
       simp only [toNat_cast,ay,Nat.zero_add];conv=>whnf
       refine ⟨by show j+k < m; omega,?_⟩
       conv=>whnf
       simp only [e7];rw [show t % 4294967296=t % B from rfl,fE ic]
       refine .inl ⟨_,?_,k+1,t / B,cH V (j+k) (t % B),(.aa (.aa (.aa (.sk 3 (.aa (.aa (.sk 1 (.aa (.sk 5 (.aa (.sk 141 (.aa (.aa (.aa (.sk 34 .nil rfl)))) rfl)) rfl)) rfl))) rfl)))),rfl,rfl,?_⟩
       ·omega
       ·exact ⟨⟨by omega,fI⟩,vS,au⟩
      ·have h3:k=i:=by
        have h3:¬ k < i:=by simpa using h3
        omega
       subst h3;have ll:D < B ^ k:=by rw [bR]; exact b6 D
       have gi:=BF (V:=V) (R:=X % (D*B ^ j)) (k:=j+k) hV (Nat.lt_of_lt_of_le (Nat.mod_lt _ hE) (by rw [Nat.add_comm,Nat.pow_add]; exact Nat.mul_le_mul_right _ (Nat.le_of_lt ll))) hc (by
        rw [he,Nat.mod_eq_of_lt ll]; exact ff)
       have ie:qt - 1=X / (D*B ^ j):=by rw [iD]; rfl
       have ep:IntKind.u64.wrap ((qt:Int) - 1)=((qt - 1:Nat):Int):=by
        have:1≤qt:=by rw [iD]; exact Nat.le_add_left _ _
        have:=hT.1;rw [bL (by omega) (by omega)]; omega
       have vn:(qt - 1) % B=qt - 1:=Nat.mod_eq_of_lt (by have:=hT.1; show qt - 1 < 4294967296; omega)
       conv=>whnf
       simp only [e1];refine ⟨⟨by omega,by omega⟩,?_⟩
       simp only [toNat_cast,ay,Nat.zero_add];conv=>whnf
       refine ⟨by show j+k < m; omega,?_⟩
       conv=>whnf
       rw [show IntKind.u32.wrap (((ao V (j+k):Nat):Int)+(c:Int))=(((ao V (j+k)+c) % B:Nat):Int) from eI (ao V (j+k)+c)]
       refine ⟨⟨by omega,by omega⟩,?_⟩
       simp only [toNat_cast,ay,Nat.zero_add];conv=>whnf
       refine ⟨by show j+k < m; omega,?_⟩
       conv=>whnf
       simp only [ep,eI,vn];rw [fE (Nat.mod_lt _ (by decide)),gi]
       exact rQ (i:=⟨X,m,cx,D,cd,j⟩) rfl ie rfl
    skip
    skip
  ·rw [show (((((r / B:Nat):Int) == 0):Bool))=false by show decide (((r / 4294967296:Nat):Int)=0)=false; exact decide_eq_false (by omega)]
   conv=>whnf
   obtain ⟨qt,oM⟩:∃ qt,qt=q:=⟨_,rfl⟩;have hT:qt < 4294967296∧Q≤qt∧qt≤Q+1:=⟨by omega,by omega,by have:=pK (.inr mz); omega⟩
   rw [← oM];clear my pK mz he hr Ep fo oM;conv=>whnf
   refine .inl ⟨fun mm tz hz=>∃ (i:Nat) (c:Nat) (b:Nat) (Z:Nat),bA (some (.slice (some ⟨0,0,none⟩) m cx)::some (.slice (some ⟨1,0,none⟩) n2 cd)::some (.int .i64 j)::aF 3 (some (.int .u32 0)::some (.int .i64 n2)::aF 1 (some (.int .u64 qt)::aF 1 (some (.int .u64 c)::some (.int .u32 b)::aF 88 (some (.slice (some ⟨1,0,none⟩) n2 cd)::some (.int .i64 n2)::some (.int .i64 i)::aF 90 []))))) tz∧hz=[some (.flat true m 1 (bo Z)),some (dN D)]∧n2 - i=mm∧((i≤n2∧c < 4294967296∧b≤1)∧Z < B ^ (j+n2+1)∧Z+qt*(D % B ^ i)*B ^ j=X+(b+c)*B ^ (j+i)),.inr ⟨[0,1],[0,1,2,6,7,9,11,12,101,102,103],?_⟩,?_⟩
   ·conv=>whnf
    intro _;conv=>whnf
    refine ⟨_,0,0,0,X,(.aa (.aa (.aa (.sk 3 (.aa (.aa (.sk 1 (.aa (.sk 1 (.aa (.aa (.sk 88 (.aa (.aa (.aa (.sk 90 .nil rfl)))) rfl))) rfl)) rfl))) rfl)))),rfl,rfl,?_⟩;exact ⟨⟨Nat.zero_le _,by decide,by decide⟩,F.fX,by simp [Nat.mod_one]⟩
   rintro mm aT _ ⟨i,c,b,Z,aw,rfl,rfl,⟨⟨hi,hc,hb⟩,hZ,he⟩⟩
   obtain ⟨az,rfl⟩:∃ az:Nat→Value,aT=.slice (some ⟨0,0,none⟩) m cx::.slice (some ⟨1,0,none⟩) n2 cd::.int .i64 j::zs az 3 3 (.int .u32 0::.int .i64 n2::zs az 8 1 (.int .u64 qt::zs az 10 1 (.int .u64 c::.int .u32 b::zs az 13 88 (.slice (some ⟨1,0,none⟩) n2 cd::.int .i64 n2::.int .i64 i::zs az 104 90 [])))):=bI aw;clear aw;conv=>whnf
   refine aK (fun h1=>?_) (fun h1=>?_)
   ·have h1:i < n2:=by simpa using h1
    conv=>whnf
    refine ⟨⟨by omega,by omega⟩,?_⟩
    simp only [toNat_cast,ay,Nat.zero_add];conv=>whnf
    refine ⟨by show i < nl D; omega,?_⟩
    conv=>whnf
    obtain ⟨x,hx⟩:∃ x,x=ao D i:=⟨_,rfl⟩;obtain ⟨l,hl⟩:∃ l,l=ao Z (j+i):=⟨_,rfl⟩;obtain ⟨t,ht⟩:∃ t,t=c+qt*ao D i:=⟨_,rfl⟩;have iA:x < B:=by rw [hx]; exact cK D i
    have dR:l < 4294967296:=by rw [hl]; exact cK Z (j+i)
    obtain ⟨hv,fI⟩:=BW (t:=t) hc hT.1 iA (by rw [hx]; exact ht)
    have oN:t % B < 4294967296:=Nat.mod_lt _ (by decide)
    obtain ⟨d,hd⟩:∃ d,d=(l+2*4294967296 - t % B - b) % 4294967296:=⟨_,rfl⟩;obtain ⟨b',bz⟩:∃ b',b'=if l < t % B+b then 1 else 0:=⟨_,rfl⟩
    have dJ:d < 4294967296:=by rw [hd]; exact Nat.mod_lt _ (by decide)
    have au:=BC (i:=i) (j:=j) (d:=d) (b':=b') he ht (by
     rw [← hl,bz,hB,← hB];clear he hZ ht hv;obtain ⟨u,hu⟩:∃ u,u=t % B:=⟨_,rfl⟩;rw [← hu] at hd oN ⊢
     split <;> omega)
    have gK:=mB hZ (show j+i < j+n2+1 by omega) (show d < B from dJ)
    have dG:b'≤1:=by rw [bz]; split <;> omega
    have e6:IntKind.i64.wrap (((j:Nat):Int)+((i:Nat):Int))=((j+i:Nat):Int):=by rw [ax (by omega) (by omega)]; omega
    have e7:IntKind.i64.wrap (((i:Nat):Int)+1)=((i+1:Nat):Int):=by rw [ax (by omega) (by omega)]; omega
    rw [← hx];simp only [kF _ iA,hv,e6];refine ⟨⟨by omega,by omega⟩,?_⟩
    simp only [toNat_cast,ay,Nat.zero_add];conv=>whnf
    refine ⟨by show j+i < m; omega,?_⟩
    conv=>whnf
    rw [← hl];simp only [eI];refine ⟨(l,t % B,b),rfl,⟨dR,oN,hb⟩,?_⟩;simp only [lO,← hd,← bz,e6];conv=>whnf
    refine ⟨⟨by omega,by omega⟩,?_⟩
    simp only [toNat_cast,ay,Nat.zero_add];conv=>whnf
    refine ⟨by show j+i < m; omega,?_⟩
    conv=>whnf
    simp only [cl,jO,e7];rw [fE dJ];refine .inl ⟨_,?_,i+1,t / B,b',cH Z (j+i) d,(.aa (.aa (.aa (.sk 3 (.aa (.aa (.sk 1 (.aa (.sk 1 (.aa (.aa (.sk 88 (.aa (.aa (.aa (.sk 90 .nil rfl)))) rfl))) rfl)) rfl))) rfl)))),rfl,rfl,?_⟩
    ·omega
    ·exact ⟨⟨by omega,fI,dG⟩,gK,au⟩
   ·have h1:i=n2:=by
     have h1:¬ i < n2:=by simpa using h1
     omega
    subst h1;obtain ⟨l,hl⟩:∃ l,l=ao Z (j+i):=⟨_,rfl⟩;have dR:l < 4294967296:=by rw [hl]; exact cK Z (j+i)
    obtain ⟨d,hd⟩:∃ d,d=(l+2*4294967296 - c - b) % 4294967296:=⟨_,rfl⟩;obtain ⟨b',bz⟩:∃ b',b'=if l < c+b then 1 else 0:=⟨_,rfl⟩
    have dJ:d < 4294967296:=by rw [hd]; exact Nat.mod_lt _ (by decide)
    have au:=BD (j:=j) (d:=d) (b':=b') (by rw [bR]; exact b6 D) hc he (by
     rw [← hl,bz,hB,← hB];clear he hZ
     split <;> omega)
    have gK:=mB hZ (show j+i < j+i+1 by omega) (show d < B from dJ)
    have oO:c % B=c:=Nat.mod_eq_of_lt hc;have dG:b'≤1:=by rw [bz]; split <;> omega
    have vR:qt % B=qt:=Nat.mod_eq_of_lt hT.1;have hE:0 < D*B ^ j:=Nat.mul_pos F.AH (eh j);have oQ:Q=X / (D*B ^ j):=by rw [F.fQ,Nat.div_div_eq_div_mul,Nat.mul_comm]
    conv=>whnf
    simp only [e1];refine ⟨⟨by omega,by omega⟩,?_⟩
    simp only [toNat_cast,ay,Nat.zero_add];conv=>whnf
    refine ⟨by show j+i < m; omega,?_⟩
    conv=>whnf
    rw [← hl];simp only [eI,oO];refine ⟨(l,c,b),rfl,⟨dR,hc,hb⟩,?_⟩;simp only [lO,← hd,← bz,e1];conv=>whnf
    refine ⟨⟨by omega,by omega⟩,?_⟩
    simp only [toNat_cast,ay,Nat.zero_add];conv=>whnf
    refine ⟨by show j+i < m; omega,?_⟩
    conv=>whnf
    rw [fE dJ];refine aK (fun J=>?_) (fun J=>?_)
    ·have J:b'=0:=by
      have:=of_decide_eq_true J;omega
     clear bz;subst J;rw [Nat.zero_mul,Nat.add_zero] at au;obtain ⟨iD,ff⟩:=Bk hE au (by rw [← oQ]; exact hT.2.1)
     conv=>whnf
     simp only [eI,vR];exact rQ (i:=⟨X,m,cx,D,cd,j⟩) ff iD rfl
    ·have J:b'=1:=by
      have:=of_decide_eq_false J;omega
     clear bz;subst J;rw [Nat.one_mul] at au;obtain ⟨iD,ff⟩:=Bl hE au gK (by rw [← oQ]; exact hT.2.2)
     obtain ⟨Y,hY⟩:∃ Y,Y=cH Z (j+i) d:=⟨_,rfl⟩;rw [← hY] at ff gK ⊢;clear au he hZ hY hc hb hl dR hd dJ oO;conv=>whnf
     refine .inl ⟨fun mm tz hz=>∃ (k:Nat) (c:Nat) (V:Nat),bA (some (.slice (some ⟨0,0,none⟩) m cx)::some (.slice (some ⟨1,0,none⟩) i cd)::some (.int .i64 j)::aF 3 (some (.int .u32 0)::some (.int .i64 i)::aF 1 (some (.int .u64 qt)::aF 5 (some (.int .u32 c)::aF 141 (some (.slice (some ⟨1,0,none⟩) i cd)::some (.int .i64 i)::some (.int .i64 k)::aF 34 []))))) tz∧hz=[some (.flat true m 1 (bo V)),some (dN D)]∧i - k=mm∧((k≤i∧c≤1)∧V < B ^ (j+i+1)∧V+c*B ^ (j+k)=Y+D % B ^ k*B ^ j),.inr ⟨[0,1],[0,1,2,6,7,9,15,157,158,159],?_⟩,?_⟩
     ·conv=>whnf
      intro _;conv=>whnf
      refine ⟨_,0,0,Y,(.aa (.aa (.aa (.sk 3 (.aa (.aa (.sk 1 (.aa (.sk 5 (.aa (.sk 141 (.aa (.aa (.aa (.sk 34 .nil rfl)))) rfl)) rfl)) rfl))) rfl)))),rfl,rfl,?_⟩;exact ⟨⟨Nat.zero_le _,by decide⟩,gK,by simp [Nat.mod_one]⟩
     rintro mm aT _ ⟨k,c,V,aw,rfl,rfl,⟨⟨hk,hc⟩,hV,he⟩⟩
     obtain ⟨az,rfl⟩:∃ az:Nat→Value,aT=.slice (some ⟨0,0,none⟩) m cx::.slice (some ⟨1,0,none⟩) i cd::.int .i64 j::zs az 3 3 (.int .u32 0::.int .i64 i::zs az 8 1 (.int .u64 qt::zs az 10 5 (.int .u32 c::zs az 16 141 (.slice (some ⟨1,0,none⟩) i cd::.int .i64 i::.int .i64 k::zs az 160 34 [])))):=bI aw;clear aw;conv=>whnf
     refine aK (fun h3=>?_) (fun h3=>?_)
     ·have h3:k < i:=by simpa using h3
      obtain ⟨x,hx⟩:∃ x,x=ao D k:=⟨_,rfl⟩;obtain ⟨l,hl⟩:∃ l,l=ao V (j+k):=⟨_,rfl⟩;have iA:x < 4294967296:=by rw [hx]; exact cK D k
      have dR:l < 4294967296:=by rw [hl]; exact cK V (j+k)
      obtain ⟨t,ht⟩:∃ t,t=l+x+c:=⟨_,rfl⟩;have au:=BE (t:=t) (i:=k) (j:=j) he (by rw [← hl,← hx]; exact ht)
      have ic:t % B < 4294967296:=Nat.mod_lt _ (by decide)
      have fI:t / B≤1:=by show t / 4294967296≤1; omega
      have vS:=mB hV (show j+k < j+i+1 by omega) (show t % B < B from ic)
      have e6:IntKind.i64.wrap (((j:Nat):Int)+((k:Nat):Int))=((j+k:Nat):Int):=by rw [ax (by omega) (by omega)]; omega
      have e7:IntKind.i64.wrap (((k:Nat):Int)+1)=((k+1:Nat):Int):=by rw [ax (by omega) (by omega)]; omega
      conv=>whnf
      refine ⟨⟨by omega,by omega⟩,?_⟩
      simp only [toNat_cast,ay,Nat.zero_add];conv=>whnf
      refine ⟨by show k < nl D; omega,?_⟩
      conv=>whnf
      simp only [e6];refine ⟨⟨by omega,by omega⟩,?_⟩
      simp only [toNat_cast,ay,Nat.zero_add];conv=>whnf
      refine ⟨by show j+k < m; omega,?_⟩
      conv=>whnf
      rw [← hl,← hx];refine ⟨(l,x,c),rfl,⟨dR,iA,hc⟩,?_⟩;simp only [uK,← ht,e6];conv=>whnf
      refine ⟨⟨by omega,by omega⟩,?_⟩
      simp only [toNat_cast,ay,Nat.zero_add];conv=>whnf
      refine ⟨by show j+k < m; omega,?_⟩
      conv=>whnf
      simp only [e7];rw [show t % 4294967296=t % B from rfl,fE ic]
      refine .inl ⟨_,?_,k+1,t / B,cH V (j+k) (t % B),(.aa (.aa (.aa (.sk 3 (.aa (.aa (.sk 1 (.aa (.sk 5 (.aa (.sk 141 (.aa (.aa (.aa (.sk 34 .nil rfl)))) rfl)) rfl)) rfl))) rfl)))),rfl,rfl,?_⟩
      ·omega
      ·exact ⟨⟨by omega,fI⟩,vS,au⟩
     ·have h3:k=i:=by
       have h3:¬ k < i:=by simpa using h3
       omega
      subst h3;have ll:D < B ^ k:=by rw [bR]; exact b6 D
      have gi:=BF (V:=V) (R:=X % (D*B ^ j)) (k:=j+k) hV (Nat.lt_of_lt_of_le (Nat.mod_lt _ hE) (by rw [Nat.add_comm,Nat.pow_add]; exact Nat.mul_le_mul_right _ (Nat.le_of_lt ll))) hc (by
       rw [he,Nat.mod_eq_of_lt ll]; exact ff)
      have ie:qt - 1=X / (D*B ^ j):=by rw [iD]; rfl
      have ep:IntKind.u64.wrap ((qt:Int) - 1)=((qt - 1:Nat):Int):=by
       have:1≤qt:=by rw [iD]; exact Nat.le_add_left _ _
       have:=hT.1;rw [bL (by omega) (by omega)]; omega
      have vn:(qt - 1) % B=qt - 1:=Nat.mod_eq_of_lt (by have:=hT.1; show qt - 1 < 4294967296; omega)
      conv=>whnf
      simp only [e1];refine ⟨⟨by omega,by omega⟩,?_⟩
      simp only [toNat_cast,ay,Nat.zero_add];conv=>whnf
      refine ⟨by show j+k < m; omega,?_⟩
      conv=>whnf
      rw [show IntKind.u32.wrap (((ao V (j+k):Nat):Int)+(c:Int))=(((ao V (j+k)+c) % B:Nat):Int) from eI (ao V (j+k)+c)]
      refine ⟨⟨by omega,by omega⟩,?_⟩
      simp only [toNat_cast,ay,Nat.zero_add];conv=>whnf
      refine ⟨by show j+k < m; omega,?_⟩
      conv=>whnf
      simp only [ep,eI,vn];rw [fE (Nat.mod_lt _ (by decide)),gi]
      exact rQ (i:=⟨X,m,cx,D,cd,j⟩) rfl ie rfl
   skip
   skip
 ·have an:Q < q:=by have:=F.fB; omega
  rw [show decide (((q / B:Nat):Int) > 0)=true from decide_eq_true (by show (((q / 4294967296:Nat):Int) > 0); omega)]
  conv=>whnf
  have ep:IntKind.u64.wrap ((q:Int) - 1)=((q - 1:Nat):Int):=by rw [bL (by omega) (by omega)]; omega
  have bO:(q - 1)*d1+(r+d1)=top:=by
   have h1:(q - 1)*d1+d1=q*d1:=by
    conv=>rhs; rw [show q=(q - 1)+1 by omega,Nat.add_mul,Nat.one_mul]
   omega
  have ff:r+d1 < 18446744073709551616:=Nat.lt_of_le_of_lt (Nat.le_trans (Nat.le_add_left _ _) (Nat.le_of_eq bO)) HV;have er:IntKind.u64.wrap ((r:Int)+(d1:Int))=((r+d1:Nat):Int):=by rw [bL (by omega) (by omega)]; omega
  simp only [ep,e4];refine ⟨⟨by omega,by omega⟩,?_⟩
  simp only [toNat_cast,ay,Nat.zero_add];conv=>whnf
  refine ⟨by show n1 < nl D; omega,?_⟩
  conv=>whnf
  simp only [kF _ z7];rw [← gg,er];simp only [cl,jO];rcases Nat.lt_or_ge (r+d1) 4294967296 with mz | mz
  ·rw [show decide ((((r+d1) / B:Nat):Int) > 0)=false from decide_eq_false (by show ¬ ((((r+d1) / 4294967296:Nat):Int) > 0); omega)]
   conv=>whnf
   refine .inr ⟨[0,1],[0,1,2,6,7,9,10],?_⟩;conv=>whnf
   intro _;conv=>whnf
   refine ⟨_,?_,q - 1,r+d1,(.aa (.aa (.aa (.sk 3 (.aa (.aa (.sk 1 (.aa (.aa (.sk 183 .nil rfl))) rfl))) rfl)))),rfl,rfl,?_⟩
   ·omega
   ·exact ⟨bO,by omega,by omega⟩
  ·rw [show decide ((((r+d1) / B:Nat):Int) > 0)=true from decide_eq_true (by show ((((r+d1) / 4294967296:Nat):Int) > 0); omega)]
   conv=>whnf
   simp only [cl,jO];rcases Nat.lt_or_ge (q - 1) 4294967296 with vm | vm
   ·rw [show (((((q - 1) / B:Nat):Int) == 0):Bool)=true by show decide ((((q - 1) / 4294967296:Nat):Int)=0)=true; exact decide_eq_true (by omega)]
    conv=>whnf
    obtain ⟨qt,oM⟩:∃ qt,qt=q - 1:=⟨_,rfl⟩;have hT:qt < 4294967296∧Q≤qt∧qt≤Q+1:=by
     have h3:q - 1≤X / B ^ j / D+1:=GG (eh n) F.fW F.fD bO vm F.fP DJ (.inl mz);rw [← F.fQ] at h3;omega
    rw [← oM];clear my vm an ep bO ff er mz he hr Ep fo oM;conv=>whnf
    refine .inl ⟨fun mm tz hz=>∃ (i:Nat) (c:Nat) (b:Nat) (Z:Nat),bA (some (.slice (some ⟨0,0,none⟩) m cx)::some (.slice (some ⟨1,0,none⟩) n2 cd)::some (.int .i64 j)::aF 3 (some (.int .u32 0)::some (.int .i64 n2)::aF 1 (some (.int .u64 qt)::aF 1 (some (.int .u64 c)::some (.int .u32 b)::aF 88 (some (.slice (some ⟨1,0,none⟩) n2 cd)::some (.int .i64 n2)::some (.int .i64 i)::aF 90 []))))) tz∧hz=[some (.flat true m 1 (bo Z)),some (dN D)]∧n2 - i=mm∧((i≤n2∧c < 4294967296∧b≤1)∧Z < B ^ (j+n2+1)∧Z+qt*(D % B ^ i)*B ^ j=X+(b+c)*B ^ (j+i)),.inr ⟨[0,1],[0,1,2,6,7,9,11,12,101,102,103],?_⟩,?_⟩
    ·conv=>whnf
     intro _;conv=>whnf
     refine ⟨_,0,0,0,X,(.aa (.aa (.aa (.sk 3 (.aa (.aa (.sk 1 (.aa (.sk 1 (.aa (.aa (.sk 88 (.aa (.aa (.aa (.sk 90 .nil rfl)))) rfl))) rfl)) rfl))) rfl)))),rfl,rfl,?_⟩;exact ⟨⟨Nat.zero_le _,by decide,by decide⟩,F.fX,by simp [Nat.mod_one]⟩
    rintro mm aT _ ⟨i,c,b,Z,aw,rfl,rfl,⟨⟨hi,hc,hb⟩,hZ,he⟩⟩
    obtain ⟨az,rfl⟩:∃ az:Nat→Value,aT=.slice (some ⟨0,0,none⟩) m cx::.slice (some ⟨1,0,none⟩) n2 cd::.int .i64 j::zs az 3 3 (.int .u32 0::.int .i64 n2::zs az 8 1 (.int .u64 qt::zs az 10 1 (.int .u64 c::.int .u32 b::zs az 13 88 (.slice (some ⟨1,0,none⟩) n2 cd::.int .i64 n2::.int .i64 i::zs az 104 90 [])))):=bI aw;clear aw;conv=>whnf
    refine aK (fun h1=>?_) (fun h1=>?_)
    ·have h1:i < n2:=by simpa using h1
     conv=>whnf
     refine ⟨⟨by omega,by omega⟩,?_⟩
     simp only [toNat_cast,ay,Nat.zero_add];conv=>whnf
     refine ⟨by show i < nl D; omega,?_⟩
     conv=>whnf
     obtain ⟨x,hx⟩:∃ x,x=ao D i:=⟨_,rfl⟩;obtain ⟨l,hl⟩:∃ l,l=ao Z (j+i):=⟨_,rfl⟩;obtain ⟨t,ht⟩:∃ t,t=c+qt*ao D i:=⟨_,rfl⟩;have iA:x < B:=by rw [hx]; exact cK D i
     have dR:l < 4294967296:=by rw [hl]; exact cK Z (j+i)
     obtain ⟨hv,fI⟩:=BW (t:=t) hc hT.1 iA (by rw [hx]; exact ht)
     have oN:t % B < 4294967296:=Nat.mod_lt _ (by decide)
     obtain ⟨d,hd⟩:∃ d,d=(l+2*4294967296 - t % B - b) % 4294967296:=⟨_,rfl⟩;obtain ⟨b',bz⟩:∃ b',b'=if l < t % B+b then 1 else 0:=⟨_,rfl⟩
     have dJ:d < 4294967296:=by rw [hd]; exact Nat.mod_lt _ (by decide)
     have au:=BC (i:=i) (j:=j) (d:=d) (b':=b') he ht (by
      rw [← hl,bz,hB,← hB];clear he hZ ht hv;obtain ⟨u,hu⟩:∃ u,u=t % B:=⟨_,rfl⟩;rw [← hu] at hd oN ⊢
      split <;> omega)
     have gK:=mB hZ (show j+i < j+n2+1 by omega) (show d < B from dJ)
     have dG:b'≤1:=by rw [bz]; split <;> omega
     have e6:IntKind.i64.wrap (((j:Nat):Int)+((i:Nat):Int))=((j+i:Nat):Int):=by rw [ax (by omega) (by omega)]; omega
     have e7:IntKind.i64.wrap (((i:Nat):Int)+1)=((i+1:Nat):Int):=by rw [ax (by omega) (by omega)]; omega
     rw [← hx];simp only [kF _ iA,hv,e6];refine ⟨⟨by omega,by omega⟩,?_⟩
     simp only [toNat_cast,ay,Nat.zero_add];conv=>whnf
     refine ⟨by show j+i < m; omega,?_⟩
     conv=>whnf
     rw [← hl];simp only [eI];refine ⟨(l,t % B,b),rfl,⟨dR,oN,hb⟩,?_⟩;simp only [lO,← hd,← bz,e6];conv=>whnf
     refine ⟨⟨by omega,by omega⟩,?_⟩
     simp only [toNat_cast,ay,Nat.zero_add];conv=>whnf
     refine ⟨by show j+i < m; omega,?_⟩
     conv=>whnf
     simp only [cl,jO,e7];rw [fE dJ];refine .inl ⟨_,?_,i+1,t / B,b',cH Z (j+i) d,(.aa (.aa (.aa (.sk 3 (.aa (.aa (.sk 1 (.aa (.sk 1 (.aa (.aa (.sk 88 (.aa (.aa (.aa (.sk 90 .nil rfl)))) rfl))) rfl)) rfl))) rfl)))),rfl,rfl,?_⟩
     ·omega
     ·exact ⟨⟨by omega,fI,dG⟩,gK,au⟩
    ·have h1:i=n2:=by
      have h1:¬ i < n2:=by simpa using h1
      omega
     subst h1;obtain ⟨l,hl⟩:∃ l,l=ao Z (j+i):=⟨_,rfl⟩;have dR:l < 4294967296:=by rw [hl]; exact cK Z (j+i)
     obtain ⟨d,hd⟩:∃ d,d=(l+2*4294967296 - c - b) % 4294967296:=⟨_,rfl⟩;obtain ⟨b',bz⟩:∃ b',b'=if l < c+b then 1 else 0:=⟨_,rfl⟩
     have dJ:d < 4294967296:=by rw [hd]; exact Nat.mod_lt _ (by decide)
     have au:=BD (j:=j) (d:=d) (b':=b') (by rw [bR]; exact b6 D) hc he (by
      rw [← hl,bz,hB,← hB];clear he hZ
      split <;> omega)
     have gK:=mB hZ (show j+i < j+i+1 by omega) (show d < B from dJ)
     have oO:c % B=c:=Nat.mod_eq_of_lt hc;have dG:b'≤1:=by rw [bz]; split <;> omega
     have vR:qt % B=qt:=Nat.mod_eq_of_lt hT.1;have hE:0 < D*B ^ j:=Nat.mul_pos F.AH (eh j);have oQ:Q=X / (D*B ^ j):=by rw [F.fQ,Nat.div_div_eq_div_mul,Nat.mul_comm]
     conv=>whnf
     simp only [e1];refine ⟨⟨by omega,by omega⟩,?_⟩
     simp only [toNat_cast,ay,Nat.zero_add];conv=>whnf
     refine ⟨by show j+i < m; omega,?_⟩
     conv=>whnf
     rw [← hl];simp only [eI,oO];refine ⟨(l,c,b),rfl,⟨dR,hc,hb⟩,?_⟩;simp only [lO,← hd,← bz,e1];conv=>whnf
     refine ⟨⟨by omega,by omega⟩,?_⟩
     simp only [toNat_cast,ay,Nat.zero_add];conv=>whnf
     refine ⟨by show j+i < m; omega,?_⟩
     conv=>whnf
     rw [fE dJ];refine aK (fun J=>?_) (fun J=>?_)
     ·have J:b'=0:=by
       have:=of_decide_eq_true J;omega
      clear bz;subst J;rw [Nat.zero_mul,Nat.add_zero] at au;obtain ⟨iD,ff⟩:=Bk hE au (by rw [← oQ]; exact hT.2.1)
      conv=>whnf
      simp only [eI,vR];exact rQ (i:=⟨X,m,cx,D,cd,j⟩) ff iD rfl
     ·have J:b'=1:=by
       have:=of_decide_eq_false J;omega
      clear bz;subst J;rw [Nat.one_mul] at au;obtain ⟨iD,ff⟩:=Bl hE au gK (by rw [← oQ]; exact hT.2.2)
      obtain ⟨Y,hY⟩:∃ Y,Y=cH Z (j+i) d:=⟨_,rfl⟩;rw [← hY] at ff gK ⊢;clear au he hZ hY hc hb hl dR hd dJ oO;conv=>whnf
      refine .inl ⟨fun mm tz hz=>∃ (k:Nat) (c:Nat) (V:Nat),bA (some (.slice (some ⟨0,0,none⟩) m cx)::some (.slice (some ⟨1,0,none⟩) i cd)::some (.int .i64 j)::aF 3 (some (.int .u32 0)::some (.int .i64 i)::aF 1 (some (.int .u64 qt)::aF 5 (some (.int .u32 c)::aF 141 (some (.slice (some ⟨1,0,none⟩) i cd)::some (.int .i64 i)::some (.int .i64 k)::aF 34 []))))) tz∧hz=[some (.flat true m 1 (bo V)),some (dN D)]∧i - k=mm∧((k≤i∧c≤1)∧V < B ^ (j+i+1)∧V+c*B ^ (j+k)=Y+D % B ^ k*B ^ j),.inr ⟨[0,1],[0,1,2,6,7,9,15,157,158,159],?_⟩,?_⟩
      ·conv=>whnf
       intro _;conv=>whnf
       refine ⟨_,0,0,Y,(.aa (.aa (.aa (.sk 3 (.aa (.aa (.sk 1 (.aa (.sk 5 (.aa (.sk 141 (.aa (.aa (.aa (.sk 34 .nil rfl)))) rfl)) rfl)) rfl))) rfl)))),rfl,rfl,?_⟩;exact ⟨⟨Nat.zero_le _,by decide⟩,gK,by simp [Nat.mod_one]⟩
      rintro mm aT _ ⟨k,c,V,aw,rfl,rfl,⟨⟨hk,hc⟩,hV,he⟩⟩
      obtain ⟨az,rfl⟩:∃ az:Nat→Value,aT=.slice (some ⟨0,0,none⟩) m cx::.slice (some ⟨1,0,none⟩) i cd::.int .i64 j::zs az 3 3 (.int .u32 0::.int .i64 i::zs az 8 1 (.int .u64 qt::zs az 10 5 (.int .u32 c::zs az 16 141 (.slice (some ⟨1,0,none⟩) i cd::.int .i64 i::.int .i64 k::zs az 160 34 [])))):=bI aw;clear aw;conv=>whnf
      refine aK (fun h3=>?_) (fun h3=>?_)
      ·have h3:k < i:=by simpa using h3
       obtain ⟨x,hx⟩:∃ x,x=ao D k:=⟨_,rfl⟩;obtain ⟨l,hl⟩:∃ l,l=ao V (j+k):=⟨_,rfl⟩;have iA:x < 4294967296:=by rw [hx]; exact cK D k
       have dR:l < 4294967296:=by rw [hl]; exact cK V (j+k)
       obtain ⟨t,ht⟩:∃ t,t=l+x+c:=⟨_,rfl⟩;have au:=BE (t:=t) (i:=k) (j:=j) he (by rw [← hl,← hx]; exact ht)
       have ic:t % B < 4294967296:=Nat.mod_lt _ (by decide)
       have fI:t / B≤1:=by show t / 4294967296≤1; omega
       have vS:=mB hV (show j+k < j+i+1 by omega) (show t % B < B from ic)
       have e6:IntKind.i64.wrap (((j:Nat):Int)+((k:Nat):Int))=((j+k:Nat):Int):=by rw [ax (by omega) (by omega)]; omega
       have e7:IntKind.i64.wrap (((k:Nat):Int)+1)=((k+1:Nat):Int):=by rw [ax (by omega) (by omega)]; omega
       conv=>whnf
       refine ⟨⟨by omega,by omega⟩,?_⟩
       simp only [toNat_cast,ay,Nat.zero_add];conv=>whnf
       refine ⟨by show k < nl D; omega,?_⟩
       conv=>whnf
       simp only [e6];refine ⟨⟨by omega,by omega⟩,?_⟩
       simp only [toNat_cast,ay,Nat.zero_add];conv=>whnf
       refine ⟨by show j+k < m; omega,?_⟩
       conv=>whnf
       rw [← hl,← hx];refine ⟨(l,x,c),rfl,⟨dR,iA,hc⟩,?_⟩;simp only [uK,← ht,e6];conv=>whnf
       refine ⟨⟨by omega,by omega⟩,?_⟩
       simp only [toNat_cast,ay,Nat.zero_add];conv=>whnf
       refine ⟨by show j+k < m; omega,?_⟩
       conv=>whnf
       simp only [e7];rw [show t % 4294967296=t % B from rfl,fE ic]
       refine .inl ⟨_,?_,k+1,t / B,cH V (j+k) (t % B),(.aa (.aa (.aa (.sk 3 (.aa (.aa (.sk 1 (.aa (.sk 5 (.aa (.sk 141 (.aa (.aa (.aa (.sk 34 .nil rfl)))) rfl)) rfl)) rfl))) rfl)))),rfl,rfl,?_⟩
       ·omega
       ·exact ⟨⟨by omega,fI⟩,vS,au⟩
      ·have h3:k=i:=by
        have h3:¬ k < i:=by simpa using h3
        omega
       subst h3;have ll:D < B ^ k:=by rw [bR]; exact b6 D
       have gi:=BF (V:=V) (R:=X % (D*B ^ j)) (k:=j+k) hV (Nat.lt_of_lt_of_le (Nat.mod_lt _ hE) (by rw [Nat.add_comm,Nat.pow_add]; exact Nat.mul_le_mul_right _ (Nat.le_of_lt ll))) hc (by
        rw [he,Nat.mod_eq_of_lt ll]; exact ff)
       have ie:qt - 1=X / (D*B ^ j):=by rw [iD]; rfl
       have ep:IntKind.u64.wrap ((qt:Int) - 1)=((qt - 1:Nat):Int):=by
        have:1≤qt:=by rw [iD]; exact Nat.le_add_left _ _
        have:=hT.1;rw [bL (by omega) (by omega)]; omega
       have vn:(qt - 1) % B=qt - 1:=Nat.mod_eq_of_lt (by have:=hT.1; show qt - 1 < 4294967296; omega)
       conv=>whnf
       simp only [e1];refine ⟨⟨by omega,by omega⟩,?_⟩
       simp only [toNat_cast,ay,Nat.zero_add];conv=>whnf
       refine ⟨by show j+k < m; omega,?_⟩
       conv=>whnf
       rw [show IntKind.u32.wrap (((ao V (j+k):Nat):Int)+(c:Int))=(((ao V (j+k)+c) % B:Nat):Int) from eI (ao V (j+k)+c)]
       refine ⟨⟨by omega,by omega⟩,?_⟩
       simp only [toNat_cast,ay,Nat.zero_add];conv=>whnf
       refine ⟨by show j+k < m; omega,?_⟩
       conv=>whnf
       simp only [ep,eI,vn];rw [fE (Nat.mod_lt _ (by decide)),gi]
       exact rQ (i:=⟨X,m,cx,D,cd,j⟩) rfl ie rfl
    skip
    skip
   ·rw [show (((((q - 1) / B:Nat):Int) == 0):Bool)=false by show decide ((((q - 1) / 4294967296:Nat):Int)=0)=false; exact decide_eq_false (by omega)]
    conv=>whnf
    refine .inr ⟨[0,1],[0,1,2,6,7,9,10],?_⟩;conv=>whnf
    intro _;conv=>whnf
    refine ⟨_,?_,q - 1,r+d1,(.aa (.aa (.aa (.sk 3 (.aa (.aa (.sk 1 (.aa (.aa (.sk 183 .nil rfl))) rfl))) rfl)))),rfl,rfl,?_⟩
    ·omega
    ·exact ⟨bO,by omega,by omega⟩
open Go Go.Ae
def Eh:Env:=En [(161,.q sI),(136,.q wP),(183,.q CP),(185,.q CQ),(187,.q BX),(184,.p C9)] [(186,AD xq)]
theorem ae3:EnvOk Tryz.prog Eh:=bD ⟨Cw,Fp,W2,W3,Un,ZG,trivial⟩ ⟨W4,trivial⟩
theorem Vt:fM Tryz.prog 163 (AD gE):=by
 refine OG ae3 aN Tryz.func163 (enters_of Tryz.func163 (by kernel_rfl) rfl) ?_
 intro ⟨A,ca,D,cd⟩ hp;have hp:(nl A≤137438953472∧nl D≤137438953472)∧D≠0:=hp;conv=>whnf
 refine ⟨(A,ca,D,cd),[0,1],rfl,hp.1,?_⟩;conv=>whnf
 refine ⟨aG.aR (fun h=>h) (fun r hr=>rfl),?_⟩
 conv=>whnf
 refine ⟨aG.aR (fun h=>h) (fun r hr=>rfl),?_⟩
 conv=>whnf
 refine ⟨_,rfl,?_⟩;conv=>whnf
 refine aK (fun h0=>?_) (fun h0=>?_)
 ·have h0:A < D:=by
   have h0:cP A D < 0:=of_decide_eq_true h0;rcases Nat.lt_or_ge A D with h | h
   ·exact h
   ·rw [cP,if_neg (by omega)] at h0
    split at h0 <;> omega
  conv=>whnf
  exact U2 h0
 ·have h0:D≤A:=by
   have h0:¬ cP A D < 0:=of_decide_eq_false h0;rcases Nat.lt_or_ge A D with h | h
   ·rw [cP,if_pos h] at h0;omega
   ·exact h
  have pW:0 < D:=Nat.pos_of_ne_zero hp.2;conv=>whnf
  refine aK (fun h1=>?_) (fun h1=>?_)
  ·have h1:nl D=1:=by
    have h1:((nl D:Nat):Int)=1:=by simpa using h1
    omega
   obtain ⟨eP,dR,pP⟩:=aar h1;conv=>whnf
   refine ⟨⟨by omega,by show ((0:Nat):Int) < ((nl D:Nat):Int); omega⟩,?_⟩
   simp only [toNat_0,ay,Nat.zero_add];conv=>whnf
   refine ⟨by show 0 < nl D; omega,?_⟩
   conv=>whnf
   rw [eP];refine ⟨(A,ca,D),[0],rfl,⟨hp.1.1,pP,dR⟩,?_⟩;conv=>whnf
   refine ⟨aG.aR (fun h=>h) (fun r hr=>rfl),?_⟩
   conv=>whnf
   refine ⟨_,rfl,?_⟩;conv=>whnf
   refine ⟨some (1,A % D,1),[3],rfl,⟨by rw [Nat.pow_one]; exact Nat.lt_trans (Nat.mod_lt _ pP) dR,by decide⟩,?_⟩
   conv=>whnf
   have JO:A % D < 4294967296:=Nat.lt_trans (Nat.mod_lt _ pP) dR;refine ⟨Mp JO (Nat.le_refl _),?_⟩;conv=>whnf
   refine ⟨_,rfl,?_⟩;conv=>whnf
   refine Mo (q:=2) (r:=3) h0 (by decide) (by decide) (by decide) rfl rfl rfl rfl ⟨(fun h=>by cases h),rfl,lJ (Nat.div_le_self _ _),fun _ _=>rfl,fun r hr v hv=>dD (l:=bo (A / D) r) rfl v hv⟩ ?_
   exact Mp JO (jN (n:=1) (by rw [Nat.pow_one]; exact JO))
  ·have h1:nl D≠1:=by
    intro e;have e2:((nl D:Nat):Int)=1:=by rw [e]; rfl
    simp [e2] at h1
   have hnD:=lJ h0;have J:2≤nl D:=by have:=y6 hp.2; omega
   obtain ⟨n,hn⟩:∃ n,n=nl D - 1:=⟨_,rfl⟩;obtain ⟨s,hs⟩:∃ s,s=32 - e9 (ao D n):=⟨_,rfl⟩;obtain ⟨f1,f2,f3,f4,f5⟩:=TE (D:=D) (n:=n) (s:=s) (by omega) hs
   obtain ⟨E,hE⟩:∃ E,E=D*2 ^ s:=⟨_,rfl⟩;have hEp:0 < E:=by rw [hE]; exact Nat.mul_pos pW (Nat.pow_pos (by decide))
   rw [← hE] at f3 f4 f5;have hEn:nl E=nl D:=by omega
   have e1:IntKind.i64.wrap (((nl D:Nat):Int) - 1)=((n:Nat):Int):=by rw [ax (by omega) (by omega)]; omega
   conv=>whnf
   simp only [e1];refine ⟨⟨by omega,by show ((n:Nat):Int) < ((nl D:Nat):Int); omega⟩,?_⟩
   simp only [toNat_cast,ay,Nat.zero_add];conv=>whnf
   refine ⟨by show n < nl D; omega,?_⟩
   conv=>whnf
   refine ⟨ao D n,rfl,cK D n,?_⟩;simp only [C9,← hs];conv=>whnf
   refine ⟨(A,ca,s),[0],rfl,⟨hp.1.1,f1⟩,?_⟩;conv=>whnf
   refine ⟨aG.aR (fun h=>h) (fun r hr=>rfl),?_⟩
   conv=>whnf
   refine ⟨_,rfl,?_⟩;conv=>whnf
   refine ⟨(D,cd,s),[1],rfl,⟨hp.1.2,f1⟩,?_⟩;conv=>whnf
   refine ⟨aG.aR (fun h=>h) (fun r hr=>rfl),?_⟩
   conv=>whnf
   refine ⟨_,rfl,?_⟩;conv=>whnf
   rw [show (A,ca,s).1*2 ^ (A,ca,s).2.2=A*2 ^ s from rfl,show (D,cd,s).1*2 ^ (D,cd,s).2.2=E from hE.symm]
   have ae4:E < B ^ (nl D+1):=Nat.lt_of_lt_of_le (b6 E) (Nat.pow_le_pow_right (by decide) (by omega))
   refine ⟨some (nl D+1,E,nl D+1),[3],rfl,⟨ae4,by omega⟩,?_⟩
   conv=>whnf
   refine ⟨⟨(fun h=>by cases h),rfl,Nat.le_refl _,fun _ _=>rfl,fun r hr v hv=>dD (l:=bo E r) rfl v hv⟩,?_⟩
   conv=>whnf
   refine ⟨_,rfl,?_⟩;conv=>whnf
   obtain ⟨k,hk⟩:∃ k,k=nl A+1 - nl D:=⟨_,rfl⟩;have e2:IntKind.i64.wrap (((nl A+1:Nat):Int) - ((nl E:Nat):Int))=((k:Nat):Int):=by rw [ax (by omega) (by omega)]; omega
   simp only [e2];refine ⟨⟨by omega,by omega,by show ((k:Nat):Int)*((4:Nat):Int)≤_; omega⟩,?_⟩
   simp only [toNat_cast,tN];conv=>whnf
   refine .inl ⟨fun mm tz hz=>∃ (i:Nat) (U:Nat) (Q:Nat),bA (aF 8 (some (.int .i64 s)::some (.slice (some ⟨2,0,none⟩) (nl A+1) (nl A+1))::some (.slice (some ⟨3,0,none⟩) (nl E) (nl D+1))::some (.slice (some ⟨4,0,none⟩) k k)::some (.int .i64 (IntKind.i64.wrap ((i:Int) - 1)))::aF 60 [])) tz∧hz=[some (.flat false (nl A) 1 (bo A)),some (.flat false (nl D) 1 (bo D)),some (.flat true (nl A+1) 1 (bo U)),some (.flat true (nl D+1) 1 (bo E)),some (.flat true k 1 (bo Q))]∧i=mm∧(i≤k∧Q*E+U=A*2 ^ s∧U < E*B ^ i∧Q % B ^ i=0),.inl ⟨_,k,A*2 ^ s,0,(.sk 8 (.aa (.aa (.aa (.aa (.aa (.sk 60 .nil rfl)))))) rfl),rfl,rfl,?_⟩,?_⟩
   ·exact ⟨Nat.le_refl _,by rw [Nat.zero_mul,Nat.zero_add],U0 f1 f5 (by omega) (by omega),Nat.zero_mod _⟩
   rintro mm aT _ ⟨i,U,Q,aw,rfl,rfl,⟨hi,Er,hU,hQm⟩⟩
   obtain ⟨az,rfl⟩:∃ az:Nat→Value,aT=zs az 0 8 (.int .i64 s::.slice (some ⟨2,0,none⟩) (nl A+1) (nl A+1)::.slice (some ⟨3,0,none⟩) (nl E) (nl D+1)::.slice (some ⟨4,0,none⟩) k k::.int .i64 (IntKind.i64.wrap ((i:Int) - 1))::zs az 13 60 []):=bI aw;clear aw;conv=>whnf
   refine aK (fun h3=>?_) (fun h3=>?_)
   ·have h3:0 < i:=by
     rcases Nat.eq_zero_or_pos i with h | h
     ·subst h; revert h3; decide
     ·exact h
    obtain ⟨i,rfl⟩:∃ i',i=i'+1:=⟨i - 1,by omega⟩
    have ei:IntKind.i64.wrap (((i+1:Nat):Int) - 1)=((i:Nat):Int):=by rw [ax (by omega) (by omega)]; omega
    simp only [ei];obtain ⟨g1,g2,g3,g4⟩:=U1 hEp Er hU hQm;conv=>whnf
    refine ⟨⟨U,nl A+1,nl A+1,E,nl D+1,i⟩,[2,3],rfl,⟨by show nl A+1≤_; omega,by show 2≤nl E; omega,by show 2147483648≤ao E (nl E - 1); rw [show nl E - 1=n by omega]; exact f4,by show i+nl E < nl A+1; omega,hU⟩,by decide,?_⟩
    conv=>whnf
    refine ⟨aG.aR (fun h=>h) (fun r hr=>rfl),?_⟩
    conv=>whnf
    refine ⟨⟨(fun h=>by cases h),rfl,by show nl E≤nl D+1; omega,fun _ _=>rfl,fun r hr v hv=>dD (l:=bo E r) rfl v hv⟩,?_⟩
    conv=>whnf
    refine ⟨_,rfl,?_⟩;conv=>whnf
    refine ⟨⟨by omega,by omega⟩,?_⟩
    simp only [toNat_cast,ay,Nat.zero_add];conv=>whnf
    refine ⟨by show i < k; omega,?_⟩
    conv=>whnf
    rw [fE g1];refine .inl ⟨_,?_,i,U % (E*B ^ i),cH Q i (U / (E*B ^ i)),(.sk 8 (.aa (.aa (.aa (.aa (.aa (.sk 60 .nil rfl)))))) rfl),rfl,rfl,?_⟩
    ·omega
    ·exact ⟨by omega,g2,g3,g4⟩
   ·have h3:i=0:=by
     rcases Nat.eq_zero_or_pos i with h | h
     ·exact h
     ·have e:IntKind.i64.wrap ((i:Int) - 1)=((i - 1:Nat):Int):=by rw [ax (by omega) (by omega)]; omega
      rw [e] at h3;exact absurd h3 (by simp)
    subst h3;rw [Nat.pow_zero,Nat.mul_one] at hU;rw [hE] at Er hU;obtain ⟨g1,g2,g3⟩:=Wd pW Er hU;have hUn:nl U≤nl E:=lJ (by rw [hE]; exact Nat.le_of_lt hU)
    have Rx:U < B ^ (nl A+1):=Nat.lt_of_lt_of_le (b6 U) (Nat.pow_le_pow_right (by decide) (by omega))
    have Ry:Q < B ^ k:=by
     rw [g1];refine (Nat.div_lt_iff_lt_mul pW).2 ?_;refine Nat.lt_of_lt_of_le (b6 A) ?_;have h5:B ^ n≤D:=by rw [show n=nl D - 1 from hn]; exact Sl hp.2
     rw [show nl A=k+n by omega,Nat.pow_add]
     exact Nat.mul_le_mul_left _ h5
    have hQn:=jN Ry;have hRn:nl (A % D)≤nl U:=by rw [← g3]; exact lJ (Nat.div_le_self _ _)
    conv=>whnf
    refine ⟨some (k,Q,k),[4],rfl,⟨Ry,by omega⟩,?_⟩
    conv=>whnf
    refine ⟨⟨(fun h=>by cases h),rfl,Nat.le_refl _,fun _ _=>rfl,fun r hr v hv=>dD (l:=bo Q r) rfl v hv⟩,?_⟩
    conv=>whnf
    refine ⟨_,rfl,?_⟩;conv=>whnf
    refine ⟨some (nl A+1,U,nl A+1),[2],rfl,⟨Rx,by omega⟩,?_⟩
    conv=>whnf
    refine ⟨⟨(fun h=>by cases h),rfl,Nat.le_refl _,fun _ _=>rfl,fun r hr v hv=>dD (l:=bo U r) rfl v hv⟩,?_⟩
    conv=>whnf
    refine ⟨_,rfl,?_⟩;conv=>whnf
    refine ⟨(U,nl A+1,s),[2],rfl,⟨by show nl U≤_; omega,f1⟩,?_⟩
    conv=>whnf
    refine ⟨⟨(fun h=>by cases h),rfl,by show nl U≤nl A+1; omega,fun _ _=>rfl,fun r hr v hv=>dD (l:=bo U r) rfl v hv⟩,?_⟩
    conv=>whnf
    refine ⟨_,rfl,?_⟩;conv=>whnf
    show zT gE (A,ca,D,cd) (.tuple ⟨[.slice (some ⟨4,0,none⟩) (nl Q) k,.slice (some ⟨5,0,none⟩) (nl (U / 2 ^ s)) aM]⟩) _
    rw [g3];clear g2 Er Rx;subst g1;refine Mo (q:=4) (r:=5) h0 (by decide) (by decide) (by decide) rfl rfl rfl rfl ⟨(fun h=>by cases h),rfl,hQn,fun _ _=>rfl,fun r hr v hv=>dD (l:=bo (A / D) r) rfl v hv⟩ ⟨(fun h=>by cases h),rfl,hRn,fun r _=>by rw [← g3]; rfl,fun r hr v hv=>dD (l:=bo (A % D) r) rfl v hv⟩
set_option maxHeartbeats 1000000
open Go Go.Ae
theorem MP:bh Tryz.prog 141 xd:=by
 refine bk DH aN Tryz.func141 (enters_of Tryz.func141 (by kernel_rfl) rfl) (fun _=>rfl) (fun _=>rfl) ?_
 intro ⟨b,s⟩ hp;have hp:s.size≤549755813888:=hp;conv=>whnf
 refine aK (fun h1=>?_) (fun h1=>?_)
 ·have h1:¬ s.size≤7:=by
   have h1:=of_decide_eq_true h1;have h1:((s.size:Nat):Int) > 7:=h1;omega
  conv=>whnf
  simp only [xd,h1,if_false,decide_false]
 ·have h1:s.size≤7:=by
   have h1:=of_decide_eq_false h1;have h1:¬ ((s.size:Nat):Int) > 7:=h1;omega
  have fe:=h1;conv=>whnf
  refine .inl ⟨fun mm tz hz=>∃ (i:Nat) (N:Nat),bA (aF 1 (some (.pointer (some ⟨0,0,none⟩))::some (.int .i64 0)::some (.bool false)::some (.int .i64 N)::aF 7 (some (.int .i64 s.size)::some (.int .i64 i)::aF 16 []))) tz∧hz=[some (.aO true 2 [[.bool b,.string s]])]∧s.size - i=mm∧(i≤s.size∧N=ab s / C ^ (s.size - i)),.inl ⟨_,0,0,(.sk 1 (.aa (.aa (.aa (.aa (.sk 7 (.aa (.aa (.sk 16 .nil rfl))) rfl))))) rfl),rfl,rfl,?_⟩,?_⟩
  ·exact ⟨Nat.zero_le _,by rw [Nat.sub_zero,Nat.div_eq_of_lt (gq s)]⟩
  rintro mm aT _ ⟨i,N,aw,rfl,rfl,⟨hi,hN⟩⟩
  obtain ⟨az,rfl⟩:∃ az:Nat→Value,aT=zs az 0 1 (.pointer (some ⟨0,0,none⟩)::.int .i64 0::.bool false::.int .i64 N::zs az 5 7 (.int .i64 s.size::.int .i64 i::zs az 14 16 [])):=bI aw;clear aw;have an:=CT s hi;rw [← hN] at an;have m8:=an;have an:=Nat.lt_of_lt_of_le an (oo (show i≤7 by omega))
  conv=>whnf
  refine aK (fun J=>?_) (fun J=>?_)
  ·have J:i < s.size:=by simpa using J
   have au:=yJ J;rw [← hN] at au;have hb:b8 s i < 256:=wD s i;have eN:((N:Nat):Int)*256+((b8 s i:Nat):Int)=((N*256+b8 s i:Nat):Int):=by omega
   conv=>whnf
   refine ⟨⟨by omega,by omega⟩,?_⟩
   try simp (disch:=omega) only [ax,bL,di,dE,cl,dT,dx,dV,c7,dn,dw,dC,dy,dK,toNat_cast,ay,Nat.zero_add,dS,toNat_0,toNat_1,Nat.sub_zero,dX,dY,eD,eE,dM,dW,dU,dZ]
   conv=>whnf
   have e3:IntKind.i64.wrap (((i:Nat):Int)+1)=((i+1:Nat):Int):=by rw [ax (by omega) (by omega)]; rfl
   have JP:=Nat.lt_of_lt_of_le m8 (Dz (show i≤6 by omega))
   rw [NW (by omega) hb,e3]
   refine .inl ⟨_,?_,i+1,N*256+b8 s i,(.sk 1 (.aa (.aa (.aa (.aa (.sk 7 (.aa (.aa (.sk 16 .nil rfl))) rfl))))) rfl),rfl,rfl,?_⟩
   ·omega
   ·exact ⟨by omega,au.symm⟩
  ·have J:i=s.size:=by
    have J:¬ i < s.size:=by simpa using J
    omega
   subst J;rw [Nat.sub_self,Nat.pow_zero,Nat.div_one] at hN;subst hN;cases b with
   | true =>
    conv=>whnf
    try simp (disch:=omega) only [ax,bL,di,dE,cl,dT,dx,dV,c7,dn,dw,dC,dy,dK,toNat_cast,ay,Nat.zero_add,dS,toNat_0,toNat_1,Nat.sub_zero,dX,dY,eD,eE,dM,dW,dU,dZ]
    have e:IV.z (true,s)=-(ab s:Int):=rfl;simp only [xd,e,fe,if_true,decide_true,Int.zero_sub]
   | false =>
    conv=>whnf
    have e:IV.z (false,s)=(ab s:Int):=rfl;simp only [xd,e,fe,if_true,decide_true]
def Ei:Env:=En [(131,.q uY),(135,.q uX),(139,.q CO),(136,.q wP),(141,.p xd)]
theorem IM:EnvOk Tryz.prog Ei:=bD ⟨GU,Cx,W0,Fp,MP,trivial⟩ trivial
theorem sJ:bh Tryz.prog 83 eX:=by
 refine bk IM aN Tryz.func83 (enters_of Tryz.func83 (by kernel_rfl) rfl) (fun _=>rfl) (fun _=>rfl) ?_
 intro (n:Int) hp;have hp:-9223372036854775808≤n∧n < 9223372036854775808:=hp;conv=>whnf
 obtain ⟨N,hN⟩:∃ N:Nat,N=n.natAbs:=⟨_,rfl⟩;have AQ:N < 18446744073709551616:=by omega
 have hl:=M7 AQ;refine aK (fun h1=>?_) (fun h1=>?_)
 ·have h1:n < 0:=of_decide_eq_true h1;have e1:IntKind.u64.wrap (0 - IntKind.u64.wrap n)=(N:Int):=by
   rw [BU,BU]; omega
  conv=>whnf
  simp only [e1];refine ⟨(decide (n < 0),some (2,N,2)),[1],rfl,⟨OL AQ,by decide⟩,?_⟩
  conv=>whnf
  refine ⟨M8 AQ,?_⟩;conv=>whnf
  refine ⟨_,rfl,?_⟩;conv=>whnf
  show lZ (decide (n < 0)) N=aH n
  rw [jq]
  congr 1
  simp only [a8,h1,decide_true,decide_false,if_true,Bool.false_eq_true,if_false];omega
 ·have h1:¬ n < 0:=of_decide_eq_false h1;have e1:IntKind.u64.wrap n=(N:Int):=by
   rw [BU]; omega
  conv=>whnf
  simp only [e1];refine ⟨(decide (n < 0),some (2,N,2)),[1],rfl,⟨OL AQ,by decide⟩,?_⟩
  conv=>whnf
  refine ⟨M8 AQ,?_⟩;conv=>whnf
  refine ⟨_,rfl,?_⟩;conv=>whnf
  show lZ (decide (n < 0)) N=aH n
  rw [jq]
  congr 1
  simp only [a8,h1,decide_true,decide_false,if_true,Bool.false_eq_true,if_false];omega
theorem O3:bh Tryz.prog 92 fk:=by
 refine bk IM aN Tryz.func92 (enters_of Tryz.func92 (by kernel_rfl) rfl) (fun _=>rfl) (fun _=>rfl) ?_
 intro ⟨⟨b,s⟩,⟨c,t⟩⟩ hp;have hp:s.size≤549755813888∧t.size≤549755813888:=hp;conv=>whnf
 refine .inl ⟨12,[[],[0],[],[2],[0,1,2,3],[],[5],[5,6],[],[8],[5,6,7,8,9],[5,6,7,8,9,10],[0,1,2,3,4,5,6,7,8,9,10,11],[0,1,2,3,4,5,6,7,8,9,10,11,12]],by kernel_rfl,?_⟩
 conv=>whnf
 refine ⟨s,[],rfl,by show s.size≤1099511627776; omega,?_⟩
 conv=>whnf
 refine ⟨_,rfl,?_⟩;conv=>whnf
 refine ⟨t,[],rfl,by show t.size≤1099511627776; omega,?_⟩
 conv=>whnf
 refine ⟨_,rfl,?_⟩;conv=>whnf
 refine ⟨(ab s,aM,ab t,aM),[10,13],rfl,⟨IV.nl (i:=(b,s)) hp.1,IV.nl (i:=(c,t)) hp.2⟩,?_⟩;conv=>whnf
 refine ⟨aG.aR (fun h=>h) (fun r hr=>rfl),?_⟩
 conv=>whnf
 refine ⟨aG.aR (fun h=>h) (fun r hr=>rfl),?_⟩
 conv=>whnf
 refine ⟨_,rfl,?_⟩;conv=>whnf
 have ig:=IV.nl (i:=(b,s)) hp.1;have iE:=IV.nl (i:=(c,t)) hp.2;have ig:nl (ab s)≤137438953472:=ig;have iE:nl (ab t)≤137438953472:=iE;have hmul:=U3 (ab s) (ab t);refine ⟨(b != c,some (nl (ab s*ab t),ab s*ab t,aM)),[14],rfl,⟨b6 _,by omega⟩,?_⟩
 conv=>whnf
 refine ⟨aG.aR (fun h=>h) (fun r hr=>rfl),?_⟩
 conv=>whnf
 refine ⟨_,rfl,?_⟩;conv=>whnf
 show lZ (b != c) (ab s*ab t)=_
 rw [jq,We]
 rfl
open Go Go.Ae
theorem acd:bh Tryz.prog 130 gY:=by
 refine bk IM aN Tryz.func130 (enters_of Tryz.func130 (by kernel_rfl) rfl) (fun _=>rfl) (fun _=>rfl) ?_
 intro ⟨b,s⟩ hp;have hp:s.size≤549755813888:=hp;have ig:nl (ab s)≤137438953472:=IV.nl (i:=(b,s)) hp;conv=>whnf
 refine .inl ⟨6,[[],[0],[0,1],[],[3],[3,4],[0,1,2,3,4,5],[0,1,2,3,4,5,6]],by kernel_rfl,?_⟩
 conv=>whnf
 refine ⟨s,[],rfl,by show s.size≤1099511627776; omega,?_⟩
 conv=>whnf
 refine ⟨_,rfl,?_⟩;conv=>whnf
 refine ⟨(!b,some (nl (ab s),ab s,aM)),[7],rfl,⟨b6 _,by omega⟩,?_⟩
 conv=>whnf
 refine ⟨aG.aR (fun h=>h) (fun r hr=>rfl),?_⟩
 conv=>whnf
 refine ⟨_,rfl,?_⟩;conv=>whnf
 show lZ (!b) (ab s)=_
 rw [jq,Ga]
 rfl
def Ej:Env:=En [(131,.q uY),(135,.q uX),(142,.q Da),(143,.q CN),(136,.q wP),(141,.p xd),(83,.p eX)]
theorem Qw:EnvOk Tryz.prog Ej:=bD ⟨GU,Cx,ZH,WZ,Fp,MP,sJ,trivial⟩ trivial
theorem Hp:bh Tryz.prog 97 jg:=by
 refine bk Qw aN Tryz.func97 (enters_of Tryz.func97 (by kernel_rfl) rfl) (fun _=>rfl) (fun _=>rfl) ?_
 intro ⟨⟨b,s⟩,⟨c,t⟩⟩ hp;have hp:s.size≤549755813888∧t.size≤549755813888:=hp;have ig:nl (ab s)≤137438953472:=IV.nl (i:=(b,s)) hp.1;have iE:nl (ab t)≤137438953472:=IV.nl (i:=(c,t)) hp.2;conv=>whnf
 refine ⟨(b,s),rfl,hp.1,?_⟩;conv=>whnf
 refine aK (fun h1=>?_) (fun h1=>?_)
 ·have h1:s.size≤7:=of_decide_eq_true h1;conv=>whnf
  refine ⟨(c,t),rfl,hp.2,?_⟩;conv=>whnf
  refine aK (fun J=>?_) (fun J=>?_)
  ·have J:t.size≤7:=of_decide_eq_true J;conv=>whnf
   have z1:=GH (i:=(b,s)) h1;have z2:=GH (i:=(c,t)) J;have ew:IntKind.i64.wrap ((if (b,s).snd.size≤7 then IV.z (b,s) else 0)+if (c,t).snd.size≤7 then IV.z (c,t) else 0)=IV.z (b,s)+IV.z (c,t):=by
    rw [if_pos h1,if_pos J];exact ax (by omega) (by omega)
   rw [ew];refine ⟨IV.z (b,s)+IV.z (c,t),rfl,⟨by omega,by omega⟩,?_⟩
   conv=>whnf
   rfl
  ·conv=>whnf
   refine .inl ⟨5,[[],[0],[0,1],[],[3],[0,1,2,3,4],[0,1,2,3,4,5],[0,1,2,3,4,5,6]],by kernel_rfl,?_⟩
   conv=>whnf
   refine ⟨s,[],rfl,by show s.size≤1099511627776; omega,?_⟩
   conv=>whnf
   refine ⟨_,rfl,?_⟩;conv=>whnf
   refine ⟨t,[],rfl,by show t.size≤1099511627776; omega,?_⟩
   conv=>whnf
   refine ⟨_,rfl,?_⟩;conv=>whnf
   refine aK (fun h5=>?_) (fun h5=>?_)
   ·have h5:b=c:=eq_of_beq h5;conv=>whnf
    refine .inl ⟨5,[[],[0],[],[],[2,3],[0,1,2,3,4],[0,1,2,3,4,5]],by kernel_rfl,?_⟩
    conv=>whnf
    refine ⟨(ab s,aM,ab t,aM),[5,8],rfl,⟨ig,iE⟩,?_⟩;conv=>whnf
    refine ⟨aG.aR (fun h=>h) (fun r hr=>rfl),?_⟩
    conv=>whnf
    refine ⟨aG.aR (fun h=>h) (fun r hr=>rfl),?_⟩
    conv=>whnf
    refine ⟨_,rfl,?_⟩;conv=>whnf
    have hal:=Mr (ab s) (ab t);refine ⟨(b,some (nl (ab s+ab t),ab s+ab t,aM)),[13],rfl,⟨b6 _,by omega⟩,?_⟩
    conv=>whnf
    refine ⟨aG.aR (fun h=>h) (fun r hr=>rfl),?_⟩
    conv=>whnf
    refine ⟨_,rfl,?_⟩;conv=>whnf
    show lZ b (ab s+ab t)=aH (IV.z (b,s)+IV.z (c,t))
    rw [jq,Mq,h5]
    rfl
   ·have h5:b≠c:=by
     intro e;subst e;cases b <;> cases h5
    conv=>whnf
    refine ⟨(ab s,aM,ab t,aM),[5,8],rfl,⟨ig,iE⟩,?_⟩;conv=>whnf
    refine ⟨aG.aR (fun h=>h) (fun r hr=>rfl),?_⟩
    conv=>whnf
    refine ⟨aG.aR (fun h=>h) (fun r hr=>rfl),?_⟩
    conv=>whnf
    refine ⟨_,rfl,?_⟩;conv=>whnf
    refine aK (fun h6=>?_) (fun h6=>?_)
    ·have h6:ab s≤ab t:=by
      have h6:cP (ab s) (ab t) < 0:=of_decide_eq_true h6;unfold cP at h6
      split at h6
      ·omega
      ·split at h6 <;> omega
     have lH:=lJ (Nat.sub_le (ab t) (ab s));conv=>whnf
     refine .inl ⟨5,[[],[0],[],[],[2,3],[0,1,2,3,4],[0,1,2,3,4,5]],by kernel_rfl,?_⟩
     conv=>whnf
     refine ⟨(ab t,aM,ab s,aM),[8,5],rfl,⟨⟨iE,ig⟩,h6⟩,?_⟩;conv=>whnf
     refine ⟨aG.aR (fun h=>h) (fun r hr=>rfl),?_⟩
     conv=>whnf
     refine ⟨aG.aR (fun h=>h) (fun r hr=>rfl),?_⟩
     conv=>whnf
     refine ⟨_,rfl,?_⟩;conv=>whnf
     refine ⟨(c,some (nl (ab t - ab s),ab t - ab s,aM)),[13],rfl,⟨b6 _,by omega⟩,?_⟩
     conv=>whnf
     refine ⟨aG.aR (fun h=>h) (fun r hr=>rfl),?_⟩
     conv=>whnf
     refine ⟨_,rfl,?_⟩;conv=>whnf
     show lZ c (ab t - ab s)=aH (IV.z (b,s)+IV.z (c,t))
     rw [jq,BG (Ne.symm h5) h6,Int.add_comm]
     rfl
    ·have h6:ab t≤ab s:=by
      have h6:¬ cP (ab s) (ab t) < 0:=of_decide_eq_false h6;unfold cP at h6
      split at h6
      ·omega
      ·split at h6 <;> omega
     have lH:=lJ (Nat.sub_le (ab s) (ab t));conv=>whnf
     refine .inl ⟨5,[[],[0],[],[],[2,3],[0,1,2,3,4],[0,1,2,3,4,5]],by kernel_rfl,?_⟩
     conv=>whnf
     refine ⟨(ab s,aM,ab t,aM),[5,8],rfl,⟨⟨ig,iE⟩,h6⟩,?_⟩;conv=>whnf
     refine ⟨aG.aR (fun h=>h) (fun r hr=>rfl),?_⟩
     conv=>whnf
     refine ⟨aG.aR (fun h=>h) (fun r hr=>rfl),?_⟩
     conv=>whnf
     refine ⟨_,rfl,?_⟩;conv=>whnf
     refine ⟨(b,some (nl (ab s - ab t),ab s - ab t,aM)),[13],rfl,⟨b6 _,by omega⟩,?_⟩
     conv=>whnf
     refine ⟨aG.aR (fun h=>h) (fun r hr=>rfl),?_⟩
     conv=>whnf
     refine ⟨_,rfl,?_⟩;conv=>whnf
     show lZ b (ab s - ab t)=aH (IV.z (b,s)+IV.z (c,t))
     rw [jq,BG h5 h6]
     rfl
 ·conv=>whnf
  refine .inl ⟨5,[[],[0],[0,1],[],[3],[0,1,2,3,4],[0,1,2,3,4,5],[0,1,2,3,4,5,6]],by kernel_rfl,?_⟩
  conv=>whnf
  refine ⟨s,[],rfl,by show s.size≤1099511627776; omega,?_⟩
  conv=>whnf
  refine ⟨_,rfl,?_⟩;conv=>whnf
  refine ⟨t,[],rfl,by show t.size≤1099511627776; omega,?_⟩
  conv=>whnf
  refine ⟨_,rfl,?_⟩;conv=>whnf
  refine aK (fun h5=>?_) (fun h5=>?_)
  ·have h5:b=c:=eq_of_beq h5;conv=>whnf
   refine .inl ⟨5,[[],[0],[],[],[2,3],[0,1,2,3,4],[0,1,2,3,4,5]],by kernel_rfl,?_⟩
   conv=>whnf
   refine ⟨(ab s,aM,ab t,aM),[5,8],rfl,⟨ig,iE⟩,?_⟩;conv=>whnf
   refine ⟨aG.aR (fun h=>h) (fun r hr=>rfl),?_⟩
   conv=>whnf
   refine ⟨aG.aR (fun h=>h) (fun r hr=>rfl),?_⟩
   conv=>whnf
   refine ⟨_,rfl,?_⟩;conv=>whnf
   have hal:=Mr (ab s) (ab t);refine ⟨(b,some (nl (ab s+ab t),ab s+ab t,aM)),[13],rfl,⟨b6 _,by omega⟩,?_⟩
   conv=>whnf
   refine ⟨aG.aR (fun h=>h) (fun r hr=>rfl),?_⟩
   conv=>whnf
   refine ⟨_,rfl,?_⟩;conv=>whnf
   show lZ b (ab s+ab t)=aH (IV.z (b,s)+IV.z (c,t))
   rw [jq,Mq,h5]
   rfl
  ·have h5:b≠c:=by
    intro e;subst e;cases b <;> cases h5
   conv=>whnf
   refine ⟨(ab s,aM,ab t,aM),[5,8],rfl,⟨ig,iE⟩,?_⟩;conv=>whnf
   refine ⟨aG.aR (fun h=>h) (fun r hr=>rfl),?_⟩
   conv=>whnf
   refine ⟨aG.aR (fun h=>h) (fun r hr=>rfl),?_⟩
   conv=>whnf
   refine ⟨_,rfl,?_⟩;conv=>whnf
   refine aK (fun h6=>?_) (fun h6=>?_)
   ·have h6:ab s≤ab t:=by
     have h6:cP (ab s) (ab t) < 0:=of_decide_eq_true h6;unfold cP at h6
     split at h6
     ·omega
     ·split at h6 <;> omega
    have lH:=lJ (Nat.sub_le (ab t) (ab s));conv=>whnf
    refine .inl ⟨5,[[],[0],[],[],[2,3],[0,1,2,3,4],[0,1,2,3,4,5]],by kernel_rfl,?_⟩
    conv=>whnf
    refine ⟨(ab t,aM,ab s,aM),[8,5],rfl,⟨⟨iE,ig⟩,h6⟩,?_⟩;conv=>whnf
    refine ⟨aG.aR (fun h=>h) (fun r hr=>rfl),?_⟩
    conv=>whnf
    refine ⟨aG.aR (fun h=>h) (fun r hr=>rfl),?_⟩
    conv=>whnf
    refine ⟨_,rfl,?_⟩;conv=>whnf
    refine ⟨(c,some (nl (ab t - ab s),ab t - ab s,aM)),[13],rfl,⟨b6 _,by omega⟩,?_⟩
    conv=>whnf
    refine ⟨aG.aR (fun h=>h) (fun r hr=>rfl),?_⟩
    conv=>whnf
    refine ⟨_,rfl,?_⟩;conv=>whnf
    show lZ c (ab t - ab s)=aH (IV.z (b,s)+IV.z (c,t))
    rw [jq,BG (Ne.symm h5) h6,Int.add_comm]
    rfl
   ·have h6:ab t≤ab s:=by
     have h6:¬ cP (ab s) (ab t) < 0:=of_decide_eq_false h6;unfold cP at h6
     split at h6
     ·omega
     ·split at h6 <;> omega
    have lH:=lJ (Nat.sub_le (ab s) (ab t));conv=>whnf
    refine .inl ⟨5,[[],[0],[],[],[2,3],[0,1,2,3,4],[0,1,2,3,4,5]],by kernel_rfl,?_⟩
    conv=>whnf
    refine ⟨(ab s,aM,ab t,aM),[5,8],rfl,⟨⟨ig,iE⟩,h6⟩,?_⟩;conv=>whnf
    refine ⟨aG.aR (fun h=>h) (fun r hr=>rfl),?_⟩
    conv=>whnf
    refine ⟨aG.aR (fun h=>h) (fun r hr=>rfl),?_⟩
    conv=>whnf
    refine ⟨_,rfl,?_⟩;conv=>whnf
    refine ⟨(b,some (nl (ab s - ab t),ab s - ab t,aM)),[13],rfl,⟨b6 _,by omega⟩,?_⟩
    conv=>whnf
    refine ⟨aG.aR (fun h=>h) (fun r hr=>rfl),?_⟩
    conv=>whnf
    refine ⟨_,rfl,?_⟩;conv=>whnf
    show lZ b (ab s - ab t)=aH (IV.z (b,s)+IV.z (c,t))
    rw [jq,BG h5 h6]
    rfl
def Ek:Env:=En [(97,.p jg)]
theorem ae5:EnvOk Tryz.prog Ek:=bD ⟨Hp,trivial⟩ trivial
theorem ace:bh Tryz.prog 164 mT:=by
 refine bk ae5 aN Tryz.func164 (enters_of Tryz.func164 (by kernel_rfl) rfl) (fun _=>rfl) (fun _=>rfl) ?_
 intro ⟨⟨b,s⟩,⟨c,t⟩⟩ hp;have hp:s.size≤549755813888∧t.size≤549755813888:=hp;conv=>whnf
 refine ⟨((b,s),(!c,t)),rfl,hp,?_⟩;conv=>whnf
 show aH (IV.z (b,s)+a8 (!c) (ab t))=aH (IV.z (b,s) - IV.z (c,t))
 rw [Ga]
 rfl
theorem Hq:bh Tryz.prog 87 l6:=by
 refine bk Qw aN Tryz.func87 (enters_of Tryz.func87 (by kernel_rfl) rfl) (fun _=>rfl) (fun _=>rfl) ?_
 intro ⟨⟨b,s⟩,⟨c,t⟩⟩ hp;have hp:s.size≤549755813888∧t.size≤549755813888:=hp;have ig:nl (ab s)≤137438953472:=IV.nl (i:=(b,s)) hp.1;have iE:nl (ab t)≤137438953472:=IV.nl (i:=(c,t)) hp.2;conv=>whnf
 refine .inl ⟨5,[[],[0],[0,1],[],[3],[0,1,2,3,4],[0,1,2,3,4,5],[0,1,2,3,4,5,6]],by kernel_rfl,?_⟩
 conv=>whnf
 refine ⟨s,[],rfl,by show s.size≤1099511627776; omega,?_⟩
 conv=>whnf
 refine ⟨_,rfl,?_⟩;conv=>whnf
 refine ⟨t,[],rfl,by show t.size≤1099511627776; omega,?_⟩
 conv=>whnf
 refine ⟨_,rfl,?_⟩;conv=>whnf
 have fin:∀ (z:Int),z=dO (IV.z (b,s)) (IV.z (c,t))→Value.int .i64 z=l6.val ((b,s),(c,t)):=fun z h=>by rw [h]; rfl
 cases b with
 | false =>
  conv=>whnf
  cases c with
  | false =>
   conv=>whnf
   refine ⟨(ab s,aM,ab t,aM),[4,7],rfl,⟨ig,iE⟩,?_⟩;conv=>whnf
   refine ⟨aG.aR (fun h=>h) (fun r hr=>rfl),?_⟩
   conv=>whnf
   refine ⟨aG.aR (fun h=>h) (fun r hr=>rfl),?_⟩
   conv=>whnf
   refine ⟨_,rfl,?_⟩;conv=>whnf
   exact fin _ (BY _ _).symm
  | true =>
   conv=>whnf
   rcases Nat.eq_zero_or_pos (ab t) with h1 | h1
   ·rw [wR h1];conv=>whnf
    refine ⟨(ab s,aM,ab t,aM),[4,7],rfl,⟨ig,iE⟩,?_⟩;conv=>whnf
    refine ⟨aG.aR (fun h=>h) (fun r hr=>rfl),?_⟩
    conv=>whnf
    refine ⟨aG.aR (fun h=>h) (fun r hr=>rfl),?_⟩
    conv=>whnf
    refine ⟨_,rfl,?_⟩;conv=>whnf
    refine fin _ ?_;show cP (ab s) (ab t)=dO ((ab s:Nat):Int) (-((ab t:Nat):Int))
    rw [h1];exact (BY _ 0).symm
   ·rw [w9 h1];conv=>whnf
    exact fin _ (uy (show -((ab t:Nat):Int) < ((ab s:Nat):Int) by omega)).symm
 | true =>
  conv=>whnf
  rcases Nat.eq_zero_or_pos (ab s) with J | J
  ·try rw [wR J]
   cases c with
   | false =>
    conv=>whnf
    try rw [wR J]
    conv=>whnf
    refine ⟨(ab s,aM,ab t,aM),[4,7],rfl,⟨ig,iE⟩,?_⟩;conv=>whnf
    refine ⟨aG.aR (fun h=>h) (fun r hr=>rfl),?_⟩
    conv=>whnf
    refine ⟨aG.aR (fun h=>h) (fun r hr=>rfl),?_⟩
    conv=>whnf
    refine ⟨_,rfl,?_⟩;conv=>whnf
    refine fin _ ?_;show cP (ab s) (ab t)=dO (-((ab s:Nat):Int)) ((ab t:Nat):Int)
    rw [J];exact (BY 0 _).symm
   | true =>
    conv=>whnf
    try rw [wR J]
    conv=>whnf
    rcases Nat.eq_zero_or_pos (ab t) with h1 | h1
    ·rw [wR h1];conv=>whnf
     refine ⟨(ab s,aM,ab t,aM),[4,7],rfl,⟨ig,iE⟩,?_⟩;conv=>whnf
     refine ⟨aG.aR (fun h=>h) (fun r hr=>rfl),?_⟩
     conv=>whnf
     refine ⟨aG.aR (fun h=>h) (fun r hr=>rfl),?_⟩
     conv=>whnf
     refine ⟨_,rfl,?_⟩;conv=>whnf
     refine fin _ ?_;show cP (ab s) (ab t)=dO (-((ab s:Nat):Int)) (-((ab t:Nat):Int))
     rw [h1,J]
     rfl
    ·rw [w9 h1];conv=>whnf
     exact fin _ (uy (show -((ab t:Nat):Int) < -((ab s:Nat):Int) by omega)).symm
  ·try rw [w9 J]
   cases c with
   | false =>
    conv=>whnf
    try rw [w9 J]
    conv=>whnf
    exact fin _ (ux (show -((ab s:Nat):Int) < ((ab t:Nat):Int) by omega)).symm
   | true =>
    conv=>whnf
    try rw [w9 J]
    conv=>whnf
    rcases Nat.eq_zero_or_pos (ab t) with h1 | h1
    ·rw [wR h1];conv=>whnf
     exact fin _ (ux (show -((ab s:Nat):Int) < -((ab t:Nat):Int) by omega)).symm
    ·rw [w9 h1];conv=>whnf
     refine ⟨(ab t,aM,ab s,aM),[7,4],rfl,⟨iE,ig⟩,?_⟩;conv=>whnf
     refine ⟨aG.aR (fun h=>h) (fun r hr=>rfl),?_⟩
     conv=>whnf
     refine ⟨aG.aR (fun h=>h) (fun r hr=>rfl),?_⟩
     conv=>whnf
     refine ⟨_,rfl,?_⟩;conv=>whnf
     exact fin _ (M6 _ _).symm
open Go Go.Ae
def El:Env:=En [(131,.q uY),(135,.q uX),(83,.p eX),(97,.p jg),(164,.p mT)] [(163,AD gE)]
theorem Qx:EnvOk Tryz.prog El:=bD ⟨GU,Cx,sJ,Hp,ace,trivial⟩ ⟨Vt,trivial⟩
theorem acf:bh Tryz.prog 133 vh:=by
 refine bk Qx aN Tryz.func133 (enters_of Tryz.func133 (by kernel_rfl) rfl) (fun _=>rfl) (fun _=>rfl) ?_
 intro ⟨⟨b,s⟩,⟨c,t⟩⟩ hp;have hp:s.size≤549755813888∧t.size≤549755813888:=hp;have ig:nl (ab s)≤137438953472:=IV.nl (i:=(b,s)) hp.1;have iE:nl (ab t)≤137438953472:=IV.nl (i:=(c,t)) hp.2;conv=>whnf
 refine .inl ⟨5,[[],[0],[0,1],[],[3],[0,1,2,3,4],[0,1,2,3,4,5],[0,1,2,3,4,5,6]],by kernel_rfl,?_⟩
 conv=>whnf
 refine ⟨s,[],rfl,by show s.size≤1099511627776; omega,?_⟩
 conv=>whnf
 refine ⟨_,rfl,?_⟩;conv=>whnf
 refine ⟨t,[],rfl,by show t.size≤1099511627776; omega,?_⟩
 conv=>whnf
 refine ⟨_,rfl,?_⟩;conv=>whnf
 refine .inl ⟨fun mm tz hz=>∃ (A:Nat) (D:Nat) (ca:Nat) (cd:Nat),bA (aF 4 (some (.pointer (some ⟨0,0,none⟩))::some (.slice (some ⟨1,0,none⟩) (nl A) ca)::some (.slice (some ⟨2,0,none⟩) (nl D) cd)::aF 21 [])) tz∧hz=[some (.aO true 2 [[.bool false,.string ⟨#[]⟩]]),some (dN A),some (dN D)]∧D=mm∧((nl A≤137438953472∧nl D≤137438953472)∧Nat.gcd A D=Nat.gcd (ab s) (ab t)),.inr ⟨[2,5,8],[4,5,6],?_⟩,?_⟩
 ·conv=>whnf
  intro _;conv=>whnf
  refine ⟨_,ab s,ab t,aM,aM,(.sk 4 (.aa (.aa (.aa (.sk 21 .nil rfl)))) rfl),rfl,rfl,?_⟩;exact ⟨⟨ig,iE⟩,rfl⟩
 rintro mm aT _ ⟨A,D,ca,cd,aw,rfl,rfl,⟨cG,hg⟩⟩
 obtain ⟨az,rfl⟩:∃ az:Nat→Value,aT=zs az 0 4 (.pointer (some ⟨0,0,none⟩)::.slice (some ⟨1,0,none⟩) (nl A) ca::.slice (some ⟨2,0,none⟩) (nl D) cd::zs az 7 21 []):=bI aw;clear aw;conv=>whnf
 refine aK (fun h1=>?_) (fun h1=>?_)
 ·have h1:=Xy (of_decide_eq_true h1);conv=>whnf
  refine ⟨(A,ca,D,cd),[1,2],rfl,⟨cG,by show D≠0; omega⟩,by decide,?_⟩
  rcases Nat.lt_or_ge A D with J | J
  ·have ev:gE.val (A,ca,D,cd)=.tuple ⟨[.slice none 0 0,one A ca]⟩:=if_pos J;have en:gE.new (A,ca,D,cd)=[]:=if_pos J;rw [ev,en];conv=>whnf
   refine ⟨aG.aR (fun h=>h) (fun r hr=>rfl),?_⟩
   conv=>whnf
   refine ⟨aG.aR (fun h=>h) (fun r hr=>rfl),?_⟩
   conv=>whnf
   refine ⟨_,rfl,?_⟩;conv=>whnf
   refine .inr ⟨[0,2,1],[4,5,6],?_⟩;conv=>whnf
   intro _;conv=>whnf
   refine ⟨_,?_,D,A,cd,ca,(.sk 4 (.aa (.aa (.aa (.sk 21 .nil rfl)))) rfl),rfl,rfl,?_⟩
   ·omega
   ·exact ⟨⟨cG.2,cG.1⟩,by rw [Nat.gcd_comm]; exact hg⟩
  ·have ev:gE.val (A,ca,D,cd)=.tuple ⟨[lg 2 (A / D),lg 3 (A % D)]⟩:=if_neg (Nat.not_lt.2 J);have en:gE.new (A,ca,D,cd)=[dN (A / D),dN (A % D)]:=if_neg (Nat.not_lt.2 J);rw [ev,en];conv=>whnf
   refine ⟨aG.aR (fun h=>h) (fun r hr=>rfl),?_⟩
   conv=>whnf
   refine ⟨aG.aR (fun h=>h) (fun r hr=>rfl),?_⟩
   conv=>whnf
   refine ⟨_,rfl,?_⟩;conv=>whnf
   have hm:=Nat.mod_lt A h1;have lH:=lJ (Nat.le_of_lt hm);refine .inr ⟨[0,2,4],[4,5,6],?_⟩;conv=>whnf
   intro _;conv=>whnf
   refine ⟨_,?_,D,A % D,cd,aM,(.sk 4 (.aa (.aa (.aa (.sk 21 .nil rfl)))) rfl),rfl,rfl,?_⟩
   ·omega
   ·exact ⟨⟨cG.2,by omega⟩,by rw [Nat.gcd_comm,← Nat.gcd_rec,Nat.gcd_comm]; exact hg⟩
 ·have h1:=TG (of_decide_eq_false h1);subst h1;rw [Nat.gcd_zero_right] at hg;conv=>whnf
  refine ⟨(false,some (nl A,A,ca)),[1],rfl,⟨b6 _,by omega⟩,?_⟩
  conv=>whnf
  refine ⟨aG.aR (fun h=>h) (fun r hr=>rfl),?_⟩
  conv=>whnf
  refine ⟨_,rfl,?_⟩;conv=>whnf
  show lZ false A=aH ((Int.gcd (IV.z (b,s)) (IV.z (c,t)):Nat):Int)
  rw [jq,hg];unfold Int.gcd IV.z;rw [ug,ug]
  rfl
theorem acg:bh Tryz.prog 134 iN:=by
 refine bk Qx aN Tryz.func134 (enters_of Tryz.func134 (by kernel_rfl) rfl) (fun _=>rfl) (fun _=>rfl) ?_
 intro ⟨⟨b,s⟩,⟨c,t⟩⟩ hp;have hp:s.size≤549755813888∧t.size≤549755813888:=hp;have ig:nl (ab s)≤137438953472:=IV.nl (i:=(b,s)) hp.1;have iE:nl (ab t)≤137438953472:=IV.nl (i:=(c,t)) hp.2;conv=>whnf
 refine ⟨t,[],rfl,by show t.size≤1099511627776; omega,?_⟩
 conv=>whnf
 refine ⟨_,rfl,?_⟩;conv=>whnf
 refine aK (fun h1=>?_) (fun h1=>?_)
 ·have h1:ab t=0:=by
   have h1:((nl (ab t):Nat):Int)=0:=by simpa using h1
   exact Lt (by omega)
  have hz:IV.z (c,t)=0:=FI.2 h1;conv=>whnf
  have e:Int.fdiv (IV.z (b,s)) 0=0:=Int.fdiv_zero _;simp only [iN,hz,e,if_true,wE]
  rfl
 ·have h1:ab t≠0:=by
   intro e;rw [e,r4] at h1;cases h1
  conv=>whnf
  refine ⟨s,[],rfl,by show s.size≤1099511627776; omega,?_⟩
  conv=>whnf
  refine ⟨_,rfl,?_⟩;conv=>whnf
  refine ⟨(ab s,aM,ab t,aM),[5,4],rfl,⟨⟨ig,iE⟩,h1⟩,by decide,?_⟩
  have pW:0 < ab t:=Nat.pos_of_ne_zero h1;rcases Nat.lt_or_ge (ab s) (ab t) with J | J
  ·rw [show gE.val (ab s,aM,ab t,aM)=.tuple ⟨[.slice none 0 0,one (ab s) aM]⟩ from if_pos J,show gE.new (ab s,aM,ab t,aM)=[] from if_pos J]
   have hQ:0=ab s / ab t:=(Nat.div_eq_of_lt J).symm;have hR:ab s=ab s % ab t:=(Nat.mod_eq_of_lt J).symm;conv=>whnf
   refine ⟨aG.aR (fun h=>h) (fun r hr=>rfl),?_⟩
   conv=>whnf
   refine ⟨aG.aR (fun h=>h) (fun r hr=>rfl),?_⟩
   conv=>whnf
   refine ⟨_,rfl,?_⟩;conv=>whnf
   refine .inl ⟨13,[[],[0],[],[2],[0,1,2,3],[],[0,1,2,3,4,5],[],[7],[],[0,1,2,3,4,5,6,7,8,9],[],[],[0,1,2,3,4,5,6,7,8,9,10,11,12],[0,1,2,3,4,5,6,7,8,9,10,11,12,13]],by kernel_rfl,?_⟩
   conv=>whnf
   refine ⟨(b != c,none),[],rfl,trivial,?_⟩;conv=>whnf
   skip
   conv=>whnf
   obtain ⟨qs,rJ⟩:∃ qs,qs=nb (0):=⟨_,rfl⟩;obtain ⟨qb,rj⟩:∃ qb:Bool,qb=((b != c) && (0) != 0):=⟨_,rfl⟩;obtain ⟨rs,iR⟩:∃ rs,rs=nb (ab s):=⟨_,rfl⟩;obtain ⟨rb,vT⟩:∃ rb:Bool,rb=(b && (ab s) != 0):=⟨_,rfl⟩;refine ⟨.agg ⟨[.bool qb,.string qs]⟩,by rw [rJ,rj]; rfl,?_⟩
   conv=>whnf
   refine ⟨(b,some (nl (ab s),ab s,aM)),[5],rfl,⟨b6 _,by omega⟩,?_⟩
   conv=>whnf
   refine ⟨aG.aR (fun h=>h) (fun r hr=>rfl),?_⟩
   conv=>whnf
   refine ⟨.agg ⟨[.bool rb,.string rs]⟩,by rw [iR,vT]; rfl,?_⟩
   conv=>whnf
   have eQ:Value.agg ⟨[.bool qb,.string qs]⟩=aH (a8 (b != c) (ab s / ab t)):=by rw [rJ,rj,← hQ]; exact jq _ _
   have eR:Value.agg ⟨[.bool rb,.string rs]⟩=aH (a8 b (ab s % ab t)):=by rw [iR,vT,← hR]; exact jq _ _
   have fin:∀ (q r:Value),q=aH (Int.fdiv (IV.z (b,s)) (IV.z (c,t)))→r=aH (Int.fmod (IV.z (b,s)) (IV.z (c,t)))→Value.tuple ⟨[q,r,.int .i64 0]⟩=iN.val ((b,s),(c,t)):=fun q r hq hr=>by
    have hz:IV.z (c,t)≠0:=fun e=>h1 (FI.1 e)
    simp only [iN,if_neg hz];rw [hq,hr]
   rcases Nat.eq_zero_or_pos (ab s) with h3 | h3
   ·rw [show (!rs.toList == (⟨#[]⟩:ByteArray).toList)=false by rw [iR]; exact wS h3]
    conv=>whnf
    refine .inr (.inl ⟨(.br 0 (.br 1 (.br 2 (.br 3 (.br 4 .leaf .leaf) .leaf) .leaf) (.br 2 (.br 1 (.br 3 (.br 4 .leaf .leaf) .leaf) .leaf) .leaf)) (.br 1 (.br 0 (.br 2 (.br 3 (.br 4 .leaf .leaf) .leaf) .leaf) .leaf) .leaf)),by kernel_rfl,?_⟩)
    have f1:=wF (b:=b) (c:=c) pW (.inl (show ab s % ab t=0 by rw [← hR]; exact h3))
    repeat' ((conv=>whnf); first | exact True.intro | refine And.intro ?_ ?_)
    all_goals conv=>whnf
    all_goals exact fin _ _ (eQ.trans (congrArg aH f1.1.symm)) (eR.trans (congrArg aH f1.2.symm))
   ·rw [show (!rs.toList == (⟨#[]⟩:ByteArray).toList)=true by rw [iR]; exact xc (Nat.ne_of_gt h3)]
    conv=>whnf
    refine aK (fun h4=>?_) (fun h4=>?_)
    ·conv=>whnf
     refine .inl ⟨5,[[],[],[0,1],[],[],[0,1,2,3,4],[0,1,2,3,4,5],[0,1,2,3,4,5,6]],by kernel_rfl,?_⟩
     conv=>whnf
     have h4:b≠c:=by
      intro e;subst e;cases b <;> cases h4
     have f1:=Fg (b:=b) (c:=c) pW (show ab s % ab t≠0 by rw [← hR]; exact Nat.ne_of_gt h3) h4
     have Es:IV.z (qb,qs)=a8 (b != c) (ab s / ab t):=by rw [rJ,rj,← hQ]; exact CS _ _
     have pX:IV.z (rb,rs)=a8 b (ab s % ab t):=by rw [iR,vT,← hR]; exact CS _ _
     have sq:qs.size≤s.size:=by rw [rJ,hQ]; exact Bv (Nat.div_le_self _ _)
     have sr:rs.size≤s.size:=by rw [iR,hR]; exact Bv (Nat.mod_le _ _)
     have s1:=Hb;refine ⟨(1:Int),rfl,⟨by decide,by decide⟩,?_⟩
     obtain ⟨v1,mn⟩:∃ v1,v1=nb 1:=⟨_,rfl⟩;rw [show eX.val (1:Int)=.agg ⟨[.bool false,.string v1]⟩ by rw [mn]; rfl]
     rw [← mn] at s1;conv=>whnf
     refine ⟨((qb,qs),(false,v1)),rfl,⟨by show qs.size≤_; omega,by show v1.size≤_; omega⟩,?_⟩
     obtain ⟨q2,fo⟩:∃ q2,q2=nb (IV.z (qb,qs) - IV.z (false,v1)).natAbs:=⟨_,rfl⟩;obtain ⟨b2,dG⟩:∃ b2:Bool,b2=decide (IV.z (qb,qs) - IV.z (false,v1) < 0):=⟨_,rfl⟩;rw [show mT.val ((qb,qs),(false,v1))=.agg ⟨[.bool b2,.string q2]⟩ by rw [fo,dG]; rfl]
     conv=>whnf
     refine ⟨((rb,rs),(c,t)),rfl,⟨by show rs.size≤_; omega,hp.2⟩,?_⟩
     obtain ⟨q3,ie⟩:∃ q3,q3=nb (IV.z (rb,rs)+IV.z (c,t)).natAbs:=⟨_,rfl⟩;obtain ⟨b3,tw⟩:∃ b3:Bool,b3=decide (IV.z (rb,rs)+IV.z (c,t) < 0):=⟨_,rfl⟩;rw [show jg.val ((rb,rs),(c,t))=.agg ⟨[.bool b3,.string q3]⟩ by rw [ie,tw]; rfl]
     have e2:Value.agg ⟨[.bool b2,.string q2]⟩=aH (a8 (b != c) (ab s / ab t) - 1):=by
      have:IV.z (false,v1)=1:=by rw [mn]; show a8 false (ab (nb 1))=1; rw [ik]; rfl
      rw [fo,dG,Es,this]; rfl
     have e3:Value.agg ⟨[.bool b3,.string q3]⟩=aH (a8 b (ab s % ab t)+a8 c (ab t)):=by
      rw [ie,tw,pX]; rfl
     conv=>whnf
     refine .inr (.inl ⟨(.br 0 (.br 1 (.br 2 (.br 3 (.br 4 .leaf .leaf) .leaf) .leaf) (.br 2 (.br 1 (.br 3 (.br 4 .leaf .leaf) .leaf) .leaf) .leaf)) (.br 1 (.br 0 (.br 2 (.br 3 (.br 4 .leaf .leaf) .leaf) .leaf) .leaf) .leaf)),by kernel_rfl,?_⟩)
     repeat' ((conv=>whnf); first | exact True.intro | refine And.intro ?_ ?_)
     all_goals conv=>whnf
     all_goals exact fin _ _ (e2.trans (congrArg aH f1.1.symm)) (e3.trans (congrArg aH f1.2.symm))
    ·conv=>whnf
     refine .inr (.inl ⟨(.br 0 (.br 1 (.br 2 (.br 3 (.br 4 .leaf .leaf) .leaf) .leaf) (.br 2 (.br 1 (.br 3 (.br 4 .leaf .leaf) .leaf) .leaf) .leaf)) (.br 1 (.br 0 (.br 2 (.br 3 (.br 4 .leaf .leaf) .leaf) .leaf) .leaf) .leaf)),by kernel_rfl,?_⟩)
     have h4:b=c:=by
      cases b <;> cases c <;> first | rfl | cases h4
     have f1:=wF (b:=b) (c:=c) (A:=ab s) pW (.inr h4)
     repeat' ((conv=>whnf); first | exact True.intro | refine And.intro ?_ ?_)
     all_goals conv=>whnf
     all_goals exact fin _ _ (eQ.trans (congrArg aH f1.1.symm)) (eR.trans (congrArg aH f1.2.symm))
  ·rw [show gE.val (ab s,aM,ab t,aM)=.tuple ⟨[lg 2 (ab s / ab t),lg 3 (ab s % ab t)]⟩ from if_neg (Nat.not_lt.2 J),show gE.new (ab s,aM,ab t,aM)=[dN (ab s / ab t),dN (ab s % ab t)] from if_neg (Nat.not_lt.2 J)]
   have hQ:ab s / ab t=ab s / ab t:=rfl;have hR:ab s % ab t=ab s % ab t:=rfl;conv=>whnf
   refine ⟨aG.aR (fun h=>h) (fun r hr=>rfl),?_⟩
   conv=>whnf
   refine ⟨aG.aR (fun h=>h) (fun r hr=>rfl),?_⟩
   conv=>whnf
   refine ⟨_,rfl,?_⟩;conv=>whnf
   refine .inl ⟨13,[[],[0],[],[2],[0,1,2,3],[],[0,1,2,3,4,5],[],[7],[],[0,1,2,3,4,5,6,7,8,9],[],[],[0,1,2,3,4,5,6,7,8,9,10,11,12],[0,1,2,3,4,5,6,7,8,9,10,11,12,13]],by kernel_rfl,?_⟩
   conv=>whnf
   refine ⟨(b != c,some (nl (ab s / ab t),ab s / ab t,aM)),[6],rfl,⟨b6 _,by have:=lJ (Nat.div_le_self (ab s) (ab t)); omega⟩,?_⟩
   conv=>whnf
   refine ⟨aG.aR (fun h=>h) (fun r hr=>rfl),?_⟩
   conv=>whnf
   obtain ⟨qs,rJ⟩:∃ qs,qs=nb (ab s / ab t):=⟨_,rfl⟩;obtain ⟨qb,rj⟩:∃ qb:Bool,qb=((b != c) && (ab s / ab t) != 0):=⟨_,rfl⟩;obtain ⟨rs,iR⟩:∃ rs,rs=nb (ab s % ab t):=⟨_,rfl⟩;obtain ⟨rb,vT⟩:∃ rb:Bool,rb=(b && (ab s % ab t) != 0):=⟨_,rfl⟩;refine ⟨.agg ⟨[.bool qb,.string qs]⟩,by rw [rJ,rj]; rfl,?_⟩
   conv=>whnf
   refine ⟨(b,some (nl (ab s % ab t),ab s % ab t,aM)),[7],rfl,⟨b6 _,by have:=lJ (Nat.mod_le (ab s) (ab t)); omega⟩,?_⟩
   conv=>whnf
   refine ⟨aG.aR (fun h=>h) (fun r hr=>rfl),?_⟩
   conv=>whnf
   refine ⟨.agg ⟨[.bool rb,.string rs]⟩,by rw [iR,vT]; rfl,?_⟩
   conv=>whnf
   have eQ:Value.agg ⟨[.bool qb,.string qs]⟩=aH (a8 (b != c) (ab s / ab t)):=by rw [rJ,rj,← hQ]; exact jq _ _
   have eR:Value.agg ⟨[.bool rb,.string rs]⟩=aH (a8 b (ab s % ab t)):=by rw [iR,vT,← hR]; exact jq _ _
   have fin:∀ (q r:Value),q=aH (Int.fdiv (IV.z (b,s)) (IV.z (c,t)))→r=aH (Int.fmod (IV.z (b,s)) (IV.z (c,t)))→Value.tuple ⟨[q,r,.int .i64 0]⟩=iN.val ((b,s),(c,t)):=fun q r hq hr=>by
    have hz:IV.z (c,t)≠0:=fun e=>h1 (FI.1 e)
    simp only [iN,if_neg hz];rw [hq,hr]
   rcases Nat.eq_zero_or_pos (ab s % ab t) with h3 | h3
   ·rw [show (!rs.toList == (⟨#[]⟩:ByteArray).toList)=false by rw [iR]; exact wS h3]
    conv=>whnf
    refine .inr (.inl ⟨(.br 0 (.br 1 (.br 2 (.br 3 (.br 4 .leaf .leaf) .leaf) .leaf) (.br 2 (.br 1 (.br 3 (.br 4 .leaf .leaf) .leaf) .leaf) .leaf)) (.br 1 (.br 0 (.br 2 (.br 3 (.br 4 .leaf .leaf) .leaf) .leaf) .leaf) .leaf)),by kernel_rfl,?_⟩)
    have f1:=wF (b:=b) (c:=c) pW (.inl (show ab s % ab t=0 by rw [← hR]; exact h3))
    repeat' ((conv=>whnf); first | exact True.intro | refine And.intro ?_ ?_)
    all_goals conv=>whnf
    all_goals exact fin _ _ (eQ.trans (congrArg aH f1.1.symm)) (eR.trans (congrArg aH f1.2.symm))
   ·rw [show (!rs.toList == (⟨#[]⟩:ByteArray).toList)=true by rw [iR]; exact xc (Nat.ne_of_gt h3)]
    conv=>whnf
    refine aK (fun h4=>?_) (fun h4=>?_)
    ·conv=>whnf
     refine .inl ⟨5,[[],[],[0,1],[],[],[0,1,2,3,4],[0,1,2,3,4,5],[0,1,2,3,4,5,6]],by kernel_rfl,?_⟩
     conv=>whnf
     have h4:b≠c:=by
      intro e;subst e;cases b <;> cases h4
     have f1:=Fg (b:=b) (c:=c) pW (show ab s % ab t≠0 by rw [← hR]; exact Nat.ne_of_gt h3) h4
     have Es:IV.z (qb,qs)=a8 (b != c) (ab s / ab t):=by rw [rJ,rj,← hQ]; exact CS _ _
     have pX:IV.z (rb,rs)=a8 b (ab s % ab t):=by rw [iR,vT,← hR]; exact CS _ _
     have sq:qs.size≤s.size:=by rw [rJ,hQ]; exact Bv (Nat.div_le_self _ _)
     have sr:rs.size≤s.size:=by rw [iR,hR]; exact Bv (Nat.mod_le _ _)
     have s1:=Hb;refine ⟨(1:Int),rfl,⟨by decide,by decide⟩,?_⟩
     obtain ⟨v1,mn⟩:∃ v1,v1=nb 1:=⟨_,rfl⟩;rw [show eX.val (1:Int)=.agg ⟨[.bool false,.string v1]⟩ by rw [mn]; rfl]
     rw [← mn] at s1;conv=>whnf
     refine ⟨((qb,qs),(false,v1)),rfl,⟨by show qs.size≤_; omega,by show v1.size≤_; omega⟩,?_⟩
     obtain ⟨q2,fo⟩:∃ q2,q2=nb (IV.z (qb,qs) - IV.z (false,v1)).natAbs:=⟨_,rfl⟩;obtain ⟨b2,dG⟩:∃ b2:Bool,b2=decide (IV.z (qb,qs) - IV.z (false,v1) < 0):=⟨_,rfl⟩;rw [show mT.val ((qb,qs),(false,v1))=.agg ⟨[.bool b2,.string q2]⟩ by rw [fo,dG]; rfl]
     conv=>whnf
     refine ⟨((rb,rs),(c,t)),rfl,⟨by show rs.size≤_; omega,hp.2⟩,?_⟩
     obtain ⟨q3,ie⟩:∃ q3,q3=nb (IV.z (rb,rs)+IV.z (c,t)).natAbs:=⟨_,rfl⟩;obtain ⟨b3,tw⟩:∃ b3:Bool,b3=decide (IV.z (rb,rs)+IV.z (c,t) < 0):=⟨_,rfl⟩;rw [show jg.val ((rb,rs),(c,t))=.agg ⟨[.bool b3,.string q3]⟩ by rw [ie,tw]; rfl]
     have e2:Value.agg ⟨[.bool b2,.string q2]⟩=aH (a8 (b != c) (ab s / ab t) - 1):=by
      have:IV.z (false,v1)=1:=by rw [mn]; show a8 false (ab (nb 1))=1; rw [ik]; rfl
      rw [fo,dG,Es,this]; rfl
     have e3:Value.agg ⟨[.bool b3,.string q3]⟩=aH (a8 b (ab s % ab t)+a8 c (ab t)):=by
      rw [ie,tw,pX]; rfl
     conv=>whnf
     refine .inr (.inl ⟨(.br 0 (.br 1 (.br 2 (.br 3 (.br 4 .leaf .leaf) .leaf) .leaf) (.br 2 (.br 1 (.br 3 (.br 4 .leaf .leaf) .leaf) .leaf) .leaf)) (.br 1 (.br 0 (.br 2 (.br 3 (.br 4 .leaf .leaf) .leaf) .leaf) .leaf) .leaf)),by kernel_rfl,?_⟩)
     repeat' ((conv=>whnf); first | exact True.intro | refine And.intro ?_ ?_)
     all_goals conv=>whnf
     all_goals exact fin _ _ (e2.trans (congrArg aH f1.1.symm)) (e3.trans (congrArg aH f1.2.symm))
    ·conv=>whnf
     refine .inr (.inl ⟨(.br 0 (.br 1 (.br 2 (.br 3 (.br 4 .leaf .leaf) .leaf) .leaf) (.br 2 (.br 1 (.br 3 (.br 4 .leaf .leaf) .leaf) .leaf) .leaf)) (.br 1 (.br 0 (.br 2 (.br 3 (.br 4 .leaf .leaf) .leaf) .leaf) .leaf) .leaf)),by kernel_rfl,?_⟩)
     have h4:b=c:=by
      cases b <;> cases c <;> first | rfl | cases h4
     have f1:=wF (b:=b) (c:=c) (A:=ab s) pW (.inr h4)
     repeat' ((conv=>whnf); first | exact True.intro | refine And.intro ?_ ?_)
     all_goals conv=>whnf
     all_goals exact fin _ _ (eQ.trans (congrArg aH f1.1.symm)) (eR.trans (congrArg aH f1.2.symm))
open Go Go.Ae
theorem Cc:bh Tryz.prog 191 kT:=by
 refine bk mg aN Tryz.func191 (enters_of Tryz.func191 (by kernel_rfl) rfl) (fun _=>rfl) (fun _=>rfl) ?_
 intro (s:ByteArray) (hs:s.size≤1099511627776);simp only [kT];conv=>whnf
 refine .inl ⟨fun mm tz hz=>∃ (u:ByteArray),bA (some (.string u)::aF 13 []) tz∧hz=[]∧u.size=mm∧(ab u=ab s∧u.size≤s.size),.inl ⟨_,s,(.aa (.sk 13 .nil rfl)),rfl,rfl,?_⟩,?_⟩
 ·exact ⟨rfl,Nat.le_refl _⟩
 rintro mm aT _ ⟨u,aw,rfl,rfl,⟨hu,hle⟩⟩
 obtain ⟨az,rfl⟩:∃ az:Nat→Value,aT=.string u::zs az 1 13 []:=bI aw;clear aw;conv=>whnf
 rcases Nat.eq_zero_or_pos u.size with h1 | h1
 ·rw [show decide (((u.size:Nat):Int) > 0)=false from decide_eq_false (by omega)]
  conv=>whnf
  rw [← hu,← y7 (.inl h1)]
 ·rw [show decide (((u.size:Nat):Int) > 0)=true from decide_eq_true (by omega)]
  conv=>whnf
  refine ⟨⟨by omega,by omega⟩,?_⟩
  conv=>whnf
  refine aK (fun J=>?_) (fun J=>?_)
  ·have J:b8 u 0=0:=by
    have J:((b8 u 0:Nat):Int)=0:=by simpa using J
    omega
   obtain ⟨d1,d2⟩:=drop_zero (by omega) J
   conv=>whnf
   refine ⟨⟨by decide,by show (1:Int)≤((u.size:Nat):Int); omega,Int.le_refl _⟩,?_⟩
   conv=>whnf
   refine .inl ⟨_,?_,u.extract 1 u.size,(.aa (.sk 13 .nil rfl)),rfl,rfl,?_⟩
   ·rw [d2]; omega
   ·exact ⟨by rw [d1,hu],by rw [d2]; omega⟩
  ·have J:b8 u 0≠0:=by
    intro h;have e:b8 u (Int.toNat 0)=b8 u 0:=rfl;rw [e,h] at J;simp at J
   conv=>whnf
   rw [← hu,← y7 (.inr J)]
def Era:Env:=En [(191,.p kT)]
theorem zK:EnvOk Tryz.prog Era:=bD ⟨Cc,trivial⟩ trivial
theorem FW:bh Tryz.prog 179 js:=by
 refine bk zK aN Tryz.func179 (enters_of Tryz.func179 (by kernel_rfl) rfl) (fun _=>rfl) (fun _=>rfl) ?_
 intro ⟨b,s⟩ hp;have hp:s.size≤549755813888:=hp;obtain ⟨m,hm⟩:∃ m,m=nb (ab s):=⟨_,rfl⟩;have Qy:kT.val s=.string m:=by rw [hm]; rfl
 have fin:Value.agg ⟨[.bool (b && ab s != 0),.string m]⟩=aH (IV.z (b,s)):=by rw [hm]; exact jq b (ab s)
 conv=>whnf
 rcases Nat.eq_zero_or_pos s.size with h1 | h1
 ·rw [show decide ((((b,s).snd.size:Nat):Int) > 0)=false from decide_eq_false (by show ¬ (((s.size:Nat):Int) > 0); omega)]
  conv=>whnf
  refine ⟨s,rfl,by show s.size≤1099511627776; omega,?_⟩
  rw [Qy];cases b with
  | false =>
   conv=>whnf
   exact fin
  | true =>
   conv=>whnf
   refine Eq.trans ?_ fin;rw [hm];show Value.agg ⟨[.bool (!(nb (ab s)).toList == (⟨#[]⟩:ByteArray).toList),.string (nb (ab s))]⟩=_
   rw [Gb,Bool.true_and]
 ·rw [show decide ((((b,s).snd.size:Nat):Int) > 0)=true from decide_eq_true (by show (((s.size:Nat):Int) > 0); omega)]
  conv=>whnf
  refine ⟨⟨by decide,by show (0:Int) < ((s.size:Nat):Int); omega⟩,?_⟩
  conv=>whnf
  refine aK (fun J=>?_) (fun J=>?_)
  ·have J:b8 s 0≠0:=by
    intro h;have e:b8 (b,s).snd (Int.toNat 0)=b8 s 0:=rfl;rw [e,h] at J;simp at J
   conv=>whnf
   exact U4 h1 J
  ·conv=>whnf
   refine ⟨s,rfl,by show s.size≤1099511627776; omega,?_⟩
   rw [Qy];cases b with
   | false =>
    conv=>whnf
    exact fin
   | true =>
    conv=>whnf
    refine Eq.trans ?_ fin;rw [hm];show Value.agg ⟨[.bool (!(nb (ab s)).toList == (⟨#[]⟩:ByteArray).toList),.string (nb (ab s))]⟩=_
    rw [Gb,Bool.true_and]
theorem FX:bh Tryz.prog 193 ki:=by
 refine bk zK aN Tryz.func193 (enters_of Tryz.func193 (by kernel_rfl) rfl) (fun _=>rfl) (fun _=>rfl) ?_
 intro (s:ByteArray) (hp:s.size≤7);conv=>whnf
 refine .inl ⟨fun mm tz hz=>∃ (i:Nat) (N:Nat),bA (some (.string s)::aF 2 (some (.int .i64 N)::some (.int .i64 i)::aF 14 [])) tz∧hz=[]∧s.size - i=mm∧(i≤s.size∧N=ab s / C ^ (s.size - i)),.inl ⟨_,0,0,(.aa (.sk 2 (.aa (.aa (.sk 14 .nil rfl))) rfl)),rfl,rfl,?_⟩,?_⟩
 ·exact ⟨Nat.zero_le _,by rw [Nat.sub_zero,Nat.div_eq_of_lt (gq s)]⟩
 rintro mm aT _ ⟨i,N,aw,rfl,rfl,⟨hi,hN⟩⟩
 obtain ⟨az,rfl⟩:∃ az:Nat→Value,aT=.string s::zs az 1 2 (.int .i64 N::.int .i64 i::zs az 5 14 []):=bI aw;clear aw;have m8:=CT s hi;rw [← hN] at m8;have an:=Nat.lt_of_lt_of_le m8 (oo (show i≤7 by omega))
 conv=>whnf
 refine aK (fun J=>?_) (fun J=>?_)
 ·have J:i < s.size:=by simpa using J
  have au:=yJ J;rw [← hN] at au;have hb:b8 s i < 256:=wD s i;have e3:IntKind.i64.wrap (((i:Nat):Int)+1)=((i+1:Nat):Int):=by rw [ax (by omega) (by omega)]; rfl
  have JP:=Nat.lt_of_lt_of_le m8 (Dz (show i≤6 by omega))
  conv=>whnf
  refine ⟨⟨by omega,by omega⟩,?_⟩
  simp only [toNat_cast];conv=>whnf
  rw [M9 (by omega) hb,e3]
  refine .inl ⟨_,?_,i+1,N*256+b8 s i,(.aa (.sk 2 (.aa (.aa (.sk 14 .nil rfl))) rfl)),rfl,rfl,?_⟩
  ·omega
  ·exact ⟨by omega,au.symm⟩
 ·have J:i=s.size:=by
   have J:¬ i < s.size:=by simpa using J
   omega
  subst J;rw [Nat.sub_self,Nat.pow_zero,Nat.div_one] at hN;subst hN;conv=>whnf
  rfl
def Erb:Env:=En [(193,.p ki)]
theorem adn:EnvOk Tryz.prog Erb:=bD ⟨FX,trivial⟩ trivial
theorem Vu:bh Tryz.prog 181 xr:=by
 refine bk adn aN Tryz.func181 (enters_of Tryz.func181 (by kernel_rfl) rfl) (fun _=>rfl) (fun _=>rfl) ?_
 intro ⟨b,s⟩ hp;have hp:s.size≤7:=hp;have an:=Nat.lt_of_lt_of_le (gq s) (oo hp);cases b with
 | true =>
  conv=>whnf
  refine ⟨s,rfl,hp,?_⟩;conv=>whnf
  rw [ax (by omega) (by omega)]
  show Value.int .i64 (0 - (ab s:Int))=.int .i64 (-(ab s:Int))
  rw [Int.zero_sub]
 | false =>
  conv=>whnf
  refine ⟨s,rfl,hp,?_⟩;conv=>whnf
  rfl
theorem ZI:bh Tryz.prog 177 IA:=by
 refine bk mg aN Tryz.func177 (enters_of Tryz.func177 (by kernel_rfl) rfl) (fun _=>rfl) (fun _=>rfl) ?_
 intro (n:Nat) (hp:n < 9223372036854775808);conv=>whnf
 refine aK (fun h1=>?_) (fun h1=>?_)
 ·have h1:n < 256:=by
   have:=of_decide_eq_true h1;omega
  conv=>whnf
  refine aK (fun J=>?_) (fun J=>?_)
  ·have J:n=0:=by
    have J:((n:Nat):Int)=0:=by simpa using J
    omega
   subst J;conv=>whnf
   show Value.string ⟨#[]⟩=.string (nb 0)
   rw [qj]
  ·have J:n≠0:=by
    intro e;subst e;simp at J
   conv=>whnf
   rw [qD];refine ⟨⟨Nat.le_refl _,fun r hr=>by
    have h0:r=0:=by
     have hr:r < 1:=hr;omega
    subst h0;exact ⟨_,rfl⟩⟩,?_⟩
   have e:=EK (g:=fun r=>[[Value.int .u8 ((n % C:Nat):Int)]].getD r []) (i:=0) (m:=1) (X:=n) (fun r hr=>by
    have:r=0:=by omega
    subst this;show [Value.int .u8 ((n % C:Nat):Int)]=[Value.int .u8 ((n / C ^ 0 % C:Nat):Int)]
    rw [Nat.pow_zero,Nat.div_one])
   conv=>whnf
   show _=Value.string (nb n)
   rw [xG (N:=n) (n:=1) h1 (.inr (by show 1≤n; omega)),← e]
   rfl
 ·have h1:256≤n:=by
   have:=of_decide_eq_false h1;omega
  conv=>whnf
  refine .inl ⟨fun mm tz hz=>∃ (i:Nat) (m:Nat) (g:Nat→List Value),bA (some (.int .i64 m)::aF 2 (some (.pointer (some ⟨0,0,none⟩))::some (.int .i64 i)::aF 21 [])) tz∧hz=[some (.flat true 8 1 g)]∧m=mm∧((i≤8∧m=n / C ^ (8 - i))∧(i=8∨C ^ (8 - i - 1)≤n)∧(∀ r,i≤r→r < 8→g r=[.int .u8 ((n / C ^ (7 - r) % C:Nat):Int)])∧(∀ r,r < 8→∃ x:Int,g r=[.int .u8 x])),.inl ⟨_,8,n,_,(.aa (.sk 2 (.aa (.aa (.sk 21 .nil rfl))) rfl)),rfl,rfl,?_⟩,?_⟩
  ·exact ⟨⟨Nat.le_refl _,by simp⟩,.inl rfl,fun r h1 J=>absurd h1 (by omega),fun r hr=>⟨0,rfl⟩⟩
  rintro mm aT _ ⟨i,m,g,aw,rfl,rfl,⟨⟨hi,hm⟩,ho,hg,c4⟩⟩
  obtain ⟨az,rfl⟩:∃ az:Nat→Value,aT=.int .i64 m::zs az 1 2 (.pointer (some ⟨0,0,none⟩)::.int .i64 i::zs az 5 21 []):=bI aw;clear aw;conv=>whnf
  refine aK (fun J=>?_) (fun J=>?_)
  ·have J:0 < m:=by
    have:=of_decide_eq_true J;omega
   have fY:0 < i:=by
    rcases Nat.eq_zero_or_pos i with h | h
    ·subst h;rw [hm] at J;rw [Qg hp] at J;exact absurd J (by decide)
    ·exact h
   obtain ⟨i,rfl⟩:∃ i',i=i'+1:=⟨i - 1,by omega⟩
   have ei:IntKind.i64.wrap (((i+1:Nat):Int) - 1)=((i:Nat):Int):=by rw [ax (by omega) (by omega)]; omega
   have eH:m / 256=n / C ^ (8 - i):=by
    rw [hm,EL,show 8 - (i+1)+1=8 - i by omega]
   have IN:C ^ (8 - (i+1))≤n:=by
    rcases Nat.lt_or_ge n (C ^ (8 - (i+1))) with h | h
    ·rw [hm,Nat.div_eq_of_lt h] at J;exact absurd J (by decide)
    ·exact h
   conv=>whnf
   simp only [ei];refine ⟨⟨by omega,by omega⟩,?_⟩
   simp only [toNat_cast,ay,Nat.zero_add];conv=>whnf
   refine ⟨by show i < 8; omega,?_⟩
   conv=>whnf
   obtain ⟨x,hx⟩:=c4 i (by omega)
   rw [hx];conv=>whnf
   rw [qD,c7,show ((m:Nat):Int) / 256=((m / 256:Nat):Int) from rfl]
   refine .inl ⟨_,?_,i,m / 256,_,(.aa (.sk 2 (.aa (.aa (.sk 21 .nil rfl))) rfl)),rfl,rfl,?_⟩
   ·omega
   ·refine ⟨⟨by omega,eH⟩,.inr (by rw [show 8 - i - 1=8 - (i+1) by omega]; exact IN),fun r iD ff=>?_,fun r hr=>?_⟩
    rotate_left
    ·by_cases he:r=i
     ·exact ⟨_,if_pos he⟩
     ·rw [if_neg he]; exact c4 r hr
    by_cases he:r=i
    ·subst he;rw [if_pos rfl,hm,show 7 - r=8 - (r+1) by omega]
    ·rw [if_neg he];exact hg r (by omega) ff
  ·have J:m=0:=by
    have:=of_decide_eq_false J;omega
   have an:n < C ^ (8 - i):=by
    rw [J] at hm;have h3:=Nat.mod_lt n (gX (8 - i));have h4:=Nat.mod_add_div n (C ^ (8 - i));rw [← hm,Nat.mul_zero,Nat.add_zero] at h4;rw [← h4]; exact h3
   obtain ⟨k,hk⟩:∃ k,8 - i=k+1:=⟨8 - i - 1,by
    rcases Nat.eq_zero_or_pos (8 - i) with h | h
    ·rw [h,Nat.pow_zero] at an; omega
    ·omega⟩
   rw [hk] at an;have ho:C ^ k≤n:=by
    rcases ho with h | h
    ·omega
    ·rw [show 8 - i - 1=k by omega] at h; exact h
   have e:=EK (g:=g) (i:=i) (m:=k+1) (X:=n) (fun r hr=>by
    rw [hg (i+r) (by omega) (by omega),show 7 - (i+r)=k+1 - 1 - r by omega])
   conv=>whnf
   refine ⟨⟨by omega,by omega,Int.le_refl _,Nat.le_refl _,rfl⟩,?_⟩
   simp only [toNat_cast,ay,Nat.zero_add,hk];conv=>whnf
   refine ⟨⟨by show i+(k+1)≤8; omega,fun r hr=>c4 (i+r) (by omega)⟩,?_⟩
   conv=>whnf
   show Value.string ⟨⟨bytesOf g i (k+1)⟩⟩=Value.string (nb n)
   rw [e,xG an (.inr ho)]
theorem Fq:bh Tryz.prog 180 r8:=by
 refine bk mg aN Tryz.func180 (enters_of Tryz.func180 (by kernel_rfl) rfl) (fun _=>rfl) (fun _=>rfl) ?_
 intro ⟨A,D⟩ hp;have hp:aQ A≤1099511627776∧aQ D≤1099511627776:=hp;simp only [r8];obtain ⟨a,ha⟩:∃ a,a=nb A:=⟨_,rfl⟩;obtain ⟨d,hd⟩:∃ d,d=nb D:=⟨_,rfl⟩;rw [← ha,← hd];have l1:a.size=d.size→Op.bytesLess a.toList d.toList=decide (A < D):=fun h=>by rw [ha,hd] at h ⊢; exact U5 h
 have l2:(a.toList == d.toList)=decide (A=D):=by rw [ha,hd]; exact U6
 have l3:a.size < d.size→A < D:=fun h=>by rw [ha,hd] at h; exact Ms h
 have l4:d.size < a.size→D < A:=fun h=>by rw [ha,hd] at h; exact Ms h
 conv=>whnf
 refine aK (fun h1=>?_) (fun h1=>?_)
 ·have h1:a.size≠d.size:=by
   intro e;rw [e] at h1;simp at h1
  conv=>whnf
  refine aK (fun J=>?_) (fun J=>?_)
  ·have J:=l3 (by have:=of_decide_eq_true J; omega)
   conv=>whnf
   rw [cP,if_pos J]
  ·have J:=l4 (by have:=of_decide_eq_false J; omega)
   conv=>whnf
   rw [cP,if_neg (by omega),if_pos J]
 ·have h1:a.size=d.size:=by
   have h1:((a.size:Nat):Int)=((d.size:Nat):Int):=by simpa using h1
   omega
  conv=>whnf
  rw [l1 h1];refine aK (fun J=>?_) (fun J=>?_)
  ·have J:=of_decide_eq_true J;conv=>whnf
   rw [cP,if_pos J]
  ·have J:=of_decide_eq_false J;conv=>whnf
   rw [l1 h1,l2];refine aK (fun h3=>?_) (fun h3=>?_)
   ·have h3:D < A:=by
     simp [J] at h3;omega
    conv=>whnf
    rw [cP,if_neg J,if_pos h3]
   ·have h3:A=D:=by
     simpa [J] using h3
    conv=>whnf
    subst h3;rw [cP,if_neg J,if_neg J]
end Go.Proofs.YtlapbjdhekcipaaGreat
