import Derived.Test.YtlapbjdhekcipaaGreatVF
set_option linter.unusedVariables false
set_option linter.unusedSimpArgs false
set_option maxRecDepth 20000
set_option maxHeartbeats 4000000
namespace Go.Proofs.YtlapbjdhekcipaaGreat
open Go Go.Ae
def Eg:Env:=En [(167,.p lM),(197,.p uo)]
theorem adA:EnvOk Tryz.prog Eg:=bI ⟨MP,VG,trivial⟩ trivial
theorem VO:gi Tryz.prog 186 (Aa w9):=by
 refine NI adA aM Tryz.func186 (enters_of Tryz.func186 (by kernel_rfl) rfl) ?_
 intro ⟨X,m,cx,D,cd,j⟩ hp;have hp:m≤137438953473∧2≤nl D∧2147483648≤al D (nl D - 1)∧j+nl D < m∧X < D*B ^ (j+1):=hp;obtain ⟨n,hn⟩:∃ n,n=nl D - 2:=⟨_,rfl⟩;obtain ⟨n1,zL⟩:∃ n1,n1=nl D - 1:=⟨_,rfl⟩;obtain ⟨n2,bN⟩:∃ n2,n2=nl D:=⟨_,rfl⟩;rw [← zL,← bN] at hp;have hn:n2=n+2∧n1=n+1:=by omega
 have HY:=cH X (j+n2);have Po:=cH X (j+n1);have HZ:=cH X (j+n);have zB:=cH D n1;have Pp:=cH D n;have hB:B=4294967296:=rfl;conv=>whnf
 refine .inl ⟨16,[[],[],[],[1,2],[0,1,2,3],[0,1,2,3,4],[0,1,2,3,4,5],[0,1,2,3,4,5,6],[],[],[],[9,10],[9,10,11],[8,9,10,11,12],[8,9,10,11,12,13],[8,9,10,11,12,13,14],[0,1,2,3,4,5,6,7,8,9,10,11,12,13,14,15],[0,1,2,3,4,5,6,7,8,9,10,11,12,13,14,15,16]],by kernel_rfl,?_⟩
 conv=>whnf
 rw [← bN];have e1:IntKind.i64.wrap (((j:Nat):Int)+((n2:Nat):Int))=((j+n2:Nat):Int):=by rw [ar (by omega) (by omega)]; omega
 have e2:IntKind.i64.wrap (((j+n2:Nat):Int) - 1)=((j+n1:Nat):Int):=by rw [ar (by omega) (by omega)]; omega
 have e3:IntKind.i64.wrap (((j+n2:Nat):Int) - 2)=((j+n:Nat):Int):=by rw [ar (by omega) (by omega)]; omega
 have e4:IntKind.i64.wrap (((n2:Nat):Int) - 1)=((n1:Nat):Int):=by rw [ar (by omega) (by omega)]; omega
 have e5:IntKind.i64.wrap (((n2:Nat):Int) - 2)=((n:Nat):Int):=by rw [ar (by omega) (by omega)]; omega
 simp only [e1];refine ⟨⟨by omega,by omega⟩,?_⟩
 simp only [toNat_cast,ax,Nat.zero_add];conv=>whnf
 refine ⟨by show j+n2 < m; omega,?_⟩
 conv=>whnf
 simp only [e1,e2];refine ⟨⟨by omega,by omega⟩,?_⟩
 simp only [toNat_cast,ax,Nat.zero_add];conv=>whnf
 refine ⟨by show j+n1 < m; omega,?_⟩
 conv=>whnf
 have kH:∀ l:Nat,l < B→IntKind.u64.wrap ((l:Nat):Int)=(l:Int):=fun l hl=>bL (by omega) (by omega)
 have qZ:∀ l:Nat,l < B→IntKind.u64.wrap ((l:Int)*4294967296)=(l:Int)*4294967296:=fun l hl=>bL (by omega) (by omega)
 simp only [kH _ HY,kH _ Po,dm,qZ _ HY,dn _ _ HY Po];obtain ⟨top,uW⟩:∃ top,top=al X (j+n2)*4294967296+al X (j+n1):=⟨_,rfl⟩;have adB:((al X (j+n2):Nat):Int)*4294967296+((al X (j+n1):Nat):Int)=(top:Int):=by omega
 simp only [adB];obtain ⟨d1,gd⟩:∃ d1,d1=al D n1:=⟨_,rfl⟩;obtain ⟨d0,fx⟩:∃ d0,d0=al D n:=⟨_,rfl⟩;have hp3:2147483648≤d1:=by rw [gd]; exact hp.2.2.1
 have ad0:d1 < 4294967296:=by rw [gd]; exact zB
 have C7:d0 < 4294967296:=by rw [fx]; exact Pp
 have Hm:top < 18446744073709551616:=by omega
 refine .inl ⟨17,[[],[],[],[2],[1,2,3],[1,2,3,4],[1,2,3,4,5],[0,1,2,3,4,5,6],[],[],[],[10],[9,10,11],[9,10,11,12],[9,10,11,12,13],[8,9,10,11,12,13,14],[0,1,2,3,4,5,6,7],[0,1,2,3,4,5,6,7,8,9,10,11,12,13,14,15,16]],by kernel_rfl,?_⟩
 conv=>whnf
 simp only [e4];refine ⟨⟨by omega,by omega⟩,?_⟩
 simp only [toNat_cast,ax,Nat.zero_add];conv=>whnf
 refine ⟨by show n1 < nl D; omega,?_⟩
 conv=>whnf
 simp only [kH _ zB];rw [← gd];have aH:decide ((d1:Int)≠0)=true:=decide_eq_true (by omega)
 rw [aH];conv=>whnf
 simp only [e4];refine ⟨⟨by omega,by omega⟩,?_⟩
 simp only [toNat_cast,ax,Nat.zero_add];conv=>whnf
 refine ⟨by show n1 < nl D; omega,?_⟩
 conv=>whnf
 simp only [kH _ zB];rw [← gd,aH];conv=>whnf
 obtain ⟨w0,Jb⟩:∃ w0,w0=al X (j+n):=⟨_,rfl⟩;rw [← Jb] at HZ;obtain ⟨Q,hQ⟩:∃ Q,Q=X / B ^ j / D:=⟨_,rfl⟩;obtain ⟨q0,vC⟩:∃ q0,q0=top / d1:=⟨_,rfl⟩;have F:=Y3 bN hn.1 hn.2 hp.2.2.1 hp.2.2.2.2 uW gd fx Jb hQ vC;clear hQ;obtain ⟨nK,hp4⟩:m≤137438953473∧j+n2 < m:=⟨hp.1,hp.2.2.2.1⟩;clear hp;have fq3:q0≤4294967297:=F.P8;have eq0:IntKind.u64.wrap ((q0:Nat):Int)=((q0:Nat):Int):=bL (by omega) (by omega)
 simp only [Fx,Ml];rw [← vC,eq0];refine .inl ⟨fun mm tz hz=>∃ (q:Nat) (r:Nat),bA (some (.slice (some ⟨0,0,none⟩) m cx)::some (.slice (some ⟨1,0,none⟩) n2 cd)::some (.int .i64 j)::aB 3 (some (.int .u32 0)::some (.int .i64 n2)::aB 1 (some (.int .u64 q)::some (.int .u64 r)::aB 183 []))) tz∧hz=[some (.flat true m 1 (bo X)),some (dK D)]∧q=mm∧(q*d1+r=top∧Q≤q∧q≤4294967297),.inr ⟨[0,1],[0,1,2,6,7,9,10],?_⟩,?_⟩
 ·conv=>whnf
  intro _;conv=>whnf
  refine ⟨_,q0,top % d1,(.aa (.aa (.aa (.sk 3 (.aa (.aa (.sk 1 (.aa (.aa (.sk 183 .nil rfl))) rfl))) rfl)))),rfl,rfl,?_⟩;exact ⟨by rw [vC,Nat.mul_comm]; exact Nat.div_add_mod top d1,F.fq,F.P8⟩
 rintro mm aS _ ⟨q,r,au,rfl,rfl,⟨he,DF,fi⟩⟩
 obtain ⟨az,rfl⟩:∃ az:Nat→Value,aS=.slice (some ⟨0,0,none⟩) m cx::.slice (some ⟨1,0,none⟩) n2 cd::.int .i64 j::zs az 3 3 (.int .u32 0::.int .i64 n2::zs az 8 1 (.int .u64 q::.int .u64 r::zs az 11 183 [])):=bJ au;clear au;have hr:r < 18446744073709551616:=Nat.lt_of_le_of_lt (Nat.le_trans (Nat.le_add_left _ _) (Nat.le_of_eq he)) Hm;refine .inl ⟨27,[[],[0],[0,1],[0,1,2],[0,1,2,3],[0,1,2,3,4],[0,1,2,3,4,5],[0,1,2,3,4,5,6],[0,1,2,3,4,5,6,7],[0,1,2,3,4,5,6,7],[0,1,2,3,4,5,6,7],[0,1,2,3,4,5,6,7,10],[0,1,2,3,4,5,6,7,9,10,11],[0,1,2,3,4,5,6,7,9,10,11,12],[0,1,2,3,4,5,6,7,9,10,11,12,13],[0,1,2,3,4,5,6,7,8,9,10,11,12,13,14],[0,1,2,3,4,5,6,7],[0,1,2,3,4,5,6,7,16],[0,1,2,3,4,5,6,7],[0,1,2,3,4,5,6,7],[0,1,2,3,4,5,6,7],[0,1,2,3,4,5,6,7,19,20],[0,1,2,3,4,5,6,7,19,20,21],[0,1,2,3,4,5,6,7,18,19,20,21,22],[0,1,2,3,4,5,6,7,18,19,20,21,22,23],[0,1,2,3,4,5,6,7,18,19,20,21,22,23,24],[0,1,2,3,4,5,6,7,16,17,18,19,20,21,22,23,24,25],[0,1,2,3,4,5,6,7,8,9,10,11,12,13,14,15,16,17,18,19,20,21,22,23,24,25,26],[0,1,2,3,4,5,6,7,8,9,10,11,12,13,14,15,16,17,18,19,20,21,22,23,24,25,26,27],[0,1,2,3,4,5,6,7,8,9,10,11,12,13,14,15,16,17,18,19,20,21,22,23,24,25,26,27,28]],by kernel_rfl,?_⟩
 conv=>whnf
 simp only [cf,jU];rcases Nat.lt_or_ge q 4294967296 with xV | xV
 ·rw [show decide (((q / B:Nat):Int) > 0)=false from decide_eq_false (by show ¬ (((q / 4294967296:Nat):Int) > 0); omega)]
  conv=>whnf
  simp only [cf,jU];have pB:q*d0≤r*B+w0∨B≤r→q≤Q+1:=fun h=>by
   rw [F.fQ];exact F9 (dV n) F.fW F.fD he xV F.fP C7 h.symm
  rcases Nat.lt_or_ge r 4294967296 with mj | mj
  ·rw [show (((((r / B:Nat):Int) == 0):Bool))=true by show decide (((r / 4294967296:Nat):Int)=0)=true; exact decide_eq_true (by omega)]
   conv=>whnf
   simp only [e5];refine ⟨⟨by omega,by omega⟩,?_⟩
   simp only [toNat_cast,ax,Nat.zero_add];conv=>whnf
   refine ⟨by show n < nl D; omega,?_⟩
   conv=>whnf
   simp only [kH _ Pp];rw [← fx,(abx fi C7).1];simp only [e1,e3];obtain ⟨vq,cT⟩:∃ v,v=Value.int .u64 ((q*d0:Nat):Int):=⟨_,rfl⟩;rw [← cT];refine ⟨⟨by omega,by omega⟩,?_⟩
   simp only [toNat_cast,ax,Nat.zero_add];conv=>whnf
   refine ⟨by show j+n < m; omega,?_⟩
   conv=>whnf
   rw [← Jb];simp only [kH _ HZ,dm,qZ r mj,dn _ _ mj HZ];rw [show ((r:Nat):Int)*4294967296+((w0:Nat):Int)=((r*4294967296+w0:Nat):Int) by omega]
   obtain ⟨qd,rC⟩:∃ qd,qd=q*d0:=⟨_,rfl⟩;obtain ⟨Am,H0⟩:∃ Am,Am=r*4294967296+w0:=⟨_,rfl⟩;rw [cT,← rC,← H0];conv=>whnf
   rcases Nat.lt_or_ge Am qd with HB | ad1
   ·rw [show decide ((qd:Int) > (Am:Int))=true from decide_eq_true (by omega)]
    have ak:Q < q:=by
     rw [F.fQ];refine UY F.Af (dV n) F.fW F.fD he ?_;rw [← rC];show r*4294967296+w0 < qd
     omega
    clear cT rC H0 HB;conv=>whnf
    have ep:IntKind.u64.wrap ((q:Int) - 1)=((q - 1:Nat):Int):=by rw [bL (by omega) (by omega)]; omega
    have cE:(q - 1)*d1+(r+d1)=top:=by
     have h1:(q - 1)*d1+d1=q*d1:=by
      conv=>rhs; rw [show q=(q - 1)+1 by omega,Nat.add_mul,Nat.one_mul]
     omega
    have e9:r+d1 < 18446744073709551616:=Nat.lt_of_le_of_lt (Nat.le_trans (Nat.le_add_left _ _) (Nat.le_of_eq cE)) Hm;have er:IntKind.u64.wrap ((r:Int)+(d1:Int))=((r+d1:Nat):Int):=by rw [bL (by omega) (by omega)]; omega
    simp only [ep,e4];refine ⟨⟨by omega,by omega⟩,?_⟩
    simp only [toNat_cast,ax,Nat.zero_add];conv=>whnf
    refine ⟨by show n1 < nl D; omega,?_⟩
    conv=>whnf
    simp only [kH _ zB];rw [← gd,er];simp only [cf,jU];rcases Nat.lt_or_ge (r+d1) 4294967296 with mj | mj
    ·rw [show decide ((((r+d1) / B:Nat):Int) > 0)=false from decide_eq_false (by show ¬ ((((r+d1) / 4294967296:Nat):Int) > 0); omega)]
     conv=>whnf
     refine .inr ⟨[0,1],[0,1,2,6,7,9,10],?_⟩;conv=>whnf
     intro _;conv=>whnf
     refine ⟨_,?_,q - 1,r+d1,(.aa (.aa (.aa (.sk 3 (.aa (.aa (.sk 1 (.aa (.aa (.sk 183 .nil rfl))) rfl))) rfl)))),rfl,rfl,?_⟩
     ·omega
     ·exact ⟨cE,by omega,by omega⟩
    ·rw [show decide ((((r+d1) / B:Nat):Int) > 0)=true from decide_eq_true (by show ((((r+d1) / 4294967296:Nat):Int) > 0); omega)]
     conv=>whnf
     simp only [cf,jU];rcases Nat.lt_or_ge (q - 1) 4294967296 with vd | vd
     ·rw [show (((((q - 1) / B:Nat):Int) == 0):Bool)=true by show decide ((((q - 1) / 4294967296:Nat):Int)=0)=true; exact decide_eq_true (by omega)]
      conv=>whnf
      obtain ⟨qt,ox⟩:∃ qt,qt=q - 1:=⟨_,rfl⟩;have hT:qt < 4294967296∧Q≤qt∧qt≤Q+1:=by
       have h3:q - 1≤X / B ^ j / D+1:=F9 (dV n) F.fW F.fD cE vd F.fP C7 (.inl mj);rw [← F.fQ] at h3;omega
      rw [← ox];clear xV vd ak ep cE e9 er mj he hr DF fi ox;conv=>whnf
      refine .inl ⟨fun mm tz hz=>∃ (i:Nat) (c:Nat) (b:Nat) (Z:Nat),bA (some (.slice (some ⟨0,0,none⟩) m cx)::some (.slice (some ⟨1,0,none⟩) n2 cd)::some (.int .i64 j)::aB 3 (some (.int .u32 0)::some (.int .i64 n2)::aB 1 (some (.int .u64 qt)::aB 1 (some (.int .u64 c)::some (.int .u32 b)::aB 88 (some (.slice (some ⟨1,0,none⟩) n2 cd)::some (.int .i64 n2)::some (.int .i64 i)::aB 90 []))))) tz∧hz=[some (.flat true m 1 (bo Z)),some (dK D)]∧n2 - i=mm∧((i≤n2∧c < 4294967296∧b≤1)∧Z < B ^ (j+n2+1)∧Z+qt*(D % B ^ i)*B ^ j=X+(b+c)*B ^ (j+i)),.inr ⟨[0,1],[0,1,2,6,7,9,11,12,101,102,103],?_⟩,?_⟩
      ·conv=>whnf
       intro _;conv=>whnf
       refine ⟨_,0,0,0,X,(.aa (.aa (.aa (.sk 3 (.aa (.aa (.sk 1 (.aa (.sk 1 (.aa (.aa (.sk 88 (.aa (.aa (.aa (.sk 90 .nil rfl)))) rfl))) rfl)) rfl))) rfl)))),rfl,rfl,?_⟩;exact ⟨⟨Nat.zero_le _,by decide,by decide⟩,F.fX,by simp [Nat.mod_one]⟩
      rintro mm aS _ ⟨i,c,b,Z,au,rfl,rfl,⟨⟨hi,hc,hb⟩,hZ,he⟩⟩
      obtain ⟨az,rfl⟩:∃ az:Nat→Value,aS=.slice (some ⟨0,0,none⟩) m cx::.slice (some ⟨1,0,none⟩) n2 cd::.int .i64 j::zs az 3 3 (.int .u32 0::.int .i64 n2::zs az 8 1 (.int .u64 qt::zs az 10 1 (.int .u64 c::.int .u32 b::zs az 13 88 (.slice (some ⟨1,0,none⟩) n2 cd::.int .i64 n2::.int .i64 i::zs az 104 90 [])))):=bJ au;clear au;conv=>whnf
      refine aI (fun h1=>?_) (fun h1=>?_)
      ·have h1:i < n2:=by simpa using h1
       conv=>whnf
       refine ⟨⟨by omega,by omega⟩,?_⟩
       simp only [toNat_cast,ax,Nat.zero_add];conv=>whnf
       refine ⟨by show i < nl D; omega,?_⟩
       conv=>whnf
       obtain ⟨x,hx⟩:∃ x,x=al D i:=⟨_,rfl⟩;obtain ⟨l,hl⟩:∃ l,l=al Z (j+i):=⟨_,rfl⟩;obtain ⟨t,ht⟩:∃ t,t=c+qt*al D i:=⟨_,rfl⟩;have iy:x < B:=by rw [hx]; exact cH D i
       have eV:l < 4294967296:=by rw [hl]; exact cH Z (j+i)
       obtain ⟨hv,fI⟩:=Bq (t:=t) hc hT.1 iy (by rw [hx]; exact ht)
       have oz:t % B < 4294967296:=Nat.mod_lt _ (by decide)
       obtain ⟨d,hd⟩:∃ d,d=(l+2*4294967296 - t % B - b) % 4294967296:=⟨_,rfl⟩;obtain ⟨b',bF⟩:∃ b',b'=if l < t % B+b then 1 else 0:=⟨_,rfl⟩
       have dE:d < 4294967296:=by rw [hd]; exact Nat.mod_lt _ (by decide)
       have ao:=A8 (i:=i) (j:=j) (d:=d) (b':=b') he ht (by
        rw [← hl,bF,hB,← hB];clear he hZ ht hv;obtain ⟨u,hu⟩:∃ u,u=t % B:=⟨_,rfl⟩;rw [← hu] at hd oz ⊢
        split <;> omega)
       have gJ:=mo hZ (show j+i < j+n2+1 by omega) (show d < B from dE)
       have dC:b'≤1:=by rw [bF]; split <;> omega
       have e6:IntKind.i64.wrap (((j:Nat):Int)+((i:Nat):Int))=((j+i:Nat):Int):=by rw [ar (by omega) (by omega)]; omega
       have e7:IntKind.i64.wrap (((i:Nat):Int)+1)=((i+1:Nat):Int):=by rw [ar (by omega) (by omega)]; omega
       rw [← hx];simp only [kH _ iy,hv,e6];refine ⟨⟨by omega,by omega⟩,?_⟩
       simp only [toNat_cast,ax,Nat.zero_add];conv=>whnf
       refine ⟨by show j+i < m; omega,?_⟩
       conv=>whnf
       rw [← hl];simp only [eh];refine ⟨(l,t % B,b),rfl,⟨eV,oz,hb⟩,?_⟩;simp only [lM,← hd,← bF,e6];conv=>whnf
       refine ⟨⟨by omega,by omega⟩,?_⟩
       simp only [toNat_cast,ax,Nat.zero_add];conv=>whnf
       refine ⟨by show j+i < m; omega,?_⟩
       conv=>whnf
       simp only [cf,jU,e7];rw [fy dE];refine .inl ⟨_,?_,i+1,t / B,b',cF Z (j+i) d,(.aa (.aa (.aa (.sk 3 (.aa (.aa (.sk 1 (.aa (.sk 1 (.aa (.aa (.sk 88 (.aa (.aa (.aa (.sk 90 .nil rfl)))) rfl))) rfl)) rfl))) rfl)))),rfl,rfl,?_⟩
       ·omega
       ·exact ⟨⟨by omega,fI,dC⟩,gJ,ao⟩
      ·have h1:i=n2:=by
        have h1:¬ i < n2:=by simpa using h1
        omega
       subst h1;obtain ⟨l,hl⟩:∃ l,l=al Z (j+i):=⟨_,rfl⟩;have eV:l < 4294967296:=by rw [hl]; exact cH Z (j+i)
       obtain ⟨d,hd⟩:∃ d,d=(l+2*4294967296 - c - b) % 4294967296:=⟨_,rfl⟩;obtain ⟨b',bF⟩:∃ b',b'=if l < c+b then 1 else 0:=⟨_,rfl⟩
       have dE:d < 4294967296:=by rw [hd]; exact Nat.mod_lt _ (by decide)
       have ao:=A9 (j:=j) (d:=d) (b':=b') (by rw [bN]; exact bV D) hc he (by
        rw [← hl,bF,hB,← hB];clear he hZ
        split <;> omega)
       have gJ:=mo hZ (show j+i < j+i+1 by omega) (show d < B from dE)
       have oA:c % B=c:=Nat.mod_eq_of_lt hc;have dC:b'≤1:=by rw [bF]; split <;> omega
       have vG:qt % B=qt:=Nat.mod_eq_of_lt hT.1;have hE:0 < D*B ^ j:=Nat.mul_pos F.Af (dV j);have oB:Q=X / (D*B ^ j):=by rw [F.fQ,Nat.div_div_eq_div_mul,Nat.mul_comm]
       conv=>whnf
       simp only [e1];refine ⟨⟨by omega,by omega⟩,?_⟩
       simp only [toNat_cast,ax,Nat.zero_add];conv=>whnf
       refine ⟨by show j+i < m; omega,?_⟩
       conv=>whnf
       rw [← hl];simp only [eh,oA];refine ⟨(l,c,b),rfl,⟨eV,hc,hb⟩,?_⟩;simp only [lM,← hd,← bF,e1];conv=>whnf
       refine ⟨⟨by omega,by omega⟩,?_⟩
       simp only [toNat_cast,ax,Nat.zero_add];conv=>whnf
       refine ⟨by show j+i < m; omega,?_⟩
       conv=>whnf
       rw [fy dE];refine aI (fun J=>?_) (fun J=>?_)
       ·have J:b'=0:=by
         have:=of_decide_eq_true J;omega
        clear bF;subst J;rw [Nat.zero_mul,Nat.add_zero] at ao;obtain ⟨iA,e9⟩:=AR hE ao (by rw [← oB]; exact hT.2.1)
        conv=>whnf
        simp only [eh,vG];exact rL (i:=⟨X,m,cx,D,cd,j⟩) e9 iA rfl
       ·have J:b'=1:=by
         have:=of_decide_eq_false J;omega
        clear bF;subst J;rw [Nat.one_mul] at ao;obtain ⟨iA,e9⟩:=AS hE ao gJ (by rw [← oB]; exact hT.2.2)
        obtain ⟨Y,hY⟩:∃ Y,Y=cF Z (j+i) d:=⟨_,rfl⟩;rw [← hY] at e9 gJ ⊢;clear ao he hZ hY hc hb hl eV hd dE oA;conv=>whnf
        refine .inl ⟨fun mm tz hz=>∃ (k:Nat) (c:Nat) (V:Nat),bA (some (.slice (some ⟨0,0,none⟩) m cx)::some (.slice (some ⟨1,0,none⟩) i cd)::some (.int .i64 j)::aB 3 (some (.int .u32 0)::some (.int .i64 i)::aB 1 (some (.int .u64 qt)::aB 5 (some (.int .u32 c)::aB 141 (some (.slice (some ⟨1,0,none⟩) i cd)::some (.int .i64 i)::some (.int .i64 k)::aB 34 []))))) tz∧hz=[some (.flat true m 1 (bo V)),some (dK D)]∧i - k=mm∧((k≤i∧c≤1)∧V < B ^ (j+i+1)∧V+c*B ^ (j+k)=Y+D % B ^ k*B ^ j),.inr ⟨[0,1],[0,1,2,6,7,9,15,157,158,159],?_⟩,?_⟩
        ·conv=>whnf
         intro _;conv=>whnf
         refine ⟨_,0,0,Y,(.aa (.aa (.aa (.sk 3 (.aa (.aa (.sk 1 (.aa (.sk 5 (.aa (.sk 141 (.aa (.aa (.aa (.sk 34 .nil rfl)))) rfl)) rfl)) rfl))) rfl)))),rfl,rfl,?_⟩;exact ⟨⟨Nat.zero_le _,by decide⟩,gJ,by simp [Nat.mod_one]⟩
        rintro mm aS _ ⟨k,c,V,au,rfl,rfl,⟨⟨hk,hc⟩,hV,he⟩⟩
        obtain ⟨az,rfl⟩:∃ az:Nat→Value,aS=.slice (some ⟨0,0,none⟩) m cx::.slice (some ⟨1,0,none⟩) i cd::.int .i64 j::zs az 3 3 (.int .u32 0::.int .i64 i::zs az 8 1 (.int .u64 qt::zs az 10 5 (.int .u32 c::zs az 16 141 (.slice (some ⟨1,0,none⟩) i cd::.int .i64 i::.int .i64 k::zs az 160 34 [])))):=bJ au;clear au;conv=>whnf
        refine aI (fun h3=>?_) (fun h3=>?_)
        ·have h3:k < i:=by simpa using h3
         obtain ⟨x,hx⟩:∃ x,x=al D k:=⟨_,rfl⟩;obtain ⟨l,hl⟩:∃ l,l=al V (j+k):=⟨_,rfl⟩;have iy:x < 4294967296:=by rw [hx]; exact cH D k
         have eV:l < 4294967296:=by rw [hl]; exact cH V (j+k)
         obtain ⟨t,ht⟩:∃ t,t=l+x+c:=⟨_,rfl⟩;have ao:=Ba (t:=t) (i:=k) (j:=j) he (by rw [← hl,← hx]; exact ht)
         have g7:t % B < 4294967296:=Nat.mod_lt _ (by decide)
         have fI:t / B≤1:=by show t / 4294967296≤1; omega
         have vH:=mo hV (show j+k < j+i+1 by omega) (show t % B < B from g7)
         have e6:IntKind.i64.wrap (((j:Nat):Int)+((k:Nat):Int))=((j+k:Nat):Int):=by rw [ar (by omega) (by omega)]; omega
         have e7:IntKind.i64.wrap (((k:Nat):Int)+1)=((k+1:Nat):Int):=by rw [ar (by omega) (by omega)]; omega
         conv=>whnf
         refine ⟨⟨by omega,by omega⟩,?_⟩
         simp only [toNat_cast,ax,Nat.zero_add];conv=>whnf
         refine ⟨by show k < nl D; omega,?_⟩
         conv=>whnf
         simp only [e6];refine ⟨⟨by omega,by omega⟩,?_⟩
         simp only [toNat_cast,ax,Nat.zero_add];conv=>whnf
         refine ⟨by show j+k < m; omega,?_⟩
         conv=>whnf
         rw [← hl,← hx];refine ⟨(l,x,c),rfl,⟨eV,iy,hc⟩,?_⟩;simp only [uo,← ht,e6];conv=>whnf
         refine ⟨⟨by omega,by omega⟩,?_⟩
         simp only [toNat_cast,ax,Nat.zero_add];conv=>whnf
         refine ⟨by show j+k < m; omega,?_⟩
         conv=>whnf
         simp only [e7];rw [show t % 4294967296=t % B from rfl,fy g7]
         refine .inl ⟨_,?_,k+1,t / B,cF V (j+k) (t % B),(.aa (.aa (.aa (.sk 3 (.aa (.aa (.sk 1 (.aa (.sk 5 (.aa (.sk 141 (.aa (.aa (.aa (.sk 34 .nil rfl)))) rfl)) rfl)) rfl))) rfl)))),rfl,rfl,?_⟩
         ·omega
         ·exact ⟨⟨by omega,fI⟩,vH,ao⟩
        ·have h3:k=i:=by
          have h3:¬ k < i:=by simpa using h3
          omega
         subst h3;have lB:D < B ^ k:=by rw [bN]; exact bV D
         have gj:=Bb (V:=V) (R:=X % (D*B ^ j)) (k:=j+k) hV (Nat.lt_of_lt_of_le (Nat.mod_lt _ hE) (by rw [Nat.add_comm,Nat.pow_add]; exact Nat.mul_le_mul_right _ (Nat.le_of_lt lB))) hc (by
          rw [he,Nat.mod_eq_of_lt lB]; exact e9)
         have g8:qt - 1=X / (D*B ^ j):=by rw [iA]; rfl
         have ep:IntKind.u64.wrap ((qt:Int) - 1)=((qt - 1:Nat):Int):=by
          have:1≤qt:=by rw [iA]; exact Nat.le_add_left _ _
          have:=hT.1;rw [bL (by omega) (by omega)]; omega
         have ve:(qt - 1) % B=qt - 1:=Nat.mod_eq_of_lt (by have:=hT.1; show qt - 1 < 4294967296; omega)
         conv=>whnf
         simp only [e1];refine ⟨⟨by omega,by omega⟩,?_⟩
         simp only [toNat_cast,ax,Nat.zero_add];conv=>whnf
         refine ⟨by show j+k < m; omega,?_⟩
         conv=>whnf
         rw [show IntKind.u32.wrap (((al V (j+k):Nat):Int)+(c:Int))=(((al V (j+k)+c) % B:Nat):Int) from eh (al V (j+k)+c)]
         refine ⟨⟨by omega,by omega⟩,?_⟩
         simp only [toNat_cast,ax,Nat.zero_add];conv=>whnf
         refine ⟨by show j+k < m; omega,?_⟩
         conv=>whnf
         simp only [ep,eh,ve];rw [fy (Nat.mod_lt _ (by decide)),gj]
         exact rL (i:=⟨X,m,cx,D,cd,j⟩) rfl g8 rfl
      skip
      skip
     ·rw [show (((((q - 1) / B:Nat):Int) == 0):Bool)=false by show decide ((((q - 1) / 4294967296:Nat):Int)=0)=false; exact decide_eq_false (by omega)]
      conv=>whnf
      refine .inr ⟨[0,1],[0,1,2,6,7,9,10],?_⟩;conv=>whnf
      intro _;conv=>whnf
      refine ⟨_,?_,q - 1,r+d1,(.aa (.aa (.aa (.sk 3 (.aa (.aa (.sk 1 (.aa (.aa (.sk 183 .nil rfl))) rfl))) rfl)))),rfl,rfl,?_⟩
      ·omega
      ·exact ⟨cE,by omega,by omega⟩
   ·rw [show decide ((qd:Int) > (Am:Int))=false from decide_eq_false (by omega)]
    conv=>whnf
    obtain ⟨qt,ox⟩:∃ qt,qt=q:=⟨_,rfl⟩;have hT:qt < 4294967296∧Q≤qt∧qt≤Q+1:=by
     have h3:=pB (.inl (by rw [← rC]; show qd≤r*4294967296+w0; omega))
     exact ⟨by omega,by omega,by omega⟩
    rw [← ox];clear cT rC H0 xV pB mj he hr DF fi ox;conv=>whnf
    refine .inl ⟨fun mm tz hz=>∃ (i:Nat) (c:Nat) (b:Nat) (Z:Nat),bA (some (.slice (some ⟨0,0,none⟩) m cx)::some (.slice (some ⟨1,0,none⟩) n2 cd)::some (.int .i64 j)::aB 3 (some (.int .u32 0)::some (.int .i64 n2)::aB 1 (some (.int .u64 qt)::aB 1 (some (.int .u64 c)::some (.int .u32 b)::aB 88 (some (.slice (some ⟨1,0,none⟩) n2 cd)::some (.int .i64 n2)::some (.int .i64 i)::aB 90 []))))) tz∧hz=[some (.flat true m 1 (bo Z)),some (dK D)]∧n2 - i=mm∧((i≤n2∧c < 4294967296∧b≤1)∧Z < B ^ (j+n2+1)∧Z+qt*(D % B ^ i)*B ^ j=X+(b+c)*B ^ (j+i)),.inr ⟨[0,1],[0,1,2,6,7,9,11,12,101,102,103],?_⟩,?_⟩
    ·conv=>whnf
     intro _;conv=>whnf
     refine ⟨_,0,0,0,X,(.aa (.aa (.aa (.sk 3 (.aa (.aa (.sk 1 (.aa (.sk 1 (.aa (.aa (.sk 88 (.aa (.aa (.aa (.sk 90 .nil rfl)))) rfl))) rfl)) rfl))) rfl)))),rfl,rfl,?_⟩;exact ⟨⟨Nat.zero_le _,by decide,by decide⟩,F.fX,by simp [Nat.mod_one]⟩
    rintro mm aS _ ⟨i,c,b,Z,au,rfl,rfl,⟨⟨hi,hc,hb⟩,hZ,he⟩⟩
    obtain ⟨az,rfl⟩:∃ az:Nat→Value,aS=.slice (some ⟨0,0,none⟩) m cx::.slice (some ⟨1,0,none⟩) n2 cd::.int .i64 j::zs az 3 3 (.int .u32 0::.int .i64 n2::zs az 8 1 (.int .u64 qt::zs az 10 1 (.int .u64 c::.int .u32 b::zs az 13 88 (.slice (some ⟨1,0,none⟩) n2 cd::.int .i64 n2::.int .i64 i::zs az 104 90 [])))):=bJ au;clear au;conv=>whnf
    refine aI (fun h1=>?_) (fun h1=>?_)
    ·have h1:i < n2:=by simpa using h1
     conv=>whnf
     refine ⟨⟨by omega,by omega⟩,?_⟩
     simp only [toNat_cast,ax,Nat.zero_add];conv=>whnf
     refine ⟨by show i < nl D; omega,?_⟩
     conv=>whnf
     obtain ⟨x,hx⟩:∃ x,x=al D i:=⟨_,rfl⟩;obtain ⟨l,hl⟩:∃ l,l=al Z (j+i):=⟨_,rfl⟩;obtain ⟨t,ht⟩:∃ t,t=c+qt*al D i:=⟨_,rfl⟩;have iy:x < B:=by rw [hx]; exact cH D i
     have eV:l < 4294967296:=by rw [hl]; exact cH Z (j+i)
     obtain ⟨hv,fI⟩:=Bq (t:=t) hc hT.1 iy (by rw [hx]; exact ht)
     have oz:t % B < 4294967296:=Nat.mod_lt _ (by decide)
     obtain ⟨d,hd⟩:∃ d,d=(l+2*4294967296 - t % B - b) % 4294967296:=⟨_,rfl⟩;obtain ⟨b',bF⟩:∃ b',b'=if l < t % B+b then 1 else 0:=⟨_,rfl⟩
     have dE:d < 4294967296:=by rw [hd]; exact Nat.mod_lt _ (by decide)
     have ao:=A8 (i:=i) (j:=j) (d:=d) (b':=b') he ht (by
      rw [← hl,bF,hB,← hB];clear he hZ ht hv;obtain ⟨u,hu⟩:∃ u,u=t % B:=⟨_,rfl⟩;rw [← hu] at hd oz ⊢
      split <;> omega)
     have gJ:=mo hZ (show j+i < j+n2+1 by omega) (show d < B from dE)
     have dC:b'≤1:=by rw [bF]; split <;> omega
     have e6:IntKind.i64.wrap (((j:Nat):Int)+((i:Nat):Int))=((j+i:Nat):Int):=by rw [ar (by omega) (by omega)]; omega
     have e7:IntKind.i64.wrap (((i:Nat):Int)+1)=((i+1:Nat):Int):=by rw [ar (by omega) (by omega)]; omega
     rw [← hx];simp only [kH _ iy,hv,e6];refine ⟨⟨by omega,by omega⟩,?_⟩
     simp only [toNat_cast,ax,Nat.zero_add];conv=>whnf
     refine ⟨by show j+i < m; omega,?_⟩
     conv=>whnf
     rw [← hl];simp only [eh];refine ⟨(l,t % B,b),rfl,⟨eV,oz,hb⟩,?_⟩;simp only [lM,← hd,← bF,e6];conv=>whnf
     refine ⟨⟨by omega,by omega⟩,?_⟩
     simp only [toNat_cast,ax,Nat.zero_add];conv=>whnf
     refine ⟨by show j+i < m; omega,?_⟩
     conv=>whnf
     simp only [cf,jU,e7];rw [fy dE];refine .inl ⟨_,?_,i+1,t / B,b',cF Z (j+i) d,(.aa (.aa (.aa (.sk 3 (.aa (.aa (.sk 1 (.aa (.sk 1 (.aa (.aa (.sk 88 (.aa (.aa (.aa (.sk 90 .nil rfl)))) rfl))) rfl)) rfl))) rfl)))),rfl,rfl,?_⟩
     ·omega
     ·exact ⟨⟨by omega,fI,dC⟩,gJ,ao⟩
    ·have h1:i=n2:=by
      have h1:¬ i < n2:=by simpa using h1
      omega
     subst h1;obtain ⟨l,hl⟩:∃ l,l=al Z (j+i):=⟨_,rfl⟩;have eV:l < 4294967296:=by rw [hl]; exact cH Z (j+i)
     obtain ⟨d,hd⟩:∃ d,d=(l+2*4294967296 - c - b) % 4294967296:=⟨_,rfl⟩;obtain ⟨b',bF⟩:∃ b',b'=if l < c+b then 1 else 0:=⟨_,rfl⟩
     have dE:d < 4294967296:=by rw [hd]; exact Nat.mod_lt _ (by decide)
     have ao:=A9 (j:=j) (d:=d) (b':=b') (by rw [bN]; exact bV D) hc he (by
      rw [← hl,bF,hB,← hB];clear he hZ
      split <;> omega)
     have gJ:=mo hZ (show j+i < j+i+1 by omega) (show d < B from dE)
     have oA:c % B=c:=Nat.mod_eq_of_lt hc;have dC:b'≤1:=by rw [bF]; split <;> omega
     have vG:qt % B=qt:=Nat.mod_eq_of_lt hT.1;have hE:0 < D*B ^ j:=Nat.mul_pos F.Af (dV j);have oB:Q=X / (D*B ^ j):=by rw [F.fQ,Nat.div_div_eq_div_mul,Nat.mul_comm]
     conv=>whnf
     simp only [e1];refine ⟨⟨by omega,by omega⟩,?_⟩
     simp only [toNat_cast,ax,Nat.zero_add];conv=>whnf
     refine ⟨by show j+i < m; omega,?_⟩
     conv=>whnf
     rw [← hl];simp only [eh,oA];refine ⟨(l,c,b),rfl,⟨eV,hc,hb⟩,?_⟩;simp only [lM,← hd,← bF,e1];conv=>whnf
     refine ⟨⟨by omega,by omega⟩,?_⟩
     simp only [toNat_cast,ax,Nat.zero_add];conv=>whnf
     refine ⟨by show j+i < m; omega,?_⟩
     conv=>whnf
     rw [fy dE];refine aI (fun J=>?_) (fun J=>?_)
     ·have J:b'=0:=by
       have:=of_decide_eq_true J;omega
      clear bF;subst J;rw [Nat.zero_mul,Nat.add_zero] at ao;obtain ⟨iA,e9⟩:=AR hE ao (by rw [← oB]; exact hT.2.1)
      conv=>whnf
      simp only [eh,vG];exact rL (i:=⟨X,m,cx,D,cd,j⟩) e9 iA rfl
     ·have J:b'=1:=by
       have:=of_decide_eq_false J;omega
      clear bF;subst J;rw [Nat.one_mul] at ao;obtain ⟨iA,e9⟩:=AS hE ao gJ (by rw [← oB]; exact hT.2.2)
      obtain ⟨Y,hY⟩:∃ Y,Y=cF Z (j+i) d:=⟨_,rfl⟩;rw [← hY] at e9 gJ ⊢;clear ao he hZ hY hc hb hl eV hd dE oA;conv=>whnf
      refine .inl ⟨fun mm tz hz=>∃ (k:Nat) (c:Nat) (V:Nat),bA (some (.slice (some ⟨0,0,none⟩) m cx)::some (.slice (some ⟨1,0,none⟩) i cd)::some (.int .i64 j)::aB 3 (some (.int .u32 0)::some (.int .i64 i)::aB 1 (some (.int .u64 qt)::aB 5 (some (.int .u32 c)::aB 141 (some (.slice (some ⟨1,0,none⟩) i cd)::some (.int .i64 i)::some (.int .i64 k)::aB 34 []))))) tz∧hz=[some (.flat true m 1 (bo V)),some (dK D)]∧i - k=mm∧((k≤i∧c≤1)∧V < B ^ (j+i+1)∧V+c*B ^ (j+k)=Y+D % B ^ k*B ^ j),.inr ⟨[0,1],[0,1,2,6,7,9,15,157,158,159],?_⟩,?_⟩
      ·conv=>whnf
       intro _;conv=>whnf
       refine ⟨_,0,0,Y,(.aa (.aa (.aa (.sk 3 (.aa (.aa (.sk 1 (.aa (.sk 5 (.aa (.sk 141 (.aa (.aa (.aa (.sk 34 .nil rfl)))) rfl)) rfl)) rfl))) rfl)))),rfl,rfl,?_⟩;exact ⟨⟨Nat.zero_le _,by decide⟩,gJ,by simp [Nat.mod_one]⟩
      rintro mm aS _ ⟨k,c,V,au,rfl,rfl,⟨⟨hk,hc⟩,hV,he⟩⟩
      obtain ⟨az,rfl⟩:∃ az:Nat→Value,aS=.slice (some ⟨0,0,none⟩) m cx::.slice (some ⟨1,0,none⟩) i cd::.int .i64 j::zs az 3 3 (.int .u32 0::.int .i64 i::zs az 8 1 (.int .u64 qt::zs az 10 5 (.int .u32 c::zs az 16 141 (.slice (some ⟨1,0,none⟩) i cd::.int .i64 i::.int .i64 k::zs az 160 34 [])))):=bJ au;clear au;conv=>whnf
      refine aI (fun h3=>?_) (fun h3=>?_)
      ·have h3:k < i:=by simpa using h3
       obtain ⟨x,hx⟩:∃ x,x=al D k:=⟨_,rfl⟩;obtain ⟨l,hl⟩:∃ l,l=al V (j+k):=⟨_,rfl⟩;have iy:x < 4294967296:=by rw [hx]; exact cH D k
       have eV:l < 4294967296:=by rw [hl]; exact cH V (j+k)
       obtain ⟨t,ht⟩:∃ t,t=l+x+c:=⟨_,rfl⟩;have ao:=Ba (t:=t) (i:=k) (j:=j) he (by rw [← hl,← hx]; exact ht)
       have g7:t % B < 4294967296:=Nat.mod_lt _ (by decide)
       have fI:t / B≤1:=by show t / 4294967296≤1; omega
       have vH:=mo hV (show j+k < j+i+1 by omega) (show t % B < B from g7)
       have e6:IntKind.i64.wrap (((j:Nat):Int)+((k:Nat):Int))=((j+k:Nat):Int):=by rw [ar (by omega) (by omega)]; omega
       have e7:IntKind.i64.wrap (((k:Nat):Int)+1)=((k+1:Nat):Int):=by rw [ar (by omega) (by omega)]; omega
       conv=>whnf
       refine ⟨⟨by omega,by omega⟩,?_⟩
       simp only [toNat_cast,ax,Nat.zero_add];conv=>whnf
       refine ⟨by show k < nl D; omega,?_⟩
       conv=>whnf
       simp only [e6];refine ⟨⟨by omega,by omega⟩,?_⟩
       simp only [toNat_cast,ax,Nat.zero_add];conv=>whnf
       refine ⟨by show j+k < m; omega,?_⟩
       conv=>whnf
       rw [← hl,← hx];refine ⟨(l,x,c),rfl,⟨eV,iy,hc⟩,?_⟩;simp only [uo,← ht,e6];conv=>whnf
       refine ⟨⟨by omega,by omega⟩,?_⟩
       simp only [toNat_cast,ax,Nat.zero_add];conv=>whnf
       refine ⟨by show j+k < m; omega,?_⟩
       conv=>whnf
       simp only [e7];rw [show t % 4294967296=t % B from rfl,fy g7]
       refine .inl ⟨_,?_,k+1,t / B,cF V (j+k) (t % B),(.aa (.aa (.aa (.sk 3 (.aa (.aa (.sk 1 (.aa (.sk 5 (.aa (.sk 141 (.aa (.aa (.aa (.sk 34 .nil rfl)))) rfl)) rfl)) rfl))) rfl)))),rfl,rfl,?_⟩
       ·omega
       ·exact ⟨⟨by omega,fI⟩,vH,ao⟩
      ·have h3:k=i:=by
        have h3:¬ k < i:=by simpa using h3
        omega
       subst h3;have lB:D < B ^ k:=by rw [bN]; exact bV D
       have gj:=Bb (V:=V) (R:=X % (D*B ^ j)) (k:=j+k) hV (Nat.lt_of_lt_of_le (Nat.mod_lt _ hE) (by rw [Nat.add_comm,Nat.pow_add]; exact Nat.mul_le_mul_right _ (Nat.le_of_lt lB))) hc (by
        rw [he,Nat.mod_eq_of_lt lB]; exact e9)
       have g8:qt - 1=X / (D*B ^ j):=by rw [iA]; rfl
       have ep:IntKind.u64.wrap ((qt:Int) - 1)=((qt - 1:Nat):Int):=by
        have:1≤qt:=by rw [iA]; exact Nat.le_add_left _ _
        have:=hT.1;rw [bL (by omega) (by omega)]; omega
       have ve:(qt - 1) % B=qt - 1:=Nat.mod_eq_of_lt (by have:=hT.1; show qt - 1 < 4294967296; omega)
       conv=>whnf
       simp only [e1];refine ⟨⟨by omega,by omega⟩,?_⟩
       simp only [toNat_cast,ax,Nat.zero_add];conv=>whnf
       refine ⟨by show j+k < m; omega,?_⟩
       conv=>whnf
       rw [show IntKind.u32.wrap (((al V (j+k):Nat):Int)+(c:Int))=(((al V (j+k)+c) % B:Nat):Int) from eh (al V (j+k)+c)]
       refine ⟨⟨by omega,by omega⟩,?_⟩
       simp only [toNat_cast,ax,Nat.zero_add];conv=>whnf
       refine ⟨by show j+k < m; omega,?_⟩
       conv=>whnf
       simp only [ep,eh,ve];rw [fy (Nat.mod_lt _ (by decide)),gj]
       exact rL (i:=⟨X,m,cx,D,cd,j⟩) rfl g8 rfl
    skip
    skip
  ·rw [show (((((r / B:Nat):Int) == 0):Bool))=false by show decide (((r / 4294967296:Nat):Int)=0)=false; exact decide_eq_false (by omega)]
   conv=>whnf
   obtain ⟨qt,ox⟩:∃ qt,qt=q:=⟨_,rfl⟩;have hT:qt < 4294967296∧Q≤qt∧qt≤Q+1:=⟨by omega,by omega,by have:=pB (.inr mj); omega⟩
   rw [← ox];clear xV pB mj he hr DF fi ox;conv=>whnf
   refine .inl ⟨fun mm tz hz=>∃ (i:Nat) (c:Nat) (b:Nat) (Z:Nat),bA (some (.slice (some ⟨0,0,none⟩) m cx)::some (.slice (some ⟨1,0,none⟩) n2 cd)::some (.int .i64 j)::aB 3 (some (.int .u32 0)::some (.int .i64 n2)::aB 1 (some (.int .u64 qt)::aB 1 (some (.int .u64 c)::some (.int .u32 b)::aB 88 (some (.slice (some ⟨1,0,none⟩) n2 cd)::some (.int .i64 n2)::some (.int .i64 i)::aB 90 []))))) tz∧hz=[some (.flat true m 1 (bo Z)),some (dK D)]∧n2 - i=mm∧((i≤n2∧c < 4294967296∧b≤1)∧Z < B ^ (j+n2+1)∧Z+qt*(D % B ^ i)*B ^ j=X+(b+c)*B ^ (j+i)),.inr ⟨[0,1],[0,1,2,6,7,9,11,12,101,102,103],?_⟩,?_⟩
   ·conv=>whnf
    intro _;conv=>whnf
    refine ⟨_,0,0,0,X,(.aa (.aa (.aa (.sk 3 (.aa (.aa (.sk 1 (.aa (.sk 1 (.aa (.aa (.sk 88 (.aa (.aa (.aa (.sk 90 .nil rfl)))) rfl))) rfl)) rfl))) rfl)))),rfl,rfl,?_⟩;exact ⟨⟨Nat.zero_le _,by decide,by decide⟩,F.fX,by simp [Nat.mod_one]⟩
   rintro mm aS _ ⟨i,c,b,Z,au,rfl,rfl,⟨⟨hi,hc,hb⟩,hZ,he⟩⟩
   obtain ⟨az,rfl⟩:∃ az:Nat→Value,aS=.slice (some ⟨0,0,none⟩) m cx::.slice (some ⟨1,0,none⟩) n2 cd::.int .i64 j::zs az 3 3 (.int .u32 0::.int .i64 n2::zs az 8 1 (.int .u64 qt::zs az 10 1 (.int .u64 c::.int .u32 b::zs az 13 88 (.slice (some ⟨1,0,none⟩) n2 cd::.int .i64 n2::.int .i64 i::zs az 104 90 [])))):=bJ au;clear au;conv=>whnf
   refine aI (fun h1=>?_) (fun h1=>?_)
   ·have h1:i < n2:=by simpa using h1
    conv=>whnf
    refine ⟨⟨by omega,by omega⟩,?_⟩
    simp only [toNat_cast,ax,Nat.zero_add];conv=>whnf
    refine ⟨by show i < nl D; omega,?_⟩
    conv=>whnf
    obtain ⟨x,hx⟩:∃ x,x=al D i:=⟨_,rfl⟩;obtain ⟨l,hl⟩:∃ l,l=al Z (j+i):=⟨_,rfl⟩;obtain ⟨t,ht⟩:∃ t,t=c+qt*al D i:=⟨_,rfl⟩;have iy:x < B:=by rw [hx]; exact cH D i
    have eV:l < 4294967296:=by rw [hl]; exact cH Z (j+i)
    obtain ⟨hv,fI⟩:=Bq (t:=t) hc hT.1 iy (by rw [hx]; exact ht)
    have oz:t % B < 4294967296:=Nat.mod_lt _ (by decide)
    obtain ⟨d,hd⟩:∃ d,d=(l+2*4294967296 - t % B - b) % 4294967296:=⟨_,rfl⟩;obtain ⟨b',bF⟩:∃ b',b'=if l < t % B+b then 1 else 0:=⟨_,rfl⟩
    have dE:d < 4294967296:=by rw [hd]; exact Nat.mod_lt _ (by decide)
    have ao:=A8 (i:=i) (j:=j) (d:=d) (b':=b') he ht (by
     rw [← hl,bF,hB,← hB];clear he hZ ht hv;obtain ⟨u,hu⟩:∃ u,u=t % B:=⟨_,rfl⟩;rw [← hu] at hd oz ⊢
     split <;> omega)
    have gJ:=mo hZ (show j+i < j+n2+1 by omega) (show d < B from dE)
    have dC:b'≤1:=by rw [bF]; split <;> omega
    have e6:IntKind.i64.wrap (((j:Nat):Int)+((i:Nat):Int))=((j+i:Nat):Int):=by rw [ar (by omega) (by omega)]; omega
    have e7:IntKind.i64.wrap (((i:Nat):Int)+1)=((i+1:Nat):Int):=by rw [ar (by omega) (by omega)]; omega
    rw [← hx];simp only [kH _ iy,hv,e6];refine ⟨⟨by omega,by omega⟩,?_⟩
    simp only [toNat_cast,ax,Nat.zero_add];conv=>whnf
    refine ⟨by show j+i < m; omega,?_⟩
    conv=>whnf
    rw [← hl];simp only [eh];refine ⟨(l,t % B,b),rfl,⟨eV,oz,hb⟩,?_⟩;simp only [lM,← hd,← bF,e6];conv=>whnf
    refine ⟨⟨by omega,by omega⟩,?_⟩
    simp only [toNat_cast,ax,Nat.zero_add];conv=>whnf
    refine ⟨by show j+i < m; omega,?_⟩
    conv=>whnf
    simp only [cf,jU,e7];rw [fy dE];refine .inl ⟨_,?_,i+1,t / B,b',cF Z (j+i) d,(.aa (.aa (.aa (.sk 3 (.aa (.aa (.sk 1 (.aa (.sk 1 (.aa (.aa (.sk 88 (.aa (.aa (.aa (.sk 90 .nil rfl)))) rfl))) rfl)) rfl))) rfl)))),rfl,rfl,?_⟩
    ·omega
    ·exact ⟨⟨by omega,fI,dC⟩,gJ,ao⟩
   ·have h1:i=n2:=by
     have h1:¬ i < n2:=by simpa using h1
     omega
    subst h1;obtain ⟨l,hl⟩:∃ l,l=al Z (j+i):=⟨_,rfl⟩;have eV:l < 4294967296:=by rw [hl]; exact cH Z (j+i)
    obtain ⟨d,hd⟩:∃ d,d=(l+2*4294967296 - c - b) % 4294967296:=⟨_,rfl⟩;obtain ⟨b',bF⟩:∃ b',b'=if l < c+b then 1 else 0:=⟨_,rfl⟩
    have dE:d < 4294967296:=by rw [hd]; exact Nat.mod_lt _ (by decide)
    have ao:=A9 (j:=j) (d:=d) (b':=b') (by rw [bN]; exact bV D) hc he (by
     rw [← hl,bF,hB,← hB];clear he hZ
     split <;> omega)
    have gJ:=mo hZ (show j+i < j+i+1 by omega) (show d < B from dE)
    have oA:c % B=c:=Nat.mod_eq_of_lt hc;have dC:b'≤1:=by rw [bF]; split <;> omega
    have vG:qt % B=qt:=Nat.mod_eq_of_lt hT.1;have hE:0 < D*B ^ j:=Nat.mul_pos F.Af (dV j);have oB:Q=X / (D*B ^ j):=by rw [F.fQ,Nat.div_div_eq_div_mul,Nat.mul_comm]
    conv=>whnf
    simp only [e1];refine ⟨⟨by omega,by omega⟩,?_⟩
    simp only [toNat_cast,ax,Nat.zero_add];conv=>whnf
    refine ⟨by show j+i < m; omega,?_⟩
    conv=>whnf
    rw [← hl];simp only [eh,oA];refine ⟨(l,c,b),rfl,⟨eV,hc,hb⟩,?_⟩;simp only [lM,← hd,← bF,e1];conv=>whnf
    refine ⟨⟨by omega,by omega⟩,?_⟩
    simp only [toNat_cast,ax,Nat.zero_add];conv=>whnf
    refine ⟨by show j+i < m; omega,?_⟩
    conv=>whnf
    rw [fy dE];refine aI (fun J=>?_) (fun J=>?_)
    ·have J:b'=0:=by
      have:=of_decide_eq_true J;omega
     clear bF;subst J;rw [Nat.zero_mul,Nat.add_zero] at ao;obtain ⟨iA,e9⟩:=AR hE ao (by rw [← oB]; exact hT.2.1)
     conv=>whnf
     simp only [eh,vG];exact rL (i:=⟨X,m,cx,D,cd,j⟩) e9 iA rfl
    ·have J:b'=1:=by
      have:=of_decide_eq_false J;omega
     clear bF;subst J;rw [Nat.one_mul] at ao;obtain ⟨iA,e9⟩:=AS hE ao gJ (by rw [← oB]; exact hT.2.2)
     obtain ⟨Y,hY⟩:∃ Y,Y=cF Z (j+i) d:=⟨_,rfl⟩;rw [← hY] at e9 gJ ⊢;clear ao he hZ hY hc hb hl eV hd dE oA;conv=>whnf
     refine .inl ⟨fun mm tz hz=>∃ (k:Nat) (c:Nat) (V:Nat),bA (some (.slice (some ⟨0,0,none⟩) m cx)::some (.slice (some ⟨1,0,none⟩) i cd)::some (.int .i64 j)::aB 3 (some (.int .u32 0)::some (.int .i64 i)::aB 1 (some (.int .u64 qt)::aB 5 (some (.int .u32 c)::aB 141 (some (.slice (some ⟨1,0,none⟩) i cd)::some (.int .i64 i)::some (.int .i64 k)::aB 34 []))))) tz∧hz=[some (.flat true m 1 (bo V)),some (dK D)]∧i - k=mm∧((k≤i∧c≤1)∧V < B ^ (j+i+1)∧V+c*B ^ (j+k)=Y+D % B ^ k*B ^ j),.inr ⟨[0,1],[0,1,2,6,7,9,15,157,158,159],?_⟩,?_⟩
     ·conv=>whnf
      intro _;conv=>whnf
      refine ⟨_,0,0,Y,(.aa (.aa (.aa (.sk 3 (.aa (.aa (.sk 1 (.aa (.sk 5 (.aa (.sk 141 (.aa (.aa (.aa (.sk 34 .nil rfl)))) rfl)) rfl)) rfl))) rfl)))),rfl,rfl,?_⟩;exact ⟨⟨Nat.zero_le _,by decide⟩,gJ,by simp [Nat.mod_one]⟩
     rintro mm aS _ ⟨k,c,V,au,rfl,rfl,⟨⟨hk,hc⟩,hV,he⟩⟩
     obtain ⟨az,rfl⟩:∃ az:Nat→Value,aS=.slice (some ⟨0,0,none⟩) m cx::.slice (some ⟨1,0,none⟩) i cd::.int .i64 j::zs az 3 3 (.int .u32 0::.int .i64 i::zs az 8 1 (.int .u64 qt::zs az 10 5 (.int .u32 c::zs az 16 141 (.slice (some ⟨1,0,none⟩) i cd::.int .i64 i::.int .i64 k::zs az 160 34 [])))):=bJ au;clear au;conv=>whnf
     refine aI (fun h3=>?_) (fun h3=>?_)
     ·have h3:k < i:=by simpa using h3
      obtain ⟨x,hx⟩:∃ x,x=al D k:=⟨_,rfl⟩;obtain ⟨l,hl⟩:∃ l,l=al V (j+k):=⟨_,rfl⟩;have iy:x < 4294967296:=by rw [hx]; exact cH D k
      have eV:l < 4294967296:=by rw [hl]; exact cH V (j+k)
      obtain ⟨t,ht⟩:∃ t,t=l+x+c:=⟨_,rfl⟩;have ao:=Ba (t:=t) (i:=k) (j:=j) he (by rw [← hl,← hx]; exact ht)
      have g7:t % B < 4294967296:=Nat.mod_lt _ (by decide)
      have fI:t / B≤1:=by show t / 4294967296≤1; omega
      have vH:=mo hV (show j+k < j+i+1 by omega) (show t % B < B from g7)
      have e6:IntKind.i64.wrap (((j:Nat):Int)+((k:Nat):Int))=((j+k:Nat):Int):=by rw [ar (by omega) (by omega)]; omega
      have e7:IntKind.i64.wrap (((k:Nat):Int)+1)=((k+1:Nat):Int):=by rw [ar (by omega) (by omega)]; omega
      conv=>whnf
      refine ⟨⟨by omega,by omega⟩,?_⟩
      simp only [toNat_cast,ax,Nat.zero_add];conv=>whnf
      refine ⟨by show k < nl D; omega,?_⟩
      conv=>whnf
      simp only [e6];refine ⟨⟨by omega,by omega⟩,?_⟩
      simp only [toNat_cast,ax,Nat.zero_add];conv=>whnf
      refine ⟨by show j+k < m; omega,?_⟩
      conv=>whnf
      rw [← hl,← hx];refine ⟨(l,x,c),rfl,⟨eV,iy,hc⟩,?_⟩;simp only [uo,← ht,e6];conv=>whnf
      refine ⟨⟨by omega,by omega⟩,?_⟩
      simp only [toNat_cast,ax,Nat.zero_add];conv=>whnf
      refine ⟨by show j+k < m; omega,?_⟩
      conv=>whnf
      simp only [e7];rw [show t % 4294967296=t % B from rfl,fy g7]
      refine .inl ⟨_,?_,k+1,t / B,cF V (j+k) (t % B),(.aa (.aa (.aa (.sk 3 (.aa (.aa (.sk 1 (.aa (.sk 5 (.aa (.sk 141 (.aa (.aa (.aa (.sk 34 .nil rfl)))) rfl)) rfl)) rfl))) rfl)))),rfl,rfl,?_⟩
      ·omega
      ·exact ⟨⟨by omega,fI⟩,vH,ao⟩
     ·have h3:k=i:=by
       have h3:¬ k < i:=by simpa using h3
       omega
      subst h3;have lB:D < B ^ k:=by rw [bN]; exact bV D
      have gj:=Bb (V:=V) (R:=X % (D*B ^ j)) (k:=j+k) hV (Nat.lt_of_lt_of_le (Nat.mod_lt _ hE) (by rw [Nat.add_comm,Nat.pow_add]; exact Nat.mul_le_mul_right _ (Nat.le_of_lt lB))) hc (by
       rw [he,Nat.mod_eq_of_lt lB]; exact e9)
      have g8:qt - 1=X / (D*B ^ j):=by rw [iA]; rfl
      have ep:IntKind.u64.wrap ((qt:Int) - 1)=((qt - 1:Nat):Int):=by
       have:1≤qt:=by rw [iA]; exact Nat.le_add_left _ _
       have:=hT.1;rw [bL (by omega) (by omega)]; omega
      have ve:(qt - 1) % B=qt - 1:=Nat.mod_eq_of_lt (by have:=hT.1; show qt - 1 < 4294967296; omega)
      conv=>whnf
      simp only [e1];refine ⟨⟨by omega,by omega⟩,?_⟩
      simp only [toNat_cast,ax,Nat.zero_add];conv=>whnf
      refine ⟨by show j+k < m; omega,?_⟩
      conv=>whnf
      rw [show IntKind.u32.wrap (((al V (j+k):Nat):Int)+(c:Int))=(((al V (j+k)+c) % B:Nat):Int) from eh (al V (j+k)+c)]
      refine ⟨⟨by omega,by omega⟩,?_⟩
      simp only [toNat_cast,ax,Nat.zero_add];conv=>whnf
      refine ⟨by show j+k < m; omega,?_⟩
      conv=>whnf
      simp only [ep,eh,ve];rw [fy (Nat.mod_lt _ (by decide)),gj]
      exact rL (i:=⟨X,m,cx,D,cd,j⟩) rfl g8 rfl
   skip
   skip
 ·have ak:Q < q:=by have:=F.fB; omega
  rw [show decide (((q / B:Nat):Int) > 0)=true from decide_eq_true (by show (((q / 4294967296:Nat):Int) > 0); omega)]
  conv=>whnf
  have ep:IntKind.u64.wrap ((q:Int) - 1)=((q - 1:Nat):Int):=by rw [bL (by omega) (by omega)]; omega
  have cE:(q - 1)*d1+(r+d1)=top:=by
   have h1:(q - 1)*d1+d1=q*d1:=by
    conv=>rhs; rw [show q=(q - 1)+1 by omega,Nat.add_mul,Nat.one_mul]
   omega
  have e9:r+d1 < 18446744073709551616:=Nat.lt_of_le_of_lt (Nat.le_trans (Nat.le_add_left _ _) (Nat.le_of_eq cE)) Hm;have er:IntKind.u64.wrap ((r:Int)+(d1:Int))=((r+d1:Nat):Int):=by rw [bL (by omega) (by omega)]; omega
  simp only [ep,e4];refine ⟨⟨by omega,by omega⟩,?_⟩
  simp only [toNat_cast,ax,Nat.zero_add];conv=>whnf
  refine ⟨by show n1 < nl D; omega,?_⟩
  conv=>whnf
  simp only [kH _ zB];rw [← gd,er];simp only [cf,jU];rcases Nat.lt_or_ge (r+d1) 4294967296 with mj | mj
  ·rw [show decide ((((r+d1) / B:Nat):Int) > 0)=false from decide_eq_false (by show ¬ ((((r+d1) / 4294967296:Nat):Int) > 0); omega)]
   conv=>whnf
   refine .inr ⟨[0,1],[0,1,2,6,7,9,10],?_⟩;conv=>whnf
   intro _;conv=>whnf
   refine ⟨_,?_,q - 1,r+d1,(.aa (.aa (.aa (.sk 3 (.aa (.aa (.sk 1 (.aa (.aa (.sk 183 .nil rfl))) rfl))) rfl)))),rfl,rfl,?_⟩
   ·omega
   ·exact ⟨cE,by omega,by omega⟩
  ·rw [show decide ((((r+d1) / B:Nat):Int) > 0)=true from decide_eq_true (by show ((((r+d1) / 4294967296:Nat):Int) > 0); omega)]
   conv=>whnf
   simp only [cf,jU];rcases Nat.lt_or_ge (q - 1) 4294967296 with vd | vd
   ·rw [show (((((q - 1) / B:Nat):Int) == 0):Bool)=true by show decide ((((q - 1) / 4294967296:Nat):Int)=0)=true; exact decide_eq_true (by omega)]
    conv=>whnf
    obtain ⟨qt,ox⟩:∃ qt,qt=q - 1:=⟨_,rfl⟩;have hT:qt < 4294967296∧Q≤qt∧qt≤Q+1:=by
     have h3:q - 1≤X / B ^ j / D+1:=F9 (dV n) F.fW F.fD cE vd F.fP C7 (.inl mj);rw [← F.fQ] at h3;omega
    rw [← ox];clear xV vd ak ep cE e9 er mj he hr DF fi ox;conv=>whnf
    refine .inl ⟨fun mm tz hz=>∃ (i:Nat) (c:Nat) (b:Nat) (Z:Nat),bA (some (.slice (some ⟨0,0,none⟩) m cx)::some (.slice (some ⟨1,0,none⟩) n2 cd)::some (.int .i64 j)::aB 3 (some (.int .u32 0)::some (.int .i64 n2)::aB 1 (some (.int .u64 qt)::aB 1 (some (.int .u64 c)::some (.int .u32 b)::aB 88 (some (.slice (some ⟨1,0,none⟩) n2 cd)::some (.int .i64 n2)::some (.int .i64 i)::aB 90 []))))) tz∧hz=[some (.flat true m 1 (bo Z)),some (dK D)]∧n2 - i=mm∧((i≤n2∧c < 4294967296∧b≤1)∧Z < B ^ (j+n2+1)∧Z+qt*(D % B ^ i)*B ^ j=X+(b+c)*B ^ (j+i)),.inr ⟨[0,1],[0,1,2,6,7,9,11,12,101,102,103],?_⟩,?_⟩
    ·conv=>whnf
     intro _;conv=>whnf
     refine ⟨_,0,0,0,X,(.aa (.aa (.aa (.sk 3 (.aa (.aa (.sk 1 (.aa (.sk 1 (.aa (.aa (.sk 88 (.aa (.aa (.aa (.sk 90 .nil rfl)))) rfl))) rfl)) rfl))) rfl)))),rfl,rfl,?_⟩;exact ⟨⟨Nat.zero_le _,by decide,by decide⟩,F.fX,by simp [Nat.mod_one]⟩
    rintro mm aS _ ⟨i,c,b,Z,au,rfl,rfl,⟨⟨hi,hc,hb⟩,hZ,he⟩⟩
    obtain ⟨az,rfl⟩:∃ az:Nat→Value,aS=.slice (some ⟨0,0,none⟩) m cx::.slice (some ⟨1,0,none⟩) n2 cd::.int .i64 j::zs az 3 3 (.int .u32 0::.int .i64 n2::zs az 8 1 (.int .u64 qt::zs az 10 1 (.int .u64 c::.int .u32 b::zs az 13 88 (.slice (some ⟨1,0,none⟩) n2 cd::.int .i64 n2::.int .i64 i::zs az 104 90 [])))):=bJ au;clear au;conv=>whnf
    refine aI (fun h1=>?_) (fun h1=>?_)
    ·have h1:i < n2:=by simpa using h1
     conv=>whnf
     refine ⟨⟨by omega,by omega⟩,?_⟩
     simp only [toNat_cast,ax,Nat.zero_add];conv=>whnf
     refine ⟨by show i < nl D; omega,?_⟩
     conv=>whnf
     obtain ⟨x,hx⟩:∃ x,x=al D i:=⟨_,rfl⟩;obtain ⟨l,hl⟩:∃ l,l=al Z (j+i):=⟨_,rfl⟩;obtain ⟨t,ht⟩:∃ t,t=c+qt*al D i:=⟨_,rfl⟩;have iy:x < B:=by rw [hx]; exact cH D i
     have eV:l < 4294967296:=by rw [hl]; exact cH Z (j+i)
     obtain ⟨hv,fI⟩:=Bq (t:=t) hc hT.1 iy (by rw [hx]; exact ht)
     have oz:t % B < 4294967296:=Nat.mod_lt _ (by decide)
     obtain ⟨d,hd⟩:∃ d,d=(l+2*4294967296 - t % B - b) % 4294967296:=⟨_,rfl⟩;obtain ⟨b',bF⟩:∃ b',b'=if l < t % B+b then 1 else 0:=⟨_,rfl⟩
     have dE:d < 4294967296:=by rw [hd]; exact Nat.mod_lt _ (by decide)
     have ao:=A8 (i:=i) (j:=j) (d:=d) (b':=b') he ht (by
      rw [← hl,bF,hB,← hB];clear he hZ ht hv;obtain ⟨u,hu⟩:∃ u,u=t % B:=⟨_,rfl⟩;rw [← hu] at hd oz ⊢
      split <;> omega)
     have gJ:=mo hZ (show j+i < j+n2+1 by omega) (show d < B from dE)
     have dC:b'≤1:=by rw [bF]; split <;> omega
     have e6:IntKind.i64.wrap (((j:Nat):Int)+((i:Nat):Int))=((j+i:Nat):Int):=by rw [ar (by omega) (by omega)]; omega
     have e7:IntKind.i64.wrap (((i:Nat):Int)+1)=((i+1:Nat):Int):=by rw [ar (by omega) (by omega)]; omega
     rw [← hx];simp only [kH _ iy,hv,e6];refine ⟨⟨by omega,by omega⟩,?_⟩
     simp only [toNat_cast,ax,Nat.zero_add];conv=>whnf
     refine ⟨by show j+i < m; omega,?_⟩
     conv=>whnf
     rw [← hl];simp only [eh];refine ⟨(l,t % B,b),rfl,⟨eV,oz,hb⟩,?_⟩;simp only [lM,← hd,← bF,e6];conv=>whnf
     refine ⟨⟨by omega,by omega⟩,?_⟩
     simp only [toNat_cast,ax,Nat.zero_add];conv=>whnf
     refine ⟨by show j+i < m; omega,?_⟩
     conv=>whnf
     simp only [cf,jU,e7];rw [fy dE];refine .inl ⟨_,?_,i+1,t / B,b',cF Z (j+i) d,(.aa (.aa (.aa (.sk 3 (.aa (.aa (.sk 1 (.aa (.sk 1 (.aa (.aa (.sk 88 (.aa (.aa (.aa (.sk 90 .nil rfl)))) rfl))) rfl)) rfl))) rfl)))),rfl,rfl,?_⟩
     ·omega
     ·exact ⟨⟨by omega,fI,dC⟩,gJ,ao⟩
    ·have h1:i=n2:=by
      have h1:¬ i < n2:=by simpa using h1
      omega
     subst h1;obtain ⟨l,hl⟩:∃ l,l=al Z (j+i):=⟨_,rfl⟩;have eV:l < 4294967296:=by rw [hl]; exact cH Z (j+i)
     obtain ⟨d,hd⟩:∃ d,d=(l+2*4294967296 - c - b) % 4294967296:=⟨_,rfl⟩;obtain ⟨b',bF⟩:∃ b',b'=if l < c+b then 1 else 0:=⟨_,rfl⟩
     have dE:d < 4294967296:=by rw [hd]; exact Nat.mod_lt _ (by decide)
     have ao:=A9 (j:=j) (d:=d) (b':=b') (by rw [bN]; exact bV D) hc he (by
      rw [← hl,bF,hB,← hB];clear he hZ
      split <;> omega)
     have gJ:=mo hZ (show j+i < j+i+1 by omega) (show d < B from dE)
     have oA:c % B=c:=Nat.mod_eq_of_lt hc;have dC:b'≤1:=by rw [bF]; split <;> omega
     have vG:qt % B=qt:=Nat.mod_eq_of_lt hT.1;have hE:0 < D*B ^ j:=Nat.mul_pos F.Af (dV j);have oB:Q=X / (D*B ^ j):=by rw [F.fQ,Nat.div_div_eq_div_mul,Nat.mul_comm]
     conv=>whnf
     simp only [e1];refine ⟨⟨by omega,by omega⟩,?_⟩
     simp only [toNat_cast,ax,Nat.zero_add];conv=>whnf
     refine ⟨by show j+i < m; omega,?_⟩
     conv=>whnf
     rw [← hl];simp only [eh,oA];refine ⟨(l,c,b),rfl,⟨eV,hc,hb⟩,?_⟩;simp only [lM,← hd,← bF,e1];conv=>whnf
     refine ⟨⟨by omega,by omega⟩,?_⟩
     simp only [toNat_cast,ax,Nat.zero_add];conv=>whnf
     refine ⟨by show j+i < m; omega,?_⟩
     conv=>whnf
     rw [fy dE];refine aI (fun J=>?_) (fun J=>?_)
     ·have J:b'=0:=by
       have:=of_decide_eq_true J;omega
      clear bF;subst J;rw [Nat.zero_mul,Nat.add_zero] at ao;obtain ⟨iA,e9⟩:=AR hE ao (by rw [← oB]; exact hT.2.1)
      conv=>whnf
      simp only [eh,vG];exact rL (i:=⟨X,m,cx,D,cd,j⟩) e9 iA rfl
     ·have J:b'=1:=by
       have:=of_decide_eq_false J;omega
      clear bF;subst J;rw [Nat.one_mul] at ao;obtain ⟨iA,e9⟩:=AS hE ao gJ (by rw [← oB]; exact hT.2.2)
      obtain ⟨Y,hY⟩:∃ Y,Y=cF Z (j+i) d:=⟨_,rfl⟩;rw [← hY] at e9 gJ ⊢;clear ao he hZ hY hc hb hl eV hd dE oA;conv=>whnf
      refine .inl ⟨fun mm tz hz=>∃ (k:Nat) (c:Nat) (V:Nat),bA (some (.slice (some ⟨0,0,none⟩) m cx)::some (.slice (some ⟨1,0,none⟩) i cd)::some (.int .i64 j)::aB 3 (some (.int .u32 0)::some (.int .i64 i)::aB 1 (some (.int .u64 qt)::aB 5 (some (.int .u32 c)::aB 141 (some (.slice (some ⟨1,0,none⟩) i cd)::some (.int .i64 i)::some (.int .i64 k)::aB 34 []))))) tz∧hz=[some (.flat true m 1 (bo V)),some (dK D)]∧i - k=mm∧((k≤i∧c≤1)∧V < B ^ (j+i+1)∧V+c*B ^ (j+k)=Y+D % B ^ k*B ^ j),.inr ⟨[0,1],[0,1,2,6,7,9,15,157,158,159],?_⟩,?_⟩
      ·conv=>whnf
       intro _;conv=>whnf
       refine ⟨_,0,0,Y,(.aa (.aa (.aa (.sk 3 (.aa (.aa (.sk 1 (.aa (.sk 5 (.aa (.sk 141 (.aa (.aa (.aa (.sk 34 .nil rfl)))) rfl)) rfl)) rfl))) rfl)))),rfl,rfl,?_⟩;exact ⟨⟨Nat.zero_le _,by decide⟩,gJ,by simp [Nat.mod_one]⟩
      rintro mm aS _ ⟨k,c,V,au,rfl,rfl,⟨⟨hk,hc⟩,hV,he⟩⟩
      obtain ⟨az,rfl⟩:∃ az:Nat→Value,aS=.slice (some ⟨0,0,none⟩) m cx::.slice (some ⟨1,0,none⟩) i cd::.int .i64 j::zs az 3 3 (.int .u32 0::.int .i64 i::zs az 8 1 (.int .u64 qt::zs az 10 5 (.int .u32 c::zs az 16 141 (.slice (some ⟨1,0,none⟩) i cd::.int .i64 i::.int .i64 k::zs az 160 34 [])))):=bJ au;clear au;conv=>whnf
      refine aI (fun h3=>?_) (fun h3=>?_)
      ·have h3:k < i:=by simpa using h3
       obtain ⟨x,hx⟩:∃ x,x=al D k:=⟨_,rfl⟩;obtain ⟨l,hl⟩:∃ l,l=al V (j+k):=⟨_,rfl⟩;have iy:x < 4294967296:=by rw [hx]; exact cH D k
       have eV:l < 4294967296:=by rw [hl]; exact cH V (j+k)
       obtain ⟨t,ht⟩:∃ t,t=l+x+c:=⟨_,rfl⟩;have ao:=Ba (t:=t) (i:=k) (j:=j) he (by rw [← hl,← hx]; exact ht)
       have g7:t % B < 4294967296:=Nat.mod_lt _ (by decide)
       have fI:t / B≤1:=by show t / 4294967296≤1; omega
       have vH:=mo hV (show j+k < j+i+1 by omega) (show t % B < B from g7)
       have e6:IntKind.i64.wrap (((j:Nat):Int)+((k:Nat):Int))=((j+k:Nat):Int):=by rw [ar (by omega) (by omega)]; omega
       have e7:IntKind.i64.wrap (((k:Nat):Int)+1)=((k+1:Nat):Int):=by rw [ar (by omega) (by omega)]; omega
       conv=>whnf
       refine ⟨⟨by omega,by omega⟩,?_⟩
       simp only [toNat_cast,ax,Nat.zero_add];conv=>whnf
       refine ⟨by show k < nl D; omega,?_⟩
       conv=>whnf
       simp only [e6];refine ⟨⟨by omega,by omega⟩,?_⟩
       simp only [toNat_cast,ax,Nat.zero_add];conv=>whnf
       refine ⟨by show j+k < m; omega,?_⟩
       conv=>whnf
       rw [← hl,← hx];refine ⟨(l,x,c),rfl,⟨eV,iy,hc⟩,?_⟩;simp only [uo,← ht,e6];conv=>whnf
       refine ⟨⟨by omega,by omega⟩,?_⟩
       simp only [toNat_cast,ax,Nat.zero_add];conv=>whnf
       refine ⟨by show j+k < m; omega,?_⟩
       conv=>whnf
       simp only [e7];rw [show t % 4294967296=t % B from rfl,fy g7]
       refine .inl ⟨_,?_,k+1,t / B,cF V (j+k) (t % B),(.aa (.aa (.aa (.sk 3 (.aa (.aa (.sk 1 (.aa (.sk 5 (.aa (.sk 141 (.aa (.aa (.aa (.sk 34 .nil rfl)))) rfl)) rfl)) rfl))) rfl)))),rfl,rfl,?_⟩
       ·omega
       ·exact ⟨⟨by omega,fI⟩,vH,ao⟩
      ·have h3:k=i:=by
        have h3:¬ k < i:=by simpa using h3
        omega
       subst h3;have lB:D < B ^ k:=by rw [bN]; exact bV D
       have gj:=Bb (V:=V) (R:=X % (D*B ^ j)) (k:=j+k) hV (Nat.lt_of_lt_of_le (Nat.mod_lt _ hE) (by rw [Nat.add_comm,Nat.pow_add]; exact Nat.mul_le_mul_right _ (Nat.le_of_lt lB))) hc (by
        rw [he,Nat.mod_eq_of_lt lB]; exact e9)
       have g8:qt - 1=X / (D*B ^ j):=by rw [iA]; rfl
       have ep:IntKind.u64.wrap ((qt:Int) - 1)=((qt - 1:Nat):Int):=by
        have:1≤qt:=by rw [iA]; exact Nat.le_add_left _ _
        have:=hT.1;rw [bL (by omega) (by omega)]; omega
       have ve:(qt - 1) % B=qt - 1:=Nat.mod_eq_of_lt (by have:=hT.1; show qt - 1 < 4294967296; omega)
       conv=>whnf
       simp only [e1];refine ⟨⟨by omega,by omega⟩,?_⟩
       simp only [toNat_cast,ax,Nat.zero_add];conv=>whnf
       refine ⟨by show j+k < m; omega,?_⟩
       conv=>whnf
       rw [show IntKind.u32.wrap (((al V (j+k):Nat):Int)+(c:Int))=(((al V (j+k)+c) % B:Nat):Int) from eh (al V (j+k)+c)]
       refine ⟨⟨by omega,by omega⟩,?_⟩
       simp only [toNat_cast,ax,Nat.zero_add];conv=>whnf
       refine ⟨by show j+k < m; omega,?_⟩
       conv=>whnf
       simp only [ep,eh,ve];rw [fy (Nat.mod_lt _ (by decide)),gj]
       exact rL (i:=⟨X,m,cx,D,cd,j⟩) rfl g8 rfl
    skip
    skip
   ·rw [show (((((q - 1) / B:Nat):Int) == 0):Bool)=false by show decide ((((q - 1) / 4294967296:Nat):Int)=0)=false; exact decide_eq_false (by omega)]
    conv=>whnf
    refine .inr ⟨[0,1],[0,1,2,6,7,9,10],?_⟩;conv=>whnf
    intro _;conv=>whnf
    refine ⟨_,?_,q - 1,r+d1,(.aa (.aa (.aa (.sk 3 (.aa (.aa (.sk 1 (.aa (.aa (.sk 183 .nil rfl))) rfl))) rfl)))),rfl,rfl,?_⟩
    ·omega
    ·exact ⟨cE,by omega,by omega⟩
open Go Go.Ae
def Eh:Env:=En [(161,.q sD),(136,.q wC),(183,.q Ce),(185,.q Cf),(187,.q Br),(184,.p Cv)] [(186,Aa w9)]
theorem adC:EnvOk Tryz.prog Eh:=bI ⟨BS,EH,VM,VN,S6,Yl,trivial⟩ ⟨VO,trivial⟩
theorem Uh:gi Tryz.prog 163 (Aa gF):=by
 refine NI adC aM Tryz.func163 (enters_of Tryz.func163 (by kernel_rfl) rfl) ?_
 intro ⟨A,ca,D,cd⟩ hp;have hp:(nl A≤137438953472∧nl D≤137438953472)∧D≠0:=hp;conv=>whnf
 refine ⟨(A,ca,D,cd),[0,1],rfl,hp.1,?_⟩;conv=>whnf
 refine ⟨aO.aW (fun h=>h) (fun r hr=>rfl),?_⟩
 conv=>whnf
 refine ⟨aO.aW (fun h=>h) (fun r hr=>rfl),?_⟩
 conv=>whnf
 refine ⟨_,rfl,?_⟩;conv=>whnf
 refine aI (fun h0=>?_) (fun h0=>?_)
 ·have h0:A < D:=by
   have h0:cM A D < 0:=of_decide_eq_true h0;rcases Nat.lt_or_ge A D with h | h
   ·exact h
   ·rw [cM,if_neg (by omega)] at h0
    split at h0 <;> omega
  conv=>whnf
  exact TM h0
 ·have h0:D≤A:=by
   have h0:¬ cM A D < 0:=of_decide_eq_false h0;rcases Nat.lt_or_ge A D with h | h
   ·rw [cM,if_pos h] at h0;omega
   ·exact h
  have pP:0 < D:=Nat.pos_of_ne_zero hp.2;conv=>whnf
  refine aI (fun h1=>?_) (fun h1=>?_)
  ·have h1:nl D=1:=by
    have h1:((nl D:Nat):Int)=1:=by simpa using h1
    omega
   obtain ⟨eG,eV,pG⟩:=Y4 h1;conv=>whnf
   refine ⟨⟨by omega,by show ((0:Nat):Int) < ((nl D:Nat):Int); omega⟩,?_⟩
   simp only [toNat_0,ax,Nat.zero_add];conv=>whnf
   refine ⟨by show 0 < nl D; omega,?_⟩
   conv=>whnf
   rw [eG];refine ⟨(A,ca,D),[0],rfl,⟨hp.1.1,pG,eV⟩,?_⟩;conv=>whnf
   refine ⟨aO.aW (fun h=>h) (fun r hr=>rfl),?_⟩
   conv=>whnf
   refine ⟨_,rfl,?_⟩;conv=>whnf
   refine ⟨some (1,A % D,1),[3],rfl,⟨by rw [Nat.pow_one]; exact Nat.lt_trans (Nat.mod_lt _ pG) eV,by decide⟩,?_⟩
   conv=>whnf
   have Jc:A % D < 4294967296:=Nat.lt_trans (Nat.mod_lt _ pG) eV;refine ⟨LC Jc (Nat.le_refl _),?_⟩;conv=>whnf
   refine ⟨_,rfl,?_⟩;conv=>whnf
   refine LB (q:=2) (r:=3) h0 (by decide) (by decide) (by decide) rfl rfl rfl rfl ⟨(fun h=>by cases h),rfl,lJ (Nat.div_le_self _ _),fun _ _=>rfl,fun r hr v hv=>dz (l:=bo (A / D) r) rfl v hv⟩ ?_
   exact LC Jc (jT (n:=1) (by rw [Nat.pow_one]; exact Jc))
  ·have h1:nl D≠1:=by
    intro e;have e2:((nl D:Nat):Int)=1:=by rw [e]; rfl
    simp [e2] at h1
   have hnD:=lJ h0;have J:2≤nl D:=by have:=yH hp.2; omega
   obtain ⟨n,hn⟩:∃ n,n=nl D - 1:=⟨_,rfl⟩;obtain ⟨s,hs⟩:∃ s,s=32 - eY (al D n):=⟨_,rfl⟩;obtain ⟨f1,f2,f3,f4,f5⟩:=Sn (D:=D) (n:=n) (s:=s) (by omega) hs
   obtain ⟨E,hE⟩:∃ E,E=D*2 ^ s:=⟨_,rfl⟩;have hEp:0 < E:=by rw [hE]; exact Nat.mul_pos pP (Nat.pow_pos (by decide))
   rw [← hE] at f3 f4 f5;have hEn:nl E=nl D:=by omega
   have e1:IntKind.i64.wrap (((nl D:Nat):Int) - 1)=((n:Nat):Int):=by rw [ar (by omega) (by omega)]; omega
   conv=>whnf
   simp only [e1];refine ⟨⟨by omega,by show ((n:Nat):Int) < ((nl D:Nat):Int); omega⟩,?_⟩
   simp only [toNat_cast,ax,Nat.zero_add];conv=>whnf
   refine ⟨by show n < nl D; omega,?_⟩
   conv=>whnf
   refine ⟨al D n,rfl,cH D n,?_⟩;simp only [Cv,← hs];conv=>whnf
   refine ⟨(A,ca,s),[0],rfl,⟨hp.1.1,f1⟩,?_⟩;conv=>whnf
   refine ⟨aO.aW (fun h=>h) (fun r hr=>rfl),?_⟩
   conv=>whnf
   refine ⟨_,rfl,?_⟩;conv=>whnf
   refine ⟨(D,cd,s),[1],rfl,⟨hp.1.2,f1⟩,?_⟩;conv=>whnf
   refine ⟨aO.aW (fun h=>h) (fun r hr=>rfl),?_⟩
   conv=>whnf
   refine ⟨_,rfl,?_⟩;conv=>whnf
   rw [show (A,ca,s).1*2 ^ (A,ca,s).2.2=A*2 ^ s from rfl,show (D,cd,s).1*2 ^ (D,cd,s).2.2=E from hE.symm]
   have adD:E < B ^ (nl D+1):=Nat.lt_of_lt_of_le (bV E) (Nat.pow_le_pow_right (by decide) (by omega))
   refine ⟨some (nl D+1,E,nl D+1),[3],rfl,⟨adD,by omega⟩,?_⟩
   conv=>whnf
   refine ⟨⟨(fun h=>by cases h),rfl,Nat.le_refl _,fun _ _=>rfl,fun r hr v hv=>dz (l:=bo E r) rfl v hv⟩,?_⟩
   conv=>whnf
   refine ⟨_,rfl,?_⟩;conv=>whnf
   obtain ⟨k,hk⟩:∃ k,k=nl A+1 - nl D:=⟨_,rfl⟩;have e2:IntKind.i64.wrap (((nl A+1:Nat):Int) - ((nl E:Nat):Int))=((k:Nat):Int):=by rw [ar (by omega) (by omega)]; omega
   simp only [e2];refine ⟨⟨by omega,by omega,by show ((k:Nat):Int)*((4:Nat):Int)≤_; omega⟩,?_⟩
   simp only [toNat_cast,tD];conv=>whnf
   refine .inl ⟨fun mm tz hz=>∃ (i:Nat) (U:Nat) (Q:Nat),bA (aB 8 (some (.int .i64 s)::some (.slice (some ⟨2,0,none⟩) (nl A+1) (nl A+1))::some (.slice (some ⟨3,0,none⟩) (nl E) (nl D+1))::some (.slice (some ⟨4,0,none⟩) k k)::some (.int .i64 (IntKind.i64.wrap ((i:Int) - 1)))::aB 60 [])) tz∧hz=[some (.flat false (nl A) 1 (bo A)),some (.flat false (nl D) 1 (bo D)),some (.flat true (nl A+1) 1 (bo U)),some (.flat true (nl D+1) 1 (bo E)),some (.flat true k 1 (bo Q))]∧i=mm∧(i≤k∧Q*E+U=A*2 ^ s∧U < E*B ^ i∧Q % B ^ i=0),.inl ⟨_,k,A*2 ^ s,0,(.sk 8 (.aa (.aa (.aa (.aa (.aa (.sk 60 .nil rfl)))))) rfl),rfl,rfl,?_⟩,?_⟩
   ·exact ⟨Nat.le_refl _,by rw [Nat.zero_mul,Nat.zero_add],TJ f1 f5 (by omega) (by omega),Nat.zero_mod _⟩
   rintro mm aS _ ⟨i,U,Q,au,rfl,rfl,⟨hi,DG,hU,hQm⟩⟩
   obtain ⟨az,rfl⟩:∃ az:Nat→Value,aS=zs az 0 8 (.int .i64 s::.slice (some ⟨2,0,none⟩) (nl A+1) (nl A+1)::.slice (some ⟨3,0,none⟩) (nl E) (nl D+1)::.slice (some ⟨4,0,none⟩) k k::.int .i64 (IntKind.i64.wrap ((i:Int) - 1))::zs az 13 60 []):=bJ au;clear au;conv=>whnf
   refine aI (fun h3=>?_) (fun h3=>?_)
   ·have h3:0 < i:=by
     rcases Nat.eq_zero_or_pos i with h | h
     ·subst h; revert h3; decide
     ·exact h
    obtain ⟨i,rfl⟩:∃ i',i=i'+1:=⟨i - 1,by omega⟩
    have ei:IntKind.i64.wrap (((i+1:Nat):Int) - 1)=((i:Nat):Int):=by rw [ar (by omega) (by omega)]; omega
    simp only [ei];obtain ⟨g1,g2,g3,g4⟩:=TL hEp DG hU hQm;conv=>whnf
    refine ⟨⟨U,nl A+1,nl A+1,E,nl D+1,i⟩,[2,3],rfl,⟨by show nl A+1≤_; omega,by show 2≤nl E; omega,by show 2147483648≤al E (nl E - 1); rw [show nl E - 1=n by omega]; exact f4,by show i+nl E < nl A+1; omega,hU⟩,by decide,?_⟩
    conv=>whnf
    refine ⟨aO.aW (fun h=>h) (fun r hr=>rfl),?_⟩
    conv=>whnf
    refine ⟨⟨(fun h=>by cases h),rfl,by show nl E≤nl D+1; omega,fun _ _=>rfl,fun r hr v hv=>dz (l:=bo E r) rfl v hv⟩,?_⟩
    conv=>whnf
    refine ⟨_,rfl,?_⟩;conv=>whnf
    refine ⟨⟨by omega,by omega⟩,?_⟩
    simp only [toNat_cast,ax,Nat.zero_add];conv=>whnf
    refine ⟨by show i < k; omega,?_⟩
    conv=>whnf
    rw [fy g1];refine .inl ⟨_,?_,i,U % (E*B ^ i),cF Q i (U / (E*B ^ i)),(.sk 8 (.aa (.aa (.aa (.aa (.aa (.sk 60 .nil rfl)))))) rfl),rfl,rfl,?_⟩
    ·omega
    ·exact ⟨by omega,g2,g3,g4⟩
   ·have h3:i=0:=by
     rcases Nat.eq_zero_or_pos i with h | h
     ·exact h
     ·have e:IntKind.i64.wrap ((i:Int) - 1)=((i - 1:Nat):Int):=by rw [ar (by omega) (by omega)]; omega
      rw [e] at h3;exact absurd h3 (by simp)
    subst h3;rw [Nat.pow_zero,Nat.mul_one] at hU;rw [hE] at DG hU;obtain ⟨g1,g2,g3⟩:=UZ pP DG hU;have hUn:nl U≤nl E:=lJ (by rw [hE]; exact Nat.le_of_lt hU)
    have Qk:U < B ^ (nl A+1):=Nat.lt_of_lt_of_le (bV U) (Nat.pow_le_pow_right (by decide) (by omega))
    have Ql:Q < B ^ k:=by
     rw [g1];refine (Nat.div_lt_iff_lt_mul pP).2 ?_;refine Nat.lt_of_lt_of_le (bV A) ?_;have h5:B ^ n≤D:=by rw [show n=nl D - 1 from hn]; exact Rb hp.2
     rw [show nl A=k+n by omega,Nat.pow_add]
     exact Nat.mul_le_mul_left _ h5
    have hQn:=jT Ql;have hRn:nl (A % D)≤nl U:=by rw [← g3]; exact lJ (Nat.div_le_self _ _)
    conv=>whnf
    refine ⟨some (k,Q,k),[4],rfl,⟨Ql,by omega⟩,?_⟩
    conv=>whnf
    refine ⟨⟨(fun h=>by cases h),rfl,Nat.le_refl _,fun _ _=>rfl,fun r hr v hv=>dz (l:=bo Q r) rfl v hv⟩,?_⟩
    conv=>whnf
    refine ⟨_,rfl,?_⟩;conv=>whnf
    refine ⟨some (nl A+1,U,nl A+1),[2],rfl,⟨Qk,by omega⟩,?_⟩
    conv=>whnf
    refine ⟨⟨(fun h=>by cases h),rfl,Nat.le_refl _,fun _ _=>rfl,fun r hr v hv=>dz (l:=bo U r) rfl v hv⟩,?_⟩
    conv=>whnf
    refine ⟨_,rfl,?_⟩;conv=>whnf
    refine ⟨(U,nl A+1,s),[2],rfl,⟨by show nl U≤_; omega,f1⟩,?_⟩
    conv=>whnf
    refine ⟨⟨(fun h=>by cases h),rfl,by show nl U≤nl A+1; omega,fun _ _=>rfl,fun r hr v hv=>dz (l:=bo U r) rfl v hv⟩,?_⟩
    conv=>whnf
    refine ⟨_,rfl,?_⟩;conv=>whnf
    show zt gF (A,ca,D,cd) (.tuple ⟨[.slice (some ⟨4,0,none⟩) (nl Q) k,.slice (some ⟨5,0,none⟩) (nl (U / 2 ^ s)) aK]⟩) _
    rw [g3];clear g2 DG Qk;subst g1;refine LB (q:=4) (r:=5) h0 (by decide) (by decide) (by decide) rfl rfl rfl rfl ⟨(fun h=>by cases h),rfl,hQn,fun _ _=>rfl,fun r hr v hv=>dz (l:=bo (A / D) r) rfl v hv⟩ ⟨(fun h=>by cases h),rfl,hRn,fun r _=>by rw [← g3]; rfl,fun r hr v hv=>dz (l:=bo (A % D) r) rfl v hv⟩
set_option maxHeartbeats 1000000
open Go Go.Ae
theorem L4:bf Tryz.prog 141 wO:=by
 refine bk C6 aM Tryz.func141 (enters_of Tryz.func141 (by kernel_rfl) rfl) (fun _=>rfl) (fun _=>rfl) ?_
 intro ⟨b,s⟩ hp;have hp:s.size≤549755813888:=hp;conv=>whnf
 refine aI (fun h1=>?_) (fun h1=>?_)
 ·have h1:¬ s.size≤7:=by
   have h1:=of_decide_eq_true h1;have h1:((s.size:Nat):Int) > 7:=h1;omega
  conv=>whnf
  simp only [wO,h1,if_false,decide_false]
 ·have h1:s.size≤7:=by
   have h1:=of_decide_eq_false h1;have h1:¬ ((s.size:Nat):Int) > 7:=h1;omega
  have eI:=h1;conv=>whnf
  refine .inl ⟨fun mm tz hz=>∃ (i:Nat) (N:Nat),bA (aB 1 (some (.pointer (some ⟨0,0,none⟩))::some (.int .i64 0)::some (.bool false)::some (.int .i64 N)::aB 7 (some (.int .i64 s.size)::some (.int .i64 i)::aB 16 []))) tz∧hz=[some (.aL true 2 [[.bool b,.string s]])]∧s.size - i=mm∧(i≤s.size∧N=ab s / C ^ (s.size - i)),.inl ⟨_,0,0,(.sk 1 (.aa (.aa (.aa (.aa (.sk 7 (.aa (.aa (.sk 16 .nil rfl))) rfl))))) rfl),rfl,rfl,?_⟩,?_⟩
  ·exact ⟨Nat.zero_le _,by rw [Nat.sub_zero,Nat.div_eq_of_lt (gu s)]⟩
  rintro mm aS _ ⟨i,N,au,rfl,rfl,⟨hi,hN⟩⟩
  obtain ⟨az,rfl⟩:∃ az:Nat→Value,aS=zs az 0 1 (.pointer (some ⟨0,0,none⟩)::.int .i64 0::.bool false::.int .i64 N::zs az 5 7 (.int .i64 s.size::.int .i64 i::zs az 14 16 [])):=bJ au;clear au;have ak:=Ch s hi;rw [← hN] at ak;have mS:=ak;have ak:=Nat.lt_of_lt_of_le ak (ob (show i≤7 by omega))
  conv=>whnf
  refine aI (fun J=>?_) (fun J=>?_)
  ·have J:i < s.size:=by simpa using J
   have ao:=yo J;rw [← hN] at ao;have hb:bX s i < 256:=wj s i;have eN:((N:Nat):Int)*256+((bX s i:Nat):Int)=((N*256+bX s i:Nat):Int):=by omega
   conv=>whnf
   refine ⟨⟨by omega,by omega⟩,?_⟩
   try simp (disch:=omega) only [ar,bL,c8,dA,cf,dO,dm,dQ,c0,db,dk,dy,dn,dG,toNat_cast,ax,Nat.zero_add,dN,toNat_0,toNat_1,Nat.sub_zero,dS,dT,dW,dX,dI,dR,dP,dU]
   conv=>whnf
   have e3:IntKind.i64.wrap (((i:Nat):Int)+1)=((i+1:Nat):Int):=by rw [ar (by omega) (by omega)]; rfl
   have Jd:=Nat.lt_of_lt_of_le mS (CY (show i≤6 by omega))
   rw [M7 (by omega) hb,e3]
   refine .inl ⟨_,?_,i+1,N*256+bX s i,(.sk 1 (.aa (.aa (.aa (.aa (.sk 7 (.aa (.aa (.sk 16 .nil rfl))) rfl))))) rfl),rfl,rfl,?_⟩
   ·omega
   ·exact ⟨by omega,ao.symm⟩
  ·have J:i=s.size:=by
    have J:¬ i < s.size:=by simpa using J
    omega
   subst J;rw [Nat.sub_self,Nat.pow_zero,Nat.div_one] at hN;subst hN;cases b with
   | true =>
    conv=>whnf
    try simp (disch:=omega) only [ar,bL,c8,dA,cf,dO,dm,dQ,c0,db,dk,dy,dn,dG,toNat_cast,ax,Nat.zero_add,dN,toNat_0,toNat_1,Nat.sub_zero,dS,dT,dW,dX,dI,dR,dP,dU]
    have e:IV.z (true,s)=-(ab s:Int):=rfl;simp only [wO,e,eI,if_true,decide_true,Int.zero_sub]
   | false =>
    conv=>whnf
    have e:IV.z (false,s)=(ab s:Int):=rfl;simp only [wO,e,eI,if_true,decide_true]
def Ei:Env:=En [(131,.q uI),(135,.q uH),(139,.q Cd),(136,.q wC),(141,.p wO)]
theorem H6:EnvOk Tryz.prog Ei:=bI ⟨Gp,BT,VL,EH,L4,trivial⟩ trivial
theorem sE:bf Tryz.prog 83 eT:=by
 refine bk H6 aM Tryz.func83 (enters_of Tryz.func83 (by kernel_rfl) rfl) (fun _=>rfl) (fun _=>rfl) ?_
 intro (n:Int) hp;have hp:-9223372036854775808≤n∧n < 9223372036854775808:=hp;conv=>whnf
 obtain ⟨N,hN⟩:∃ N:Nat,N=n.natAbs:=⟨_,rfl⟩;have An:N < 18446744073709551616:=by omega
 have hl:=Mn An;refine aI (fun h1=>?_) (fun h1=>?_)
 ·have h1:n < 0:=of_decide_eq_true h1;have e1:IntKind.u64.wrap (0 - IntKind.u64.wrap n)=(N:Int):=by
   rw [Bo,Bo]; omega
  conv=>whnf
  simp only [e1];refine ⟨(decide (n < 0),some (2,N,2)),[1],rfl,⟨NN An,by decide⟩,?_⟩
  conv=>whnf
  refine ⟨Mo An,?_⟩;conv=>whnf
  refine ⟨_,rfl,?_⟩;conv=>whnf
  show lW (decide (n < 0)) N=aD n
  rw [jk]
  congr 1
  simp only [aY,h1,decide_true,decide_false,if_true,Bool.false_eq_true,if_false];omega
 ·have h1:¬ n < 0:=of_decide_eq_false h1;have e1:IntKind.u64.wrap n=(N:Int):=by
   rw [Bo]; omega
  conv=>whnf
  simp only [e1];refine ⟨(decide (n < 0),some (2,N,2)),[1],rfl,⟨NN An,by decide⟩,?_⟩
  conv=>whnf
  refine ⟨Mo An,?_⟩;conv=>whnf
  refine ⟨_,rfl,?_⟩;conv=>whnf
  show lW (decide (n < 0)) N=aD n
  rw [jk]
  congr 1
  simp only [aY,h1,decide_true,decide_false,if_true,Bool.false_eq_true,if_false];omega
theorem N5:bf Tryz.prog 92 fg:=by
 refine bk H6 aM Tryz.func92 (enters_of Tryz.func92 (by kernel_rfl) rfl) (fun _=>rfl) (fun _=>rfl) ?_
 intro ⟨⟨b,s⟩,⟨c,t⟩⟩ hp;have hp:s.size≤549755813888∧t.size≤549755813888:=hp;conv=>whnf
 refine .inl ⟨12,[[],[0],[],[2],[0,1,2,3],[],[5],[5,6],[],[8],[5,6,7,8,9],[5,6,7,8,9,10],[0,1,2,3,4,5,6,7,8,9,10,11],[0,1,2,3,4,5,6,7,8,9,10,11,12]],by kernel_rfl,?_⟩
 conv=>whnf
 refine ⟨s,[],rfl,by show s.size≤1099511627776; omega,?_⟩
 conv=>whnf
 refine ⟨_,rfl,?_⟩;conv=>whnf
 refine ⟨t,[],rfl,by show t.size≤1099511627776; omega,?_⟩
 conv=>whnf
 refine ⟨_,rfl,?_⟩;conv=>whnf
 refine ⟨(ab s,aK,ab t,aK),[10,13],rfl,⟨IV.nl (i:=(b,s)) hp.1,IV.nl (i:=(c,t)) hp.2⟩,?_⟩;conv=>whnf
 refine ⟨aO.aW (fun h=>h) (fun r hr=>rfl),?_⟩
 conv=>whnf
 refine ⟨aO.aW (fun h=>h) (fun r hr=>rfl),?_⟩
 conv=>whnf
 refine ⟨_,rfl,?_⟩;conv=>whnf
 have g9:=IV.nl (i:=(b,s)) hp.1;have iB:=IV.nl (i:=(c,t)) hp.2;have g9:nl (ab s)≤137438953472:=g9;have iB:nl (ab t)≤137438953472:=iB;have hmul:=TN (ab s) (ab t);refine ⟨(b != c,some (nl (ab s*ab t),ab s*ab t,aK)),[14],rfl,⟨bV _,by omega⟩,?_⟩
 conv=>whnf
 refine ⟨aO.aW (fun h=>h) (fun r hr=>rfl),?_⟩
 conv=>whnf
 refine ⟨_,rfl,?_⟩;conv=>whnf
 show lW (b != c) (ab s*ab t)=_
 rw [jk,U0]
 rfl
open Go Go.Ae
theorem aaO:bf Tryz.prog 130 gR:=by
 refine bk H6 aM Tryz.func130 (enters_of Tryz.func130 (by kernel_rfl) rfl) (fun _=>rfl) (fun _=>rfl) ?_
 intro ⟨b,s⟩ hp;have hp:s.size≤549755813888:=hp;have g9:nl (ab s)≤137438953472:=IV.nl (i:=(b,s)) hp;conv=>whnf
 refine .inl ⟨6,[[],[0],[0,1],[],[3],[3,4],[0,1,2,3,4,5],[0,1,2,3,4,5,6]],by kernel_rfl,?_⟩
 conv=>whnf
 refine ⟨s,[],rfl,by show s.size≤1099511627776; omega,?_⟩
 conv=>whnf
 refine ⟨_,rfl,?_⟩;conv=>whnf
 refine ⟨(!b,some (nl (ab s),ab s,aK)),[7],rfl,⟨bV _,by omega⟩,?_⟩
 conv=>whnf
 refine ⟨aO.aW (fun h=>h) (fun r hr=>rfl),?_⟩
 conv=>whnf
 refine ⟨_,rfl,?_⟩;conv=>whnf
 show lW (!b) (ab s)=_
 rw [jk,Fy]
 rfl
def Ej:Env:=En [(131,.q uI),(135,.q uH),(142,.q Cw),(143,.q Cc),(136,.q wC),(141,.p wO),(83,.p eT)]
theorem Pq:EnvOk Tryz.prog Ej:=bI ⟨Gp,BT,Ym,VK,EH,L4,sE,trivial⟩ trivial
theorem GS:bf Tryz.prog 97 iW:=by
 refine bk Pq aM Tryz.func97 (enters_of Tryz.func97 (by kernel_rfl) rfl) (fun _=>rfl) (fun _=>rfl) ?_
 intro ⟨⟨b,s⟩,⟨c,t⟩⟩ hp;have hp:s.size≤549755813888∧t.size≤549755813888:=hp;have g9:nl (ab s)≤137438953472:=IV.nl (i:=(b,s)) hp.1;have iB:nl (ab t)≤137438953472:=IV.nl (i:=(c,t)) hp.2;conv=>whnf
 refine ⟨(b,s),rfl,hp.1,?_⟩;conv=>whnf
 refine aI (fun h1=>?_) (fun h1=>?_)
 ·have h1:s.size≤7:=of_decide_eq_true h1;conv=>whnf
  refine ⟨(c,t),rfl,hp.2,?_⟩;conv=>whnf
  refine aI (fun J=>?_) (fun J=>?_)
  ·have J:t.size≤7:=of_decide_eq_true J;conv=>whnf
   have z1:=Ga (i:=(b,s)) h1;have z2:=Ga (i:=(c,t)) J;have ew:IntKind.i64.wrap ((if (b,s).snd.size≤7 then IV.z (b,s) else 0)+if (c,t).snd.size≤7 then IV.z (c,t) else 0)=IV.z (b,s)+IV.z (c,t):=by
    rw [if_pos h1,if_pos J];exact ar (by omega) (by omega)
   rw [ew];refine ⟨IV.z (b,s)+IV.z (c,t),rfl,⟨by omega,by omega⟩,?_⟩
   conv=>whnf
   rfl
  ·conv=>whnf
   refine .inl ⟨5,[[],[0],[0,1],[],[3],[0,1,2,3,4],[0,1,2,3,4,5],[0,1,2,3,4,5,6]],by kernel_rfl,?_⟩
   conv=>whnf
   refine ⟨s,[],rfl,by show s.size≤1099511627776; omega,?_⟩
   conv=>whnf
   refine ⟨_,rfl,?_⟩;conv=>whnf
   refine ⟨t,[],rfl,by show t.size≤1099511627776; omega,?_⟩
   conv=>whnf
   refine ⟨_,rfl,?_⟩;conv=>whnf
   refine aI (fun h5=>?_) (fun h5=>?_)
   ·have h5:b=c:=eq_of_beq h5;conv=>whnf
    refine .inl ⟨5,[[],[0],[],[],[2,3],[0,1,2,3,4],[0,1,2,3,4,5]],by kernel_rfl,?_⟩
    conv=>whnf
    refine ⟨(ab s,aK,ab t,aK),[5,8],rfl,⟨g9,iB⟩,?_⟩;conv=>whnf
    refine ⟨aO.aW (fun h=>h) (fun r hr=>rfl),?_⟩
    conv=>whnf
    refine ⟨aO.aW (fun h=>h) (fun r hr=>rfl),?_⟩
    conv=>whnf
    refine ⟨_,rfl,?_⟩;conv=>whnf
    have hal:=LF (ab s) (ab t);refine ⟨(b,some (nl (ab s+ab t),ab s+ab t,aK)),[13],rfl,⟨bV _,by omega⟩,?_⟩
    conv=>whnf
    refine ⟨aO.aW (fun h=>h) (fun r hr=>rfl),?_⟩
    conv=>whnf
    refine ⟨_,rfl,?_⟩;conv=>whnf
    show lW b (ab s+ab t)=aD (IV.z (b,s)+IV.z (c,t))
    rw [jk,LD,h5]
    rfl
   ·have h5:b≠c:=by
     intro e;subst e;cases b <;> cases h5
    conv=>whnf
    refine ⟨(ab s,aK,ab t,aK),[5,8],rfl,⟨g9,iB⟩,?_⟩;conv=>whnf
    refine ⟨aO.aW (fun h=>h) (fun r hr=>rfl),?_⟩
    conv=>whnf
    refine ⟨aO.aW (fun h=>h) (fun r hr=>rfl),?_⟩
    conv=>whnf
    refine ⟨_,rfl,?_⟩;conv=>whnf
    refine aI (fun h6=>?_) (fun h6=>?_)
    ·have h6:ab s≤ab t:=by
      have h6:cM (ab s) (ab t) < 0:=of_decide_eq_true h6;unfold cM at h6
      split at h6
      ·omega
      ·split at h6 <;> omega
     have lH:=lJ (Nat.sub_le (ab t) (ab s));conv=>whnf
     refine .inl ⟨5,[[],[0],[],[],[2,3],[0,1,2,3,4],[0,1,2,3,4,5]],by kernel_rfl,?_⟩
     conv=>whnf
     refine ⟨(ab t,aK,ab s,aK),[8,5],rfl,⟨⟨iB,g9⟩,h6⟩,?_⟩;conv=>whnf
     refine ⟨aO.aW (fun h=>h) (fun r hr=>rfl),?_⟩
     conv=>whnf
     refine ⟨aO.aW (fun h=>h) (fun r hr=>rfl),?_⟩
     conv=>whnf
     refine ⟨_,rfl,?_⟩;conv=>whnf
     refine ⟨(c,some (nl (ab t - ab s),ab t - ab s,aK)),[13],rfl,⟨bV _,by omega⟩,?_⟩
     conv=>whnf
     refine ⟨aO.aW (fun h=>h) (fun r hr=>rfl),?_⟩
     conv=>whnf
     refine ⟨_,rfl,?_⟩;conv=>whnf
     show lW c (ab t - ab s)=aD (IV.z (b,s)+IV.z (c,t))
     rw [jk,Bc (Ne.symm h5) h6,Int.add_comm]
     rfl
    ·have h6:ab t≤ab s:=by
      have h6:¬ cM (ab s) (ab t) < 0:=of_decide_eq_false h6;unfold cM at h6
      split at h6
      ·omega
      ·split at h6 <;> omega
     have lH:=lJ (Nat.sub_le (ab s) (ab t));conv=>whnf
     refine .inl ⟨5,[[],[0],[],[],[2,3],[0,1,2,3,4],[0,1,2,3,4,5]],by kernel_rfl,?_⟩
     conv=>whnf
     refine ⟨(ab s,aK,ab t,aK),[5,8],rfl,⟨⟨g9,iB⟩,h6⟩,?_⟩;conv=>whnf
     refine ⟨aO.aW (fun h=>h) (fun r hr=>rfl),?_⟩
     conv=>whnf
     refine ⟨aO.aW (fun h=>h) (fun r hr=>rfl),?_⟩
     conv=>whnf
     refine ⟨_,rfl,?_⟩;conv=>whnf
     refine ⟨(b,some (nl (ab s - ab t),ab s - ab t,aK)),[13],rfl,⟨bV _,by omega⟩,?_⟩
     conv=>whnf
     refine ⟨aO.aW (fun h=>h) (fun r hr=>rfl),?_⟩
     conv=>whnf
     refine ⟨_,rfl,?_⟩;conv=>whnf
     show lW b (ab s - ab t)=aD (IV.z (b,s)+IV.z (c,t))
     rw [jk,Bc h5 h6]
     rfl
 ·conv=>whnf
  refine .inl ⟨5,[[],[0],[0,1],[],[3],[0,1,2,3,4],[0,1,2,3,4,5],[0,1,2,3,4,5,6]],by kernel_rfl,?_⟩
  conv=>whnf
  refine ⟨s,[],rfl,by show s.size≤1099511627776; omega,?_⟩
  conv=>whnf
  refine ⟨_,rfl,?_⟩;conv=>whnf
  refine ⟨t,[],rfl,by show t.size≤1099511627776; omega,?_⟩
  conv=>whnf
  refine ⟨_,rfl,?_⟩;conv=>whnf
  refine aI (fun h5=>?_) (fun h5=>?_)
  ·have h5:b=c:=eq_of_beq h5;conv=>whnf
   refine .inl ⟨5,[[],[0],[],[],[2,3],[0,1,2,3,4],[0,1,2,3,4,5]],by kernel_rfl,?_⟩
   conv=>whnf
   refine ⟨(ab s,aK,ab t,aK),[5,8],rfl,⟨g9,iB⟩,?_⟩;conv=>whnf
   refine ⟨aO.aW (fun h=>h) (fun r hr=>rfl),?_⟩
   conv=>whnf
   refine ⟨aO.aW (fun h=>h) (fun r hr=>rfl),?_⟩
   conv=>whnf
   refine ⟨_,rfl,?_⟩;conv=>whnf
   have hal:=LF (ab s) (ab t);refine ⟨(b,some (nl (ab s+ab t),ab s+ab t,aK)),[13],rfl,⟨bV _,by omega⟩,?_⟩
   conv=>whnf
   refine ⟨aO.aW (fun h=>h) (fun r hr=>rfl),?_⟩
   conv=>whnf
   refine ⟨_,rfl,?_⟩;conv=>whnf
   show lW b (ab s+ab t)=aD (IV.z (b,s)+IV.z (c,t))
   rw [jk,LD,h5]
   rfl
  ·have h5:b≠c:=by
    intro e;subst e;cases b <;> cases h5
   conv=>whnf
   refine ⟨(ab s,aK,ab t,aK),[5,8],rfl,⟨g9,iB⟩,?_⟩;conv=>whnf
   refine ⟨aO.aW (fun h=>h) (fun r hr=>rfl),?_⟩
   conv=>whnf
   refine ⟨aO.aW (fun h=>h) (fun r hr=>rfl),?_⟩
   conv=>whnf
   refine ⟨_,rfl,?_⟩;conv=>whnf
   refine aI (fun h6=>?_) (fun h6=>?_)
   ·have h6:ab s≤ab t:=by
     have h6:cM (ab s) (ab t) < 0:=of_decide_eq_true h6;unfold cM at h6
     split at h6
     ·omega
     ·split at h6 <;> omega
    have lH:=lJ (Nat.sub_le (ab t) (ab s));conv=>whnf
    refine .inl ⟨5,[[],[0],[],[],[2,3],[0,1,2,3,4],[0,1,2,3,4,5]],by kernel_rfl,?_⟩
    conv=>whnf
    refine ⟨(ab t,aK,ab s,aK),[8,5],rfl,⟨⟨iB,g9⟩,h6⟩,?_⟩;conv=>whnf
    refine ⟨aO.aW (fun h=>h) (fun r hr=>rfl),?_⟩
    conv=>whnf
    refine ⟨aO.aW (fun h=>h) (fun r hr=>rfl),?_⟩
    conv=>whnf
    refine ⟨_,rfl,?_⟩;conv=>whnf
    refine ⟨(c,some (nl (ab t - ab s),ab t - ab s,aK)),[13],rfl,⟨bV _,by omega⟩,?_⟩
    conv=>whnf
    refine ⟨aO.aW (fun h=>h) (fun r hr=>rfl),?_⟩
    conv=>whnf
    refine ⟨_,rfl,?_⟩;conv=>whnf
    show lW c (ab t - ab s)=aD (IV.z (b,s)+IV.z (c,t))
    rw [jk,Bc (Ne.symm h5) h6,Int.add_comm]
    rfl
   ·have h6:ab t≤ab s:=by
     have h6:¬ cM (ab s) (ab t) < 0:=of_decide_eq_false h6;unfold cM at h6
     split at h6
     ·omega
     ·split at h6 <;> omega
    have lH:=lJ (Nat.sub_le (ab s) (ab t));conv=>whnf
    refine .inl ⟨5,[[],[0],[],[],[2,3],[0,1,2,3,4],[0,1,2,3,4,5]],by kernel_rfl,?_⟩
    conv=>whnf
    refine ⟨(ab s,aK,ab t,aK),[5,8],rfl,⟨⟨g9,iB⟩,h6⟩,?_⟩;conv=>whnf
    refine ⟨aO.aW (fun h=>h) (fun r hr=>rfl),?_⟩
    conv=>whnf
    refine ⟨aO.aW (fun h=>h) (fun r hr=>rfl),?_⟩
    conv=>whnf
    refine ⟨_,rfl,?_⟩;conv=>whnf
    refine ⟨(b,some (nl (ab s - ab t),ab s - ab t,aK)),[13],rfl,⟨bV _,by omega⟩,?_⟩
    conv=>whnf
    refine ⟨aO.aW (fun h=>h) (fun r hr=>rfl),?_⟩
    conv=>whnf
    refine ⟨_,rfl,?_⟩;conv=>whnf
    show lW b (ab s - ab t)=aD (IV.z (b,s)+IV.z (c,t))
    rw [jk,Bc h5 h6]
    rfl
def Ek:Env:=En [(97,.p iW)]
theorem adE:EnvOk Tryz.prog Ek:=bI ⟨GS,trivial⟩ trivial
theorem aaP:bf Tryz.prog 164 mJ:=by
 refine bk adE aM Tryz.func164 (enters_of Tryz.func164 (by kernel_rfl) rfl) (fun _=>rfl) (fun _=>rfl) ?_
 intro ⟨⟨b,s⟩,⟨c,t⟩⟩ hp;have hp:s.size≤549755813888∧t.size≤549755813888:=hp;conv=>whnf
 refine ⟨((b,s),(!c,t)),rfl,hp,?_⟩;conv=>whnf
 show aD (IV.z (b,s)+aY (!c) (ab t))=aD (IV.z (b,s) - IV.z (c,t))
 rw [Fy]
 rfl
theorem GU:bf Tryz.prog 87 lX:=by
 refine bk Pq aM Tryz.func87 (enters_of Tryz.func87 (by kernel_rfl) rfl) (fun _=>rfl) (fun _=>rfl) ?_
 intro ⟨⟨b,s⟩,⟨c,t⟩⟩ hp;have hp:s.size≤549755813888∧t.size≤549755813888:=hp;have g9:nl (ab s)≤137438953472:=IV.nl (i:=(b,s)) hp.1;have iB:nl (ab t)≤137438953472:=IV.nl (i:=(c,t)) hp.2;conv=>whnf
 refine .inl ⟨5,[[],[0],[0,1],[],[3],[0,1,2,3,4],[0,1,2,3,4,5],[0,1,2,3,4,5,6]],by kernel_rfl,?_⟩
 conv=>whnf
 refine ⟨s,[],rfl,by show s.size≤1099511627776; omega,?_⟩
 conv=>whnf
 refine ⟨_,rfl,?_⟩;conv=>whnf
 refine ⟨t,[],rfl,by show t.size≤1099511627776; omega,?_⟩
 conv=>whnf
 refine ⟨_,rfl,?_⟩;conv=>whnf
 have fin:∀ (z:Int),z=dL (IV.z (b,s)) (IV.z (c,t))→Value.int .i64 z=lX.val ((b,s),(c,t)):=fun z h=>by rw [h]; rfl
 cases b with
 | false =>
  conv=>whnf
  cases c with
  | false =>
   conv=>whnf
   refine ⟨(ab s,aK,ab t,aK),[4,7],rfl,⟨g9,iB⟩,?_⟩;conv=>whnf
   refine ⟨aO.aW (fun h=>h) (fun r hr=>rfl),?_⟩
   conv=>whnf
   refine ⟨aO.aW (fun h=>h) (fun r hr=>rfl),?_⟩
   conv=>whnf
   refine ⟨_,rfl,?_⟩;conv=>whnf
   exact fin _ (Bs _ _).symm
  | true =>
   conv=>whnf
   rcases Nat.eq_zero_or_pos (ab t) with h1 | h1
   ·rw [wE h1];conv=>whnf
    refine ⟨(ab s,aK,ab t,aK),[4,7],rfl,⟨g9,iB⟩,?_⟩;conv=>whnf
    refine ⟨aO.aW (fun h=>h) (fun r hr=>rfl),?_⟩
    conv=>whnf
    refine ⟨aO.aW (fun h=>h) (fun r hr=>rfl),?_⟩
    conv=>whnf
    refine ⟨_,rfl,?_⟩;conv=>whnf
    refine fin _ ?_;show cM (ab s) (ab t)=dL ((ab s:Nat):Int) (-((ab t:Nat):Int))
    rw [h1];exact (Bs _ 0).symm
   ·rw [wM h1];conv=>whnf
    exact fin _ (tZ (show -((ab t:Nat):Int) < ((ab s:Nat):Int) by omega)).symm
 | true =>
  conv=>whnf
  rcases Nat.eq_zero_or_pos (ab s) with J | J
  ·try rw [wE J]
   cases c with
   | false =>
    conv=>whnf
    try rw [wE J]
    conv=>whnf
    refine ⟨(ab s,aK,ab t,aK),[4,7],rfl,⟨g9,iB⟩,?_⟩;conv=>whnf
    refine ⟨aO.aW (fun h=>h) (fun r hr=>rfl),?_⟩
    conv=>whnf
    refine ⟨aO.aW (fun h=>h) (fun r hr=>rfl),?_⟩
    conv=>whnf
    refine ⟨_,rfl,?_⟩;conv=>whnf
    refine fin _ ?_;show cM (ab s) (ab t)=dL (-((ab s:Nat):Int)) ((ab t:Nat):Int)
    rw [J];exact (Bs 0 _).symm
   | true =>
    conv=>whnf
    try rw [wE J]
    conv=>whnf
    rcases Nat.eq_zero_or_pos (ab t) with h1 | h1
    ·rw [wE h1];conv=>whnf
     refine ⟨(ab s,aK,ab t,aK),[4,7],rfl,⟨g9,iB⟩,?_⟩;conv=>whnf
     refine ⟨aO.aW (fun h=>h) (fun r hr=>rfl),?_⟩
     conv=>whnf
     refine ⟨aO.aW (fun h=>h) (fun r hr=>rfl),?_⟩
     conv=>whnf
     refine ⟨_,rfl,?_⟩;conv=>whnf
     refine fin _ ?_;show cM (ab s) (ab t)=dL (-((ab s:Nat):Int)) (-((ab t:Nat):Int))
     rw [h1,J]
     rfl
    ·rw [wM h1];conv=>whnf
     exact fin _ (tZ (show -((ab t:Nat):Int) < -((ab s:Nat):Int) by omega)).symm
  ·try rw [wM J]
   cases c with
   | false =>
    conv=>whnf
    try rw [wM J]
    conv=>whnf
    exact fin _ (tY (show -((ab s:Nat):Int) < ((ab t:Nat):Int) by omega)).symm
   | true =>
    conv=>whnf
    try rw [wM J]
    conv=>whnf
    rcases Nat.eq_zero_or_pos (ab t) with h1 | h1
    ·rw [wE h1];conv=>whnf
     exact fin _ (tY (show -((ab s:Nat):Int) < -((ab t:Nat):Int) by omega)).symm
    ·rw [wM h1];conv=>whnf
     refine ⟨(ab t,aK,ab s,aK),[7,4],rfl,⟨iB,g9⟩,?_⟩;conv=>whnf
     refine ⟨aO.aW (fun h=>h) (fun r hr=>rfl),?_⟩
     conv=>whnf
     refine ⟨aO.aW (fun h=>h) (fun r hr=>rfl),?_⟩
     conv=>whnf
     refine ⟨_,rfl,?_⟩;conv=>whnf
     exact fin _ (Mm _ _).symm
open Go Go.Ae
def El:Env:=En [(131,.q uI),(135,.q uH),(83,.p eT),(97,.p iW),(164,.p mJ)] [(163,Aa gF)]
theorem Pr:EnvOk Tryz.prog El:=bI ⟨Gp,BT,sE,GS,aaP,trivial⟩ ⟨Uh,trivial⟩
theorem aaQ:bf Tryz.prog 133 uX:=by
 refine bk Pr aM Tryz.func133 (enters_of Tryz.func133 (by kernel_rfl) rfl) (fun _=>rfl) (fun _=>rfl) ?_
 intro ⟨⟨b,s⟩,⟨c,t⟩⟩ hp;have hp:s.size≤549755813888∧t.size≤549755813888:=hp;have g9:nl (ab s)≤137438953472:=IV.nl (i:=(b,s)) hp.1;have iB:nl (ab t)≤137438953472:=IV.nl (i:=(c,t)) hp.2;conv=>whnf
 refine .inl ⟨5,[[],[0],[0,1],[],[3],[0,1,2,3,4],[0,1,2,3,4,5],[0,1,2,3,4,5,6]],by kernel_rfl,?_⟩
 conv=>whnf
 refine ⟨s,[],rfl,by show s.size≤1099511627776; omega,?_⟩
 conv=>whnf
 refine ⟨_,rfl,?_⟩;conv=>whnf
 refine ⟨t,[],rfl,by show t.size≤1099511627776; omega,?_⟩
 conv=>whnf
 refine ⟨_,rfl,?_⟩;conv=>whnf
 refine .inl ⟨fun mm tz hz=>∃ (A:Nat) (D:Nat) (ca:Nat) (cd:Nat),bA (aB 4 (some (.pointer (some ⟨0,0,none⟩))::some (.slice (some ⟨1,0,none⟩) (nl A) ca)::some (.slice (some ⟨2,0,none⟩) (nl D) cd)::aB 21 [])) tz∧hz=[some (.aL true 2 [[.bool false,.string ⟨#[]⟩]]),some (dK A),some (dK D)]∧D=mm∧((nl A≤137438953472∧nl D≤137438953472)∧Nat.gcd A D=Nat.gcd (ab s) (ab t)),.inr ⟨[2,5,8],[4,5,6],?_⟩,?_⟩
 ·conv=>whnf
  intro _;conv=>whnf
  refine ⟨_,ab s,ab t,aK,aK,(.sk 4 (.aa (.aa (.aa (.sk 21 .nil rfl)))) rfl),rfl,rfl,?_⟩;exact ⟨⟨g9,iB⟩,rfl⟩
 rintro mm aS _ ⟨A,D,ca,cd,au,rfl,rfl,⟨cD,hg⟩⟩
 obtain ⟨az,rfl⟩:∃ az:Nat→Value,aS=zs az 0 4 (.pointer (some ⟨0,0,none⟩)::.slice (some ⟨1,0,none⟩) (nl A) ca::.slice (some ⟨2,0,none⟩) (nl D) cd::zs az 7 21 []):=bJ au;clear au;conv=>whnf
 refine aI (fun h1=>?_) (fun h1=>?_)
 ·have h1:=Wh (of_decide_eq_true h1);conv=>whnf
  refine ⟨(A,ca,D,cd),[1,2],rfl,⟨cD,by show D≠0; omega⟩,by decide,?_⟩
  rcases Nat.lt_or_ge A D with J | J
  ·have ev:gF.val (A,ca,D,cd)=.tuple ⟨[.slice none 0 0,one A ca]⟩:=if_pos J;have en:gF.new (A,ca,D,cd)=[]:=if_pos J;rw [ev,en];conv=>whnf
   refine ⟨aO.aW (fun h=>h) (fun r hr=>rfl),?_⟩
   conv=>whnf
   refine ⟨aO.aW (fun h=>h) (fun r hr=>rfl),?_⟩
   conv=>whnf
   refine ⟨_,rfl,?_⟩;conv=>whnf
   refine .inr ⟨[0,2,1],[4,5,6],?_⟩;conv=>whnf
   intro _;conv=>whnf
   refine ⟨_,?_,D,A,cd,ca,(.sk 4 (.aa (.aa (.aa (.sk 21 .nil rfl)))) rfl),rfl,rfl,?_⟩
   ·omega
   ·exact ⟨⟨cD.2,cD.1⟩,by rw [Nat.gcd_comm]; exact hg⟩
  ·have ev:gF.val (A,ca,D,cd)=.tuple ⟨[lu 2 (A / D),lu 3 (A % D)]⟩:=if_neg (Nat.not_lt.2 J);have en:gF.new (A,ca,D,cd)=[dK (A / D),dK (A % D)]:=if_neg (Nat.not_lt.2 J);rw [ev,en];conv=>whnf
   refine ⟨aO.aW (fun h=>h) (fun r hr=>rfl),?_⟩
   conv=>whnf
   refine ⟨aO.aW (fun h=>h) (fun r hr=>rfl),?_⟩
   conv=>whnf
   refine ⟨_,rfl,?_⟩;conv=>whnf
   have hm:=Nat.mod_lt A h1;have lH:=lJ (Nat.le_of_lt hm);refine .inr ⟨[0,2,4],[4,5,6],?_⟩;conv=>whnf
   intro _;conv=>whnf
   refine ⟨_,?_,D,A % D,cd,aK,(.sk 4 (.aa (.aa (.aa (.sk 21 .nil rfl)))) rfl),rfl,rfl,?_⟩
   ·omega
   ·exact ⟨⟨cD.2,by omega⟩,by rw [Nat.gcd_comm,← Nat.gcd_rec,Nat.gcd_comm]; exact hg⟩
 ·have h1:=Sp (of_decide_eq_false h1);subst h1;rw [Nat.gcd_zero_right] at hg;conv=>whnf
  refine ⟨(false,some (nl A,A,ca)),[1],rfl,⟨bV _,by omega⟩,?_⟩
  conv=>whnf
  refine ⟨aO.aW (fun h=>h) (fun r hr=>rfl),?_⟩
  conv=>whnf
  refine ⟨_,rfl,?_⟩;conv=>whnf
  show lW false A=aD ((Int.gcd (IV.z (b,s)) (IV.z (c,t)):Nat):Int)
  rw [jk,hg];unfold Int.gcd IV.z;rw [tU,tU]
  rfl
theorem aaR:bf Tryz.prog 134 iH:=by
 refine bk Pr aM Tryz.func134 (enters_of Tryz.func134 (by kernel_rfl) rfl) (fun _=>rfl) (fun _=>rfl) ?_
 intro ⟨⟨b,s⟩,⟨c,t⟩⟩ hp;have hp:s.size≤549755813888∧t.size≤549755813888:=hp;have g9:nl (ab s)≤137438953472:=IV.nl (i:=(b,s)) hp.1;have iB:nl (ab t)≤137438953472:=IV.nl (i:=(c,t)) hp.2;conv=>whnf
 refine ⟨t,[],rfl,by show t.size≤1099511627776; omega,?_⟩
 conv=>whnf
 refine ⟨_,rfl,?_⟩;conv=>whnf
 refine aI (fun h1=>?_) (fun h1=>?_)
 ·have h1:ab t=0:=by
   have h1:((nl (ab t):Nat):Int)=0:=by simpa using h1
   exact KQ (by omega)
  have hz:IV.z (c,t)=0:=E4.2 h1;conv=>whnf
  have e:Int.fdiv (IV.z (b,s)) 0=0:=Int.fdiv_zero _;simp only [iH,hz,e,if_true,wk]
  rfl
 ·have h1:ab t≠0:=by
   intro e;rw [e,rY] at h1;cases h1
  conv=>whnf
  refine ⟨s,[],rfl,by show s.size≤1099511627776; omega,?_⟩
  conv=>whnf
  refine ⟨_,rfl,?_⟩;conv=>whnf
  refine ⟨(ab s,aK,ab t,aK),[5,4],rfl,⟨⟨g9,iB⟩,h1⟩,by decide,?_⟩
  have pP:0 < ab t:=Nat.pos_of_ne_zero h1;rcases Nat.lt_or_ge (ab s) (ab t) with J | J
  ·rw [show gF.val (ab s,aK,ab t,aK)=.tuple ⟨[.slice none 0 0,one (ab s) aK]⟩ from if_pos J,show gF.new (ab s,aK,ab t,aK)=[] from if_pos J]
   have hQ:0=ab s / ab t:=(Nat.div_eq_of_lt J).symm;have hR:ab s=ab s % ab t:=(Nat.mod_eq_of_lt J).symm;conv=>whnf
   refine ⟨aO.aW (fun h=>h) (fun r hr=>rfl),?_⟩
   conv=>whnf
   refine ⟨aO.aW (fun h=>h) (fun r hr=>rfl),?_⟩
   conv=>whnf
   refine ⟨_,rfl,?_⟩;conv=>whnf
   refine .inl ⟨13,[[],[0],[],[2],[0,1,2,3],[],[0,1,2,3,4,5],[],[7],[],[0,1,2,3,4,5,6,7,8,9],[],[],[0,1,2,3,4,5,6,7,8,9,10,11,12],[0,1,2,3,4,5,6,7,8,9,10,11,12,13]],by kernel_rfl,?_⟩
   conv=>whnf
   refine ⟨(b != c,none),[],rfl,trivial,?_⟩;conv=>whnf
   skip
   conv=>whnf
   obtain ⟨qs,rD⟩:∃ qs,qs=nb (0):=⟨_,rfl⟩;obtain ⟨qb,re⟩:∃ qb:Bool,qb=((b != c) && (0) != 0):=⟨_,rfl⟩;obtain ⟨rs,iJ⟩:∃ rs,rs=nb (ab s):=⟨_,rfl⟩;obtain ⟨rb,vI⟩:∃ rb:Bool,rb=(b && (ab s) != 0):=⟨_,rfl⟩;refine ⟨.agg ⟨[.bool qb,.string qs]⟩,by rw [rD,re]; rfl,?_⟩
   conv=>whnf
   refine ⟨(b,some (nl (ab s),ab s,aK)),[5],rfl,⟨bV _,by omega⟩,?_⟩
   conv=>whnf
   refine ⟨aO.aW (fun h=>h) (fun r hr=>rfl),?_⟩
   conv=>whnf
   refine ⟨.agg ⟨[.bool rb,.string rs]⟩,by rw [iJ,vI]; rfl,?_⟩
   conv=>whnf
   have eQ:Value.agg ⟨[.bool qb,.string qs]⟩=aD (aY (b != c) (ab s / ab t)):=by rw [rD,re,← hQ]; exact jk _ _
   have eR:Value.agg ⟨[.bool rb,.string rs]⟩=aD (aY b (ab s % ab t)):=by rw [iJ,vI,← hR]; exact jk _ _
   have fin:∀ (q r:Value),q=aD (Int.fdiv (IV.z (b,s)) (IV.z (c,t)))→r=aD (Int.fmod (IV.z (b,s)) (IV.z (c,t)))→Value.tuple ⟨[q,r,.int .i64 0]⟩=iH.val ((b,s),(c,t)):=fun q r hq hr=>by
    have hz:IV.z (c,t)≠0:=fun e=>h1 (E4.1 e)
    simp only [iH,if_neg hz];rw [hq,hr]
   rcases Nat.eq_zero_or_pos (ab s) with h3 | h3
   ·rw [show (!rs.toList == (⟨#[]⟩:ByteArray).toList)=false by rw [iJ]; exact wF h3]
    conv=>whnf
    refine .inr (.inl ⟨(.br 0 (.br 1 (.br 2 (.br 3 (.br 4 .leaf .leaf) .leaf) .leaf) (.br 2 (.br 1 (.br 3 (.br 4 .leaf .leaf) .leaf) .leaf) .leaf)) (.br 1 (.br 0 (.br 2 (.br 3 (.br 4 .leaf .leaf) .leaf) .leaf) .leaf) .leaf)),by kernel_rfl,?_⟩)
    have f1:=wm (b:=b) (c:=c) pP (.inl (show ab s % ab t=0 by rw [← hR]; exact h3))
    repeat' ((conv=>whnf); first | exact True.intro | refine And.intro ?_ ?_)
    all_goals conv=>whnf
    all_goals exact fin _ _ (eQ.trans (congrArg aD f1.1.symm)) (eR.trans (congrArg aD f1.2.symm))
   ·rw [show (!rs.toList == (⟨#[]⟩:ByteArray).toList)=true by rw [iJ]; exact wN (Nat.ne_of_gt h3)]
    conv=>whnf
    refine aI (fun h4=>?_) (fun h4=>?_)
    ·conv=>whnf
     refine .inl ⟨5,[[],[],[0,1],[],[],[0,1,2,3,4],[0,1,2,3,4,5],[0,1,2,3,4,5,6]],by kernel_rfl,?_⟩
     conv=>whnf
     have h4:b≠c:=by
      intro e;subst e;cases b <;> cases h4
     have f1:=EA (b:=b) (c:=c) pP (show ab s % ab t≠0 by rw [← hR]; exact Nat.ne_of_gt h3) h4
     have DH:IV.z (qb,qs)=aY (b != c) (ab s / ab t):=by rw [rD,re,← hQ]; exact Cg _ _
     have pQ:IV.z (rb,rs)=aY b (ab s % ab t):=by rw [iJ,vI,← hR]; exact Cg _ _
     have sq:qs.size≤s.size:=by rw [rD,hQ]; exact A2 (Nat.div_le_self _ _)
     have sr:rs.size≤s.size:=by rw [iJ,hR]; exact A2 (Nat.mod_le _ _)
     have s1:=GI;refine ⟨(1:Int),rfl,⟨by decide,by decide⟩,?_⟩
     obtain ⟨v1,pL⟩:∃ v1,v1=nb 1:=⟨_,rfl⟩;rw [show eT.val (1:Int)=.agg ⟨[.bool false,.string v1]⟩ by rw [pL]; rfl]
     rw [← pL] at s1;conv=>whnf
     refine ⟨((qb,qs),(false,v1)),rfl,⟨by show qs.size≤_; omega,by show v1.size≤_; omega⟩,?_⟩
     obtain ⟨q2,fi⟩:∃ q2,q2=nb (IV.z (qb,qs) - IV.z (false,v1)).natAbs:=⟨_,rfl⟩;obtain ⟨b2,dC⟩:∃ b2:Bool,b2=decide (IV.z (qb,qs) - IV.z (false,v1) < 0):=⟨_,rfl⟩;rw [show mJ.val ((qb,qs),(false,v1))=.agg ⟨[.bool b2,.string q2]⟩ by rw [fi,dC]; rfl]
     conv=>whnf
     refine ⟨((rb,rs),(c,t)),rfl,⟨by show rs.size≤_; omega,hp.2⟩,?_⟩
     obtain ⟨q3,g8⟩:∃ q3,q3=nb (IV.z (rb,rs)+IV.z (c,t)).natAbs:=⟨_,rfl⟩;obtain ⟨b3,tc⟩:∃ b3:Bool,b3=decide (IV.z (rb,rs)+IV.z (c,t) < 0):=⟨_,rfl⟩;rw [show iW.val ((rb,rs),(c,t))=.agg ⟨[.bool b3,.string q3]⟩ by rw [g8,tc]; rfl]
     have e2:Value.agg ⟨[.bool b2,.string q2]⟩=aD (aY (b != c) (ab s / ab t) - 1):=by
      have:IV.z (false,v1)=1:=by rw [pL]; show aY false (ab (nb 1))=1; rw [ia]; rfl
      rw [fi,dC,DH,this]; rfl
     have e3:Value.agg ⟨[.bool b3,.string q3]⟩=aD (aY b (ab s % ab t)+aY c (ab t)):=by
      rw [g8,tc,pQ]; rfl
     conv=>whnf
     refine .inr (.inl ⟨(.br 0 (.br 1 (.br 2 (.br 3 (.br 4 .leaf .leaf) .leaf) .leaf) (.br 2 (.br 1 (.br 3 (.br 4 .leaf .leaf) .leaf) .leaf) .leaf)) (.br 1 (.br 0 (.br 2 (.br 3 (.br 4 .leaf .leaf) .leaf) .leaf) .leaf) .leaf)),by kernel_rfl,?_⟩)
     repeat' ((conv=>whnf); first | exact True.intro | refine And.intro ?_ ?_)
     all_goals conv=>whnf
     all_goals exact fin _ _ (e2.trans (congrArg aD f1.1.symm)) (e3.trans (congrArg aD f1.2.symm))
    ·conv=>whnf
     refine .inr (.inl ⟨(.br 0 (.br 1 (.br 2 (.br 3 (.br 4 .leaf .leaf) .leaf) .leaf) (.br 2 (.br 1 (.br 3 (.br 4 .leaf .leaf) .leaf) .leaf) .leaf)) (.br 1 (.br 0 (.br 2 (.br 3 (.br 4 .leaf .leaf) .leaf) .leaf) .leaf) .leaf)),by kernel_rfl,?_⟩)
     have h4:b=c:=by
      cases b <;> cases c <;> first | rfl | cases h4
     have f1:=wm (b:=b) (c:=c) (A:=ab s) pP (.inr h4)
     repeat' ((conv=>whnf); first | exact True.intro | refine And.intro ?_ ?_)
     all_goals conv=>whnf
     all_goals exact fin _ _ (eQ.trans (congrArg aD f1.1.symm)) (eR.trans (congrArg aD f1.2.symm))
  ·rw [show gF.val (ab s,aK,ab t,aK)=.tuple ⟨[lu 2 (ab s / ab t),lu 3 (ab s % ab t)]⟩ from if_neg (Nat.not_lt.2 J),show gF.new (ab s,aK,ab t,aK)=[dK (ab s / ab t),dK (ab s % ab t)] from if_neg (Nat.not_lt.2 J)]
   have hQ:ab s / ab t=ab s / ab t:=rfl;have hR:ab s % ab t=ab s % ab t:=rfl;conv=>whnf
   refine ⟨aO.aW (fun h=>h) (fun r hr=>rfl),?_⟩
   conv=>whnf
   refine ⟨aO.aW (fun h=>h) (fun r hr=>rfl),?_⟩
   conv=>whnf
   refine ⟨_,rfl,?_⟩;conv=>whnf
   refine .inl ⟨13,[[],[0],[],[2],[0,1,2,3],[],[0,1,2,3,4,5],[],[7],[],[0,1,2,3,4,5,6,7,8,9],[],[],[0,1,2,3,4,5,6,7,8,9,10,11,12],[0,1,2,3,4,5,6,7,8,9,10,11,12,13]],by kernel_rfl,?_⟩
   conv=>whnf
   refine ⟨(b != c,some (nl (ab s / ab t),ab s / ab t,aK)),[6],rfl,⟨bV _,by have:=lJ (Nat.div_le_self (ab s) (ab t)); omega⟩,?_⟩
   conv=>whnf
   refine ⟨aO.aW (fun h=>h) (fun r hr=>rfl),?_⟩
   conv=>whnf
   obtain ⟨qs,rD⟩:∃ qs,qs=nb (ab s / ab t):=⟨_,rfl⟩;obtain ⟨qb,re⟩:∃ qb:Bool,qb=((b != c) && (ab s / ab t) != 0):=⟨_,rfl⟩;obtain ⟨rs,iJ⟩:∃ rs,rs=nb (ab s % ab t):=⟨_,rfl⟩;obtain ⟨rb,vI⟩:∃ rb:Bool,rb=(b && (ab s % ab t) != 0):=⟨_,rfl⟩;refine ⟨.agg ⟨[.bool qb,.string qs]⟩,by rw [rD,re]; rfl,?_⟩
   conv=>whnf
   refine ⟨(b,some (nl (ab s % ab t),ab s % ab t,aK)),[7],rfl,⟨bV _,by have:=lJ (Nat.mod_le (ab s) (ab t)); omega⟩,?_⟩
   conv=>whnf
   refine ⟨aO.aW (fun h=>h) (fun r hr=>rfl),?_⟩
   conv=>whnf
   refine ⟨.agg ⟨[.bool rb,.string rs]⟩,by rw [iJ,vI]; rfl,?_⟩
   conv=>whnf
   have eQ:Value.agg ⟨[.bool qb,.string qs]⟩=aD (aY (b != c) (ab s / ab t)):=by rw [rD,re,← hQ]; exact jk _ _
   have eR:Value.agg ⟨[.bool rb,.string rs]⟩=aD (aY b (ab s % ab t)):=by rw [iJ,vI,← hR]; exact jk _ _
   have fin:∀ (q r:Value),q=aD (Int.fdiv (IV.z (b,s)) (IV.z (c,t)))→r=aD (Int.fmod (IV.z (b,s)) (IV.z (c,t)))→Value.tuple ⟨[q,r,.int .i64 0]⟩=iH.val ((b,s),(c,t)):=fun q r hq hr=>by
    have hz:IV.z (c,t)≠0:=fun e=>h1 (E4.1 e)
    simp only [iH,if_neg hz];rw [hq,hr]
   rcases Nat.eq_zero_or_pos (ab s % ab t) with h3 | h3
   ·rw [show (!rs.toList == (⟨#[]⟩:ByteArray).toList)=false by rw [iJ]; exact wF h3]
    conv=>whnf
    refine .inr (.inl ⟨(.br 0 (.br 1 (.br 2 (.br 3 (.br 4 .leaf .leaf) .leaf) .leaf) (.br 2 (.br 1 (.br 3 (.br 4 .leaf .leaf) .leaf) .leaf) .leaf)) (.br 1 (.br 0 (.br 2 (.br 3 (.br 4 .leaf .leaf) .leaf) .leaf) .leaf) .leaf)),by kernel_rfl,?_⟩)
    have f1:=wm (b:=b) (c:=c) pP (.inl (show ab s % ab t=0 by rw [← hR]; exact h3))
    repeat' ((conv=>whnf); first | exact True.intro | refine And.intro ?_ ?_)
    all_goals conv=>whnf
    all_goals exact fin _ _ (eQ.trans (congrArg aD f1.1.symm)) (eR.trans (congrArg aD f1.2.symm))
   ·rw [show (!rs.toList == (⟨#[]⟩:ByteArray).toList)=true by rw [iJ]; exact wN (Nat.ne_of_gt h3)]
    conv=>whnf
    refine aI (fun h4=>?_) (fun h4=>?_)
    ·conv=>whnf
     refine .inl ⟨5,[[],[],[0,1],[],[],[0,1,2,3,4],[0,1,2,3,4,5],[0,1,2,3,4,5,6]],by kernel_rfl,?_⟩
     conv=>whnf
     have h4:b≠c:=by
      intro e;subst e;cases b <;> cases h4
     have f1:=EA (b:=b) (c:=c) pP (show ab s % ab t≠0 by rw [← hR]; exact Nat.ne_of_gt h3) h4
     have DH:IV.z (qb,qs)=aY (b != c) (ab s / ab t):=by rw [rD,re,← hQ]; exact Cg _ _
     have pQ:IV.z (rb,rs)=aY b (ab s % ab t):=by rw [iJ,vI,← hR]; exact Cg _ _
     have sq:qs.size≤s.size:=by rw [rD,hQ]; exact A2 (Nat.div_le_self _ _)
     have sr:rs.size≤s.size:=by rw [iJ,hR]; exact A2 (Nat.mod_le _ _)
     have s1:=GI;refine ⟨(1:Int),rfl,⟨by decide,by decide⟩,?_⟩
     obtain ⟨v1,pL⟩:∃ v1,v1=nb 1:=⟨_,rfl⟩;rw [show eT.val (1:Int)=.agg ⟨[.bool false,.string v1]⟩ by rw [pL]; rfl]
     rw [← pL] at s1;conv=>whnf
     refine ⟨((qb,qs),(false,v1)),rfl,⟨by show qs.size≤_; omega,by show v1.size≤_; omega⟩,?_⟩
     obtain ⟨q2,fi⟩:∃ q2,q2=nb (IV.z (qb,qs) - IV.z (false,v1)).natAbs:=⟨_,rfl⟩;obtain ⟨b2,dC⟩:∃ b2:Bool,b2=decide (IV.z (qb,qs) - IV.z (false,v1) < 0):=⟨_,rfl⟩;rw [show mJ.val ((qb,qs),(false,v1))=.agg ⟨[.bool b2,.string q2]⟩ by rw [fi,dC]; rfl]
     conv=>whnf
     refine ⟨((rb,rs),(c,t)),rfl,⟨by show rs.size≤_; omega,hp.2⟩,?_⟩
     obtain ⟨q3,g8⟩:∃ q3,q3=nb (IV.z (rb,rs)+IV.z (c,t)).natAbs:=⟨_,rfl⟩;obtain ⟨b3,tc⟩:∃ b3:Bool,b3=decide (IV.z (rb,rs)+IV.z (c,t) < 0):=⟨_,rfl⟩;rw [show iW.val ((rb,rs),(c,t))=.agg ⟨[.bool b3,.string q3]⟩ by rw [g8,tc]; rfl]
     have e2:Value.agg ⟨[.bool b2,.string q2]⟩=aD (aY (b != c) (ab s / ab t) - 1):=by
      have:IV.z (false,v1)=1:=by rw [pL]; show aY false (ab (nb 1))=1; rw [ia]; rfl
      rw [fi,dC,DH,this]; rfl
     have e3:Value.agg ⟨[.bool b3,.string q3]⟩=aD (aY b (ab s % ab t)+aY c (ab t)):=by
      rw [g8,tc,pQ]; rfl
     conv=>whnf
     refine .inr (.inl ⟨(.br 0 (.br 1 (.br 2 (.br 3 (.br 4 .leaf .leaf) .leaf) .leaf) (.br 2 (.br 1 (.br 3 (.br 4 .leaf .leaf) .leaf) .leaf) .leaf)) (.br 1 (.br 0 (.br 2 (.br 3 (.br 4 .leaf .leaf) .leaf) .leaf) .leaf) .leaf)),by kernel_rfl,?_⟩)
     repeat' ((conv=>whnf); first | exact True.intro | refine And.intro ?_ ?_)
     all_goals conv=>whnf
     all_goals exact fin _ _ (e2.trans (congrArg aD f1.1.symm)) (e3.trans (congrArg aD f1.2.symm))
    ·conv=>whnf
     refine .inr (.inl ⟨(.br 0 (.br 1 (.br 2 (.br 3 (.br 4 .leaf .leaf) .leaf) .leaf) (.br 2 (.br 1 (.br 3 (.br 4 .leaf .leaf) .leaf) .leaf) .leaf)) (.br 1 (.br 0 (.br 2 (.br 3 (.br 4 .leaf .leaf) .leaf) .leaf) .leaf) .leaf)),by kernel_rfl,?_⟩)
     have h4:b=c:=by
      cases b <;> cases c <;> first | rfl | cases h4
     have f1:=wm (b:=b) (c:=c) (A:=ab s) pP (.inr h4)
     repeat' ((conv=>whnf); first | exact True.intro | refine And.intro ?_ ?_)
     all_goals conv=>whnf
     all_goals exact fin _ _ (eQ.trans (congrArg aD f1.1.symm)) (eR.trans (congrArg aD f1.2.symm))
open Go Go.Ae
theorem Bz:bf Tryz.prog 191 kX:=by
 refine bk l6 aM Tryz.func191 (enters_of Tryz.func191 (by kernel_rfl) rfl) (fun _=>rfl) (fun _=>rfl) ?_
 intro (s:ByteArray) (hs:s.size≤1099511627776);simp only [kX];conv=>whnf
 refine .inl ⟨fun mm tz hz=>∃ (u:ByteArray),bA (some (.string u)::aB 13 []) tz∧hz=[]∧u.size=mm∧(ab u=ab s∧u.size≤s.size),.inl ⟨_,s,(.aa (.sk 13 .nil rfl)),rfl,rfl,?_⟩,?_⟩
 ·exact ⟨rfl,Nat.le_refl _⟩
 rintro mm aS _ ⟨u,au,rfl,rfl,⟨hu,hle⟩⟩
 obtain ⟨az,rfl⟩:∃ az:Nat→Value,aS=.string u::zs az 1 13 []:=bJ au;clear au;conv=>whnf
 rcases Nat.eq_zero_or_pos u.size with h1 | h1
 ·rw [show decide (((u.size:Nat):Int) > 0)=false from decide_eq_false (by omega)]
  conv=>whnf
  rw [← hu,← yI (.inl h1)]
 ·rw [show decide (((u.size:Nat):Int) > 0)=true from decide_eq_true (by omega)]
  conv=>whnf
  refine ⟨⟨by omega,by omega⟩,?_⟩
  conv=>whnf
  refine aI (fun J=>?_) (fun J=>?_)
  ·have J:bX u 0=0:=by
    have J:((bX u 0:Nat):Int)=0:=by simpa using J
    omega
   obtain ⟨d1,d2⟩:=drop_zero (by omega) J
   conv=>whnf
   refine ⟨⟨by decide,by show (1:Int)≤((u.size:Nat):Int); omega,Int.le_refl _⟩,?_⟩
   conv=>whnf
   refine .inl ⟨_,?_,u.extract 1 u.size,(.aa (.sk 13 .nil rfl)),rfl,rfl,?_⟩
   ·rw [d2]; omega
   ·exact ⟨by rw [d1,hu],by rw [d2]; omega⟩
  ·have J:bX u 0≠0:=by
    intro h;have e:bX u (Int.toNat 0)=bX u 0:=rfl;rw [e,h] at J;simp at J
   conv=>whnf
   rw [← hu,← yI (.inr J)]
def Era:Env:=En [(191,.p kX)]
theorem zg:EnvOk Tryz.prog Era:=bI ⟨Bz,trivial⟩ trivial
theorem Fh:bf Tryz.prog 179 jm:=by
 refine bk zg aM Tryz.func179 (enters_of Tryz.func179 (by kernel_rfl) rfl) (fun _=>rfl) (fun _=>rfl) ?_
 intro ⟨b,s⟩ hp;have hp:s.size≤549755813888:=hp;obtain ⟨m,hm⟩:∃ m,m=nb (ab s):=⟨_,rfl⟩;have Ps:kX.val s=.string m:=by rw [hm]; rfl
 have fin:Value.agg ⟨[.bool (b && ab s != 0),.string m]⟩=aD (IV.z (b,s)):=by rw [hm]; exact jk b (ab s)
 conv=>whnf
 rcases Nat.eq_zero_or_pos s.size with h1 | h1
 ·rw [show decide ((((b,s).snd.size:Nat):Int) > 0)=false from decide_eq_false (by show ¬ (((s.size:Nat):Int) > 0); omega)]
  conv=>whnf
  refine ⟨s,rfl,by show s.size≤1099511627776; omega,?_⟩
  rw [Ps];cases b with
  | false =>
   conv=>whnf
   exact fin
  | true =>
   conv=>whnf
   refine Eq.trans ?_ fin;rw [hm];show Value.agg ⟨[.bool (!(nb (ab s)).toList == (⟨#[]⟩:ByteArray).toList),.string (nb (ab s))]⟩=_
   rw [Fz,Bool.true_and]
 ·rw [show decide ((((b,s).snd.size:Nat):Int) > 0)=true from decide_eq_true (by show (((s.size:Nat):Int) > 0); omega)]
  conv=>whnf
  refine ⟨⟨by decide,by show (0:Int) < ((s.size:Nat):Int); omega⟩,?_⟩
  conv=>whnf
  refine aI (fun J=>?_) (fun J=>?_)
  ·have J:bX s 0≠0:=by
    intro h;have e:bX (b,s).snd (Int.toNat 0)=bX s 0:=rfl;rw [e,h] at J;simp at J
   conv=>whnf
   exact TO h1 J
  ·conv=>whnf
   refine ⟨s,rfl,by show s.size≤1099511627776; omega,?_⟩
   rw [Ps];cases b with
   | false =>
    conv=>whnf
    exact fin
   | true =>
    conv=>whnf
    refine Eq.trans ?_ fin;rw [hm];show Value.agg ⟨[.bool (!(nb (ab s)).toList == (⟨#[]⟩:ByteArray).toList),.string (nb (ab s))]⟩=_
    rw [Fz,Bool.true_and]
theorem Fi:bf Tryz.prog 193 km:=by
 refine bk zg aM Tryz.func193 (enters_of Tryz.func193 (by kernel_rfl) rfl) (fun _=>rfl) (fun _=>rfl) ?_
 intro (s:ByteArray) (hp:s.size≤7);conv=>whnf
 refine .inl ⟨fun mm tz hz=>∃ (i:Nat) (N:Nat),bA (some (.string s)::aB 2 (some (.int .i64 N)::some (.int .i64 i)::aB 14 [])) tz∧hz=[]∧s.size - i=mm∧(i≤s.size∧N=ab s / C ^ (s.size - i)),.inl ⟨_,0,0,(.aa (.sk 2 (.aa (.aa (.sk 14 .nil rfl))) rfl)),rfl,rfl,?_⟩,?_⟩
 ·exact ⟨Nat.zero_le _,by rw [Nat.sub_zero,Nat.div_eq_of_lt (gu s)]⟩
 rintro mm aS _ ⟨i,N,au,rfl,rfl,⟨hi,hN⟩⟩
 obtain ⟨az,rfl⟩:∃ az:Nat→Value,aS=.string s::zs az 1 2 (.int .i64 N::.int .i64 i::zs az 5 14 []):=bJ au;clear au;have mS:=Ch s hi;rw [← hN] at mS;have ak:=Nat.lt_of_lt_of_le mS (ob (show i≤7 by omega))
 conv=>whnf
 refine aI (fun J=>?_) (fun J=>?_)
 ·have J:i < s.size:=by simpa using J
  have ao:=yo J;rw [← hN] at ao;have hb:bX s i < 256:=wj s i;have e3:IntKind.i64.wrap (((i:Nat):Int)+1)=((i+1:Nat):Int):=by rw [ar (by omega) (by omega)]; rfl
  have Jd:=Nat.lt_of_lt_of_le mS (CY (show i≤6 by omega))
  conv=>whnf
  refine ⟨⟨by omega,by omega⟩,?_⟩
  simp only [toNat_cast];conv=>whnf
  rw [Mp (by omega) hb,e3]
  refine .inl ⟨_,?_,i+1,N*256+bX s i,(.aa (.sk 2 (.aa (.aa (.sk 14 .nil rfl))) rfl)),rfl,rfl,?_⟩
  ·omega
  ·exact ⟨by omega,ao.symm⟩
 ·have J:i=s.size:=by
   have J:¬ i < s.size:=by simpa using J
   omega
  subst J;rw [Nat.sub_self,Nat.pow_zero,Nat.div_one] at hN;subst hN;conv=>whnf
  rfl
def Erb:Env:=En [(193,.p km)]
theorem abS:EnvOk Tryz.prog Erb:=bI ⟨Fi,trivial⟩ trivial
theorem Ui:bf Tryz.prog 181 xc:=by
 refine bk abS aM Tryz.func181 (enters_of Tryz.func181 (by kernel_rfl) rfl) (fun _=>rfl) (fun _=>rfl) ?_
 intro ⟨b,s⟩ hp;have hp:s.size≤7:=hp;have ak:=Nat.lt_of_lt_of_le (gu s) (ob hp);cases b with
 | true =>
  conv=>whnf
  refine ⟨s,rfl,hp,?_⟩;conv=>whnf
  rw [ar (by omega) (by omega)]
  show Value.int .i64 (0 - (ab s:Int))=.int .i64 (-(ab s:Int))
  rw [Int.zero_sub]
 | false =>
  conv=>whnf
  refine ⟨s,rfl,hp,?_⟩;conv=>whnf
  rfl
theorem Yn:bf Tryz.prog 177 HR:=by
 refine bk l6 aM Tryz.func177 (enters_of Tryz.func177 (by kernel_rfl) rfl) (fun _=>rfl) (fun _=>rfl) ?_
 intro (n:Nat) (hp:n < 9223372036854775808);conv=>whnf
 refine aI (fun h1=>?_) (fun h1=>?_)
 ·have h1:n < 256:=by
   have:=of_decide_eq_true h1;omega
  conv=>whnf
  refine aI (fun J=>?_) (fun J=>?_)
  ·have J:n=0:=by
    have J:((n:Nat):Int)=0:=by simpa using J
    omega
   subst J;conv=>whnf
   show Value.string ⟨#[]⟩=.string (nb 0)
   rw [oS]
  ·have J:n≠0:=by
    intro e;subst e;simp at J
   conv=>whnf
   rw [qm];refine ⟨⟨Nat.le_refl _,fun r hr=>by
    have h0:r=0:=by
     have hr:r < 1:=hr;omega
    subst h0;exact ⟨_,rfl⟩⟩,?_⟩
   have e:=D0 (g:=fun r=>[[Value.int .u8 ((n % C:Nat):Int)]].getD r []) (i:=0) (m:=1) (X:=n) (fun r hr=>by
    have:r=0:=by omega
    subst this;show [Value.int .u8 ((n % C:Nat):Int)]=[Value.int .u8 ((n / C ^ 0 % C:Nat):Int)]
    rw [Nat.pow_zero,Nat.div_one])
   conv=>whnf
   show _=Value.string (nb n)
   rw [xt (N:=n) (n:=1) h1 (.inr (by show 1≤n; omega)),← e]
   rfl
 ·have h1:256≤n:=by
   have:=of_decide_eq_false h1;omega
  conv=>whnf
  refine .inl ⟨fun mm tz hz=>∃ (i:Nat) (m:Nat) (g:Nat→List Value),bA (some (.int .i64 m)::aB 2 (some (.pointer (some ⟨0,0,none⟩))::some (.int .i64 i)::aB 21 [])) tz∧hz=[some (.flat true 8 1 g)]∧m=mm∧((i≤8∧m=n / C ^ (8 - i))∧(i=8∨C ^ (8 - i - 1)≤n)∧(∀ r,i≤r→r < 8→g r=[.int .u8 ((n / C ^ (7 - r) % C:Nat):Int)])∧(∀ r,r < 8→∃ x:Int,g r=[.int .u8 x])),.inl ⟨_,8,n,_,(.aa (.sk 2 (.aa (.aa (.sk 21 .nil rfl))) rfl)),rfl,rfl,?_⟩,?_⟩
  ·exact ⟨⟨Nat.le_refl _,by simp⟩,.inl rfl,fun r h1 J=>absurd h1 (by omega),fun r hr=>⟨0,rfl⟩⟩
  rintro mm aS _ ⟨i,m,g,au,rfl,rfl,⟨⟨hi,hm⟩,ho,hg,cW⟩⟩
  obtain ⟨az,rfl⟩:∃ az:Nat→Value,aS=.int .i64 m::zs az 1 2 (.pointer (some ⟨0,0,none⟩)::.int .i64 i::zs az 5 21 []):=bJ au;clear au;conv=>whnf
  refine aI (fun J=>?_) (fun J=>?_)
  ·have J:0 < m:=by
    have:=of_decide_eq_true J;omega
   have gz:0 < i:=by
    rcases Nat.eq_zero_or_pos i with h | h
    ·subst h;rw [hm] at J;rw [Pb hp] at J;exact absurd J (by decide)
    ·exact h
   obtain ⟨i,rfl⟩:∃ i',i=i'+1:=⟨i - 1,by omega⟩
   have ei:IntKind.i64.wrap (((i+1:Nat):Int) - 1)=((i:Nat):Int):=by rw [ar (by omega) (by omega)]; omega
   have eU:m / 256=n / C ^ (8 - i):=by
    rw [hm,D1,show 8 - (i+1)+1=8 - i by omega]
   have H8:C ^ (8 - (i+1))≤n:=by
    rcases Nat.lt_or_ge n (C ^ (8 - (i+1))) with h | h
    ·rw [hm,Nat.div_eq_of_lt h] at J;exact absurd J (by decide)
    ·exact h
   conv=>whnf
   simp only [ei];refine ⟨⟨by omega,by omega⟩,?_⟩
   simp only [toNat_cast,ax,Nat.zero_add];conv=>whnf
   refine ⟨by show i < 8; omega,?_⟩
   conv=>whnf
   obtain ⟨x,hx⟩:=cW i (by omega)
   rw [hx];conv=>whnf
   rw [qm,c0,show ((m:Nat):Int) / 256=((m / 256:Nat):Int) from rfl]
   refine .inl ⟨_,?_,i,m / 256,_,(.aa (.sk 2 (.aa (.aa (.sk 21 .nil rfl))) rfl)),rfl,rfl,?_⟩
   ·omega
   ·refine ⟨⟨by omega,eU⟩,.inr (by rw [show 8 - i - 1=8 - (i+1) by omega]; exact H8),fun r iA e9=>?_,fun r hr=>?_⟩
    rotate_left
    ·by_cases he:r=i
     ·exact ⟨_,if_pos he⟩
     ·rw [if_neg he]; exact cW r hr
    by_cases he:r=i
    ·subst he;rw [if_pos rfl,hm,show 7 - r=8 - (r+1) by omega]
    ·rw [if_neg he];exact hg r (by omega) e9
  ·have J:m=0:=by
    have:=of_decide_eq_false J;omega
   have ak:n < C ^ (8 - i):=by
    rw [J] at hm;have h3:=Nat.mod_lt n (gQ (8 - i));have h4:=Nat.mod_add_div n (C ^ (8 - i));rw [← hm,Nat.mul_zero,Nat.add_zero] at h4;rw [← h4]; exact h3
   obtain ⟨k,hk⟩:∃ k,8 - i=k+1:=⟨8 - i - 1,by
    rcases Nat.eq_zero_or_pos (8 - i) with h | h
    ·rw [h,Nat.pow_zero] at ak; omega
    ·omega⟩
   rw [hk] at ak;have ho:C ^ k≤n:=by
    rcases ho with h | h
    ·omega
    ·rw [show 8 - i - 1=k by omega] at h; exact h
   have e:=D0 (g:=g) (i:=i) (m:=k+1) (X:=n) (fun r hr=>by
    rw [hg (i+r) (by omega) (by omega),show 7 - (i+r)=k+1 - 1 - r by omega])
   conv=>whnf
   refine ⟨⟨by omega,by omega,Int.le_refl _,Nat.le_refl _,rfl⟩,?_⟩
   simp only [toNat_cast,ax,Nat.zero_add,hk];conv=>whnf
   refine ⟨⟨by show i+(k+1)≤8; omega,fun r hr=>cW (i+r) (by omega)⟩,?_⟩
   conv=>whnf
   show Value.string ⟨⟨bytesOf g i (k+1)⟩⟩=Value.string (nb n)
   rw [e,xt ak (.inr ho)]
theorem EJ:bf Tryz.prog 180 r4:=by
 refine bk l6 aM Tryz.func180 (enters_of Tryz.func180 (by kernel_rfl) rfl) (fun _=>rfl) (fun _=>rfl) ?_
 intro ⟨A,D⟩ hp;have hp:aQ A≤1099511627776∧aQ D≤1099511627776:=hp;simp only [r4];obtain ⟨a,ha⟩:∃ a,a=nb A:=⟨_,rfl⟩;obtain ⟨d,hd⟩:∃ d,d=nb D:=⟨_,rfl⟩;rw [← ha,← hd];have l1:a.size=d.size→Op.bytesLess a.toList d.toList=decide (A < D):=fun h=>by rw [ha,hd] at h ⊢; exact TP h
 have l2:(a.toList == d.toList)=decide (A=D):=by rw [ha,hd]; exact TQ
 have l3:a.size < d.size→A < D:=fun h=>by rw [ha,hd] at h; exact LG h
 have l4:d.size < a.size→D < A:=fun h=>by rw [ha,hd] at h; exact LG h
 conv=>whnf
 refine aI (fun h1=>?_) (fun h1=>?_)
 ·have h1:a.size≠d.size:=by
   intro e;rw [e] at h1;simp at h1
  conv=>whnf
  refine aI (fun J=>?_) (fun J=>?_)
  ·have J:=l3 (by have:=of_decide_eq_true J; omega)
   conv=>whnf
   rw [cM,if_pos J]
  ·have J:=l4 (by have:=of_decide_eq_false J; omega)
   conv=>whnf
   rw [cM,if_neg (by omega),if_pos J]
 ·have h1:a.size=d.size:=by
   have h1:((a.size:Nat):Int)=((d.size:Nat):Int):=by simpa using h1
   omega
  conv=>whnf
  rw [l1 h1];refine aI (fun J=>?_) (fun J=>?_)
  ·have J:=of_decide_eq_true J;conv=>whnf
   rw [cM,if_pos J]
  ·have J:=of_decide_eq_false J;conv=>whnf
   rw [l1 h1,l2];refine aI (fun h3=>?_) (fun h3=>?_)
   ·have h3:D < A:=by
     simp [J] at h3;omega
    conv=>whnf
    rw [cM,if_neg J,if_pos h3]
   ·have h3:A=D:=by
     simpa [J] using h3
    conv=>whnf
    subst h3;rw [cM,if_neg J,if_neg J]
end Go.Proofs.YtlapbjdhekcipaaGreat
