import Derived.Test.YtlapbjdhekcipaaGreatHF
set_option linter.unusedVariables false
set_option linter.unusedSimpArgs false
set_option maxRecDepth 20000
set_option maxHeartbeats 4000000
namespace Go.Proofs.YtlapbjdhekcipaaGreat
open Go Go.Ae
def Eg:Env:=En [(167,.p lG),(197,.p uU)]
theorem aft:EnvOk Tryz.prog Eg:=bF ⟨N7,Xv,trivial⟩ trivial
theorem XD:gj Tryz.prog 186 (AY xK):=by
 refine Pb aft aN Tryz.func186 (enters_of Tryz.func186 (by kernel_rfl) rfl) ?_
 intro ⟨X,m,cx,D,cd,j⟩ hp;have hp:m≤137438953473∧2≤nl D∧2147483648≤an D (nl D - 1)∧j+nl D < m∧X < D*B ^ (j+1):=hp;obtain ⟨n,hn⟩:∃ n,n=nl D - 2:=⟨_,rfl⟩;obtain ⟨n1,AF⟩:∃ n1,n1=nl D - 1:=⟨_,rfl⟩;obtain ⟨n2,bM⟩:∃ n2,n2=nl D:=⟨_,rfl⟩;rw [← AF,← bM] at hp;have hn:n2=n+2∧n1=n+1:=by omega
 have I9:=cH X (j+n2);have Q1:=cH X (j+n1);have Ja:=cH X (j+n);have At:=cH D n1;have Q5:=cH D n;have hB:B=4294967296:=rfl;conv=>whnf
 refine .inl ⟨16,[[],[],[],[1,2],[0,1,2,3],[0,1,2,3,4],[0,1,2,3,4,5],[0,1,2,3,4,5,6],[],[],[],[9,10],[9,10,11],[8,9,10,11,12],[8,9,10,11,12,13],[8,9,10,11,12,13,14],[0,1,2,3,4,5,6,7,8,9,10,11,12,13,14,15],[0,1,2,3,4,5,6,7,8,9,10,11,12,13,14,15,16]],by kernel_rfl,?_⟩
 conv=>whnf
 rw [← bM];have e1:IntKind.i64.wrap (((j:Nat):Int)+((n2:Nat):Int))=((j+n2:Nat):Int):=by rw [ax (by omega) (by omega)]; omega
 have e2:IntKind.i64.wrap (((j+n2:Nat):Int) - 1)=((j+n1:Nat):Int):=by rw [ax (by omega) (by omega)]; omega
 have e3:IntKind.i64.wrap (((j+n2:Nat):Int) - 2)=((j+n:Nat):Int):=by rw [ax (by omega) (by omega)]; omega
 have e4:IntKind.i64.wrap (((n2:Nat):Int) - 1)=((n1:Nat):Int):=by rw [ax (by omega) (by omega)]; omega
 have e5:IntKind.i64.wrap (((n2:Nat):Int) - 2)=((n:Nat):Int):=by rw [ax (by omega) (by omega)]; omega
 simp only [e1];refine ⟨⟨by omega,by omega⟩,?_⟩
 simp only [toNat_cast,aw,Nat.zero_add];conv=>whnf
 refine ⟨by show j+n2 < m; omega,?_⟩
 conv=>whnf
 simp only [e1,e2];refine ⟨⟨by omega,by omega⟩,?_⟩
 simp only [toNat_cast,aw,Nat.zero_add];conv=>whnf
 refine ⟨by show j+n1 < m; omega,?_⟩
 conv=>whnf
 have ku:∀ l:Nat,l < B→IntKind.u64.wrap ((l:Nat):Int)=(l:Int):=fun l hl=>bK (by omega) (by omega)
 have rn:∀ l:Nat,l < B→IntKind.u64.wrap ((l:Int)*4294967296)=(l:Int)*4294967296:=fun l hl=>bK (by omega) (by omega)
 simp only [ku _ I9,ku _ Q1,dz,rn _ I9,dA _ _ I9 Q1];obtain ⟨top,vz⟩:∃ top,top=an X (j+n2)*4294967296+an X (j+n1):=⟨_,rfl⟩;have afu:((an X (j+n2):Nat):Int)*4294967296+((an X (j+n1):Nat):Int)=(top:Int):=by omega
 simp only [afu];obtain ⟨d1,c8⟩:∃ d1,d1=an D n1:=⟨_,rfl⟩;obtain ⟨d0,fE⟩:∃ d0,d0=an D n:=⟨_,rfl⟩;have hp3:2147483648≤d1:=by rw [c8]; exact hp.2.2.1
 have afS:d1 < 4294967296:=by rw [c8]; exact At
 have D7:d0 < 4294967296:=by rw [fE]; exact Q5
 have Io:top < 18446744073709551616:=by omega
 refine .inl ⟨17,[[],[],[],[2],[1,2,3],[1,2,3,4],[1,2,3,4,5],[0,1,2,3,4,5,6],[],[],[],[10],[9,10,11],[9,10,11,12],[9,10,11,12,13],[8,9,10,11,12,13,14],[0,1,2,3,4,5,6,7],[0,1,2,3,4,5,6,7,8,9,10,11,12,13,14,15,16]],by kernel_rfl,?_⟩
 conv=>whnf
 simp only [e4];refine ⟨⟨by omega,by omega⟩,?_⟩
 simp only [toNat_cast,aw,Nat.zero_add];conv=>whnf
 refine ⟨by show n1 < nl D; omega,?_⟩
 conv=>whnf
 simp only [ku _ At];rw [← c8];have aD:decide ((d1:Int)≠0)=true:=decide_eq_true (by omega)
 rw [aD];conv=>whnf
 simp only [e4];refine ⟨⟨by omega,by omega⟩,?_⟩
 simp only [toNat_cast,aw,Nat.zero_add];conv=>whnf
 refine ⟨by show n1 < nl D; omega,?_⟩
 conv=>whnf
 simp only [ku _ At];rw [← c8,aD];conv=>whnf
 obtain ⟨w0,J8⟩:∃ w0,w0=an X (j+n):=⟨_,rfl⟩;rw [← J8] at Ja;obtain ⟨Q,hQ⟩:∃ Q,Q=X / B ^ j / D:=⟨_,rfl⟩;obtain ⟨q0,v7⟩:∃ q0,q0=top / d1:=⟨_,rfl⟩;have F:=aaS bM hn.1 hn.2 hp.2.2.1 hp.2.2.2.2 vz c8 fE J8 hQ v7;clear hQ;obtain ⟨nI,hp4⟩:m≤137438953473∧j+n2 < m:=⟨hp.1,hp.2.2.2.1⟩;clear hp;have fq3:q0≤4294967297:=F.RM;have eq0:IntKind.u64.wrap ((q0:Nat):Int)=((q0:Nat):Int):=bK (by omega) (by omega)
 simp only [Gt,Nx];rw [← v7,eq0];refine .inl ⟨fun mm tz hz=>∃ (q:Nat) (r:Nat),bw (some (.slice (some ⟨0,0,none⟩) m cx)::some (.slice (some ⟨1,0,none⟩) n2 cd)::some (.int .i64 j)::aF 3 (some (.int .u32 0)::some (.int .i64 n2)::aF 1 (some (.int .u64 q)::some (.int .u64 r)::aF 183 []))) tz∧hz=[some (.flat true m 1 (bn X)),some (dT D)]∧q=mm∧(q*d1+r=top∧Q≤q∧q≤4294967297),.inr ⟨[0,1],[0,1,2,6,7,9,10],?_⟩,?_⟩
 ·conv=>whnf
  intro _;conv=>whnf
  refine ⟨_,q0,top % d1,(.aa (.aa (.aa (.sk 3 (.aa (.aa (.sk 1 (.aa (.aa (.sk 183 .nil rfl))) rfl))) rfl)))),rfl,rfl,?_⟩;exact ⟨by rw [v7,Nat.mul_comm]; exact Nat.div_add_mod top d1,F.fq,F.RM⟩
 rintro mm aV _ ⟨q,r,aA,rfl,rfl,⟨he,EP,dW⟩⟩
 obtain ⟨az,rfl⟩:∃ az:Nat→Value,aV=.slice (some ⟨0,0,none⟩) m cx::.slice (some ⟨1,0,none⟩) n2 cd::.int .i64 j::zs az 3 3 (.int .u32 0::.int .i64 n2::zs az 8 1 (.int .u64 q::.int .u64 r::zs az 11 183 [])):=bI aA;clear aA;have hr:r < 18446744073709551616:=Nat.lt_of_le_of_lt (Nat.le_trans (Nat.le_add_left _ _) (Nat.le_of_eq he)) Io;refine .inl ⟨27,[[],[0],[0,1],[0,1,2],[0,1,2,3],[0,1,2,3,4],[0,1,2,3,4,5],[0,1,2,3,4,5,6],[0,1,2,3,4,5,6,7],[0,1,2,3,4,5,6,7],[0,1,2,3,4,5,6,7],[0,1,2,3,4,5,6,7,10],[0,1,2,3,4,5,6,7,9,10,11],[0,1,2,3,4,5,6,7,9,10,11,12],[0,1,2,3,4,5,6,7,9,10,11,12,13],[0,1,2,3,4,5,6,7,8,9,10,11,12,13,14],[0,1,2,3,4,5,6,7],[0,1,2,3,4,5,6,7,16],[0,1,2,3,4,5,6,7],[0,1,2,3,4,5,6,7],[0,1,2,3,4,5,6,7],[0,1,2,3,4,5,6,7,19,20],[0,1,2,3,4,5,6,7,19,20,21],[0,1,2,3,4,5,6,7,18,19,20,21,22],[0,1,2,3,4,5,6,7,18,19,20,21,22,23],[0,1,2,3,4,5,6,7,18,19,20,21,22,23,24],[0,1,2,3,4,5,6,7,16,17,18,19,20,21,22,23,24,25],[0,1,2,3,4,5,6,7,8,9,10,11,12,13,14,15,16,17,18,19,20,21,22,23,24,25,26],[0,1,2,3,4,5,6,7,8,9,10,11,12,13,14,15,16,17,18,19,20,21,22,23,24,25,26,27],[0,1,2,3,4,5,6,7,8,9,10,11,12,13,14,15,16,17,18,19,20,21,22,23,24,25,26,27,28]],by kernel_rfl,?_⟩
 conv=>whnf
 simp only [cf,jP];rcases Nat.lt_or_ge q 4294967296 with yE | yE
 ·rw [show decide (((q / B:Nat):Int) > 0)=false from decide_eq_false (by show ¬ (((q / 4294967296:Nat):Int) > 0); omega)]
  conv=>whnf
  simp only [cf,jP];have pI:q*d0≤r*B+w0∨B≤r→q≤Q+1:=fun h=>by
   rw [F.fQ];exact G1 (eF n) F.fW F.fD he yE F.fP D7 h.symm
  rcases Nat.lt_or_ge r 4294967296 with mj | mj
  ·rw [show (((((r / B:Nat):Int) == 0):Bool))=true by show decide (((r / 4294967296:Nat):Int)=0)=true; exact decide_eq_true (by omega)]
   conv=>whnf
   simp only [e5];refine ⟨⟨by omega,by omega⟩,?_⟩
   simp only [toNat_cast,aw,Nat.zero_add];conv=>whnf
   refine ⟨by show n < nl D; omega,?_⟩
   conv=>whnf
   simp only [ku _ Q5];rw [← fE,(adt dW D7).1];simp only [e1,e3];obtain ⟨vq,cY⟩:∃ v,v=Value.int .u64 ((q*d0:Nat):Int):=⟨_,rfl⟩;rw [← cY];refine ⟨⟨by omega,by omega⟩,?_⟩
   simp only [toNat_cast,aw,Nat.zero_add];conv=>whnf
   refine ⟨by show j+n < m; omega,?_⟩
   conv=>whnf
   rw [← J8];simp only [ku _ Ja,dz,rn r mj,dA _ _ mj Ja];rw [show ((r:Nat):Int)*4294967296+((w0:Nat):Int)=((r*4294967296+w0:Nat):Int) by omega]
   obtain ⟨qd,rP⟩:∃ qd,qd=q*d0:=⟨_,rfl⟩;obtain ⟨Ba,Jb⟩:∃ Ba,Ba=r*4294967296+w0:=⟨_,rfl⟩;rw [cY,← rP,← Jb];conv=>whnf
   rcases Nat.lt_or_ge Ba qd with ID | afT
   ·rw [show decide ((qd:Int) > (Ba:Int))=true from decide_eq_true (by omega)]
    have al:Q < q:=by
     rw [F.fQ];refine WI F.A2 (eF n) F.fW F.fD he ?_;rw [← rP];show r*4294967296+w0 < qd
     omega
    clear cY rP Jb ID;conv=>whnf
    have ep:IntKind.u64.wrap ((q:Int) - 1)=((q - 1:Nat):Int):=by rw [bK (by omega) (by omega)]; omega
    have cg:(q - 1)*d1+(r+d1)=top:=by
     have h1:(q - 1)*d1+d1=q*d1:=by
      conv=>rhs; rw [show q=(q - 1)+1 by omega,Nat.add_mul,Nat.one_mul]
     omega
    have fk:r+d1 < 18446744073709551616:=Nat.lt_of_le_of_lt (Nat.le_trans (Nat.le_add_left _ _) (Nat.le_of_eq cg)) Io;have er:IntKind.u64.wrap ((r:Int)+(d1:Int))=((r+d1:Nat):Int):=by rw [bK (by omega) (by omega)]; omega
    simp only [ep,e4];refine ⟨⟨by omega,by omega⟩,?_⟩
    simp only [toNat_cast,aw,Nat.zero_add];conv=>whnf
    refine ⟨by show n1 < nl D; omega,?_⟩
    conv=>whnf
    simp only [ku _ At];rw [← c8,er];simp only [cf,jP];rcases Nat.lt_or_ge (r+d1) 4294967296 with mj | mj
    ·rw [show decide ((((r+d1) / B:Nat):Int) > 0)=false from decide_eq_false (by show ¬ ((((r+d1) / 4294967296:Nat):Int) > 0); omega)]
     conv=>whnf
     refine .inr ⟨[0,1],[0,1,2,6,7,9,10],?_⟩;conv=>whnf
     intro _;conv=>whnf
     refine ⟨_,?_,q - 1,r+d1,(.aa (.aa (.aa (.sk 3 (.aa (.aa (.sk 1 (.aa (.aa (.sk 183 .nil rfl))) rfl))) rfl)))),rfl,rfl,?_⟩
     ·omega
     ·exact ⟨cg,by omega,by omega⟩
    ·rw [show decide ((((r+d1) / B:Nat):Int) > 0)=true from decide_eq_true (by show ((((r+d1) / 4294967296:Nat):Int) > 0); omega)]
     conv=>whnf
     simp only [cf,jP];rcases Nat.lt_or_ge (q - 1) 4294967296 with vG | vG
     ·rw [show (((((q - 1) / B:Nat):Int) == 0):Bool)=true by show decide ((((q - 1) / 4294967296:Nat):Int)=0)=true; exact decide_eq_true (by omega)]
      conv=>whnf
      obtain ⟨qt,oG⟩:∃ qt,qt=q - 1:=⟨_,rfl⟩;have hT:qt < 4294967296∧Q≤qt∧qt≤Q+1:=by
       have h3:q - 1≤X / B ^ j / D+1:=G1 (eF n) F.fW F.fD cg vG F.fP D7 (.inl mj);rw [← F.fQ] at h3;omega
      rw [← oG];clear yE vG al ep cg fk er mj he hr EP dW oG;conv=>whnf
      refine .inl ⟨fun mm tz hz=>∃ (i:Nat) (c:Nat) (b:Nat) (Z:Nat),bw (some (.slice (some ⟨0,0,none⟩) m cx)::some (.slice (some ⟨1,0,none⟩) n2 cd)::some (.int .i64 j)::aF 3 (some (.int .u32 0)::some (.int .i64 n2)::aF 1 (some (.int .u64 qt)::aF 1 (some (.int .u64 c)::some (.int .u32 b)::aF 88 (some (.slice (some ⟨1,0,none⟩) n2 cd)::some (.int .i64 n2)::some (.int .i64 i)::aF 90 []))))) tz∧hz=[some (.flat true m 1 (bn Z)),some (dT D)]∧n2 - i=mm∧((i≤n2∧c < 4294967296∧b≤1)∧Z < B ^ (j+n2+1)∧Z+qt*(D % B ^ i)*B ^ j=X+(b+c)*B ^ (j+i)),.inr ⟨[0,1],[0,1,2,6,7,9,11,12,101,102,103],?_⟩,?_⟩
      ·conv=>whnf
       intro _;conv=>whnf
       refine ⟨_,0,0,0,X,(.aa (.aa (.aa (.sk 3 (.aa (.aa (.sk 1 (.aa (.sk 1 (.aa (.aa (.sk 88 (.aa (.aa (.aa (.sk 90 .nil rfl)))) rfl))) rfl)) rfl))) rfl)))),rfl,rfl,?_⟩;exact ⟨⟨Nat.zero_le _,by decide,by decide⟩,F.fX,by simp [Nat.mod_one]⟩
      rintro mm aV _ ⟨i,c,b,Z,aA,rfl,rfl,⟨⟨hi,hc,hb⟩,hZ,he⟩⟩
      obtain ⟨az,rfl⟩:∃ az:Nat→Value,aV=.slice (some ⟨0,0,none⟩) m cx::.slice (some ⟨1,0,none⟩) n2 cd::.int .i64 j::zs az 3 3 (.int .u32 0::.int .i64 n2::zs az 8 1 (.int .u64 qt::zs az 10 1 (.int .u64 c::.int .u32 b::zs az 13 88 (.slice (some ⟨1,0,none⟩) n2 cd::.int .i64 n2::.int .i64 i::zs az 104 90 [])))):=bI aA;clear aA;conv=>whnf
      refine aM (fun h1=>?_) (fun h1=>?_)
      ·have h1:i < n2:=by simpa using h1
       conv=>whnf
       refine ⟨⟨by omega,by omega⟩,?_⟩
       simp only [toNat_cast,aw,Nat.zero_add];conv=>whnf
       refine ⟨by show i < nl D; omega,?_⟩
       conv=>whnf
       obtain ⟨x,hx⟩:∃ x,x=an D i:=⟨_,rfl⟩;obtain ⟨l,hl⟩:∃ l,l=an Z (j+i):=⟨_,rfl⟩;obtain ⟨t,ht⟩:∃ t,t=c+qt*an D i:=⟨_,rfl⟩;have iD:x < B:=by rw [hx]; exact cH D i
       have fa:l < 4294967296:=by rw [hl]; exact cH Z (j+i)
       obtain ⟨hv,fJ⟩:=Co (t:=t) hc hT.1 iD (by rw [hx]; exact ht)
       have oH:t % B < 4294967296:=Nat.mod_lt _ (by decide)
       obtain ⟨d,hd⟩:∃ d,d=(l+2*4294967296 - t % B - b) % 4294967296:=⟨_,rfl⟩;obtain ⟨b',bE⟩:∃ b',b'=if l < t % B+b then 1 else 0:=⟨_,rfl⟩
       have dO:d < 4294967296:=by rw [hd]; exact Nat.mod_lt _ (by decide)
       have ar:=BZ (i:=i) (j:=j) (d:=d) (b':=b') he ht (by
        rw [← hl,bE,hB,← hB];clear he hZ ht hv;obtain ⟨u,hu⟩:∃ u,u=t % B:=⟨_,rfl⟩;rw [← hu] at hd oH ⊢
        split <;> omega)
       have gQ:=mo hZ (show j+i < j+n2+1 by omega) (show d < B from dO)
       have dM:b'≤1:=by rw [bE]; split <;> omega
       have e6:IntKind.i64.wrap (((j:Nat):Int)+((i:Nat):Int))=((j+i:Nat):Int):=by rw [ax (by omega) (by omega)]; omega
       have e7:IntKind.i64.wrap (((i:Nat):Int)+1)=((i+1:Nat):Int):=by rw [ax (by omega) (by omega)]; omega
       rw [← hx];simp only [ku _ iD,hv,e6];refine ⟨⟨by omega,by omega⟩,?_⟩
       simp only [toNat_cast,aw,Nat.zero_add];conv=>whnf
       refine ⟨by show j+i < m; omega,?_⟩
       conv=>whnf
       rw [← hl];simp only [eM];refine ⟨(l,t % B,b),rfl,⟨fa,oH,hb⟩,?_⟩;simp only [lG,← hd,← bE,e6];conv=>whnf
       refine ⟨⟨by omega,by omega⟩,?_⟩
       simp only [toNat_cast,aw,Nat.zero_add];conv=>whnf
       refine ⟨by show j+i < m; omega,?_⟩
       conv=>whnf
       simp only [cf,jP,e7];rw [fF dO];refine .inl ⟨_,?_,i+1,t / B,b',cE Z (j+i) d,(.aa (.aa (.aa (.sk 3 (.aa (.aa (.sk 1 (.aa (.sk 1 (.aa (.aa (.sk 88 (.aa (.aa (.aa (.sk 90 .nil rfl)))) rfl))) rfl)) rfl))) rfl)))),rfl,rfl,?_⟩
       ·omega
       ·exact ⟨⟨by omega,fJ,dM⟩,gQ,ar⟩
      ·have h1:i=n2:=by
        have h1:¬ i < n2:=by simpa using h1
        omega
       subst h1;obtain ⟨l,hl⟩:∃ l,l=an Z (j+i):=⟨_,rfl⟩;have fa:l < 4294967296:=by rw [hl]; exact cH Z (j+i)
       obtain ⟨d,hd⟩:∃ d,d=(l+2*4294967296 - c - b) % 4294967296:=⟨_,rfl⟩;obtain ⟨b',bE⟩:∃ b',b'=if l < c+b then 1 else 0:=⟨_,rfl⟩
       have dO:d < 4294967296:=by rw [hd]; exact Nat.mod_lt _ (by decide)
       have ar:=B0 (j:=j) (d:=d) (b':=b') (by rw [bM]; exact bV D) hc he (by
        rw [← hl,bE,hB,← hB];clear he hZ
        split <;> omega)
       have gQ:=mo hZ (show j+i < j+i+1 by omega) (show d < B from dO)
       have oI:c % B=c:=Nat.mod_eq_of_lt hc;have dM:b'≤1:=by rw [bE]; split <;> omega
       have wc:qt % B=qt:=Nat.mod_eq_of_lt hT.1;have hE:0 < D*B ^ j:=Nat.mul_pos F.A2 (eF j);have oJ:Q=X / (D*B ^ j):=by rw [F.fQ,Nat.div_div_eq_div_mul,Nat.mul_comm]
       conv=>whnf
       simp only [e1];refine ⟨⟨by omega,by omega⟩,?_⟩
       simp only [toNat_cast,aw,Nat.zero_add];conv=>whnf
       refine ⟨by show j+i < m; omega,?_⟩
       conv=>whnf
       rw [← hl];simp only [eM,oI];refine ⟨(l,c,b),rfl,⟨fa,hc,hb⟩,?_⟩;simp only [lG,← hd,← bE,e1];conv=>whnf
       refine ⟨⟨by omega,by omega⟩,?_⟩
       simp only [toNat_cast,aw,Nat.zero_add];conv=>whnf
       refine ⟨by show j+i < m; omega,?_⟩
       conv=>whnf
       rw [fF dO];refine aM (fun J=>?_) (fun J=>?_)
       ·have J:b'=0:=by
         have:=of_decide_eq_true J;omega
        clear bE;subst J;rw [Nat.zero_mul,Nat.add_zero] at ar;obtain ⟨iF,fk⟩:=BG hE ar (by rw [← oJ]; exact hT.2.1)
        conv=>whnf
        simp only [eM,wc];exact rZ (i:=⟨X,m,cx,D,cd,j⟩) fk iF rfl
       ·have J:b'=1:=by
         have:=of_decide_eq_false J;omega
        clear bE;subst J;rw [Nat.one_mul] at ar;obtain ⟨iF,fk⟩:=BH hE ar gQ (by rw [← oJ]; exact hT.2.2)
        obtain ⟨Y,hY⟩:∃ Y,Y=cE Z (j+i) d:=⟨_,rfl⟩;rw [← hY] at fk gQ ⊢;clear ar he hZ hY hc hb hl fa hd dO oI;conv=>whnf
        refine .inl ⟨fun mm tz hz=>∃ (k:Nat) (c:Nat) (V:Nat),bw (some (.slice (some ⟨0,0,none⟩) m cx)::some (.slice (some ⟨1,0,none⟩) i cd)::some (.int .i64 j)::aF 3 (some (.int .u32 0)::some (.int .i64 i)::aF 1 (some (.int .u64 qt)::aF 5 (some (.int .u32 c)::aF 141 (some (.slice (some ⟨1,0,none⟩) i cd)::some (.int .i64 i)::some (.int .i64 k)::aF 34 []))))) tz∧hz=[some (.flat true m 1 (bn V)),some (dT D)]∧i - k=mm∧((k≤i∧c≤1)∧V < B ^ (j+i+1)∧V+c*B ^ (j+k)=Y+D % B ^ k*B ^ j),.inr ⟨[0,1],[0,1,2,6,7,9,15,157,158,159],?_⟩,?_⟩
        ·conv=>whnf
         intro _;conv=>whnf
         refine ⟨_,0,0,Y,(.aa (.aa (.aa (.sk 3 (.aa (.aa (.sk 1 (.aa (.sk 5 (.aa (.sk 141 (.aa (.aa (.aa (.sk 34 .nil rfl)))) rfl)) rfl)) rfl))) rfl)))),rfl,rfl,?_⟩;exact ⟨⟨Nat.zero_le _,by decide⟩,gQ,by simp [Nat.mod_one]⟩
        rintro mm aV _ ⟨k,c,V,aA,rfl,rfl,⟨⟨hk,hc⟩,hV,he⟩⟩
        obtain ⟨az,rfl⟩:∃ az:Nat→Value,aV=.slice (some ⟨0,0,none⟩) m cx::.slice (some ⟨1,0,none⟩) i cd::.int .i64 j::zs az 3 3 (.int .u32 0::.int .i64 i::zs az 8 1 (.int .u64 qt::zs az 10 5 (.int .u32 c::zs az 16 141 (.slice (some ⟨1,0,none⟩) i cd::.int .i64 i::.int .i64 k::zs az 160 34 [])))):=bI aA;clear aA;conv=>whnf
        refine aM (fun h3=>?_) (fun h3=>?_)
        ·have h3:k < i:=by simpa using h3
         obtain ⟨x,hx⟩:∃ x,x=an D k:=⟨_,rfl⟩;obtain ⟨l,hl⟩:∃ l,l=an V (j+k):=⟨_,rfl⟩;have iD:x < 4294967296:=by rw [hx]; exact cH D k
         have fa:l < 4294967296:=by rw [hl]; exact cH V (j+k)
         obtain ⟨t,ht⟩:∃ t,t=l+x+c:=⟨_,rfl⟩;have ar:=B5 (t:=t) (i:=k) (j:=j) he (by rw [← hl,← hx]; exact ht)
         have ib:t % B < 4294967296:=Nat.mod_lt _ (by decide)
         have fJ:t / B≤1:=by show t / 4294967296≤1; omega
         have we:=mo hV (show j+k < j+i+1 by omega) (show t % B < B from ib)
         have e6:IntKind.i64.wrap (((j:Nat):Int)+((k:Nat):Int))=((j+k:Nat):Int):=by rw [ax (by omega) (by omega)]; omega
         have e7:IntKind.i64.wrap (((k:Nat):Int)+1)=((k+1:Nat):Int):=by rw [ax (by omega) (by omega)]; omega
         conv=>whnf
         refine ⟨⟨by omega,by omega⟩,?_⟩
         simp only [toNat_cast,aw,Nat.zero_add];conv=>whnf
         refine ⟨by show k < nl D; omega,?_⟩
         conv=>whnf
         simp only [e6];refine ⟨⟨by omega,by omega⟩,?_⟩
         simp only [toNat_cast,aw,Nat.zero_add];conv=>whnf
         refine ⟨by show j+k < m; omega,?_⟩
         conv=>whnf
         rw [← hl,← hx];refine ⟨(l,x,c),rfl,⟨fa,iD,hc⟩,?_⟩;simp only [uU,← ht,e6];conv=>whnf
         refine ⟨⟨by omega,by omega⟩,?_⟩
         simp only [toNat_cast,aw,Nat.zero_add];conv=>whnf
         refine ⟨by show j+k < m; omega,?_⟩
         conv=>whnf
         simp only [e7];rw [show t % 4294967296=t % B from rfl,fF ib]
         refine .inl ⟨_,?_,k+1,t / B,cE V (j+k) (t % B),(.aa (.aa (.aa (.sk 3 (.aa (.aa (.sk 1 (.aa (.sk 5 (.aa (.sk 141 (.aa (.aa (.aa (.sk 34 .nil rfl)))) rfl)) rfl)) rfl))) rfl)))),rfl,rfl,?_⟩
         ·omega
         ·exact ⟨⟨by omega,fJ⟩,we,ar⟩
        ·have h3:k=i:=by
          have h3:¬ k < i:=by simpa using h3
          omega
         subst h3;have kX:D < B ^ k:=by rw [bM]; exact bV D
         have gk:=B6 (V:=V) (R:=X % (D*B ^ j)) (k:=j+k) hV (Nat.lt_of_lt_of_le (Nat.mod_lt _ hE) (by rw [Nat.add_comm,Nat.pow_add]; exact Nat.mul_le_mul_right _ (Nat.le_of_lt kX))) hc (by
          rw [he,Nat.mod_eq_of_lt kX]; exact fk)
         have ic:qt - 1=X / (D*B ^ j):=by rw [iF]; rfl
         have ep:IntKind.u64.wrap ((qt:Int) - 1)=((qt - 1:Nat):Int):=by
          have:1≤qt:=by rw [iF]; exact Nat.le_add_left _ _
          have:=hT.1;rw [bK (by omega) (by omega)]; omega
         have vH:(qt - 1) % B=qt - 1:=Nat.mod_eq_of_lt (by have:=hT.1; show qt - 1 < 4294967296; omega)
         conv=>whnf
         simp only [e1];refine ⟨⟨by omega,by omega⟩,?_⟩
         simp only [toNat_cast,aw,Nat.zero_add];conv=>whnf
         refine ⟨by show j+k < m; omega,?_⟩
         conv=>whnf
         rw [show IntKind.u32.wrap (((an V (j+k):Nat):Int)+(c:Int))=(((an V (j+k)+c) % B:Nat):Int) from eM (an V (j+k)+c)]
         refine ⟨⟨by omega,by omega⟩,?_⟩
         simp only [toNat_cast,aw,Nat.zero_add];conv=>whnf
         refine ⟨by show j+k < m; omega,?_⟩
         conv=>whnf
         simp only [ep,eM,vH];rw [fF (Nat.mod_lt _ (by decide)),gk]
         exact rZ (i:=⟨X,m,cx,D,cd,j⟩) rfl ic rfl
      skip
      skip
     ·rw [show (((((q - 1) / B:Nat):Int) == 0):Bool)=false by show decide ((((q - 1) / 4294967296:Nat):Int)=0)=false; exact decide_eq_false (by omega)]
      conv=>whnf
      refine .inr ⟨[0,1],[0,1,2,6,7,9,10],?_⟩;conv=>whnf
      intro _;conv=>whnf
      refine ⟨_,?_,q - 1,r+d1,(.aa (.aa (.aa (.sk 3 (.aa (.aa (.sk 1 (.aa (.aa (.sk 183 .nil rfl))) rfl))) rfl)))),rfl,rfl,?_⟩
      ·omega
      ·exact ⟨cg,by omega,by omega⟩
   ·rw [show decide ((qd:Int) > (Ba:Int))=false from decide_eq_false (by omega)]
    conv=>whnf
    obtain ⟨qt,oG⟩:∃ qt,qt=q:=⟨_,rfl⟩;have hT:qt < 4294967296∧Q≤qt∧qt≤Q+1:=by
     have h3:=pI (.inl (by rw [← rP]; show qd≤r*4294967296+w0; omega))
     exact ⟨by omega,by omega,by omega⟩
    rw [← oG];clear cY rP Jb yE pI mj he hr EP dW oG;conv=>whnf
    refine .inl ⟨fun mm tz hz=>∃ (i:Nat) (c:Nat) (b:Nat) (Z:Nat),bw (some (.slice (some ⟨0,0,none⟩) m cx)::some (.slice (some ⟨1,0,none⟩) n2 cd)::some (.int .i64 j)::aF 3 (some (.int .u32 0)::some (.int .i64 n2)::aF 1 (some (.int .u64 qt)::aF 1 (some (.int .u64 c)::some (.int .u32 b)::aF 88 (some (.slice (some ⟨1,0,none⟩) n2 cd)::some (.int .i64 n2)::some (.int .i64 i)::aF 90 []))))) tz∧hz=[some (.flat true m 1 (bn Z)),some (dT D)]∧n2 - i=mm∧((i≤n2∧c < 4294967296∧b≤1)∧Z < B ^ (j+n2+1)∧Z+qt*(D % B ^ i)*B ^ j=X+(b+c)*B ^ (j+i)),.inr ⟨[0,1],[0,1,2,6,7,9,11,12,101,102,103],?_⟩,?_⟩
    ·conv=>whnf
     intro _;conv=>whnf
     refine ⟨_,0,0,0,X,(.aa (.aa (.aa (.sk 3 (.aa (.aa (.sk 1 (.aa (.sk 1 (.aa (.aa (.sk 88 (.aa (.aa (.aa (.sk 90 .nil rfl)))) rfl))) rfl)) rfl))) rfl)))),rfl,rfl,?_⟩;exact ⟨⟨Nat.zero_le _,by decide,by decide⟩,F.fX,by simp [Nat.mod_one]⟩
    rintro mm aV _ ⟨i,c,b,Z,aA,rfl,rfl,⟨⟨hi,hc,hb⟩,hZ,he⟩⟩
    obtain ⟨az,rfl⟩:∃ az:Nat→Value,aV=.slice (some ⟨0,0,none⟩) m cx::.slice (some ⟨1,0,none⟩) n2 cd::.int .i64 j::zs az 3 3 (.int .u32 0::.int .i64 n2::zs az 8 1 (.int .u64 qt::zs az 10 1 (.int .u64 c::.int .u32 b::zs az 13 88 (.slice (some ⟨1,0,none⟩) n2 cd::.int .i64 n2::.int .i64 i::zs az 104 90 [])))):=bI aA;clear aA;conv=>whnf
    refine aM (fun h1=>?_) (fun h1=>?_)
    ·have h1:i < n2:=by simpa using h1
     conv=>whnf
     refine ⟨⟨by omega,by omega⟩,?_⟩
     simp only [toNat_cast,aw,Nat.zero_add];conv=>whnf
     refine ⟨by show i < nl D; omega,?_⟩
     conv=>whnf
     obtain ⟨x,hx⟩:∃ x,x=an D i:=⟨_,rfl⟩;obtain ⟨l,hl⟩:∃ l,l=an Z (j+i):=⟨_,rfl⟩;obtain ⟨t,ht⟩:∃ t,t=c+qt*an D i:=⟨_,rfl⟩;have iD:x < B:=by rw [hx]; exact cH D i
     have fa:l < 4294967296:=by rw [hl]; exact cH Z (j+i)
     obtain ⟨hv,fJ⟩:=Co (t:=t) hc hT.1 iD (by rw [hx]; exact ht)
     have oH:t % B < 4294967296:=Nat.mod_lt _ (by decide)
     obtain ⟨d,hd⟩:∃ d,d=(l+2*4294967296 - t % B - b) % 4294967296:=⟨_,rfl⟩;obtain ⟨b',bE⟩:∃ b',b'=if l < t % B+b then 1 else 0:=⟨_,rfl⟩
     have dO:d < 4294967296:=by rw [hd]; exact Nat.mod_lt _ (by decide)
     have ar:=BZ (i:=i) (j:=j) (d:=d) (b':=b') he ht (by
      rw [← hl,bE,hB,← hB];clear he hZ ht hv;obtain ⟨u,hu⟩:∃ u,u=t % B:=⟨_,rfl⟩;rw [← hu] at hd oH ⊢
      split <;> omega)
     have gQ:=mo hZ (show j+i < j+n2+1 by omega) (show d < B from dO)
     have dM:b'≤1:=by rw [bE]; split <;> omega
     have e6:IntKind.i64.wrap (((j:Nat):Int)+((i:Nat):Int))=((j+i:Nat):Int):=by rw [ax (by omega) (by omega)]; omega
     have e7:IntKind.i64.wrap (((i:Nat):Int)+1)=((i+1:Nat):Int):=by rw [ax (by omega) (by omega)]; omega
     rw [← hx];simp only [ku _ iD,hv,e6];refine ⟨⟨by omega,by omega⟩,?_⟩
     simp only [toNat_cast,aw,Nat.zero_add];conv=>whnf
     refine ⟨by show j+i < m; omega,?_⟩
     conv=>whnf
     rw [← hl];simp only [eM];refine ⟨(l,t % B,b),rfl,⟨fa,oH,hb⟩,?_⟩;simp only [lG,← hd,← bE,e6];conv=>whnf
     refine ⟨⟨by omega,by omega⟩,?_⟩
     simp only [toNat_cast,aw,Nat.zero_add];conv=>whnf
     refine ⟨by show j+i < m; omega,?_⟩
     conv=>whnf
     simp only [cf,jP,e7];rw [fF dO];refine .inl ⟨_,?_,i+1,t / B,b',cE Z (j+i) d,(.aa (.aa (.aa (.sk 3 (.aa (.aa (.sk 1 (.aa (.sk 1 (.aa (.aa (.sk 88 (.aa (.aa (.aa (.sk 90 .nil rfl)))) rfl))) rfl)) rfl))) rfl)))),rfl,rfl,?_⟩
     ·omega
     ·exact ⟨⟨by omega,fJ,dM⟩,gQ,ar⟩
    ·have h1:i=n2:=by
      have h1:¬ i < n2:=by simpa using h1
      omega
     subst h1;obtain ⟨l,hl⟩:∃ l,l=an Z (j+i):=⟨_,rfl⟩;have fa:l < 4294967296:=by rw [hl]; exact cH Z (j+i)
     obtain ⟨d,hd⟩:∃ d,d=(l+2*4294967296 - c - b) % 4294967296:=⟨_,rfl⟩;obtain ⟨b',bE⟩:∃ b',b'=if l < c+b then 1 else 0:=⟨_,rfl⟩
     have dO:d < 4294967296:=by rw [hd]; exact Nat.mod_lt _ (by decide)
     have ar:=B0 (j:=j) (d:=d) (b':=b') (by rw [bM]; exact bV D) hc he (by
      rw [← hl,bE,hB,← hB];clear he hZ
      split <;> omega)
     have gQ:=mo hZ (show j+i < j+i+1 by omega) (show d < B from dO)
     have oI:c % B=c:=Nat.mod_eq_of_lt hc;have dM:b'≤1:=by rw [bE]; split <;> omega
     have wc:qt % B=qt:=Nat.mod_eq_of_lt hT.1;have hE:0 < D*B ^ j:=Nat.mul_pos F.A2 (eF j);have oJ:Q=X / (D*B ^ j):=by rw [F.fQ,Nat.div_div_eq_div_mul,Nat.mul_comm]
     conv=>whnf
     simp only [e1];refine ⟨⟨by omega,by omega⟩,?_⟩
     simp only [toNat_cast,aw,Nat.zero_add];conv=>whnf
     refine ⟨by show j+i < m; omega,?_⟩
     conv=>whnf
     rw [← hl];simp only [eM,oI];refine ⟨(l,c,b),rfl,⟨fa,hc,hb⟩,?_⟩;simp only [lG,← hd,← bE,e1];conv=>whnf
     refine ⟨⟨by omega,by omega⟩,?_⟩
     simp only [toNat_cast,aw,Nat.zero_add];conv=>whnf
     refine ⟨by show j+i < m; omega,?_⟩
     conv=>whnf
     rw [fF dO];refine aM (fun J=>?_) (fun J=>?_)
     ·have J:b'=0:=by
       have:=of_decide_eq_true J;omega
      clear bE;subst J;rw [Nat.zero_mul,Nat.add_zero] at ar;obtain ⟨iF,fk⟩:=BG hE ar (by rw [← oJ]; exact hT.2.1)
      conv=>whnf
      simp only [eM,wc];exact rZ (i:=⟨X,m,cx,D,cd,j⟩) fk iF rfl
     ·have J:b'=1:=by
       have:=of_decide_eq_false J;omega
      clear bE;subst J;rw [Nat.one_mul] at ar;obtain ⟨iF,fk⟩:=BH hE ar gQ (by rw [← oJ]; exact hT.2.2)
      obtain ⟨Y,hY⟩:∃ Y,Y=cE Z (j+i) d:=⟨_,rfl⟩;rw [← hY] at fk gQ ⊢;clear ar he hZ hY hc hb hl fa hd dO oI;conv=>whnf
      refine .inl ⟨fun mm tz hz=>∃ (k:Nat) (c:Nat) (V:Nat),bw (some (.slice (some ⟨0,0,none⟩) m cx)::some (.slice (some ⟨1,0,none⟩) i cd)::some (.int .i64 j)::aF 3 (some (.int .u32 0)::some (.int .i64 i)::aF 1 (some (.int .u64 qt)::aF 5 (some (.int .u32 c)::aF 141 (some (.slice (some ⟨1,0,none⟩) i cd)::some (.int .i64 i)::some (.int .i64 k)::aF 34 []))))) tz∧hz=[some (.flat true m 1 (bn V)),some (dT D)]∧i - k=mm∧((k≤i∧c≤1)∧V < B ^ (j+i+1)∧V+c*B ^ (j+k)=Y+D % B ^ k*B ^ j),.inr ⟨[0,1],[0,1,2,6,7,9,15,157,158,159],?_⟩,?_⟩
      ·conv=>whnf
       intro _;conv=>whnf
       refine ⟨_,0,0,Y,(.aa (.aa (.aa (.sk 3 (.aa (.aa (.sk 1 (.aa (.sk 5 (.aa (.sk 141 (.aa (.aa (.aa (.sk 34 .nil rfl)))) rfl)) rfl)) rfl))) rfl)))),rfl,rfl,?_⟩;exact ⟨⟨Nat.zero_le _,by decide⟩,gQ,by simp [Nat.mod_one]⟩
      rintro mm aV _ ⟨k,c,V,aA,rfl,rfl,⟨⟨hk,hc⟩,hV,he⟩⟩
      obtain ⟨az,rfl⟩:∃ az:Nat→Value,aV=.slice (some ⟨0,0,none⟩) m cx::.slice (some ⟨1,0,none⟩) i cd::.int .i64 j::zs az 3 3 (.int .u32 0::.int .i64 i::zs az 8 1 (.int .u64 qt::zs az 10 5 (.int .u32 c::zs az 16 141 (.slice (some ⟨1,0,none⟩) i cd::.int .i64 i::.int .i64 k::zs az 160 34 [])))):=bI aA;clear aA;conv=>whnf
      refine aM (fun h3=>?_) (fun h3=>?_)
      ·have h3:k < i:=by simpa using h3
       obtain ⟨x,hx⟩:∃ x,x=an D k:=⟨_,rfl⟩;obtain ⟨l,hl⟩:∃ l,l=an V (j+k):=⟨_,rfl⟩;have iD:x < 4294967296:=by rw [hx]; exact cH D k
       have fa:l < 4294967296:=by rw [hl]; exact cH V (j+k)
       obtain ⟨t,ht⟩:∃ t,t=l+x+c:=⟨_,rfl⟩;have ar:=B5 (t:=t) (i:=k) (j:=j) he (by rw [← hl,← hx]; exact ht)
       have ib:t % B < 4294967296:=Nat.mod_lt _ (by decide)
       have fJ:t / B≤1:=by show t / 4294967296≤1; omega
       have we:=mo hV (show j+k < j+i+1 by omega) (show t % B < B from ib)
       have e6:IntKind.i64.wrap (((j:Nat):Int)+((k:Nat):Int))=((j+k:Nat):Int):=by rw [ax (by omega) (by omega)]; omega
       have e7:IntKind.i64.wrap (((k:Nat):Int)+1)=((k+1:Nat):Int):=by rw [ax (by omega) (by omega)]; omega
       conv=>whnf
       refine ⟨⟨by omega,by omega⟩,?_⟩
       simp only [toNat_cast,aw,Nat.zero_add];conv=>whnf
       refine ⟨by show k < nl D; omega,?_⟩
       conv=>whnf
       simp only [e6];refine ⟨⟨by omega,by omega⟩,?_⟩
       simp only [toNat_cast,aw,Nat.zero_add];conv=>whnf
       refine ⟨by show j+k < m; omega,?_⟩
       conv=>whnf
       rw [← hl,← hx];refine ⟨(l,x,c),rfl,⟨fa,iD,hc⟩,?_⟩;simp only [uU,← ht,e6];conv=>whnf
       refine ⟨⟨by omega,by omega⟩,?_⟩
       simp only [toNat_cast,aw,Nat.zero_add];conv=>whnf
       refine ⟨by show j+k < m; omega,?_⟩
       conv=>whnf
       simp only [e7];rw [show t % 4294967296=t % B from rfl,fF ib]
       refine .inl ⟨_,?_,k+1,t / B,cE V (j+k) (t % B),(.aa (.aa (.aa (.sk 3 (.aa (.aa (.sk 1 (.aa (.sk 5 (.aa (.sk 141 (.aa (.aa (.aa (.sk 34 .nil rfl)))) rfl)) rfl)) rfl))) rfl)))),rfl,rfl,?_⟩
       ·omega
       ·exact ⟨⟨by omega,fJ⟩,we,ar⟩
      ·have h3:k=i:=by
        have h3:¬ k < i:=by simpa using h3
        omega
       subst h3;have kX:D < B ^ k:=by rw [bM]; exact bV D
       have gk:=B6 (V:=V) (R:=X % (D*B ^ j)) (k:=j+k) hV (Nat.lt_of_lt_of_le (Nat.mod_lt _ hE) (by rw [Nat.add_comm,Nat.pow_add]; exact Nat.mul_le_mul_right _ (Nat.le_of_lt kX))) hc (by
        rw [he,Nat.mod_eq_of_lt kX]; exact fk)
       have ic:qt - 1=X / (D*B ^ j):=by rw [iF]; rfl
       have ep:IntKind.u64.wrap ((qt:Int) - 1)=((qt - 1:Nat):Int):=by
        have:1≤qt:=by rw [iF]; exact Nat.le_add_left _ _
        have:=hT.1;rw [bK (by omega) (by omega)]; omega
       have vH:(qt - 1) % B=qt - 1:=Nat.mod_eq_of_lt (by have:=hT.1; show qt - 1 < 4294967296; omega)
       conv=>whnf
       simp only [e1];refine ⟨⟨by omega,by omega⟩,?_⟩
       simp only [toNat_cast,aw,Nat.zero_add];conv=>whnf
       refine ⟨by show j+k < m; omega,?_⟩
       conv=>whnf
       rw [show IntKind.u32.wrap (((an V (j+k):Nat):Int)+(c:Int))=(((an V (j+k)+c) % B:Nat):Int) from eM (an V (j+k)+c)]
       refine ⟨⟨by omega,by omega⟩,?_⟩
       simp only [toNat_cast,aw,Nat.zero_add];conv=>whnf
       refine ⟨by show j+k < m; omega,?_⟩
       conv=>whnf
       simp only [ep,eM,vH];rw [fF (Nat.mod_lt _ (by decide)),gk]
       exact rZ (i:=⟨X,m,cx,D,cd,j⟩) rfl ic rfl
    skip
    skip
  ·rw [show (((((r / B:Nat):Int) == 0):Bool))=false by show decide (((r / 4294967296:Nat):Int)=0)=false; exact decide_eq_false (by omega)]
   conv=>whnf
   obtain ⟨qt,oG⟩:∃ qt,qt=q:=⟨_,rfl⟩;have hT:qt < 4294967296∧Q≤qt∧qt≤Q+1:=⟨by omega,by omega,by have:=pI (.inr mj); omega⟩
   rw [← oG];clear yE pI mj he hr EP dW oG;conv=>whnf
   refine .inl ⟨fun mm tz hz=>∃ (i:Nat) (c:Nat) (b:Nat) (Z:Nat),bw (some (.slice (some ⟨0,0,none⟩) m cx)::some (.slice (some ⟨1,0,none⟩) n2 cd)::some (.int .i64 j)::aF 3 (some (.int .u32 0)::some (.int .i64 n2)::aF 1 (some (.int .u64 qt)::aF 1 (some (.int .u64 c)::some (.int .u32 b)::aF 88 (some (.slice (some ⟨1,0,none⟩) n2 cd)::some (.int .i64 n2)::some (.int .i64 i)::aF 90 []))))) tz∧hz=[some (.flat true m 1 (bn Z)),some (dT D)]∧n2 - i=mm∧((i≤n2∧c < 4294967296∧b≤1)∧Z < B ^ (j+n2+1)∧Z+qt*(D % B ^ i)*B ^ j=X+(b+c)*B ^ (j+i)),.inr ⟨[0,1],[0,1,2,6,7,9,11,12,101,102,103],?_⟩,?_⟩
   ·conv=>whnf
    intro _;conv=>whnf
    refine ⟨_,0,0,0,X,(.aa (.aa (.aa (.sk 3 (.aa (.aa (.sk 1 (.aa (.sk 1 (.aa (.aa (.sk 88 (.aa (.aa (.aa (.sk 90 .nil rfl)))) rfl))) rfl)) rfl))) rfl)))),rfl,rfl,?_⟩;exact ⟨⟨Nat.zero_le _,by decide,by decide⟩,F.fX,by simp [Nat.mod_one]⟩
   rintro mm aV _ ⟨i,c,b,Z,aA,rfl,rfl,⟨⟨hi,hc,hb⟩,hZ,he⟩⟩
   obtain ⟨az,rfl⟩:∃ az:Nat→Value,aV=.slice (some ⟨0,0,none⟩) m cx::.slice (some ⟨1,0,none⟩) n2 cd::.int .i64 j::zs az 3 3 (.int .u32 0::.int .i64 n2::zs az 8 1 (.int .u64 qt::zs az 10 1 (.int .u64 c::.int .u32 b::zs az 13 88 (.slice (some ⟨1,0,none⟩) n2 cd::.int .i64 n2::.int .i64 i::zs az 104 90 [])))):=bI aA;clear aA;conv=>whnf
   refine aM (fun h1=>?_) (fun h1=>?_)
   ·have h1:i < n2:=by simpa using h1
    conv=>whnf
    refine ⟨⟨by omega,by omega⟩,?_⟩
    simp only [toNat_cast,aw,Nat.zero_add];conv=>whnf
    refine ⟨by show i < nl D; omega,?_⟩
    conv=>whnf
    obtain ⟨x,hx⟩:∃ x,x=an D i:=⟨_,rfl⟩;obtain ⟨l,hl⟩:∃ l,l=an Z (j+i):=⟨_,rfl⟩;obtain ⟨t,ht⟩:∃ t,t=c+qt*an D i:=⟨_,rfl⟩;have iD:x < B:=by rw [hx]; exact cH D i
    have fa:l < 4294967296:=by rw [hl]; exact cH Z (j+i)
    obtain ⟨hv,fJ⟩:=Co (t:=t) hc hT.1 iD (by rw [hx]; exact ht)
    have oH:t % B < 4294967296:=Nat.mod_lt _ (by decide)
    obtain ⟨d,hd⟩:∃ d,d=(l+2*4294967296 - t % B - b) % 4294967296:=⟨_,rfl⟩;obtain ⟨b',bE⟩:∃ b',b'=if l < t % B+b then 1 else 0:=⟨_,rfl⟩
    have dO:d < 4294967296:=by rw [hd]; exact Nat.mod_lt _ (by decide)
    have ar:=BZ (i:=i) (j:=j) (d:=d) (b':=b') he ht (by
     rw [← hl,bE,hB,← hB];clear he hZ ht hv;obtain ⟨u,hu⟩:∃ u,u=t % B:=⟨_,rfl⟩;rw [← hu] at hd oH ⊢
     split <;> omega)
    have gQ:=mo hZ (show j+i < j+n2+1 by omega) (show d < B from dO)
    have dM:b'≤1:=by rw [bE]; split <;> omega
    have e6:IntKind.i64.wrap (((j:Nat):Int)+((i:Nat):Int))=((j+i:Nat):Int):=by rw [ax (by omega) (by omega)]; omega
    have e7:IntKind.i64.wrap (((i:Nat):Int)+1)=((i+1:Nat):Int):=by rw [ax (by omega) (by omega)]; omega
    rw [← hx];simp only [ku _ iD,hv,e6];refine ⟨⟨by omega,by omega⟩,?_⟩
    simp only [toNat_cast,aw,Nat.zero_add];conv=>whnf
    refine ⟨by show j+i < m; omega,?_⟩
    conv=>whnf
    rw [← hl];simp only [eM];refine ⟨(l,t % B,b),rfl,⟨fa,oH,hb⟩,?_⟩;simp only [lG,← hd,← bE,e6];conv=>whnf
    refine ⟨⟨by omega,by omega⟩,?_⟩
    simp only [toNat_cast,aw,Nat.zero_add];conv=>whnf
    refine ⟨by show j+i < m; omega,?_⟩
    conv=>whnf
    simp only [cf,jP,e7];rw [fF dO];refine .inl ⟨_,?_,i+1,t / B,b',cE Z (j+i) d,(.aa (.aa (.aa (.sk 3 (.aa (.aa (.sk 1 (.aa (.sk 1 (.aa (.aa (.sk 88 (.aa (.aa (.aa (.sk 90 .nil rfl)))) rfl))) rfl)) rfl))) rfl)))),rfl,rfl,?_⟩
    ·omega
    ·exact ⟨⟨by omega,fJ,dM⟩,gQ,ar⟩
   ·have h1:i=n2:=by
     have h1:¬ i < n2:=by simpa using h1
     omega
    subst h1;obtain ⟨l,hl⟩:∃ l,l=an Z (j+i):=⟨_,rfl⟩;have fa:l < 4294967296:=by rw [hl]; exact cH Z (j+i)
    obtain ⟨d,hd⟩:∃ d,d=(l+2*4294967296 - c - b) % 4294967296:=⟨_,rfl⟩;obtain ⟨b',bE⟩:∃ b',b'=if l < c+b then 1 else 0:=⟨_,rfl⟩
    have dO:d < 4294967296:=by rw [hd]; exact Nat.mod_lt _ (by decide)
    have ar:=B0 (j:=j) (d:=d) (b':=b') (by rw [bM]; exact bV D) hc he (by
     rw [← hl,bE,hB,← hB];clear he hZ
     split <;> omega)
    have gQ:=mo hZ (show j+i < j+i+1 by omega) (show d < B from dO)
    have oI:c % B=c:=Nat.mod_eq_of_lt hc;have dM:b'≤1:=by rw [bE]; split <;> omega
    have wc:qt % B=qt:=Nat.mod_eq_of_lt hT.1;have hE:0 < D*B ^ j:=Nat.mul_pos F.A2 (eF j);have oJ:Q=X / (D*B ^ j):=by rw [F.fQ,Nat.div_div_eq_div_mul,Nat.mul_comm]
    conv=>whnf
    simp only [e1];refine ⟨⟨by omega,by omega⟩,?_⟩
    simp only [toNat_cast,aw,Nat.zero_add];conv=>whnf
    refine ⟨by show j+i < m; omega,?_⟩
    conv=>whnf
    rw [← hl];simp only [eM,oI];refine ⟨(l,c,b),rfl,⟨fa,hc,hb⟩,?_⟩;simp only [lG,← hd,← bE,e1];conv=>whnf
    refine ⟨⟨by omega,by omega⟩,?_⟩
    simp only [toNat_cast,aw,Nat.zero_add];conv=>whnf
    refine ⟨by show j+i < m; omega,?_⟩
    conv=>whnf
    rw [fF dO];refine aM (fun J=>?_) (fun J=>?_)
    ·have J:b'=0:=by
      have:=of_decide_eq_true J;omega
     clear bE;subst J;rw [Nat.zero_mul,Nat.add_zero] at ar;obtain ⟨iF,fk⟩:=BG hE ar (by rw [← oJ]; exact hT.2.1)
     conv=>whnf
     simp only [eM,wc];exact rZ (i:=⟨X,m,cx,D,cd,j⟩) fk iF rfl
    ·have J:b'=1:=by
      have:=of_decide_eq_false J;omega
     clear bE;subst J;rw [Nat.one_mul] at ar;obtain ⟨iF,fk⟩:=BH hE ar gQ (by rw [← oJ]; exact hT.2.2)
     obtain ⟨Y,hY⟩:∃ Y,Y=cE Z (j+i) d:=⟨_,rfl⟩;rw [← hY] at fk gQ ⊢;clear ar he hZ hY hc hb hl fa hd dO oI;conv=>whnf
     refine .inl ⟨fun mm tz hz=>∃ (k:Nat) (c:Nat) (V:Nat),bw (some (.slice (some ⟨0,0,none⟩) m cx)::some (.slice (some ⟨1,0,none⟩) i cd)::some (.int .i64 j)::aF 3 (some (.int .u32 0)::some (.int .i64 i)::aF 1 (some (.int .u64 qt)::aF 5 (some (.int .u32 c)::aF 141 (some (.slice (some ⟨1,0,none⟩) i cd)::some (.int .i64 i)::some (.int .i64 k)::aF 34 []))))) tz∧hz=[some (.flat true m 1 (bn V)),some (dT D)]∧i - k=mm∧((k≤i∧c≤1)∧V < B ^ (j+i+1)∧V+c*B ^ (j+k)=Y+D % B ^ k*B ^ j),.inr ⟨[0,1],[0,1,2,6,7,9,15,157,158,159],?_⟩,?_⟩
     ·conv=>whnf
      intro _;conv=>whnf
      refine ⟨_,0,0,Y,(.aa (.aa (.aa (.sk 3 (.aa (.aa (.sk 1 (.aa (.sk 5 (.aa (.sk 141 (.aa (.aa (.aa (.sk 34 .nil rfl)))) rfl)) rfl)) rfl))) rfl)))),rfl,rfl,?_⟩;exact ⟨⟨Nat.zero_le _,by decide⟩,gQ,by simp [Nat.mod_one]⟩
     rintro mm aV _ ⟨k,c,V,aA,rfl,rfl,⟨⟨hk,hc⟩,hV,he⟩⟩
     obtain ⟨az,rfl⟩:∃ az:Nat→Value,aV=.slice (some ⟨0,0,none⟩) m cx::.slice (some ⟨1,0,none⟩) i cd::.int .i64 j::zs az 3 3 (.int .u32 0::.int .i64 i::zs az 8 1 (.int .u64 qt::zs az 10 5 (.int .u32 c::zs az 16 141 (.slice (some ⟨1,0,none⟩) i cd::.int .i64 i::.int .i64 k::zs az 160 34 [])))):=bI aA;clear aA;conv=>whnf
     refine aM (fun h3=>?_) (fun h3=>?_)
     ·have h3:k < i:=by simpa using h3
      obtain ⟨x,hx⟩:∃ x,x=an D k:=⟨_,rfl⟩;obtain ⟨l,hl⟩:∃ l,l=an V (j+k):=⟨_,rfl⟩;have iD:x < 4294967296:=by rw [hx]; exact cH D k
      have fa:l < 4294967296:=by rw [hl]; exact cH V (j+k)
      obtain ⟨t,ht⟩:∃ t,t=l+x+c:=⟨_,rfl⟩;have ar:=B5 (t:=t) (i:=k) (j:=j) he (by rw [← hl,← hx]; exact ht)
      have ib:t % B < 4294967296:=Nat.mod_lt _ (by decide)
      have fJ:t / B≤1:=by show t / 4294967296≤1; omega
      have we:=mo hV (show j+k < j+i+1 by omega) (show t % B < B from ib)
      have e6:IntKind.i64.wrap (((j:Nat):Int)+((k:Nat):Int))=((j+k:Nat):Int):=by rw [ax (by omega) (by omega)]; omega
      have e7:IntKind.i64.wrap (((k:Nat):Int)+1)=((k+1:Nat):Int):=by rw [ax (by omega) (by omega)]; omega
      conv=>whnf
      refine ⟨⟨by omega,by omega⟩,?_⟩
      simp only [toNat_cast,aw,Nat.zero_add];conv=>whnf
      refine ⟨by show k < nl D; omega,?_⟩
      conv=>whnf
      simp only [e6];refine ⟨⟨by omega,by omega⟩,?_⟩
      simp only [toNat_cast,aw,Nat.zero_add];conv=>whnf
      refine ⟨by show j+k < m; omega,?_⟩
      conv=>whnf
      rw [← hl,← hx];refine ⟨(l,x,c),rfl,⟨fa,iD,hc⟩,?_⟩;simp only [uU,← ht,e6];conv=>whnf
      refine ⟨⟨by omega,by omega⟩,?_⟩
      simp only [toNat_cast,aw,Nat.zero_add];conv=>whnf
      refine ⟨by show j+k < m; omega,?_⟩
      conv=>whnf
      simp only [e7];rw [show t % 4294967296=t % B from rfl,fF ib]
      refine .inl ⟨_,?_,k+1,t / B,cE V (j+k) (t % B),(.aa (.aa (.aa (.sk 3 (.aa (.aa (.sk 1 (.aa (.sk 5 (.aa (.sk 141 (.aa (.aa (.aa (.sk 34 .nil rfl)))) rfl)) rfl)) rfl))) rfl)))),rfl,rfl,?_⟩
      ·omega
      ·exact ⟨⟨by omega,fJ⟩,we,ar⟩
     ·have h3:k=i:=by
       have h3:¬ k < i:=by simpa using h3
       omega
      subst h3;have kX:D < B ^ k:=by rw [bM]; exact bV D
      have gk:=B6 (V:=V) (R:=X % (D*B ^ j)) (k:=j+k) hV (Nat.lt_of_lt_of_le (Nat.mod_lt _ hE) (by rw [Nat.add_comm,Nat.pow_add]; exact Nat.mul_le_mul_right _ (Nat.le_of_lt kX))) hc (by
       rw [he,Nat.mod_eq_of_lt kX]; exact fk)
      have ic:qt - 1=X / (D*B ^ j):=by rw [iF]; rfl
      have ep:IntKind.u64.wrap ((qt:Int) - 1)=((qt - 1:Nat):Int):=by
       have:1≤qt:=by rw [iF]; exact Nat.le_add_left _ _
       have:=hT.1;rw [bK (by omega) (by omega)]; omega
      have vH:(qt - 1) % B=qt - 1:=Nat.mod_eq_of_lt (by have:=hT.1; show qt - 1 < 4294967296; omega)
      conv=>whnf
      simp only [e1];refine ⟨⟨by omega,by omega⟩,?_⟩
      simp only [toNat_cast,aw,Nat.zero_add];conv=>whnf
      refine ⟨by show j+k < m; omega,?_⟩
      conv=>whnf
      rw [show IntKind.u32.wrap (((an V (j+k):Nat):Int)+(c:Int))=(((an V (j+k)+c) % B:Nat):Int) from eM (an V (j+k)+c)]
      refine ⟨⟨by omega,by omega⟩,?_⟩
      simp only [toNat_cast,aw,Nat.zero_add];conv=>whnf
      refine ⟨by show j+k < m; omega,?_⟩
      conv=>whnf
      simp only [ep,eM,vH];rw [fF (Nat.mod_lt _ (by decide)),gk]
      exact rZ (i:=⟨X,m,cx,D,cd,j⟩) rfl ic rfl
   skip
   skip
 ·have al:Q < q:=by have:=F.fB; omega
  rw [show decide (((q / B:Nat):Int) > 0)=true from decide_eq_true (by show (((q / 4294967296:Nat):Int) > 0); omega)]
  conv=>whnf
  have ep:IntKind.u64.wrap ((q:Int) - 1)=((q - 1:Nat):Int):=by rw [bK (by omega) (by omega)]; omega
  have cg:(q - 1)*d1+(r+d1)=top:=by
   have h1:(q - 1)*d1+d1=q*d1:=by
    conv=>rhs; rw [show q=(q - 1)+1 by omega,Nat.add_mul,Nat.one_mul]
   omega
  have fk:r+d1 < 18446744073709551616:=Nat.lt_of_le_of_lt (Nat.le_trans (Nat.le_add_left _ _) (Nat.le_of_eq cg)) Io;have er:IntKind.u64.wrap ((r:Int)+(d1:Int))=((r+d1:Nat):Int):=by rw [bK (by omega) (by omega)]; omega
  simp only [ep,e4];refine ⟨⟨by omega,by omega⟩,?_⟩
  simp only [toNat_cast,aw,Nat.zero_add];conv=>whnf
  refine ⟨by show n1 < nl D; omega,?_⟩
  conv=>whnf
  simp only [ku _ At];rw [← c8,er];simp only [cf,jP];rcases Nat.lt_or_ge (r+d1) 4294967296 with mj | mj
  ·rw [show decide ((((r+d1) / B:Nat):Int) > 0)=false from decide_eq_false (by show ¬ ((((r+d1) / 4294967296:Nat):Int) > 0); omega)]
   conv=>whnf
   refine .inr ⟨[0,1],[0,1,2,6,7,9,10],?_⟩;conv=>whnf
   intro _;conv=>whnf
   refine ⟨_,?_,q - 1,r+d1,(.aa (.aa (.aa (.sk 3 (.aa (.aa (.sk 1 (.aa (.aa (.sk 183 .nil rfl))) rfl))) rfl)))),rfl,rfl,?_⟩
   ·omega
   ·exact ⟨cg,by omega,by omega⟩
  ·rw [show decide ((((r+d1) / B:Nat):Int) > 0)=true from decide_eq_true (by show ((((r+d1) / 4294967296:Nat):Int) > 0); omega)]
   conv=>whnf
   simp only [cf,jP];rcases Nat.lt_or_ge (q - 1) 4294967296 with vG | vG
   ·rw [show (((((q - 1) / B:Nat):Int) == 0):Bool)=true by show decide ((((q - 1) / 4294967296:Nat):Int)=0)=true; exact decide_eq_true (by omega)]
    conv=>whnf
    obtain ⟨qt,oG⟩:∃ qt,qt=q - 1:=⟨_,rfl⟩;have hT:qt < 4294967296∧Q≤qt∧qt≤Q+1:=by
     have h3:q - 1≤X / B ^ j / D+1:=G1 (eF n) F.fW F.fD cg vG F.fP D7 (.inl mj);rw [← F.fQ] at h3;omega
    rw [← oG];clear yE vG al ep cg fk er mj he hr EP dW oG;conv=>whnf
    refine .inl ⟨fun mm tz hz=>∃ (i:Nat) (c:Nat) (b:Nat) (Z:Nat),bw (some (.slice (some ⟨0,0,none⟩) m cx)::some (.slice (some ⟨1,0,none⟩) n2 cd)::some (.int .i64 j)::aF 3 (some (.int .u32 0)::some (.int .i64 n2)::aF 1 (some (.int .u64 qt)::aF 1 (some (.int .u64 c)::some (.int .u32 b)::aF 88 (some (.slice (some ⟨1,0,none⟩) n2 cd)::some (.int .i64 n2)::some (.int .i64 i)::aF 90 []))))) tz∧hz=[some (.flat true m 1 (bn Z)),some (dT D)]∧n2 - i=mm∧((i≤n2∧c < 4294967296∧b≤1)∧Z < B ^ (j+n2+1)∧Z+qt*(D % B ^ i)*B ^ j=X+(b+c)*B ^ (j+i)),.inr ⟨[0,1],[0,1,2,6,7,9,11,12,101,102,103],?_⟩,?_⟩
    ·conv=>whnf
     intro _;conv=>whnf
     refine ⟨_,0,0,0,X,(.aa (.aa (.aa (.sk 3 (.aa (.aa (.sk 1 (.aa (.sk 1 (.aa (.aa (.sk 88 (.aa (.aa (.aa (.sk 90 .nil rfl)))) rfl))) rfl)) rfl))) rfl)))),rfl,rfl,?_⟩;exact ⟨⟨Nat.zero_le _,by decide,by decide⟩,F.fX,by simp [Nat.mod_one]⟩
    rintro mm aV _ ⟨i,c,b,Z,aA,rfl,rfl,⟨⟨hi,hc,hb⟩,hZ,he⟩⟩
    obtain ⟨az,rfl⟩:∃ az:Nat→Value,aV=.slice (some ⟨0,0,none⟩) m cx::.slice (some ⟨1,0,none⟩) n2 cd::.int .i64 j::zs az 3 3 (.int .u32 0::.int .i64 n2::zs az 8 1 (.int .u64 qt::zs az 10 1 (.int .u64 c::.int .u32 b::zs az 13 88 (.slice (some ⟨1,0,none⟩) n2 cd::.int .i64 n2::.int .i64 i::zs az 104 90 [])))):=bI aA;clear aA;conv=>whnf
    refine aM (fun h1=>?_) (fun h1=>?_)
    ·have h1:i < n2:=by simpa using h1
     conv=>whnf
     refine ⟨⟨by omega,by omega⟩,?_⟩
     simp only [toNat_cast,aw,Nat.zero_add];conv=>whnf
     refine ⟨by show i < nl D; omega,?_⟩
     conv=>whnf
     obtain ⟨x,hx⟩:∃ x,x=an D i:=⟨_,rfl⟩;obtain ⟨l,hl⟩:∃ l,l=an Z (j+i):=⟨_,rfl⟩;obtain ⟨t,ht⟩:∃ t,t=c+qt*an D i:=⟨_,rfl⟩;have iD:x < B:=by rw [hx]; exact cH D i
     have fa:l < 4294967296:=by rw [hl]; exact cH Z (j+i)
     obtain ⟨hv,fJ⟩:=Co (t:=t) hc hT.1 iD (by rw [hx]; exact ht)
     have oH:t % B < 4294967296:=Nat.mod_lt _ (by decide)
     obtain ⟨d,hd⟩:∃ d,d=(l+2*4294967296 - t % B - b) % 4294967296:=⟨_,rfl⟩;obtain ⟨b',bE⟩:∃ b',b'=if l < t % B+b then 1 else 0:=⟨_,rfl⟩
     have dO:d < 4294967296:=by rw [hd]; exact Nat.mod_lt _ (by decide)
     have ar:=BZ (i:=i) (j:=j) (d:=d) (b':=b') he ht (by
      rw [← hl,bE,hB,← hB];clear he hZ ht hv;obtain ⟨u,hu⟩:∃ u,u=t % B:=⟨_,rfl⟩;rw [← hu] at hd oH ⊢
      split <;> omega)
     have gQ:=mo hZ (show j+i < j+n2+1 by omega) (show d < B from dO)
     have dM:b'≤1:=by rw [bE]; split <;> omega
     have e6:IntKind.i64.wrap (((j:Nat):Int)+((i:Nat):Int))=((j+i:Nat):Int):=by rw [ax (by omega) (by omega)]; omega
     have e7:IntKind.i64.wrap (((i:Nat):Int)+1)=((i+1:Nat):Int):=by rw [ax (by omega) (by omega)]; omega
     rw [← hx];simp only [ku _ iD,hv,e6];refine ⟨⟨by omega,by omega⟩,?_⟩
     simp only [toNat_cast,aw,Nat.zero_add];conv=>whnf
     refine ⟨by show j+i < m; omega,?_⟩
     conv=>whnf
     rw [← hl];simp only [eM];refine ⟨(l,t % B,b),rfl,⟨fa,oH,hb⟩,?_⟩;simp only [lG,← hd,← bE,e6];conv=>whnf
     refine ⟨⟨by omega,by omega⟩,?_⟩
     simp only [toNat_cast,aw,Nat.zero_add];conv=>whnf
     refine ⟨by show j+i < m; omega,?_⟩
     conv=>whnf
     simp only [cf,jP,e7];rw [fF dO];refine .inl ⟨_,?_,i+1,t / B,b',cE Z (j+i) d,(.aa (.aa (.aa (.sk 3 (.aa (.aa (.sk 1 (.aa (.sk 1 (.aa (.aa (.sk 88 (.aa (.aa (.aa (.sk 90 .nil rfl)))) rfl))) rfl)) rfl))) rfl)))),rfl,rfl,?_⟩
     ·omega
     ·exact ⟨⟨by omega,fJ,dM⟩,gQ,ar⟩
    ·have h1:i=n2:=by
      have h1:¬ i < n2:=by simpa using h1
      omega
     subst h1;obtain ⟨l,hl⟩:∃ l,l=an Z (j+i):=⟨_,rfl⟩;have fa:l < 4294967296:=by rw [hl]; exact cH Z (j+i)
     obtain ⟨d,hd⟩:∃ d,d=(l+2*4294967296 - c - b) % 4294967296:=⟨_,rfl⟩;obtain ⟨b',bE⟩:∃ b',b'=if l < c+b then 1 else 0:=⟨_,rfl⟩
     have dO:d < 4294967296:=by rw [hd]; exact Nat.mod_lt _ (by decide)
     have ar:=B0 (j:=j) (d:=d) (b':=b') (by rw [bM]; exact bV D) hc he (by
      rw [← hl,bE,hB,← hB];clear he hZ
      split <;> omega)
     have gQ:=mo hZ (show j+i < j+i+1 by omega) (show d < B from dO)
     have oI:c % B=c:=Nat.mod_eq_of_lt hc;have dM:b'≤1:=by rw [bE]; split <;> omega
     have wc:qt % B=qt:=Nat.mod_eq_of_lt hT.1;have hE:0 < D*B ^ j:=Nat.mul_pos F.A2 (eF j);have oJ:Q=X / (D*B ^ j):=by rw [F.fQ,Nat.div_div_eq_div_mul,Nat.mul_comm]
     conv=>whnf
     simp only [e1];refine ⟨⟨by omega,by omega⟩,?_⟩
     simp only [toNat_cast,aw,Nat.zero_add];conv=>whnf
     refine ⟨by show j+i < m; omega,?_⟩
     conv=>whnf
     rw [← hl];simp only [eM,oI];refine ⟨(l,c,b),rfl,⟨fa,hc,hb⟩,?_⟩;simp only [lG,← hd,← bE,e1];conv=>whnf
     refine ⟨⟨by omega,by omega⟩,?_⟩
     simp only [toNat_cast,aw,Nat.zero_add];conv=>whnf
     refine ⟨by show j+i < m; omega,?_⟩
     conv=>whnf
     rw [fF dO];refine aM (fun J=>?_) (fun J=>?_)
     ·have J:b'=0:=by
       have:=of_decide_eq_true J;omega
      clear bE;subst J;rw [Nat.zero_mul,Nat.add_zero] at ar;obtain ⟨iF,fk⟩:=BG hE ar (by rw [← oJ]; exact hT.2.1)
      conv=>whnf
      simp only [eM,wc];exact rZ (i:=⟨X,m,cx,D,cd,j⟩) fk iF rfl
     ·have J:b'=1:=by
       have:=of_decide_eq_false J;omega
      clear bE;subst J;rw [Nat.one_mul] at ar;obtain ⟨iF,fk⟩:=BH hE ar gQ (by rw [← oJ]; exact hT.2.2)
      obtain ⟨Y,hY⟩:∃ Y,Y=cE Z (j+i) d:=⟨_,rfl⟩;rw [← hY] at fk gQ ⊢;clear ar he hZ hY hc hb hl fa hd dO oI;conv=>whnf
      refine .inl ⟨fun mm tz hz=>∃ (k:Nat) (c:Nat) (V:Nat),bw (some (.slice (some ⟨0,0,none⟩) m cx)::some (.slice (some ⟨1,0,none⟩) i cd)::some (.int .i64 j)::aF 3 (some (.int .u32 0)::some (.int .i64 i)::aF 1 (some (.int .u64 qt)::aF 5 (some (.int .u32 c)::aF 141 (some (.slice (some ⟨1,0,none⟩) i cd)::some (.int .i64 i)::some (.int .i64 k)::aF 34 []))))) tz∧hz=[some (.flat true m 1 (bn V)),some (dT D)]∧i - k=mm∧((k≤i∧c≤1)∧V < B ^ (j+i+1)∧V+c*B ^ (j+k)=Y+D % B ^ k*B ^ j),.inr ⟨[0,1],[0,1,2,6,7,9,15,157,158,159],?_⟩,?_⟩
      ·conv=>whnf
       intro _;conv=>whnf
       refine ⟨_,0,0,Y,(.aa (.aa (.aa (.sk 3 (.aa (.aa (.sk 1 (.aa (.sk 5 (.aa (.sk 141 (.aa (.aa (.aa (.sk 34 .nil rfl)))) rfl)) rfl)) rfl))) rfl)))),rfl,rfl,?_⟩;exact ⟨⟨Nat.zero_le _,by decide⟩,gQ,by simp [Nat.mod_one]⟩
      rintro mm aV _ ⟨k,c,V,aA,rfl,rfl,⟨⟨hk,hc⟩,hV,he⟩⟩
      obtain ⟨az,rfl⟩:∃ az:Nat→Value,aV=.slice (some ⟨0,0,none⟩) m cx::.slice (some ⟨1,0,none⟩) i cd::.int .i64 j::zs az 3 3 (.int .u32 0::.int .i64 i::zs az 8 1 (.int .u64 qt::zs az 10 5 (.int .u32 c::zs az 16 141 (.slice (some ⟨1,0,none⟩) i cd::.int .i64 i::.int .i64 k::zs az 160 34 [])))):=bI aA;clear aA;conv=>whnf
      refine aM (fun h3=>?_) (fun h3=>?_)
      ·have h3:k < i:=by simpa using h3
       obtain ⟨x,hx⟩:∃ x,x=an D k:=⟨_,rfl⟩;obtain ⟨l,hl⟩:∃ l,l=an V (j+k):=⟨_,rfl⟩;have iD:x < 4294967296:=by rw [hx]; exact cH D k
       have fa:l < 4294967296:=by rw [hl]; exact cH V (j+k)
       obtain ⟨t,ht⟩:∃ t,t=l+x+c:=⟨_,rfl⟩;have ar:=B5 (t:=t) (i:=k) (j:=j) he (by rw [← hl,← hx]; exact ht)
       have ib:t % B < 4294967296:=Nat.mod_lt _ (by decide)
       have fJ:t / B≤1:=by show t / 4294967296≤1; omega
       have we:=mo hV (show j+k < j+i+1 by omega) (show t % B < B from ib)
       have e6:IntKind.i64.wrap (((j:Nat):Int)+((k:Nat):Int))=((j+k:Nat):Int):=by rw [ax (by omega) (by omega)]; omega
       have e7:IntKind.i64.wrap (((k:Nat):Int)+1)=((k+1:Nat):Int):=by rw [ax (by omega) (by omega)]; omega
       conv=>whnf
       refine ⟨⟨by omega,by omega⟩,?_⟩
       simp only [toNat_cast,aw,Nat.zero_add];conv=>whnf
       refine ⟨by show k < nl D; omega,?_⟩
       conv=>whnf
       simp only [e6];refine ⟨⟨by omega,by omega⟩,?_⟩
       simp only [toNat_cast,aw,Nat.zero_add];conv=>whnf
       refine ⟨by show j+k < m; omega,?_⟩
       conv=>whnf
       rw [← hl,← hx];refine ⟨(l,x,c),rfl,⟨fa,iD,hc⟩,?_⟩;simp only [uU,← ht,e6];conv=>whnf
       refine ⟨⟨by omega,by omega⟩,?_⟩
       simp only [toNat_cast,aw,Nat.zero_add];conv=>whnf
       refine ⟨by show j+k < m; omega,?_⟩
       conv=>whnf
       simp only [e7];rw [show t % 4294967296=t % B from rfl,fF ib]
       refine .inl ⟨_,?_,k+1,t / B,cE V (j+k) (t % B),(.aa (.aa (.aa (.sk 3 (.aa (.aa (.sk 1 (.aa (.sk 5 (.aa (.sk 141 (.aa (.aa (.aa (.sk 34 .nil rfl)))) rfl)) rfl)) rfl))) rfl)))),rfl,rfl,?_⟩
       ·omega
       ·exact ⟨⟨by omega,fJ⟩,we,ar⟩
      ·have h3:k=i:=by
        have h3:¬ k < i:=by simpa using h3
        omega
       subst h3;have kX:D < B ^ k:=by rw [bM]; exact bV D
       have gk:=B6 (V:=V) (R:=X % (D*B ^ j)) (k:=j+k) hV (Nat.lt_of_lt_of_le (Nat.mod_lt _ hE) (by rw [Nat.add_comm,Nat.pow_add]; exact Nat.mul_le_mul_right _ (Nat.le_of_lt kX))) hc (by
        rw [he,Nat.mod_eq_of_lt kX]; exact fk)
       have ic:qt - 1=X / (D*B ^ j):=by rw [iF]; rfl
       have ep:IntKind.u64.wrap ((qt:Int) - 1)=((qt - 1:Nat):Int):=by
        have:1≤qt:=by rw [iF]; exact Nat.le_add_left _ _
        have:=hT.1;rw [bK (by omega) (by omega)]; omega
       have vH:(qt - 1) % B=qt - 1:=Nat.mod_eq_of_lt (by have:=hT.1; show qt - 1 < 4294967296; omega)
       conv=>whnf
       simp only [e1];refine ⟨⟨by omega,by omega⟩,?_⟩
       simp only [toNat_cast,aw,Nat.zero_add];conv=>whnf
       refine ⟨by show j+k < m; omega,?_⟩
       conv=>whnf
       rw [show IntKind.u32.wrap (((an V (j+k):Nat):Int)+(c:Int))=(((an V (j+k)+c) % B:Nat):Int) from eM (an V (j+k)+c)]
       refine ⟨⟨by omega,by omega⟩,?_⟩
       simp only [toNat_cast,aw,Nat.zero_add];conv=>whnf
       refine ⟨by show j+k < m; omega,?_⟩
       conv=>whnf
       simp only [ep,eM,vH];rw [fF (Nat.mod_lt _ (by decide)),gk]
       exact rZ (i:=⟨X,m,cx,D,cd,j⟩) rfl ic rfl
    skip
    skip
   ·rw [show (((((q - 1) / B:Nat):Int) == 0):Bool)=false by show decide ((((q - 1) / 4294967296:Nat):Int)=0)=false; exact decide_eq_false (by omega)]
    conv=>whnf
    refine .inr ⟨[0,1],[0,1,2,6,7,9,10],?_⟩;conv=>whnf
    intro _;conv=>whnf
    refine ⟨_,?_,q - 1,r+d1,(.aa (.aa (.aa (.sk 3 (.aa (.aa (.sk 1 (.aa (.aa (.sk 183 .nil rfl))) rfl))) rfl)))),rfl,rfl,?_⟩
    ·omega
    ·exact ⟨cg,by omega,by omega⟩
open Go Go.Ae
def Eh:Env:=En [(161,.q sV),(136,.q xc),(183,.q Db),(185,.q Dc),(187,.q Cp),(184,.p Dw)] [(186,AY xK)]
theorem afv:EnvOk Tryz.prog Eh:=bF ⟨CT,FJ,XB,XC,US,aac,trivial⟩ ⟨XD,trivial⟩
theorem V0:gj Tryz.prog 163 (AY gH):=by
 refine Pb afv aN Tryz.func163 (enters_of Tryz.func163 (by kernel_rfl) rfl) ?_
 intro ⟨A,ca,D,cd⟩ hp;have hp:(nl A≤137438953472∧nl D≤137438953472)∧D≠0:=hp;conv=>whnf
 refine ⟨(A,ca,D,cd),[0,1],rfl,hp.1,?_⟩;conv=>whnf
 refine ⟨aH.aT (fun h=>h) (fun r hr=>rfl),?_⟩
 conv=>whnf
 refine ⟨aH.aT (fun h=>h) (fun r hr=>rfl),?_⟩
 conv=>whnf
 refine ⟨_,rfl,?_⟩;conv=>whnf
 refine aM (fun h0=>?_) (fun h0=>?_)
 ·have h0:A < D:=by
   have h0:cM A D < 0:=of_decide_eq_true h0;rcases Nat.lt_or_ge A D with h | h
   ·exact h
   ·rw [cM,if_neg (by omega)] at h0
    split at h0 <;> omega
  conv=>whnf
  exact Vw h0
 ·have h0:D≤A:=by
   have h0:¬ cM A D < 0:=of_decide_eq_false h0;rcases Nat.lt_or_ge A D with h | h
   ·rw [cM,if_pos h] at h0;omega
   ·exact h
  have pX:0 < D:=Nat.pos_of_ne_zero hp.2;conv=>whnf
  refine aM (fun h1=>?_) (fun h1=>?_)
  ·have h1:nl D=1:=by
    have h1:((nl D:Nat):Int)=1:=by simpa using h1
    omega
   obtain ⟨eW,fa,pP⟩:=aaT h1;conv=>whnf
   refine ⟨⟨by omega,by show ((0:Nat):Int) < ((nl D:Nat):Int); omega⟩,?_⟩
   simp only [toNat_0,aw,Nat.zero_add];conv=>whnf
   refine ⟨by show 0 < nl D; omega,?_⟩
   conv=>whnf
   rw [eW];refine ⟨(A,ca,D),[0],rfl,⟨hp.1.1,pP,fa⟩,?_⟩;conv=>whnf
   refine ⟨aH.aT (fun h=>h) (fun r hr=>rfl),?_⟩
   conv=>whnf
   refine ⟨_,rfl,?_⟩;conv=>whnf
   refine ⟨some (1,A % D,1),[3],rfl,⟨by rw [Nat.pow_one]; exact Nat.lt_trans (Nat.mod_lt _ pP) fa,by decide⟩,?_⟩
   conv=>whnf
   have J9:A % D < 4294967296:=Nat.lt_trans (Nat.mod_lt _ pP) fa;refine ⟨ML J9 (Nat.le_refl _),?_⟩;conv=>whnf
   refine ⟨_,rfl,?_⟩;conv=>whnf
   refine MK (q:=2) (r:=3) h0 (by decide) (by decide) (by decide) rfl rfl rfl rfl ⟨(fun h=>by cases h),rfl,lB (Nat.div_le_self _ _),fun _ _=>rfl,fun r hr v hv=>dI (l:=bn (A / D) r) rfl v hv⟩ ?_
   exact ML J9 (jO (n:=1) (by rw [Nat.pow_one]; exact J9))
  ·have h1:nl D≠1:=by
    intro e;have e2:((nl D:Nat):Int)=1:=by rw [e]; rfl
    simp [e2] at h1
   have hnD:=lB h0;have J:2≤nl D:=by have:=zz hp.2; omega
   obtain ⟨n,hn⟩:∃ n,n=nl D - 1:=⟨_,rfl⟩;obtain ⟨s,hs⟩:∃ s,s=32 - fh (an D n):=⟨_,rfl⟩;obtain ⟨f1,f2,f3,f4,f5⟩:=Ub (D:=D) (n:=n) (s:=s) (by omega) hs
   obtain ⟨E,hE⟩:∃ E,E=D*2 ^ s:=⟨_,rfl⟩;have hEp:0 < E:=by rw [hE]; exact Nat.mul_pos pX (Nat.pow_pos (by decide))
   rw [← hE] at f3 f4 f5;have hEn:nl E=nl D:=by omega
   have e1:IntKind.i64.wrap (((nl D:Nat):Int) - 1)=((n:Nat):Int):=by rw [ax (by omega) (by omega)]; omega
   conv=>whnf
   simp only [e1];refine ⟨⟨by omega,by show ((n:Nat):Int) < ((nl D:Nat):Int); omega⟩,?_⟩
   simp only [toNat_cast,aw,Nat.zero_add];conv=>whnf
   refine ⟨by show n < nl D; omega,?_⟩
   conv=>whnf
   refine ⟨an D n,rfl,cH D n,?_⟩;simp only [Dw,← hs];conv=>whnf
   refine ⟨(A,ca,s),[0],rfl,⟨hp.1.1,f1⟩,?_⟩;conv=>whnf
   refine ⟨aH.aT (fun h=>h) (fun r hr=>rfl),?_⟩
   conv=>whnf
   refine ⟨_,rfl,?_⟩;conv=>whnf
   refine ⟨(D,cd,s),[1],rfl,⟨hp.1.2,f1⟩,?_⟩;conv=>whnf
   refine ⟨aH.aT (fun h=>h) (fun r hr=>rfl),?_⟩
   conv=>whnf
   refine ⟨_,rfl,?_⟩;conv=>whnf
   rw [show (A,ca,s).1*2 ^ (A,ca,s).2.2=A*2 ^ s from rfl,show (D,cd,s).1*2 ^ (D,cd,s).2.2=E from hE.symm]
   have afw:E < B ^ (nl D+1):=Nat.lt_of_lt_of_le (bV E) (Nat.pow_le_pow_right (by decide) (by omega))
   refine ⟨some (nl D+1,E,nl D+1),[3],rfl,⟨afw,by omega⟩,?_⟩
   conv=>whnf
   refine ⟨⟨(fun h=>by cases h),rfl,Nat.le_refl _,fun _ _=>rfl,fun r hr v hv=>dI (l:=bn E r) rfl v hv⟩,?_⟩
   conv=>whnf
   refine ⟨_,rfl,?_⟩;conv=>whnf
   obtain ⟨k,hk⟩:∃ k,k=nl A+1 - nl D:=⟨_,rfl⟩;have e2:IntKind.i64.wrap (((nl A+1:Nat):Int) - ((nl E:Nat):Int))=((k:Nat):Int):=by rw [ax (by omega) (by omega)]; omega
   simp only [e2];refine ⟨⟨by omega,by omega,by show ((k:Nat):Int)*((4:Nat):Int)≤_; omega⟩,?_⟩
   simp only [toNat_cast,ue];conv=>whnf
   refine .inl ⟨fun mm tz hz=>∃ (i:Nat) (U:Nat) (Q:Nat),bw (aF 8 (some (.int .i64 s)::some (.slice (some ⟨2,0,none⟩) (nl A+1) (nl A+1))::some (.slice (some ⟨3,0,none⟩) (nl E) (nl D+1))::some (.slice (some ⟨4,0,none⟩) k k)::some (.int .i64 (IntKind.i64.wrap ((i:Int) - 1)))::aF 60 [])) tz∧hz=[some (.flat false (nl A) 1 (bn A)),some (.flat false (nl D) 1 (bn D)),some (.flat true (nl A+1) 1 (bn U)),some (.flat true (nl D+1) 1 (bn E)),some (.flat true k 1 (bn Q))]∧i=mm∧(i≤k∧Q*E+U=A*2 ^ s∧U < E*B ^ i∧Q % B ^ i=0),.inl ⟨_,k,A*2 ^ s,0,(.sk 8 (.aa (.aa (.aa (.aa (.aa (.sk 60 .nil rfl)))))) rfl),rfl,rfl,?_⟩,?_⟩
   ·exact ⟨Nat.le_refl _,by rw [Nat.zero_mul,Nat.zero_add],Vu f1 f5 (by omega) (by omega),Nat.zero_mod _⟩
   rintro mm aV _ ⟨i,U,Q,aA,rfl,rfl,⟨hi,ER,hU,hQm⟩⟩
   obtain ⟨az,rfl⟩:∃ az:Nat→Value,aV=zs az 0 8 (.int .i64 s::.slice (some ⟨2,0,none⟩) (nl A+1) (nl A+1)::.slice (some ⟨3,0,none⟩) (nl E) (nl D+1)::.slice (some ⟨4,0,none⟩) k k::.int .i64 (IntKind.i64.wrap ((i:Int) - 1))::zs az 13 60 []):=bI aA;clear aA;conv=>whnf
   refine aM (fun h3=>?_) (fun h3=>?_)
   ·have h3:0 < i:=by
     rcases Nat.eq_zero_or_pos i with h | h
     ·subst h; revert h3; decide
     ·exact h
    obtain ⟨i,rfl⟩:∃ i',i=i'+1:=⟨i - 1,by omega⟩
    have ei:IntKind.i64.wrap (((i+1:Nat):Int) - 1)=((i:Nat):Int):=by rw [ax (by omega) (by omega)]; omega
    simp only [ei];obtain ⟨g1,g2,g3,g4⟩:=Vv hEp ER hU hQm;conv=>whnf
    refine ⟨⟨U,nl A+1,nl A+1,E,nl D+1,i⟩,[2,3],rfl,⟨by show nl A+1≤_; omega,by show 2≤nl E; omega,by show 2147483648≤an E (nl E - 1); rw [show nl E - 1=n by omega]; exact f4,by show i+nl E < nl A+1; omega,hU⟩,by decide,?_⟩
    conv=>whnf
    refine ⟨aH.aT (fun h=>h) (fun r hr=>rfl),?_⟩
    conv=>whnf
    refine ⟨⟨(fun h=>by cases h),rfl,by show nl E≤nl D+1; omega,fun _ _=>rfl,fun r hr v hv=>dI (l:=bn E r) rfl v hv⟩,?_⟩
    conv=>whnf
    refine ⟨_,rfl,?_⟩;conv=>whnf
    refine ⟨⟨by omega,by omega⟩,?_⟩
    simp only [toNat_cast,aw,Nat.zero_add];conv=>whnf
    refine ⟨by show i < k; omega,?_⟩
    conv=>whnf
    rw [fF g1];refine .inl ⟨_,?_,i,U % (E*B ^ i),cE Q i (U / (E*B ^ i)),(.sk 8 (.aa (.aa (.aa (.aa (.aa (.sk 60 .nil rfl)))))) rfl),rfl,rfl,?_⟩
    ·omega
    ·exact ⟨by omega,g2,g3,g4⟩
   ·have h3:i=0:=by
     rcases Nat.eq_zero_or_pos i with h | h
     ·exact h
     ·have e:IntKind.i64.wrap ((i:Int) - 1)=((i - 1:Nat):Int):=by rw [ax (by omega) (by omega)]; omega
      rw [e] at h3;exact absurd h3 (by simp)
    subst h3;rw [Nat.pow_zero,Nat.mul_one] at hU;rw [hE] at ER hU;obtain ⟨g1,g2,g3⟩:=WJ pX ER hU;have hUn:nl U≤nl E:=lB (by rw [hE]; exact Nat.le_of_lt hU)
    have R4:U < B ^ (nl A+1):=Nat.lt_of_lt_of_le (bV U) (Nat.pow_le_pow_right (by decide) (by omega))
    have R5:Q < B ^ k:=by
     rw [g1];refine (Nat.div_lt_iff_lt_mul pX).2 ?_;refine Nat.lt_of_lt_of_le (bV A) ?_;have h5:B ^ n≤D:=by rw [show n=nl D - 1 from hn]; exact SU hp.2
     rw [show nl A=k+n by omega,Nat.pow_add]
     exact Nat.mul_le_mul_left _ h5
    have hQn:=jO R5;have ml:nl (A % D)≤nl U:=by rw [← g3]; exact lB (Nat.div_le_self _ _)
    conv=>whnf
    refine ⟨some (k,Q,k),[4],rfl,⟨R5,by omega⟩,?_⟩
    conv=>whnf
    refine ⟨⟨(fun h=>by cases h),rfl,Nat.le_refl _,fun _ _=>rfl,fun r hr v hv=>dI (l:=bn Q r) rfl v hv⟩,?_⟩
    conv=>whnf
    refine ⟨_,rfl,?_⟩;conv=>whnf
    refine ⟨some (nl A+1,U,nl A+1),[2],rfl,⟨R4,by omega⟩,?_⟩
    conv=>whnf
    refine ⟨⟨(fun h=>by cases h),rfl,Nat.le_refl _,fun _ _=>rfl,fun r hr v hv=>dI (l:=bn U r) rfl v hv⟩,?_⟩
    conv=>whnf
    refine ⟨_,rfl,?_⟩;conv=>whnf
    refine ⟨(U,nl A+1,s),[2],rfl,⟨by show nl U≤_; omega,f1⟩,?_⟩
    conv=>whnf
    refine ⟨⟨(fun h=>by cases h),rfl,by show nl U≤nl A+1; omega,fun _ _=>rfl,fun r hr v hv=>dI (l:=bn U r) rfl v hv⟩,?_⟩
    conv=>whnf
    refine ⟨_,rfl,?_⟩;conv=>whnf
    show An gH (A,ca,D,cd) (.tuple ⟨[.slice (some ⟨4,0,none⟩) (nl Q) k,.slice (some ⟨5,0,none⟩) (nl (U / 2 ^ s)) aI]⟩) _
    rw [g3];clear g2 ER R4;subst g1;refine MK (q:=4) (r:=5) h0 (by decide) (by decide) (by decide) rfl rfl rfl rfl ⟨(fun h=>by cases h),rfl,hQn,fun _ _=>rfl,fun r hr v hv=>dI (l:=bn (A / D) r) rfl v hv⟩ ⟨(fun h=>by cases h),rfl,ml,fun r _=>by rw [← g3]; rfl,fun r hr v hv=>dI (l:=bn (A % D) r) rfl v hv⟩
set_option maxHeartbeats 1000000
open Go Go.Ae
theorem Nh:bg Tryz.prog 141 xt:=by
 refine bk D6 aN Tryz.func141 (enters_of Tryz.func141 (by kernel_rfl) rfl) (fun _=>rfl) (fun _=>rfl) ?_
 intro ⟨b,s⟩ hp;have hp:s.size≤549755813888:=hp;conv=>whnf
 refine aM (fun h1=>?_) (fun h1=>?_)
 ·have h1:¬ s.size≤7:=by
   have h1:=of_decide_eq_true h1;have h1:((s.size:Nat):Int) > 7:=h1;omega
  conv=>whnf
  simp only [xt,h1,if_false,decide_false]
 ·have h1:s.size≤7:=by
   have h1:=of_decide_eq_false h1;have h1:¬ ((s.size:Nat):Int) > 7:=h1;omega
  have fi:=h1;conv=>whnf
  refine .inl ⟨fun mm tz hz=>∃ (i:Nat) (N:Nat),bw (aF 1 (some (.pointer (some ⟨0,0,none⟩))::some (.int .i64 0)::some (.bool false)::some (.int .i64 N)::aF 7 (some (.int .i64 s.size)::some (.int .i64 i)::aF 16 []))) tz∧hz=[some (.aP true 2 [[.bool b,.string s]])]∧s.size - i=mm∧(i≤s.size∧N=ab s / C ^ (s.size - i)),.inl ⟨_,0,0,(.sk 1 (.aa (.aa (.aa (.aa (.sk 7 (.aa (.aa (.sk 16 .nil rfl))) rfl))))) rfl),rfl,rfl,?_⟩,?_⟩
  ·exact ⟨Nat.zero_le _,by rw [Nat.sub_zero,Nat.div_eq_of_lt (gx s)]⟩
  rintro mm aV _ ⟨i,N,aA,rfl,rfl,⟨hi,hN⟩⟩
  obtain ⟨az,rfl⟩:∃ az:Nat→Value,aV=zs az 0 1 (.pointer (some ⟨0,0,none⟩)::.int .i64 0::.bool false::.int .i64 N::zs az 5 7 (.int .i64 s.size::.int .i64 i::zs az 14 16 [])):=bI aA;clear aA;have al:=De s hi;rw [← hN] at al;have mT:=al;have al:=Nat.lt_of_lt_of_le al (ob (show i≤7 by omega))
  conv=>whnf
  refine aM (fun J=>?_) (fun J=>?_)
  ·have J:i < s.size:=by simpa using J
   have ar:=y8 J;rw [← hN] at ar;have hb:bW s i < 256:=wT s i;have eN:((N:Nat):Int)*256+((bW s i:Nat):Int)=((N*256+bW s i:Nat):Int):=by omega
   conv=>whnf
   refine ⟨⟨by omega,by omega⟩,?_⟩
   try simp (disch:=omega) only [ax,bK,dk,dJ,cf,dY,dz,ef,dc,dq,dy,dH,dA,dP,toNat_cast,aw,Nat.zero_add,dX,toNat_0,toNat_1,Nat.sub_zero,eh,eD,eG,eH,dR,eg,dZ,eE]
   conv=>whnf
   have e3:IntKind.i64.wrap (((i:Nat):Int)+1)=((i+1:Nat):Int):=by rw [ax (by omega) (by omega)]; rfl
   have Ka:=Nat.lt_of_lt_of_le mT (DZ (show i≤6 by omega))
   rw [Ot (by omega) hb,e3]
   refine .inl ⟨_,?_,i+1,N*256+bW s i,(.sk 1 (.aa (.aa (.aa (.aa (.sk 7 (.aa (.aa (.sk 16 .nil rfl))) rfl))))) rfl),rfl,rfl,?_⟩
   ·omega
   ·exact ⟨by omega,ar.symm⟩
  ·have J:i=s.size:=by
    have J:¬ i < s.size:=by simpa using J
    omega
   subst J;rw [Nat.sub_self,Nat.pow_zero,Nat.div_one] at hN;subst hN;cases b with
   | true =>
    conv=>whnf
    try simp (disch:=omega) only [ax,bK,dk,dJ,cf,dY,dz,ef,dc,dq,dy,dH,dA,dP,toNat_cast,aw,Nat.zero_add,dX,toNat_0,toNat_1,Nat.sub_zero,eh,eD,eG,eH,dR,eg,dZ,eE]
    have e:IV.z (true,s)=-(ab s:Int):=rfl;simp only [xt,e,fi,if_true,decide_true,Int.zero_sub]
   | false =>
    conv=>whnf
    have e:IV.z (false,s)=(ab s:Int):=rfl;simp only [xt,e,fi,if_true,decide_true]
def Ei:Env:=En [(131,.q vi),(135,.q vh),(139,.q Da),(136,.q xc),(141,.p xt)]
theorem Jc:EnvOk Tryz.prog Ei:=bF ⟨Hk,CU,XA,FJ,Nh,trivial⟩ trivial
theorem sW:bg Tryz.prog 83 e9:=by
 refine bk Jc aN Tryz.func83 (enters_of Tryz.func83 (by kernel_rfl) rfl) (fun _=>rfl) (fun _=>rfl) ?_
 intro (n:Int) hp;have hp:-9223372036854775808≤n∧n < 9223372036854775808:=hp;conv=>whnf
 obtain ⟨N,hN⟩:∃ N:Nat,N=n.natAbs:=⟨_,rfl⟩;have Bb:N < 18446744073709551616:=by omega
 have hl:=Nz Bb;refine aM (fun h1=>?_) (fun h1=>?_)
 ·have h1:n < 0:=of_decide_eq_true h1;have e1:IntKind.u64.wrap (0 - IntKind.u64.wrap n)=(N:Int):=by
   rw [Cm,Cm]; omega
  conv=>whnf
  simp only [e1];refine ⟨(decide (n < 0),some (2,N,2)),[1],rfl,⟨Pg Bb,by decide⟩,?_⟩
  conv=>whnf
  refine ⟨NA Bb,?_⟩;conv=>whnf
  refine ⟨_,rfl,?_⟩;conv=>whnf
  show lS (decide (n < 0)) N=aG n
  rw [jl]
  congr 1
  simp only [a9,h1,decide_true,decide_false,if_true,Bool.false_eq_true,if_false];omega
 ·have h1:¬ n < 0:=of_decide_eq_false h1;have e1:IntKind.u64.wrap n=(N:Int):=by
   rw [Cm]; omega
  conv=>whnf
  simp only [e1];refine ⟨(decide (n < 0),some (2,N,2)),[1],rfl,⟨Pg Bb,by decide⟩,?_⟩
  conv=>whnf
  refine ⟨NA Bb,?_⟩;conv=>whnf
  refine ⟨_,rfl,?_⟩;conv=>whnf
  show lS (decide (n < 0)) N=aG n
  rw [jl]
  congr 1
  simp only [a9,h1,decide_true,decide_false,if_true,Bool.false_eq_true,if_false];omega
theorem PC:bg Tryz.prog 92 fu:=by
 refine bk Jc aN Tryz.func92 (enters_of Tryz.func92 (by kernel_rfl) rfl) (fun _=>rfl) (fun _=>rfl) ?_
 intro ⟨⟨b,s⟩,⟨c,t⟩⟩ hp;have hp:s.size≤549755813888∧t.size≤549755813888:=hp;conv=>whnf
 refine .inl ⟨12,[[],[0],[],[2],[0,1,2,3],[],[5],[5,6],[],[8],[5,6,7,8,9],[5,6,7,8,9,10],[0,1,2,3,4,5,6,7,8,9,10,11],[0,1,2,3,4,5,6,7,8,9,10,11,12]],by kernel_rfl,?_⟩
 conv=>whnf
 refine ⟨s,[],rfl,by show s.size≤1099511627776; omega,?_⟩
 conv=>whnf
 refine ⟨_,rfl,?_⟩;conv=>whnf
 refine ⟨t,[],rfl,by show t.size≤1099511627776; omega,?_⟩
 conv=>whnf
 refine ⟨_,rfl,?_⟩;conv=>whnf
 refine ⟨(ab s,aI,ab t,aI),[10,13],rfl,⟨IV.nl (i:=(b,s)) hp.1,IV.nl (i:=(c,t)) hp.2⟩,?_⟩;conv=>whnf
 refine ⟨aH.aT (fun h=>h) (fun r hr=>rfl),?_⟩
 conv=>whnf
 refine ⟨aH.aT (fun h=>h) (fun r hr=>rfl),?_⟩
 conv=>whnf
 refine ⟨_,rfl,?_⟩;conv=>whnf
 have ie:=IV.nl (i:=(b,s)) hp.1;have iG:=IV.nl (i:=(c,t)) hp.2;have ie:nl (ab s)≤137438953472:=ie;have iG:nl (ab t)≤137438953472:=iG;have hmul:=Vx (ab s) (ab t);refine ⟨(b != c,some (nl (ab s*ab t),ab s*ab t,aI)),[14],rfl,⟨bV _,by omega⟩,?_⟩
 conv=>whnf
 refine ⟨aH.aT (fun h=>h) (fun r hr=>rfl),?_⟩
 conv=>whnf
 refine ⟨_,rfl,?_⟩;conv=>whnf
 show lS (b != c) (ab s*ab t)=_
 rw [jl,WK]
 rfl
open Go Go.Ae
theorem acI:bg Tryz.prog 130 g0:=by
 refine bk Jc aN Tryz.func130 (enters_of Tryz.func130 (by kernel_rfl) rfl) (fun _=>rfl) (fun _=>rfl) ?_
 intro ⟨b,s⟩ hp;have hp:s.size≤549755813888:=hp;have ie:nl (ab s)≤137438953472:=IV.nl (i:=(b,s)) hp;conv=>whnf
 refine .inl ⟨6,[[],[0],[0,1],[],[3],[3,4],[0,1,2,3,4,5],[0,1,2,3,4,5,6]],by kernel_rfl,?_⟩
 conv=>whnf
 refine ⟨s,[],rfl,by show s.size≤1099511627776; omega,?_⟩
 conv=>whnf
 refine ⟨_,rfl,?_⟩;conv=>whnf
 refine ⟨(!b,some (nl (ab s),ab s,aI)),[7],rfl,⟨bV _,by omega⟩,?_⟩
 conv=>whnf
 refine ⟨aH.aT (fun h=>h) (fun r hr=>rfl),?_⟩
 conv=>whnf
 refine ⟨_,rfl,?_⟩;conv=>whnf
 show lS (!b) (ab s)=_
 rw [jl,Gu]
 rfl
def Ej:Env:=En [(131,.q vi),(135,.q vh),(142,.q Dx),(143,.q C9),(136,.q xc),(141,.p xt),(83,.p e9)]
theorem Q6:EnvOk Tryz.prog Ej:=bF ⟨Hk,CU,aad,Xz,FJ,Nh,sW,trivial⟩ trivial
theorem HM:bg Tryz.prog 97 jb:=by
 refine bk Q6 aN Tryz.func97 (enters_of Tryz.func97 (by kernel_rfl) rfl) (fun _=>rfl) (fun _=>rfl) ?_
 intro ⟨⟨b,s⟩,⟨c,t⟩⟩ hp;have hp:s.size≤549755813888∧t.size≤549755813888:=hp;have ie:nl (ab s)≤137438953472:=IV.nl (i:=(b,s)) hp.1;have iG:nl (ab t)≤137438953472:=IV.nl (i:=(c,t)) hp.2;conv=>whnf
 refine ⟨(b,s),rfl,hp.1,?_⟩;conv=>whnf
 refine aM (fun h1=>?_) (fun h1=>?_)
 ·have h1:s.size≤7:=of_decide_eq_true h1;conv=>whnf
  refine ⟨(c,t),rfl,hp.2,?_⟩;conv=>whnf
  refine aM (fun J=>?_) (fun J=>?_)
  ·have J:t.size≤7:=of_decide_eq_true J;conv=>whnf
   have z1:=G3 (i:=(b,s)) h1;have z2:=G3 (i:=(c,t)) J;have ew:IntKind.i64.wrap ((if (b,s).snd.size≤7 then IV.z (b,s) else 0)+if (c,t).snd.size≤7 then IV.z (c,t) else 0)=IV.z (b,s)+IV.z (c,t):=by
    rw [if_pos h1,if_pos J];exact ax (by omega) (by omega)
   rw [ew];refine ⟨IV.z (b,s)+IV.z (c,t),rfl,⟨by omega,by omega⟩,?_⟩
   conv=>whnf
   rfl
  ·conv=>whnf
   refine .inl ⟨5,[[],[0],[0,1],[],[3],[0,1,2,3,4],[0,1,2,3,4,5],[0,1,2,3,4,5,6]],by kernel_rfl,?_⟩
   conv=>whnf
   refine ⟨s,[],rfl,by show s.size≤1099511627776; omega,?_⟩
   conv=>whnf
   refine ⟨_,rfl,?_⟩;conv=>whnf
   refine ⟨t,[],rfl,by show t.size≤1099511627776; omega,?_⟩
   conv=>whnf
   refine ⟨_,rfl,?_⟩;conv=>whnf
   refine aM (fun h5=>?_) (fun h5=>?_)
   ·have h5:b=c:=eq_of_beq h5;conv=>whnf
    refine .inl ⟨5,[[],[0],[],[],[2,3],[0,1,2,3,4],[0,1,2,3,4,5]],by kernel_rfl,?_⟩
    conv=>whnf
    refine ⟨(ab s,aI,ab t,aI),[5,8],rfl,⟨ie,iG⟩,?_⟩;conv=>whnf
    refine ⟨aH.aT (fun h=>h) (fun r hr=>rfl),?_⟩
    conv=>whnf
    refine ⟨aH.aT (fun h=>h) (fun r hr=>rfl),?_⟩
    conv=>whnf
    refine ⟨_,rfl,?_⟩;conv=>whnf
    have hal:=MN (ab s) (ab t);refine ⟨(b,some (nl (ab s+ab t),ab s+ab t,aI)),[13],rfl,⟨bV _,by omega⟩,?_⟩
    conv=>whnf
    refine ⟨aH.aT (fun h=>h) (fun r hr=>rfl),?_⟩
    conv=>whnf
    refine ⟨_,rfl,?_⟩;conv=>whnf
    show lS b (ab s+ab t)=aG (IV.z (b,s)+IV.z (c,t))
    rw [jl,MM,h5]
    rfl
   ·have h5:b≠c:=by
     intro e;subst e;cases b <;> cases h5
    conv=>whnf
    refine ⟨(ab s,aI,ab t,aI),[5,8],rfl,⟨ie,iG⟩,?_⟩;conv=>whnf
    refine ⟨aH.aT (fun h=>h) (fun r hr=>rfl),?_⟩
    conv=>whnf
    refine ⟨aH.aT (fun h=>h) (fun r hr=>rfl),?_⟩
    conv=>whnf
    refine ⟨_,rfl,?_⟩;conv=>whnf
    refine aM (fun h6=>?_) (fun h6=>?_)
    ·have h6:ab s≤ab t:=by
      have h6:cM (ab s) (ab t) < 0:=of_decide_eq_true h6;unfold cM at h6
      split at h6
      ·omega
      ·split at h6 <;> omega
     have lg:=lB (Nat.sub_le (ab t) (ab s));conv=>whnf
     refine .inl ⟨5,[[],[0],[],[],[2,3],[0,1,2,3,4],[0,1,2,3,4,5]],by kernel_rfl,?_⟩
     conv=>whnf
     refine ⟨(ab t,aI,ab s,aI),[8,5],rfl,⟨⟨iG,ie⟩,h6⟩,?_⟩;conv=>whnf
     refine ⟨aH.aT (fun h=>h) (fun r hr=>rfl),?_⟩
     conv=>whnf
     refine ⟨aH.aT (fun h=>h) (fun r hr=>rfl),?_⟩
     conv=>whnf
     refine ⟨_,rfl,?_⟩;conv=>whnf
     refine ⟨(c,some (nl (ab t - ab s),ab t - ab s,aI)),[13],rfl,⟨bV _,by omega⟩,?_⟩
     conv=>whnf
     refine ⟨aH.aT (fun h=>h) (fun r hr=>rfl),?_⟩
     conv=>whnf
     refine ⟨_,rfl,?_⟩;conv=>whnf
     show lS c (ab t - ab s)=aG (IV.z (b,s)+IV.z (c,t))
     rw [jl,B7 (Ne.symm h5) h6,Int.add_comm]
     rfl
    ·have h6:ab t≤ab s:=by
      have h6:¬ cM (ab s) (ab t) < 0:=of_decide_eq_false h6;unfold cM at h6
      split at h6
      ·omega
      ·split at h6 <;> omega
     have lg:=lB (Nat.sub_le (ab s) (ab t));conv=>whnf
     refine .inl ⟨5,[[],[0],[],[],[2,3],[0,1,2,3,4],[0,1,2,3,4,5]],by kernel_rfl,?_⟩
     conv=>whnf
     refine ⟨(ab s,aI,ab t,aI),[5,8],rfl,⟨⟨ie,iG⟩,h6⟩,?_⟩;conv=>whnf
     refine ⟨aH.aT (fun h=>h) (fun r hr=>rfl),?_⟩
     conv=>whnf
     refine ⟨aH.aT (fun h=>h) (fun r hr=>rfl),?_⟩
     conv=>whnf
     refine ⟨_,rfl,?_⟩;conv=>whnf
     refine ⟨(b,some (nl (ab s - ab t),ab s - ab t,aI)),[13],rfl,⟨bV _,by omega⟩,?_⟩
     conv=>whnf
     refine ⟨aH.aT (fun h=>h) (fun r hr=>rfl),?_⟩
     conv=>whnf
     refine ⟨_,rfl,?_⟩;conv=>whnf
     show lS b (ab s - ab t)=aG (IV.z (b,s)+IV.z (c,t))
     rw [jl,B7 h5 h6]
     rfl
 ·conv=>whnf
  refine .inl ⟨5,[[],[0],[0,1],[],[3],[0,1,2,3,4],[0,1,2,3,4,5],[0,1,2,3,4,5,6]],by kernel_rfl,?_⟩
  conv=>whnf
  refine ⟨s,[],rfl,by show s.size≤1099511627776; omega,?_⟩
  conv=>whnf
  refine ⟨_,rfl,?_⟩;conv=>whnf
  refine ⟨t,[],rfl,by show t.size≤1099511627776; omega,?_⟩
  conv=>whnf
  refine ⟨_,rfl,?_⟩;conv=>whnf
  refine aM (fun h5=>?_) (fun h5=>?_)
  ·have h5:b=c:=eq_of_beq h5;conv=>whnf
   refine .inl ⟨5,[[],[0],[],[],[2,3],[0,1,2,3,4],[0,1,2,3,4,5]],by kernel_rfl,?_⟩
   conv=>whnf
   refine ⟨(ab s,aI,ab t,aI),[5,8],rfl,⟨ie,iG⟩,?_⟩;conv=>whnf
   refine ⟨aH.aT (fun h=>h) (fun r hr=>rfl),?_⟩
   conv=>whnf
   refine ⟨aH.aT (fun h=>h) (fun r hr=>rfl),?_⟩
   conv=>whnf
   refine ⟨_,rfl,?_⟩;conv=>whnf
   have hal:=MN (ab s) (ab t);refine ⟨(b,some (nl (ab s+ab t),ab s+ab t,aI)),[13],rfl,⟨bV _,by omega⟩,?_⟩
   conv=>whnf
   refine ⟨aH.aT (fun h=>h) (fun r hr=>rfl),?_⟩
   conv=>whnf
   refine ⟨_,rfl,?_⟩;conv=>whnf
   show lS b (ab s+ab t)=aG (IV.z (b,s)+IV.z (c,t))
   rw [jl,MM,h5]
   rfl
  ·have h5:b≠c:=by
    intro e;subst e;cases b <;> cases h5
   conv=>whnf
   refine ⟨(ab s,aI,ab t,aI),[5,8],rfl,⟨ie,iG⟩,?_⟩;conv=>whnf
   refine ⟨aH.aT (fun h=>h) (fun r hr=>rfl),?_⟩
   conv=>whnf
   refine ⟨aH.aT (fun h=>h) (fun r hr=>rfl),?_⟩
   conv=>whnf
   refine ⟨_,rfl,?_⟩;conv=>whnf
   refine aM (fun h6=>?_) (fun h6=>?_)
   ·have h6:ab s≤ab t:=by
     have h6:cM (ab s) (ab t) < 0:=of_decide_eq_true h6;unfold cM at h6
     split at h6
     ·omega
     ·split at h6 <;> omega
    have lg:=lB (Nat.sub_le (ab t) (ab s));conv=>whnf
    refine .inl ⟨5,[[],[0],[],[],[2,3],[0,1,2,3,4],[0,1,2,3,4,5]],by kernel_rfl,?_⟩
    conv=>whnf
    refine ⟨(ab t,aI,ab s,aI),[8,5],rfl,⟨⟨iG,ie⟩,h6⟩,?_⟩;conv=>whnf
    refine ⟨aH.aT (fun h=>h) (fun r hr=>rfl),?_⟩
    conv=>whnf
    refine ⟨aH.aT (fun h=>h) (fun r hr=>rfl),?_⟩
    conv=>whnf
    refine ⟨_,rfl,?_⟩;conv=>whnf
    refine ⟨(c,some (nl (ab t - ab s),ab t - ab s,aI)),[13],rfl,⟨bV _,by omega⟩,?_⟩
    conv=>whnf
    refine ⟨aH.aT (fun h=>h) (fun r hr=>rfl),?_⟩
    conv=>whnf
    refine ⟨_,rfl,?_⟩;conv=>whnf
    show lS c (ab t - ab s)=aG (IV.z (b,s)+IV.z (c,t))
    rw [jl,B7 (Ne.symm h5) h6,Int.add_comm]
    rfl
   ·have h6:ab t≤ab s:=by
     have h6:¬ cM (ab s) (ab t) < 0:=of_decide_eq_false h6;unfold cM at h6
     split at h6
     ·omega
     ·split at h6 <;> omega
    have lg:=lB (Nat.sub_le (ab s) (ab t));conv=>whnf
    refine .inl ⟨5,[[],[0],[],[],[2,3],[0,1,2,3,4],[0,1,2,3,4,5]],by kernel_rfl,?_⟩
    conv=>whnf
    refine ⟨(ab s,aI,ab t,aI),[5,8],rfl,⟨⟨ie,iG⟩,h6⟩,?_⟩;conv=>whnf
    refine ⟨aH.aT (fun h=>h) (fun r hr=>rfl),?_⟩
    conv=>whnf
    refine ⟨aH.aT (fun h=>h) (fun r hr=>rfl),?_⟩
    conv=>whnf
    refine ⟨_,rfl,?_⟩;conv=>whnf
    refine ⟨(b,some (nl (ab s - ab t),ab s - ab t,aI)),[13],rfl,⟨bV _,by omega⟩,?_⟩
    conv=>whnf
    refine ⟨aH.aT (fun h=>h) (fun r hr=>rfl),?_⟩
    conv=>whnf
    refine ⟨_,rfl,?_⟩;conv=>whnf
    show lS b (ab s - ab t)=aG (IV.z (b,s)+IV.z (c,t))
    rw [jl,B7 h5 h6]
    rfl
def Ek:Env:=En [(97,.p jb)]
theorem afx:EnvOk Tryz.prog Ek:=bF ⟨HM,trivial⟩ trivial
theorem acJ:bg Tryz.prog 164 mK:=by
 refine bk afx aN Tryz.func164 (enters_of Tryz.func164 (by kernel_rfl) rfl) (fun _=>rfl) (fun _=>rfl) ?_
 intro ⟨⟨b,s⟩,⟨c,t⟩⟩ hp;have hp:s.size≤549755813888∧t.size≤549755813888:=hp;conv=>whnf
 refine ⟨((b,s),(!c,t)),rfl,hp,?_⟩;conv=>whnf
 show aG (IV.z (b,s)+a9 (!c) (ab t))=aG (IV.z (b,s) - IV.z (c,t))
 rw [Gu]
 rfl
theorem HN:bg Tryz.prog 87 lT:=by
 refine bk Q6 aN Tryz.func87 (enters_of Tryz.func87 (by kernel_rfl) rfl) (fun _=>rfl) (fun _=>rfl) ?_
 intro ⟨⟨b,s⟩,⟨c,t⟩⟩ hp;have hp:s.size≤549755813888∧t.size≤549755813888:=hp;have ie:nl (ab s)≤137438953472:=IV.nl (i:=(b,s)) hp.1;have iG:nl (ab t)≤137438953472:=IV.nl (i:=(c,t)) hp.2;conv=>whnf
 refine .inl ⟨5,[[],[0],[0,1],[],[3],[0,1,2,3,4],[0,1,2,3,4,5],[0,1,2,3,4,5,6]],by kernel_rfl,?_⟩
 conv=>whnf
 refine ⟨s,[],rfl,by show s.size≤1099511627776; omega,?_⟩
 conv=>whnf
 refine ⟨_,rfl,?_⟩;conv=>whnf
 refine ⟨t,[],rfl,by show t.size≤1099511627776; omega,?_⟩
 conv=>whnf
 refine ⟨_,rfl,?_⟩;conv=>whnf
 have fin:∀ (z:Int),z=dU (IV.z (b,s)) (IV.z (c,t))→Value.int .i64 z=lT.val ((b,s),(c,t)):=fun z h=>by rw [h]; rfl
 cases b with
 | false =>
  conv=>whnf
  cases c with
  | false =>
   conv=>whnf
   refine ⟨(ab s,aI,ab t,aI),[4,7],rfl,⟨ie,iG⟩,?_⟩;conv=>whnf
   refine ⟨aH.aT (fun h=>h) (fun r hr=>rfl),?_⟩
   conv=>whnf
   refine ⟨aH.aT (fun h=>h) (fun r hr=>rfl),?_⟩
   conv=>whnf
   refine ⟨_,rfl,?_⟩;conv=>whnf
   exact fin _ (Cq _ _).symm
  | true =>
   conv=>whnf
   rcases Nat.eq_zero_or_pos (ab t) with h1 | h1
   ·rw [xe h1];conv=>whnf
    refine ⟨(ab s,aI,ab t,aI),[4,7],rfl,⟨ie,iG⟩,?_⟩;conv=>whnf
    refine ⟨aH.aT (fun h=>h) (fun r hr=>rfl),?_⟩
    conv=>whnf
    refine ⟨aH.aT (fun h=>h) (fun r hr=>rfl),?_⟩
    conv=>whnf
    refine ⟨_,rfl,?_⟩;conv=>whnf
    refine fin _ ?_;show cM (ab s) (ab t)=dU ((ab s:Nat):Int) (-((ab t:Nat):Int))
    rw [h1];exact (Cq _ 0).symm
   ·rw [xq h1];conv=>whnf
    exact fin _ (uI (show -((ab t:Nat):Int) < ((ab s:Nat):Int) by omega)).symm
 | true =>
  conv=>whnf
  rcases Nat.eq_zero_or_pos (ab s) with J | J
  ·try rw [xe J]
   cases c with
   | false =>
    conv=>whnf
    try rw [xe J]
    conv=>whnf
    refine ⟨(ab s,aI,ab t,aI),[4,7],rfl,⟨ie,iG⟩,?_⟩;conv=>whnf
    refine ⟨aH.aT (fun h=>h) (fun r hr=>rfl),?_⟩
    conv=>whnf
    refine ⟨aH.aT (fun h=>h) (fun r hr=>rfl),?_⟩
    conv=>whnf
    refine ⟨_,rfl,?_⟩;conv=>whnf
    refine fin _ ?_;show cM (ab s) (ab t)=dU (-((ab s:Nat):Int)) ((ab t:Nat):Int)
    rw [J];exact (Cq 0 _).symm
   | true =>
    conv=>whnf
    try rw [xe J]
    conv=>whnf
    rcases Nat.eq_zero_or_pos (ab t) with h1 | h1
    ·rw [xe h1];conv=>whnf
     refine ⟨(ab s,aI,ab t,aI),[4,7],rfl,⟨ie,iG⟩,?_⟩;conv=>whnf
     refine ⟨aH.aT (fun h=>h) (fun r hr=>rfl),?_⟩
     conv=>whnf
     refine ⟨aH.aT (fun h=>h) (fun r hr=>rfl),?_⟩
     conv=>whnf
     refine ⟨_,rfl,?_⟩;conv=>whnf
     refine fin _ ?_;show cM (ab s) (ab t)=dU (-((ab s:Nat):Int)) (-((ab t:Nat):Int))
     rw [h1,J]
     rfl
    ·rw [xq h1];conv=>whnf
     exact fin _ (uI (show -((ab t:Nat):Int) < -((ab s:Nat):Int) by omega)).symm
  ·try rw [xq J]
   cases c with
   | false =>
    conv=>whnf
    try rw [xq J]
    conv=>whnf
    exact fin _ (uH (show -((ab s:Nat):Int) < ((ab t:Nat):Int) by omega)).symm
   | true =>
    conv=>whnf
    try rw [xq J]
    conv=>whnf
    rcases Nat.eq_zero_or_pos (ab t) with h1 | h1
    ·rw [xe h1];conv=>whnf
     exact fin _ (uH (show -((ab s:Nat):Int) < -((ab t:Nat):Int) by omega)).symm
    ·rw [xq h1];conv=>whnf
     refine ⟨(ab t,aI,ab s,aI),[7,4],rfl,⟨iG,ie⟩,?_⟩;conv=>whnf
     refine ⟨aH.aT (fun h=>h) (fun r hr=>rfl),?_⟩
     conv=>whnf
     refine ⟨aH.aT (fun h=>h) (fun r hr=>rfl),?_⟩
     conv=>whnf
     refine ⟨_,rfl,?_⟩;conv=>whnf
     exact fin _ (Ny _ _).symm
open Go Go.Ae
def El:Env:=En [(131,.q vi),(135,.q vh),(83,.p e9),(97,.p jb),(164,.p mK)] [(163,AY gH)]
theorem Q7:EnvOk Tryz.prog El:=bF ⟨Hk,CU,sW,HM,acJ,trivial⟩ ⟨V0,trivial⟩
theorem acK:bg Tryz.prog 133 vA:=by
 refine bk Q7 aN Tryz.func133 (enters_of Tryz.func133 (by kernel_rfl) rfl) (fun _=>rfl) (fun _=>rfl) ?_
 intro ⟨⟨b,s⟩,⟨c,t⟩⟩ hp;have hp:s.size≤549755813888∧t.size≤549755813888:=hp;have ie:nl (ab s)≤137438953472:=IV.nl (i:=(b,s)) hp.1;have iG:nl (ab t)≤137438953472:=IV.nl (i:=(c,t)) hp.2;conv=>whnf
 refine .inl ⟨5,[[],[0],[0,1],[],[3],[0,1,2,3,4],[0,1,2,3,4,5],[0,1,2,3,4,5,6]],by kernel_rfl,?_⟩
 conv=>whnf
 refine ⟨s,[],rfl,by show s.size≤1099511627776; omega,?_⟩
 conv=>whnf
 refine ⟨_,rfl,?_⟩;conv=>whnf
 refine ⟨t,[],rfl,by show t.size≤1099511627776; omega,?_⟩
 conv=>whnf
 refine ⟨_,rfl,?_⟩;conv=>whnf
 refine .inl ⟨fun mm tz hz=>∃ (A:Nat) (D:Nat) (ca:Nat) (cd:Nat),bw (aF 4 (some (.pointer (some ⟨0,0,none⟩))::some (.slice (some ⟨1,0,none⟩) (nl A) ca)::some (.slice (some ⟨2,0,none⟩) (nl D) cd)::aF 21 [])) tz∧hz=[some (.aP true 2 [[.bool false,.string ⟨#[]⟩]]),some (dT A),some (dT D)]∧D=mm∧((nl A≤137438953472∧nl D≤137438953472)∧Nat.gcd A D=Nat.gcd (ab s) (ab t)),.inr ⟨[2,5,8],[4,5,6],?_⟩,?_⟩
 ·conv=>whnf
  intro _;conv=>whnf
  refine ⟨_,ab s,ab t,aI,aI,(.sk 4 (.aa (.aa (.aa (.sk 21 .nil rfl)))) rfl),rfl,rfl,?_⟩;exact ⟨⟨ie,iG⟩,rfl⟩
 rintro mm aV _ ⟨A,D,ca,cd,aA,rfl,rfl,⟨ck,hg⟩⟩
 obtain ⟨az,rfl⟩:∃ az:Nat→Value,aV=zs az 0 4 (.pointer (some ⟨0,0,none⟩)::.slice (some ⟨1,0,none⟩) (nl A) ca::.slice (some ⟨2,0,none⟩) (nl D) cd::zs az 7 21 []):=bI aA;clear aA;conv=>whnf
 refine aM (fun h1=>?_) (fun h1=>?_)
 ·have h1:=Ya (of_decide_eq_true h1);conv=>whnf
  refine ⟨(A,ca,D,cd),[1,2],rfl,⟨ck,by show D≠0; omega⟩,by decide,?_⟩
  rcases Nat.lt_or_ge A D with J | J
  ·have ev:gH.val (A,ca,D,cd)=.tuple ⟨[.slice none 0 0,one A ca]⟩:=if_pos J;have en:gH.new (A,ca,D,cd)=[]:=if_pos J;rw [ev,en];conv=>whnf
   refine ⟨aH.aT (fun h=>h) (fun r hr=>rfl),?_⟩
   conv=>whnf
   refine ⟨aH.aT (fun h=>h) (fun r hr=>rfl),?_⟩
   conv=>whnf
   refine ⟨_,rfl,?_⟩;conv=>whnf
   refine .inr ⟨[0,2,1],[4,5,6],?_⟩;conv=>whnf
   intro _;conv=>whnf
   refine ⟨_,?_,D,A,cd,ca,(.sk 4 (.aa (.aa (.aa (.sk 21 .nil rfl)))) rfl),rfl,rfl,?_⟩
   ·omega
   ·exact ⟨⟨ck.2,ck.1⟩,by rw [Nat.gcd_comm]; exact hg⟩
  ·have ev:gH.val (A,ca,D,cd)=.tuple ⟨[kW 2 (A / D),kW 3 (A % D)]⟩:=if_neg (Nat.not_lt.2 J);have en:gH.new (A,ca,D,cd)=[dT (A / D),dT (A % D)]:=if_neg (Nat.not_lt.2 J);rw [ev,en];conv=>whnf
   refine ⟨aH.aT (fun h=>h) (fun r hr=>rfl),?_⟩
   conv=>whnf
   refine ⟨aH.aT (fun h=>h) (fun r hr=>rfl),?_⟩
   conv=>whnf
   refine ⟨_,rfl,?_⟩;conv=>whnf
   have hm:=Nat.mod_lt A h1;have lg:=lB (Nat.le_of_lt hm);refine .inr ⟨[0,2,4],[4,5,6],?_⟩;conv=>whnf
   intro _;conv=>whnf
   refine ⟨_,?_,D,A % D,cd,aI,(.sk 4 (.aa (.aa (.aa (.sk 21 .nil rfl)))) rfl),rfl,rfl,?_⟩
   ·omega
   ·exact ⟨⟨ck.2,by omega⟩,by rw [Nat.gcd_comm,← Nat.gcd_rec,Nat.gcd_comm]; exact hg⟩
 ·have h1:=Ud (of_decide_eq_false h1);subst h1;rw [Nat.gcd_zero_right] at hg;conv=>whnf
  refine ⟨(false,some (nl A,A,ca)),[1],rfl,⟨bV _,by omega⟩,?_⟩
  conv=>whnf
  refine ⟨aH.aT (fun h=>h) (fun r hr=>rfl),?_⟩
  conv=>whnf
  refine ⟨_,rfl,?_⟩;conv=>whnf
  show lS false A=aG ((Int.gcd (IV.z (b,s)) (IV.z (c,t)):Nat):Int)
  rw [jl,hg];unfold Int.gcd IV.z;rw [uA,uA]
  rfl
theorem acL:bg Tryz.prog 134 iM:=by
 refine bk Q7 aN Tryz.func134 (enters_of Tryz.func134 (by kernel_rfl) rfl) (fun _=>rfl) (fun _=>rfl) ?_
 intro ⟨⟨b,s⟩,⟨c,t⟩⟩ hp;have hp:s.size≤549755813888∧t.size≤549755813888:=hp;have ie:nl (ab s)≤137438953472:=IV.nl (i:=(b,s)) hp.1;have iG:nl (ab t)≤137438953472:=IV.nl (i:=(c,t)) hp.2;conv=>whnf
 refine ⟨t,[],rfl,by show t.size≤1099511627776; omega,?_⟩
 conv=>whnf
 refine ⟨_,rfl,?_⟩;conv=>whnf
 refine aM (fun h1=>?_) (fun h1=>?_)
 ·have h1:ab t=0:=by
   have h1:((nl (ab t):Nat):Int)=0:=by simpa using h1
   exact LP (by omega)
  have hz:IV.z (c,t)=0:=F5.2 h1;conv=>whnf
  have e:Int.fdiv (IV.z (b,s)) 0=0:=Int.fdiv_zero _;simp only [iM,hz,e,if_true,wU]
  rfl
 ·have h1:ab t≠0:=by
   intro e;rw [e,sG] at h1;cases h1
  conv=>whnf
  refine ⟨s,[],rfl,by show s.size≤1099511627776; omega,?_⟩
  conv=>whnf
  refine ⟨_,rfl,?_⟩;conv=>whnf
  refine ⟨(ab s,aI,ab t,aI),[5,4],rfl,⟨⟨ie,iG⟩,h1⟩,by decide,?_⟩
  have pX:0 < ab t:=Nat.pos_of_ne_zero h1;rcases Nat.lt_or_ge (ab s) (ab t) with J | J
  ·rw [show gH.val (ab s,aI,ab t,aI)=.tuple ⟨[.slice none 0 0,one (ab s) aI]⟩ from if_pos J,show gH.new (ab s,aI,ab t,aI)=[] from if_pos J]
   have hQ:0=ab s / ab t:=(Nat.div_eq_of_lt J).symm;have hR:ab s=ab s % ab t:=(Nat.mod_eq_of_lt J).symm;conv=>whnf
   refine ⟨aH.aT (fun h=>h) (fun r hr=>rfl),?_⟩
   conv=>whnf
   refine ⟨aH.aT (fun h=>h) (fun r hr=>rfl),?_⟩
   conv=>whnf
   refine ⟨_,rfl,?_⟩;conv=>whnf
   refine .inl ⟨13,[[],[0],[],[2],[0,1,2,3],[],[0,1,2,3,4,5],[],[7],[],[0,1,2,3,4,5,6,7,8,9],[],[],[0,1,2,3,4,5,6,7,8,9,10,11,12],[0,1,2,3,4,5,6,7,8,9,10,11,12,13]],by kernel_rfl,?_⟩
   conv=>whnf
   refine ⟨(b != c,none),[],rfl,trivial,?_⟩;conv=>whnf
   skip
   conv=>whnf
   obtain ⟨qs,rQ⟩:∃ qs,qs=nb (0):=⟨_,rfl⟩;obtain ⟨qb,rz⟩:∃ qb:Bool,qb=((b != c) && (0) != 0):=⟨_,rfl⟩;obtain ⟨rs,iQ⟩:∃ rs,rs=nb (ab s):=⟨_,rfl⟩;obtain ⟨rb,wg⟩:∃ rb:Bool,rb=(b && (ab s) != 0):=⟨_,rfl⟩;refine ⟨.agg ⟨[.bool qb,.string qs]⟩,by rw [rQ,rz]; rfl,?_⟩
   conv=>whnf
   refine ⟨(b,some (nl (ab s),ab s,aI)),[5],rfl,⟨bV _,by omega⟩,?_⟩
   conv=>whnf
   refine ⟨aH.aT (fun h=>h) (fun r hr=>rfl),?_⟩
   conv=>whnf
   refine ⟨.agg ⟨[.bool rb,.string rs]⟩,by rw [iQ,wg]; rfl,?_⟩
   conv=>whnf
   have eQ:Value.agg ⟨[.bool qb,.string qs]⟩=aG (a9 (b != c) (ab s / ab t)):=by rw [rQ,rz,← hQ]; exact jl _ _
   have eR:Value.agg ⟨[.bool rb,.string rs]⟩=aG (a9 b (ab s % ab t)):=by rw [iQ,wg,← hR]; exact jl _ _
   have fin:∀ (q r:Value),q=aG (Int.fdiv (IV.z (b,s)) (IV.z (c,t)))→r=aG (Int.fmod (IV.z (b,s)) (IV.z (c,t)))→Value.tuple ⟨[q,r,.int .i64 0]⟩=iM.val ((b,s),(c,t)):=fun q r hq hr=>by
    have hz:IV.z (c,t)≠0:=fun e=>h1 (F5.1 e)
    simp only [iM,if_neg hz];rw [hq,hr]
   rcases Nat.eq_zero_or_pos (ab s) with h3 | h3
   ·rw [show (!rs.toList == (⟨#[]⟩:ByteArray).toList)=false by rw [iQ]; exact xf h3]
    conv=>whnf
    refine .inr (.inl ⟨(.br 0 (.br 1 (.br 2 (.br 3 (.br 4 .leaf .leaf) .leaf) .leaf) (.br 2 (.br 1 (.br 3 (.br 4 .leaf .leaf) .leaf) .leaf) .leaf)) (.br 1 (.br 0 (.br 2 (.br 3 (.br 4 .leaf .leaf) .leaf) .leaf) .leaf) .leaf)),by kernel_rfl,?_⟩)
    have f1:=wV (b:=b) (c:=c) pX (.inl (show ab s % ab t=0 by rw [← hR]; exact h3))
    repeat' ((conv=>whnf); first | exact True.intro | refine And.intro ?_ ?_)
    all_goals conv=>whnf
    all_goals exact fin _ _ (eQ.trans (congrArg aG f1.1.symm)) (eR.trans (congrArg aG f1.2.symm))
   ·rw [show (!rs.toList == (⟨#[]⟩:ByteArray).toList)=true by rw [iQ]; exact xr (Nat.ne_of_gt h3)]
    conv=>whnf
    refine aM (fun h4=>?_) (fun h4=>?_)
    ·conv=>whnf
     refine .inl ⟨5,[[],[],[0,1],[],[],[0,1,2,3,4],[0,1,2,3,4,5],[0,1,2,3,4,5,6]],by kernel_rfl,?_⟩
     conv=>whnf
     have h4:b≠c:=by
      intro e;subst e;cases b <;> cases h4
     have f1:=FB (b:=b) (c:=c) pX (show ab s % ab t≠0 by rw [← hR]; exact Nat.ne_of_gt h3) h4
     have ES:IV.z (qb,qs)=a9 (b != c) (ab s / ab t):=by rw [rQ,rz,← hQ]; exact Dd _ _
     have pY:IV.z (rb,rs)=a9 b (ab s % ab t):=by rw [iQ,wg,← hR]; exact Dd _ _
     have sq:qs.size≤s.size:=by rw [rQ,hQ]; exact BT (Nat.div_le_self _ _)
     have sr:rs.size≤s.size:=by rw [iQ,hR]; exact BT (Nat.mod_le _ _)
     have s1:=HB;refine ⟨(1:Int),rfl,⟨by decide,by decide⟩,?_⟩
     obtain ⟨v1,nH⟩:∃ v1,v1=nb 1:=⟨_,rfl⟩;rw [show e9.val (1:Int)=.agg ⟨[.bool false,.string v1]⟩ by rw [nH]; rfl]
     rw [← nH] at s1;conv=>whnf
     refine ⟨((qb,qs),(false,v1)),rfl,⟨by show qs.size≤_; omega,by show v1.size≤_; omega⟩,?_⟩
     obtain ⟨q2,dW⟩:∃ q2,q2=nb (IV.z (qb,qs) - IV.z (false,v1)).natAbs:=⟨_,rfl⟩;obtain ⟨b2,dM⟩:∃ b2:Bool,b2=decide (IV.z (qb,qs) - IV.z (false,v1) < 0):=⟨_,rfl⟩;rw [show mK.val ((qb,qs),(false,v1))=.agg ⟨[.bool b2,.string q2]⟩ by rw [dW,dM]; rfl]
     conv=>whnf
     refine ⟨((rb,rs),(c,t)),rfl,⟨by show rs.size≤_; omega,hp.2⟩,?_⟩
     obtain ⟨q3,ic⟩:∃ q3,q3=nb (IV.z (rb,rs)+IV.z (c,t)).natAbs:=⟨_,rfl⟩;obtain ⟨b3,tO⟩:∃ b3:Bool,b3=decide (IV.z (rb,rs)+IV.z (c,t) < 0):=⟨_,rfl⟩;rw [show jb.val ((rb,rs),(c,t))=.agg ⟨[.bool b3,.string q3]⟩ by rw [ic,tO]; rfl]
     have e2:Value.agg ⟨[.bool b2,.string q2]⟩=aG (a9 (b != c) (ab s / ab t) - 1):=by
      have:IV.z (false,v1)=1:=by rw [nH]; show a9 false (ab (nb 1))=1; rw [ij]; rfl
      rw [dW,dM,ES,this]; rfl
     have e3:Value.agg ⟨[.bool b3,.string q3]⟩=aG (a9 b (ab s % ab t)+a9 c (ab t)):=by
      rw [ic,tO,pY]; rfl
     conv=>whnf
     refine .inr (.inl ⟨(.br 0 (.br 1 (.br 2 (.br 3 (.br 4 .leaf .leaf) .leaf) .leaf) (.br 2 (.br 1 (.br 3 (.br 4 .leaf .leaf) .leaf) .leaf) .leaf)) (.br 1 (.br 0 (.br 2 (.br 3 (.br 4 .leaf .leaf) .leaf) .leaf) .leaf) .leaf)),by kernel_rfl,?_⟩)
     repeat' ((conv=>whnf); first | exact True.intro | refine And.intro ?_ ?_)
     all_goals conv=>whnf
     all_goals exact fin _ _ (e2.trans (congrArg aG f1.1.symm)) (e3.trans (congrArg aG f1.2.symm))
    ·conv=>whnf
     refine .inr (.inl ⟨(.br 0 (.br 1 (.br 2 (.br 3 (.br 4 .leaf .leaf) .leaf) .leaf) (.br 2 (.br 1 (.br 3 (.br 4 .leaf .leaf) .leaf) .leaf) .leaf)) (.br 1 (.br 0 (.br 2 (.br 3 (.br 4 .leaf .leaf) .leaf) .leaf) .leaf) .leaf)),by kernel_rfl,?_⟩)
     have h4:b=c:=by
      cases b <;> cases c <;> first | rfl | cases h4
     have f1:=wV (b:=b) (c:=c) (A:=ab s) pX (.inr h4)
     repeat' ((conv=>whnf); first | exact True.intro | refine And.intro ?_ ?_)
     all_goals conv=>whnf
     all_goals exact fin _ _ (eQ.trans (congrArg aG f1.1.symm)) (eR.trans (congrArg aG f1.2.symm))
  ·rw [show gH.val (ab s,aI,ab t,aI)=.tuple ⟨[kW 2 (ab s / ab t),kW 3 (ab s % ab t)]⟩ from if_neg (Nat.not_lt.2 J),show gH.new (ab s,aI,ab t,aI)=[dT (ab s / ab t),dT (ab s % ab t)] from if_neg (Nat.not_lt.2 J)]
   have hQ:ab s / ab t=ab s / ab t:=rfl;have hR:ab s % ab t=ab s % ab t:=rfl;conv=>whnf
   refine ⟨aH.aT (fun h=>h) (fun r hr=>rfl),?_⟩
   conv=>whnf
   refine ⟨aH.aT (fun h=>h) (fun r hr=>rfl),?_⟩
   conv=>whnf
   refine ⟨_,rfl,?_⟩;conv=>whnf
   refine .inl ⟨13,[[],[0],[],[2],[0,1,2,3],[],[0,1,2,3,4,5],[],[7],[],[0,1,2,3,4,5,6,7,8,9],[],[],[0,1,2,3,4,5,6,7,8,9,10,11,12],[0,1,2,3,4,5,6,7,8,9,10,11,12,13]],by kernel_rfl,?_⟩
   conv=>whnf
   refine ⟨(b != c,some (nl (ab s / ab t),ab s / ab t,aI)),[6],rfl,⟨bV _,by have:=lB (Nat.div_le_self (ab s) (ab t)); omega⟩,?_⟩
   conv=>whnf
   refine ⟨aH.aT (fun h=>h) (fun r hr=>rfl),?_⟩
   conv=>whnf
   obtain ⟨qs,rQ⟩:∃ qs,qs=nb (ab s / ab t):=⟨_,rfl⟩;obtain ⟨qb,rz⟩:∃ qb:Bool,qb=((b != c) && (ab s / ab t) != 0):=⟨_,rfl⟩;obtain ⟨rs,iQ⟩:∃ rs,rs=nb (ab s % ab t):=⟨_,rfl⟩;obtain ⟨rb,wg⟩:∃ rb:Bool,rb=(b && (ab s % ab t) != 0):=⟨_,rfl⟩;refine ⟨.agg ⟨[.bool qb,.string qs]⟩,by rw [rQ,rz]; rfl,?_⟩
   conv=>whnf
   refine ⟨(b,some (nl (ab s % ab t),ab s % ab t,aI)),[7],rfl,⟨bV _,by have:=lB (Nat.mod_le (ab s) (ab t)); omega⟩,?_⟩
   conv=>whnf
   refine ⟨aH.aT (fun h=>h) (fun r hr=>rfl),?_⟩
   conv=>whnf
   refine ⟨.agg ⟨[.bool rb,.string rs]⟩,by rw [iQ,wg]; rfl,?_⟩
   conv=>whnf
   have eQ:Value.agg ⟨[.bool qb,.string qs]⟩=aG (a9 (b != c) (ab s / ab t)):=by rw [rQ,rz,← hQ]; exact jl _ _
   have eR:Value.agg ⟨[.bool rb,.string rs]⟩=aG (a9 b (ab s % ab t)):=by rw [iQ,wg,← hR]; exact jl _ _
   have fin:∀ (q r:Value),q=aG (Int.fdiv (IV.z (b,s)) (IV.z (c,t)))→r=aG (Int.fmod (IV.z (b,s)) (IV.z (c,t)))→Value.tuple ⟨[q,r,.int .i64 0]⟩=iM.val ((b,s),(c,t)):=fun q r hq hr=>by
    have hz:IV.z (c,t)≠0:=fun e=>h1 (F5.1 e)
    simp only [iM,if_neg hz];rw [hq,hr]
   rcases Nat.eq_zero_or_pos (ab s % ab t) with h3 | h3
   ·rw [show (!rs.toList == (⟨#[]⟩:ByteArray).toList)=false by rw [iQ]; exact xf h3]
    conv=>whnf
    refine .inr (.inl ⟨(.br 0 (.br 1 (.br 2 (.br 3 (.br 4 .leaf .leaf) .leaf) .leaf) (.br 2 (.br 1 (.br 3 (.br 4 .leaf .leaf) .leaf) .leaf) .leaf)) (.br 1 (.br 0 (.br 2 (.br 3 (.br 4 .leaf .leaf) .leaf) .leaf) .leaf) .leaf)),by kernel_rfl,?_⟩)
    have f1:=wV (b:=b) (c:=c) pX (.inl (show ab s % ab t=0 by rw [← hR]; exact h3))
    repeat' ((conv=>whnf); first | exact True.intro | refine And.intro ?_ ?_)
    all_goals conv=>whnf
    all_goals exact fin _ _ (eQ.trans (congrArg aG f1.1.symm)) (eR.trans (congrArg aG f1.2.symm))
   ·rw [show (!rs.toList == (⟨#[]⟩:ByteArray).toList)=true by rw [iQ]; exact xr (Nat.ne_of_gt h3)]
    conv=>whnf
    refine aM (fun h4=>?_) (fun h4=>?_)
    ·conv=>whnf
     refine .inl ⟨5,[[],[],[0,1],[],[],[0,1,2,3,4],[0,1,2,3,4,5],[0,1,2,3,4,5,6]],by kernel_rfl,?_⟩
     conv=>whnf
     have h4:b≠c:=by
      intro e;subst e;cases b <;> cases h4
     have f1:=FB (b:=b) (c:=c) pX (show ab s % ab t≠0 by rw [← hR]; exact Nat.ne_of_gt h3) h4
     have ES:IV.z (qb,qs)=a9 (b != c) (ab s / ab t):=by rw [rQ,rz,← hQ]; exact Dd _ _
     have pY:IV.z (rb,rs)=a9 b (ab s % ab t):=by rw [iQ,wg,← hR]; exact Dd _ _
     have sq:qs.size≤s.size:=by rw [rQ,hQ]; exact BT (Nat.div_le_self _ _)
     have sr:rs.size≤s.size:=by rw [iQ,hR]; exact BT (Nat.mod_le _ _)
     have s1:=HB;refine ⟨(1:Int),rfl,⟨by decide,by decide⟩,?_⟩
     obtain ⟨v1,nH⟩:∃ v1,v1=nb 1:=⟨_,rfl⟩;rw [show e9.val (1:Int)=.agg ⟨[.bool false,.string v1]⟩ by rw [nH]; rfl]
     rw [← nH] at s1;conv=>whnf
     refine ⟨((qb,qs),(false,v1)),rfl,⟨by show qs.size≤_; omega,by show v1.size≤_; omega⟩,?_⟩
     obtain ⟨q2,dW⟩:∃ q2,q2=nb (IV.z (qb,qs) - IV.z (false,v1)).natAbs:=⟨_,rfl⟩;obtain ⟨b2,dM⟩:∃ b2:Bool,b2=decide (IV.z (qb,qs) - IV.z (false,v1) < 0):=⟨_,rfl⟩;rw [show mK.val ((qb,qs),(false,v1))=.agg ⟨[.bool b2,.string q2]⟩ by rw [dW,dM]; rfl]
     conv=>whnf
     refine ⟨((rb,rs),(c,t)),rfl,⟨by show rs.size≤_; omega,hp.2⟩,?_⟩
     obtain ⟨q3,ic⟩:∃ q3,q3=nb (IV.z (rb,rs)+IV.z (c,t)).natAbs:=⟨_,rfl⟩;obtain ⟨b3,tO⟩:∃ b3:Bool,b3=decide (IV.z (rb,rs)+IV.z (c,t) < 0):=⟨_,rfl⟩;rw [show jb.val ((rb,rs),(c,t))=.agg ⟨[.bool b3,.string q3]⟩ by rw [ic,tO]; rfl]
     have e2:Value.agg ⟨[.bool b2,.string q2]⟩=aG (a9 (b != c) (ab s / ab t) - 1):=by
      have:IV.z (false,v1)=1:=by rw [nH]; show a9 false (ab (nb 1))=1; rw [ij]; rfl
      rw [dW,dM,ES,this]; rfl
     have e3:Value.agg ⟨[.bool b3,.string q3]⟩=aG (a9 b (ab s % ab t)+a9 c (ab t)):=by
      rw [ic,tO,pY]; rfl
     conv=>whnf
     refine .inr (.inl ⟨(.br 0 (.br 1 (.br 2 (.br 3 (.br 4 .leaf .leaf) .leaf) .leaf) (.br 2 (.br 1 (.br 3 (.br 4 .leaf .leaf) .leaf) .leaf) .leaf)) (.br 1 (.br 0 (.br 2 (.br 3 (.br 4 .leaf .leaf) .leaf) .leaf) .leaf) .leaf)),by kernel_rfl,?_⟩)
     repeat' ((conv=>whnf); first | exact True.intro | refine And.intro ?_ ?_)
     all_goals conv=>whnf
     all_goals exact fin _ _ (e2.trans (congrArg aG f1.1.symm)) (e3.trans (congrArg aG f1.2.symm))
    ·conv=>whnf
     refine .inr (.inl ⟨(.br 0 (.br 1 (.br 2 (.br 3 (.br 4 .leaf .leaf) .leaf) .leaf) (.br 2 (.br 1 (.br 3 (.br 4 .leaf .leaf) .leaf) .leaf) .leaf)) (.br 1 (.br 0 (.br 2 (.br 3 (.br 4 .leaf .leaf) .leaf) .leaf) .leaf) .leaf)),by kernel_rfl,?_⟩)
     have h4:b=c:=by
      cases b <;> cases c <;> first | rfl | cases h4
     have f1:=wV (b:=b) (c:=c) (A:=ab s) pX (.inr h4)
     repeat' ((conv=>whnf); first | exact True.intro | refine And.intro ?_ ?_)
     all_goals conv=>whnf
     all_goals exact fin _ _ (eQ.trans (congrArg aG f1.1.symm)) (eR.trans (congrArg aG f1.2.symm))
open Go Go.Ae
theorem Cz:bg Tryz.prog 191 kM:=by
 refine bk lZ aN Tryz.func191 (enters_of Tryz.func191 (by kernel_rfl) rfl) (fun _=>rfl) (fun _=>rfl) ?_
 intro (s:ByteArray) (hs:s.size≤1099511627776);simp only [kM];conv=>whnf
 refine .inl ⟨fun mm tz hz=>∃ (u:ByteArray),bw (some (.string u)::aF 13 []) tz∧hz=[]∧u.size=mm∧(ab u=ab s∧u.size≤s.size),.inl ⟨_,s,(.aa (.sk 13 .nil rfl)),rfl,rfl,?_⟩,?_⟩
 ·exact ⟨rfl,Nat.le_refl _⟩
 rintro mm aV _ ⟨u,aA,rfl,rfl,⟨hu,hle⟩⟩
 obtain ⟨az,rfl⟩:∃ az:Nat→Value,aV=.string u::zs az 1 13 []:=bI aA;clear aA;conv=>whnf
 rcases Nat.eq_zero_or_pos u.size with h1 | h1
 ·rw [show decide (((u.size:Nat):Int) > 0)=false from decide_eq_false (by omega)]
  conv=>whnf
  rw [← hu,← zA (.inl h1)]
 ·rw [show decide (((u.size:Nat):Int) > 0)=true from decide_eq_true (by omega)]
  conv=>whnf
  refine ⟨⟨by omega,by omega⟩,?_⟩
  conv=>whnf
  refine aM (fun J=>?_) (fun J=>?_)
  ·have J:bW u 0=0:=by
    have J:((bW u 0:Nat):Int)=0:=by simpa using J
    omega
   obtain ⟨d1,d2⟩:=drop_zero (by omega) J
   conv=>whnf
   refine ⟨⟨by decide,by show (1:Int)≤((u.size:Nat):Int); omega,Int.le_refl _⟩,?_⟩
   conv=>whnf
   refine .inl ⟨_,?_,u.extract 1 u.size,(.aa (.sk 13 .nil rfl)),rfl,rfl,?_⟩
   ·rw [d2]; omega
   ·exact ⟨by rw [d1,hu],by rw [d2]; omega⟩
  ·have J:bW u 0≠0:=by
    intro h;have e:bW u (Int.toNat 0)=bW u 0:=rfl;rw [e,h] at J;simp at J
   conv=>whnf
   rw [← hu,← zA (.inr J)]
def Era:Env:=En [(191,.p kM)]
theorem Ac:EnvOk Tryz.prog Era:=bF ⟨Cz,trivial⟩ trivial
theorem Ge:bg Tryz.prog 179 jn:=by
 refine bk Ac aN Tryz.func179 (enters_of Tryz.func179 (by kernel_rfl) rfl) (fun _=>rfl) (fun _=>rfl) ?_
 intro ⟨b,s⟩ hp;have hp:s.size≤549755813888:=hp;obtain ⟨m,hm⟩:∃ m,m=nb (ab s):=⟨_,rfl⟩;have Q8:kM.val s=.string m:=by rw [hm]; rfl
 have fin:Value.agg ⟨[.bool (b && ab s != 0),.string m]⟩=aG (IV.z (b,s)):=by rw [hm]; exact jl b (ab s)
 conv=>whnf
 rcases Nat.eq_zero_or_pos s.size with h1 | h1
 ·rw [show decide ((((b,s).snd.size:Nat):Int) > 0)=false from decide_eq_false (by show ¬ (((s.size:Nat):Int) > 0); omega)]
  conv=>whnf
  refine ⟨s,rfl,by show s.size≤1099511627776; omega,?_⟩
  rw [Q8];cases b with
  | false =>
   conv=>whnf
   exact fin
  | true =>
   conv=>whnf
   refine Eq.trans ?_ fin;rw [hm];show Value.agg ⟨[.bool (!(nb (ab s)).toList == (⟨#[]⟩:ByteArray).toList),.string (nb (ab s))]⟩=_
   rw [Gv,Bool.true_and]
 ·rw [show decide ((((b,s).snd.size:Nat):Int) > 0)=true from decide_eq_true (by show (((s.size:Nat):Int) > 0); omega)]
  conv=>whnf
  refine ⟨⟨by decide,by show (0:Int) < ((s.size:Nat):Int); omega⟩,?_⟩
  conv=>whnf
  refine aM (fun J=>?_) (fun J=>?_)
  ·have J:bW s 0≠0:=by
    intro h;have e:bW (b,s).snd (Int.toNat 0)=bW s 0:=rfl;rw [e,h] at J;simp at J
   conv=>whnf
   exact Vy h1 J
  ·conv=>whnf
   refine ⟨s,rfl,by show s.size≤1099511627776; omega,?_⟩
   rw [Q8];cases b with
   | false =>
    conv=>whnf
    exact fin
   | true =>
    conv=>whnf
    refine Eq.trans ?_ fin;rw [hm];show Value.agg ⟨[.bool (!(nb (ab s)).toList == (⟨#[]⟩:ByteArray).toList),.string (nb (ab s))]⟩=_
    rw [Gv,Bool.true_and]
theorem Gf:bg Tryz.prog 193 ke:=by
 refine bk Ac aN Tryz.func193 (enters_of Tryz.func193 (by kernel_rfl) rfl) (fun _=>rfl) (fun _=>rfl) ?_
 intro (s:ByteArray) (hp:s.size≤7);conv=>whnf
 refine .inl ⟨fun mm tz hz=>∃ (i:Nat) (N:Nat),bw (some (.string s)::aF 2 (some (.int .i64 N)::some (.int .i64 i)::aF 14 [])) tz∧hz=[]∧s.size - i=mm∧(i≤s.size∧N=ab s / C ^ (s.size - i)),.inl ⟨_,0,0,(.aa (.sk 2 (.aa (.aa (.sk 14 .nil rfl))) rfl)),rfl,rfl,?_⟩,?_⟩
 ·exact ⟨Nat.zero_le _,by rw [Nat.sub_zero,Nat.div_eq_of_lt (gx s)]⟩
 rintro mm aV _ ⟨i,N,aA,rfl,rfl,⟨hi,hN⟩⟩
 obtain ⟨az,rfl⟩:∃ az:Nat→Value,aV=.string s::zs az 1 2 (.int .i64 N::.int .i64 i::zs az 5 14 []):=bI aA;clear aA;have mT:=De s hi;rw [← hN] at mT;have al:=Nat.lt_of_lt_of_le mT (ob (show i≤7 by omega))
 conv=>whnf
 refine aM (fun J=>?_) (fun J=>?_)
 ·have J:i < s.size:=by simpa using J
  have ar:=y8 J;rw [← hN] at ar;have hb:bW s i < 256:=wT s i;have e3:IntKind.i64.wrap (((i:Nat):Int)+1)=((i+1:Nat):Int):=by rw [ax (by omega) (by omega)]; rfl
  have Ka:=Nat.lt_of_lt_of_le mT (DZ (show i≤6 by omega))
  conv=>whnf
  refine ⟨⟨by omega,by omega⟩,?_⟩
  simp only [toNat_cast];conv=>whnf
  rw [NB (by omega) hb,e3]
  refine .inl ⟨_,?_,i+1,N*256+bW s i,(.aa (.sk 2 (.aa (.aa (.sk 14 .nil rfl))) rfl)),rfl,rfl,?_⟩
  ·omega
  ·exact ⟨by omega,ar.symm⟩
 ·have J:i=s.size:=by
   have J:¬ i < s.size:=by simpa using J
   omega
  subst J;rw [Nat.sub_self,Nat.pow_zero,Nat.div_one] at hN;subst hN;conv=>whnf
  rfl
def Erb:Env:=En [(193,.p ke)]
theorem adO:EnvOk Tryz.prog Erb:=bF ⟨Gf,trivial⟩ trivial
theorem V1:bg Tryz.prog 181 xL:=by
 refine bk adO aN Tryz.func181 (enters_of Tryz.func181 (by kernel_rfl) rfl) (fun _=>rfl) (fun _=>rfl) ?_
 intro ⟨b,s⟩ hp;have hp:s.size≤7:=hp;have al:=Nat.lt_of_lt_of_le (gx s) (ob hp);cases b with
 | true =>
  conv=>whnf
  refine ⟨s,rfl,hp,?_⟩;conv=>whnf
  rw [ax (by omega) (by omega)]
  show Value.int .i64 (0 - (ab s:Int))=.int .i64 (-(ab s:Int))
  rw [Int.zero_sub]
 | false =>
  conv=>whnf
  refine ⟨s,rfl,hp,?_⟩;conv=>whnf
  rfl
theorem aae:bg Tryz.prog 177 IX:=by
 refine bk lZ aN Tryz.func177 (enters_of Tryz.func177 (by kernel_rfl) rfl) (fun _=>rfl) (fun _=>rfl) ?_
 intro (n:Nat) (hp:n < 9223372036854775808);conv=>whnf
 refine aM (fun h1=>?_) (fun h1=>?_)
 ·have h1:n < 256:=by
   have:=of_decide_eq_true h1;omega
  conv=>whnf
  refine aM (fun J=>?_) (fun J=>?_)
  ·have J:n=0:=by
    have J:((n:Nat):Int)=0:=by simpa using J
    omega
   subst J;conv=>whnf
   show Value.string ⟨#[]⟩=.string (nb 0)
   rw [oZ]
  ·have J:n≠0:=by
    intro e;subst e;simp at J
   conv=>whnf
   rw [qH];refine ⟨⟨Nat.le_refl _,fun r hr=>by
    have h0:r=0:=by
     have hr:r < 1:=hr;omega
    subst h0;exact ⟨_,rfl⟩⟩,?_⟩
   have e:=Fc (g:=fun r=>[[Value.int .u8 ((n % C:Nat):Int)]].getD r []) (i:=0) (m:=1) (X:=n) (fun r hr=>by
    have:r=0:=by omega
    subst this;show [Value.int .u8 ((n % C:Nat):Int)]=[Value.int .u8 ((n / C ^ 0 % C:Nat):Int)]
    rw [Nat.pow_zero,Nat.div_one])
   conv=>whnf
   show _=Value.string (nb n)
   rw [x0 (N:=n) (n:=1) h1 (.inr (by show 1≤n; omega)),← e]
   rfl
 ·have h1:256≤n:=by
   have:=of_decide_eq_false h1;omega
  conv=>whnf
  refine .inl ⟨fun mm tz hz=>∃ (i:Nat) (m:Nat) (g:Nat→List Value),bw (some (.int .i64 m)::aF 2 (some (.pointer (some ⟨0,0,none⟩))::some (.int .i64 i)::aF 21 [])) tz∧hz=[some (.flat true 8 1 g)]∧m=mm∧((i≤8∧m=n / C ^ (8 - i))∧(i=8∨C ^ (8 - i - 1)≤n)∧(∀ r,i≤r→r < 8→g r=[.int .u8 ((n / C ^ (7 - r) % C:Nat):Int)])∧(∀ r,r < 8→∃ x:Int,g r=[.int .u8 x])),.inl ⟨_,8,n,_,(.aa (.sk 2 (.aa (.aa (.sk 21 .nil rfl))) rfl)),rfl,rfl,?_⟩,?_⟩
  ·exact ⟨⟨Nat.le_refl _,by simp⟩,.inl rfl,fun r h1 J=>absurd h1 (by omega),fun r hr=>⟨0,rfl⟩⟩
  rintro mm aV _ ⟨i,m,g,aA,rfl,rfl,⟨⟨hi,hm⟩,ho,hg,c5⟩⟩
  obtain ⟨az,rfl⟩:∃ az:Nat→Value,aV=.int .i64 m::zs az 1 2 (.pointer (some ⟨0,0,none⟩)::.int .i64 i::zs az 5 21 []):=bI aA;clear aA;conv=>whnf
  refine aM (fun J=>?_) (fun J=>?_)
  ·have J:0 < m:=by
    have:=of_decide_eq_true J;omega
   have gd:0 < i:=by
    rcases Nat.eq_zero_or_pos i with h | h
    ·subst h;rw [hm] at J;rw [QN hp] at J;exact absurd J (by decide)
    ·exact h
   obtain ⟨i,rfl⟩:∃ i',i=i'+1:=⟨i - 1,by omega⟩
   have ei:IntKind.i64.wrap (((i+1:Nat):Int) - 1)=((i:Nat):Int):=by rw [ax (by omega) (by omega)]; omega
   have bN:m / 256=n / C ^ (8 - i):=by
    rw [hm,Fe,show 8 - (i+1)+1=8 - i by omega]
   have Jd:C ^ (8 - (i+1))≤n:=by
    rcases Nat.lt_or_ge n (C ^ (8 - (i+1))) with h | h
    ·rw [hm,Nat.div_eq_of_lt h] at J;exact absurd J (by decide)
    ·exact h
   conv=>whnf
   simp only [ei];refine ⟨⟨by omega,by omega⟩,?_⟩
   simp only [toNat_cast,aw,Nat.zero_add];conv=>whnf
   refine ⟨by show i < 8; omega,?_⟩
   conv=>whnf
   obtain ⟨x,hx⟩:=c5 i (by omega)
   rw [hx];conv=>whnf
   rw [qH,dc,show ((m:Nat):Int) / 256=((m / 256:Nat):Int) from rfl]
   refine .inl ⟨_,?_,i,m / 256,_,(.aa (.sk 2 (.aa (.aa (.sk 21 .nil rfl))) rfl)),rfl,rfl,?_⟩
   ·omega
   ·refine ⟨⟨by omega,bN⟩,.inr (by rw [show 8 - i - 1=8 - (i+1) by omega]; exact Jd),fun r iF fk=>?_,fun r hr=>?_⟩
    rotate_left
    ·by_cases he:r=i
     ·exact ⟨_,if_pos he⟩
     ·rw [if_neg he]; exact c5 r hr
    by_cases he:r=i
    ·subst he;rw [if_pos rfl,hm,show 7 - r=8 - (r+1) by omega]
    ·rw [if_neg he];exact hg r (by omega) fk
  ·have J:m=0:=by
    have:=of_decide_eq_false J;omega
   have al:n < C ^ (8 - i):=by
    rw [J] at hm;have h3:=Nat.mod_lt n (gZ (8 - i));have h4:=Nat.mod_add_div n (C ^ (8 - i));rw [← hm,Nat.mul_zero,Nat.add_zero] at h4;rw [← h4]; exact h3
   obtain ⟨k,hk⟩:∃ k,8 - i=k+1:=⟨8 - i - 1,by
    rcases Nat.eq_zero_or_pos (8 - i) with h | h
    ·rw [h,Nat.pow_zero] at al; omega
    ·omega⟩
   rw [hk] at al;have ho:C ^ k≤n:=by
    rcases ho with h | h
    ·omega
    ·rw [show 8 - i - 1=k by omega] at h; exact h
   have e:=Fc (g:=g) (i:=i) (m:=k+1) (X:=n) (fun r hr=>by
    rw [hg (i+r) (by omega) (by omega),show 7 - (i+r)=k+1 - 1 - r by omega])
   conv=>whnf
   refine ⟨⟨by omega,by omega,Int.le_refl _,Nat.le_refl _,rfl⟩,?_⟩
   simp only [toNat_cast,aw,Nat.zero_add,hk];conv=>whnf
   refine ⟨⟨by show i+(k+1)≤8; omega,fun r hr=>c5 (i+r) (by omega)⟩,?_⟩
   conv=>whnf
   show Value.string ⟨⟨bytesOf g i (k+1)⟩⟩=Value.string (nb n)
   rw [e,x0 al (.inr ho)]
theorem FK:bg Tryz.prog 180 sI:=by
 refine bk lZ aN Tryz.func180 (enters_of Tryz.func180 (by kernel_rfl) rfl) (fun _=>rfl) (fun _=>rfl) ?_
 intro ⟨A,D⟩ hp;have hp:aS A≤1099511627776∧aS D≤1099511627776:=hp;simp only [sI];obtain ⟨a,ha⟩:∃ a,a=nb A:=⟨_,rfl⟩;obtain ⟨d,hd⟩:∃ d,d=nb D:=⟨_,rfl⟩;rw [← ha,← hd];have l1:a.size=d.size→Op.bytesLess a.toList d.toList=decide (A < D):=fun h=>by rw [ha,hd] at h ⊢; exact Vz h
 have l2:(a.toList == d.toList)=decide (A=D):=by rw [ha,hd]; exact VA
 have l3:a.size < d.size→A < D:=fun h=>by rw [ha,hd] at h; exact MO h
 have l4:d.size < a.size→D < A:=fun h=>by rw [ha,hd] at h; exact MO h
 conv=>whnf
 refine aM (fun h1=>?_) (fun h1=>?_)
 ·have h1:a.size≠d.size:=by
   intro e;rw [e] at h1;simp at h1
  conv=>whnf
  refine aM (fun J=>?_) (fun J=>?_)
  ·have J:=l3 (by have:=of_decide_eq_true J; omega)
   conv=>whnf
   rw [cM,if_pos J]
  ·have J:=l4 (by have:=of_decide_eq_false J; omega)
   conv=>whnf
   rw [cM,if_neg (by omega),if_pos J]
 ·have h1:a.size=d.size:=by
   have h1:((a.size:Nat):Int)=((d.size:Nat):Int):=by simpa using h1
   omega
  conv=>whnf
  rw [l1 h1];refine aM (fun J=>?_) (fun J=>?_)
  ·have J:=of_decide_eq_true J;conv=>whnf
   rw [cM,if_pos J]
  ·have J:=of_decide_eq_false J;conv=>whnf
   rw [l1 h1,l2];refine aM (fun h3=>?_) (fun h3=>?_)
   ·have h3:D < A:=by
     simp [J] at h3;omega
    conv=>whnf
    rw [cM,if_neg J,if_pos h3]
   ·have h3:A=D:=by
     simpa [J] using h3
    conv=>whnf
    subst h3;rw [cM,if_neg J,if_neg J]
end Go.Proofs.YtlapbjdhekcipaaGreat
