import Derived.Test.YtlapbjdhekcipaaGreatWF
set_option linter.unusedVariables false
set_option linter.unusedSimpArgs false
set_option maxRecDepth 20000
set_option maxHeartbeats 4000000
namespace Go.Proofs.YtlapbjdhekcipaaGreat
open Go Go.Ae
def Eg:Env:=En [(167,.p lH),(197,.p uK)]
theorem aez:EnvOk Tryz.prog Eg:=bK ⟨Nz,WJ,trivial⟩ trivial
theorem WS:gu Tryz.prog 186 (Aw xi):=by
 refine OE aez aQ Tryz.func186 (enters_of Tryz.func186 (by kernel_rfl) rfl) ?_
 intro ⟨X,m,cx,D,cd,j⟩ hp;have hp:m≤137438953473∧2≤nl D∧2147483648≤an D (nl D - 1)∧j+nl D < m∧X < D*B ^ (j+1):=hp;obtain ⟨n,hn⟩:∃ n,n=nl D - 2:=⟨_,rfl⟩;obtain ⟨n1,Ac⟩:∃ n1,n1=nl D - 1:=⟨_,rfl⟩;obtain ⟨n2,bR⟩:∃ n2,n2=nl D:=⟨_,rfl⟩;rw [← Ac,← bR] at hp;have hn:n2=n+2∧n1=n+1:=by omega
 have IE:=cI X (j+n2);have Qp:=cI X (j+n1);have IF:=cI X (j+n);have zX:=cI D n1;have Qq:=cI D n;have hB:B=4294967296:=rfl;conv=>whnf
 refine .inl ⟨16,[[],[],[],[1,2],[0,1,2,3],[0,1,2,3,4],[0,1,2,3,4,5],[0,1,2,3,4,5,6],[],[],[],[9,10],[9,10,11],[8,9,10,11,12],[8,9,10,11,12,13],[8,9,10,11,12,13,14],[0,1,2,3,4,5,6,7,8,9,10,11,12,13,14,15],[0,1,2,3,4,5,6,7,8,9,10,11,12,13,14,15,16]],by kernel_rfl,?_⟩
 conv=>whnf
 rw [← bR];have e1:IntKind.i64.wrap (((j:Nat):Int)+((n2:Nat):Int))=((j+n2:Nat):Int):=by rw [ax (by omega) (by omega)]; omega
 have e2:IntKind.i64.wrap (((j+n2:Nat):Int) - 1)=((j+n1:Nat):Int):=by rw [ax (by omega) (by omega)]; omega
 have e3:IntKind.i64.wrap (((j+n2:Nat):Int) - 2)=((j+n:Nat):Int):=by rw [ax (by omega) (by omega)]; omega
 have e4:IntKind.i64.wrap (((n2:Nat):Int) - 1)=((n1:Nat):Int):=by rw [ax (by omega) (by omega)]; omega
 have e5:IntKind.i64.wrap (((n2:Nat):Int) - 2)=((n:Nat):Int):=by rw [ax (by omega) (by omega)]; omega
 simp only [e1];refine ⟨⟨by omega,by omega⟩,?_⟩
 simp only [toNat_cast,aA,Nat.zero_add];conv=>whnf
 refine ⟨by show j+n2 < m; omega,?_⟩
 conv=>whnf
 simp only [e1,e2];refine ⟨⟨by omega,by omega⟩,?_⟩
 simp only [toNat_cast,aA,Nat.zero_add];conv=>whnf
 refine ⟨by show j+n1 < m; omega,?_⟩
 conv=>whnf
 have j4:∀ l:Nat,l < B→IntKind.u64.wrap ((l:Nat):Int)=(l:Int):=fun l hl=>bN (by omega) (by omega)
 have qZ:∀ l:Nat,l < B→IntKind.u64.wrap ((l:Int)*4294967296)=(l:Int)*4294967296:=fun l hl=>bN (by omega) (by omega)
 simp only [j4 _ IE,j4 _ Qp,dy,qZ _ IE,dz _ _ IE Qp];obtain ⟨top,vl⟩:∃ top,top=an X (j+n2)*4294967296+an X (j+n1):=⟨_,rfl⟩;have aeA:((an X (j+n2):Nat):Int)*4294967296+((an X (j+n1):Nat):Int)=(top:Int):=by omega
 simp only [aeA];obtain ⟨d1,gp⟩:∃ d1,d1=an D n1:=⟨_,rfl⟩;obtain ⟨d0,fJ⟩:∃ d0,d0=an D n:=⟨_,rfl⟩;have hp3:2147483648≤d1:=by rw [gp]; exact hp.2.2.1
 have aeX:d1 < 4294967296:=by rw [gp]; exact zX
 have DD:d0 < 4294967296:=by rw [fJ]; exact Qq
 have HQ:top < 18446744073709551616:=by omega
 refine .inl ⟨17,[[],[],[],[2],[1,2,3],[1,2,3,4],[1,2,3,4,5],[0,1,2,3,4,5,6],[],[],[],[10],[9,10,11],[9,10,11,12],[9,10,11,12,13],[8,9,10,11,12,13,14],[0,1,2,3,4,5,6,7],[0,1,2,3,4,5,6,7,8,9,10,11,12,13,14,15,16]],by kernel_rfl,?_⟩
 conv=>whnf
 simp only [e4];refine ⟨⟨by omega,by omega⟩,?_⟩
 simp only [toNat_cast,aA,Nat.zero_add];conv=>whnf
 refine ⟨by show n1 < nl D; omega,?_⟩
 conv=>whnf
 simp only [j4 _ zX];rw [← gp];have aJ:decide ((d1:Int)≠0)=true:=decide_eq_true (by omega)
 rw [aJ];conv=>whnf
 simp only [e4];refine ⟨⟨by omega,by omega⟩,?_⟩
 simp only [toNat_cast,aA,Nat.zero_add];conv=>whnf
 refine ⟨by show n1 < nl D; omega,?_⟩
 conv=>whnf
 simp only [j4 _ zX];rw [← gp,aJ];conv=>whnf
 obtain ⟨w0,JI⟩:∃ w0,w0=an X (j+n):=⟨_,rfl⟩;rw [← JI] at IF;obtain ⟨Q,hQ⟩:∃ Q,Q=X / B ^ j / D:=⟨_,rfl⟩;obtain ⟨q0,vM⟩:∃ q0,q0=top / d1:=⟨_,rfl⟩;have F:=Z7 bR hn.1 hn.2 hp.2.2.1 hp.2.2.2.2 vl gp fJ JI hQ vM;clear hQ;obtain ⟨nG,hp4⟩:m≤137438953473∧j+n2 < m:=⟨hp.1,hp.2.2.2.1⟩;clear hp;have fq3:q0≤4294967297:=F.Re;have eq0:IntKind.u64.wrap ((q0:Nat):Int)=((q0:Nat):Int):=bN (by omega) (by omega)
 simp only [F4,M3];rw [← vM,eq0];refine .inl ⟨fun mm tz hz=>∃ (q:Nat) (r:Nat),bC (some (.slice (some ⟨0,0,none⟩) m cx)::some (.slice (some ⟨1,0,none⟩) n2 cd)::some (.int .i64 j)::aF 3 (some (.int .u32 0)::some (.int .i64 n2)::aF 1 (some (.int .u64 q)::some (.int .u64 r)::aF 183 []))) tz∧hz=[some (.flat true m 1 (bu X)),some (dN D)]∧q=mm∧(q*d1+r=top∧Q≤q∧q≤4294967297),.inr ⟨[0,1],[0,1,2,6,7,9,10],?_⟩,?_⟩
 ·conv=>whnf
  intro _;conv=>whnf
  refine ⟨_,q0,top % d1,(.aa (.aa (.aa (.sk 3 (.aa (.aa (.sk 1 (.aa (.aa (.sk 183 .nil rfl))) rfl))) rfl)))),rfl,rfl,?_⟩;exact ⟨by rw [vM,Nat.mul_comm]; exact Nat.div_add_mod top d1,F.fq,F.Re⟩
 rintro mm aW _ ⟨q,r,aB,rfl,rfl,⟨he,Ed,fu⟩⟩
 obtain ⟨az,rfl⟩:∃ az:Nat→Value,aW=.slice (some ⟨0,0,none⟩) m cx::.slice (some ⟨1,0,none⟩) n2 cd::.int .i64 j::zs az 3 3 (.int .u32 0::.int .i64 n2::zs az 8 1 (.int .u64 q::.int .u64 r::zs az 11 183 [])):=bL aB;clear aB;have hr:r < 18446744073709551616:=Nat.lt_of_le_of_lt (Nat.le_trans (Nat.le_add_left _ _) (Nat.le_of_eq he)) HQ;refine .inl ⟨27,[[],[0],[0,1],[0,1,2],[0,1,2,3],[0,1,2,3,4],[0,1,2,3,4,5],[0,1,2,3,4,5,6],[0,1,2,3,4,5,6,7],[0,1,2,3,4,5,6,7],[0,1,2,3,4,5,6,7],[0,1,2,3,4,5,6,7,10],[0,1,2,3,4,5,6,7,9,10,11],[0,1,2,3,4,5,6,7,9,10,11,12],[0,1,2,3,4,5,6,7,9,10,11,12,13],[0,1,2,3,4,5,6,7,8,9,10,11,12,13,14],[0,1,2,3,4,5,6,7],[0,1,2,3,4,5,6,7,16],[0,1,2,3,4,5,6,7],[0,1,2,3,4,5,6,7],[0,1,2,3,4,5,6,7],[0,1,2,3,4,5,6,7,19,20],[0,1,2,3,4,5,6,7,19,20,21],[0,1,2,3,4,5,6,7,18,19,20,21,22],[0,1,2,3,4,5,6,7,18,19,20,21,22,23],[0,1,2,3,4,5,6,7,18,19,20,21,22,23,24],[0,1,2,3,4,5,6,7,16,17,18,19,20,21,22,23,24,25],[0,1,2,3,4,5,6,7,8,9,10,11,12,13,14,15,16,17,18,19,20,21,22,23,24,25,26],[0,1,2,3,4,5,6,7,8,9,10,11,12,13,14,15,16,17,18,19,20,21,22,23,24,25,26,27],[0,1,2,3,4,5,6,7,8,9,10,11,12,13,14,15,16,17,18,19,20,21,22,23,24,25,26,27,28]],by kernel_rfl,?_⟩
 conv=>whnf
 simp only [ck,jR];rcases Nat.lt_or_ge q 4294967296 with yd | yd
 ·rw [show decide (((q / B:Nat):Int) > 0)=false from decide_eq_false (by show ¬ (((q / 4294967296:Nat):Int) > 0); omega)]
  conv=>whnf
  simp only [ck,jR];have pk:q*d0≤r*B+w0∨B≤r→q≤Q+1:=fun h=>by
   rw [F.fQ];exact GF (eD n) F.fW F.fD he yd F.fP DD h.symm
  rcases Nat.lt_or_ge r 4294967296 with mh | mh
  ·rw [show (((((r / B:Nat):Int) == 0):Bool))=true by show decide (((r / 4294967296:Nat):Int)=0)=true; exact decide_eq_true (by omega)]
   conv=>whnf
   simp only [e5];refine ⟨⟨by omega,by omega⟩,?_⟩
   simp only [toNat_cast,aA,Nat.zero_add];conv=>whnf
   refine ⟨by show n < nl D; omega,?_⟩
   conv=>whnf
   simp only [j4 _ Qq];rw [← fJ,(acE fu DD).1];simp only [e1,e3];obtain ⟨vq,cX⟩:∃ v,v=Value.int .u64 ((q*d0:Nat):Int):=⟨_,rfl⟩;rw [← cX];refine ⟨⟨by omega,by omega⟩,?_⟩
   simp only [toNat_cast,aA,Nat.zero_add];conv=>whnf
   refine ⟨by show j+n < m; omega,?_⟩
   conv=>whnf
   rw [← JI];simp only [j4 _ IF,dy,qZ r mh,dz _ _ mh IF];rw [show ((r:Nat):Int)*4294967296+((w0:Nat):Int)=((r*4294967296+w0:Nat):Int) by omega]
   obtain ⟨qd,rG⟩:∃ qd,qd=q*d0:=⟨_,rfl⟩;obtain ⟨AK,IG⟩:∃ AK,AK=r*4294967296+w0:=⟨_,rfl⟩;rw [cX,← rG,← IG];conv=>whnf
   rcases Nat.lt_or_ge AK qd with Ib | aeY
   ·rw [show decide ((qd:Int) > (AK:Int))=true from decide_eq_true (by omega)]
    have al:Q < q:=by
     rw [F.fQ];refine VX F.AA (eD n) F.fW F.fD he ?_;rw [← rG];show r*4294967296+w0 < qd
     omega
    clear cX rG IG Ib;conv=>whnf
    have ep:IntKind.u64.wrap ((q:Int) - 1)=((q - 1:Nat):Int):=by rw [bN (by omega) (by omega)]; omega
    have bW:(q - 1)*d1+(r+d1)=top:=by
     have h1:(q - 1)*d1+d1=q*d1:=by
      conv=>rhs; rw [show q=(q - 1)+1 by omega,Nat.add_mul,Nat.one_mul]
     omega
    have fi:r+d1 < 18446744073709551616:=Nat.lt_of_le_of_lt (Nat.le_trans (Nat.le_add_left _ _) (Nat.le_of_eq bW)) HQ;have er:IntKind.u64.wrap ((r:Int)+(d1:Int))=((r+d1:Nat):Int):=by rw [bN (by omega) (by omega)]; omega
    simp only [ep,e4];refine ⟨⟨by omega,by omega⟩,?_⟩
    simp only [toNat_cast,aA,Nat.zero_add];conv=>whnf
    refine ⟨by show n1 < nl D; omega,?_⟩
    conv=>whnf
    simp only [j4 _ zX];rw [← gp,er];simp only [ck,jR];rcases Nat.lt_or_ge (r+d1) 4294967296 with mh | mh
    ·rw [show decide ((((r+d1) / B:Nat):Int) > 0)=false from decide_eq_false (by show ¬ ((((r+d1) / 4294967296:Nat):Int) > 0); omega)]
     conv=>whnf
     refine .inr ⟨[0,1],[0,1,2,6,7,9,10],?_⟩;conv=>whnf
     intro _;conv=>whnf
     refine ⟨_,?_,q - 1,r+d1,(.aa (.aa (.aa (.sk 3 (.aa (.aa (.sk 1 (.aa (.aa (.sk 183 .nil rfl))) rfl))) rfl)))),rfl,rfl,?_⟩
     ·omega
     ·exact ⟨bW,by omega,by omega⟩
    ·rw [show decide ((((r+d1) / B:Nat):Int) > 0)=true from decide_eq_true (by show ((((r+d1) / 4294967296:Nat):Int) > 0); omega)]
     conv=>whnf
     simp only [ck,jR];rcases Nat.lt_or_ge (q - 1) 4294967296 with vt | vt
     ·rw [show (((((q - 1) / B:Nat):Int) == 0):Bool)=true by show decide ((((q - 1) / 4294967296:Nat):Int)=0)=true; exact decide_eq_true (by omega)]
      conv=>whnf
      obtain ⟨qt,oz⟩:∃ qt,qt=q - 1:=⟨_,rfl⟩;have hT:qt < 4294967296∧Q≤qt∧qt≤Q+1:=by
       have h3:q - 1≤X / B ^ j / D+1:=GF (eD n) F.fW F.fD bW vt F.fP DD (.inl mh);rw [← F.fQ] at h3;omega
      rw [← oz];clear yd vt al ep bW fi er mh he hr Ed fu oz;conv=>whnf
      refine .inl ⟨fun mm tz hz=>∃ (i:Nat) (c:Nat) (b:Nat) (Z:Nat),bC (some (.slice (some ⟨0,0,none⟩) m cx)::some (.slice (some ⟨1,0,none⟩) n2 cd)::some (.int .i64 j)::aF 3 (some (.int .u32 0)::some (.int .i64 n2)::aF 1 (some (.int .u64 qt)::aF 1 (some (.int .u64 c)::some (.int .u32 b)::aF 88 (some (.slice (some ⟨1,0,none⟩) n2 cd)::some (.int .i64 n2)::some (.int .i64 i)::aF 90 []))))) tz∧hz=[some (.flat true m 1 (bu Z)),some (dN D)]∧n2 - i=mm∧((i≤n2∧c < 4294967296∧b≤1)∧Z < B ^ (j+n2+1)∧Z+qt*(D % B ^ i)*B ^ j=X+(b+c)*B ^ (j+i)),.inr ⟨[0,1],[0,1,2,6,7,9,11,12,101,102,103],?_⟩,?_⟩
      ·conv=>whnf
       intro _;conv=>whnf
       refine ⟨_,0,0,0,X,(.aa (.aa (.aa (.sk 3 (.aa (.aa (.sk 1 (.aa (.sk 1 (.aa (.aa (.sk 88 (.aa (.aa (.aa (.sk 90 .nil rfl)))) rfl))) rfl)) rfl))) rfl)))),rfl,rfl,?_⟩;exact ⟨⟨Nat.zero_le _,by decide,by decide⟩,F.fX,by simp [Nat.mod_one]⟩
      rintro mm aW _ ⟨i,c,b,Z,aB,rfl,rfl,⟨⟨hi,hc,hb⟩,hZ,he⟩⟩
      obtain ⟨az,rfl⟩:∃ az:Nat→Value,aW=.slice (some ⟨0,0,none⟩) m cx::.slice (some ⟨1,0,none⟩) n2 cd::.int .i64 j::zs az 3 3 (.int .u32 0::.int .i64 n2::zs az 8 1 (.int .u64 qt::zs az 10 1 (.int .u64 c::.int .u32 b::zs az 13 88 (.slice (some ⟨1,0,none⟩) n2 cd::.int .i64 n2::.int .i64 i::zs az 104 90 [])))):=bL aB;clear aB;conv=>whnf
      refine aN (fun h1=>?_) (fun h1=>?_)
      ·have h1:i < n2:=by simpa using h1
       conv=>whnf
       refine ⟨⟨by omega,by omega⟩,?_⟩
       simp only [toNat_cast,aA,Nat.zero_add];conv=>whnf
       refine ⟨by show i < nl D; omega,?_⟩
       conv=>whnf
       obtain ⟨x,hx⟩:∃ x,x=an D i:=⟨_,rfl⟩;obtain ⟨l,hl⟩:∃ l,l=an Z (j+i):=⟨_,rfl⟩;obtain ⟨t,ht⟩:∃ t,t=c+qt*an D i:=⟨_,rfl⟩;have iH:x < B:=by rw [hx]; exact cI D i
       have dT:l < 4294967296:=by rw [hl]; exact cI Z (j+i)
       obtain ⟨hv,fV⟩:=BQ (t:=t) hc hT.1 iH (by rw [hx]; exact ht)
       have oC:t % B < 4294967296:=Nat.mod_lt _ (by decide)
       obtain ⟨d,hd⟩:∃ d,d=(l+2*4294967296 - t % B - b) % 4294967296:=⟨_,rfl⟩;obtain ⟨b',bB⟩:∃ b',b'=if l < t % B+b then 1 else 0:=⟨_,rfl⟩
       have dK:d < 4294967296:=by rw [hd]; exact Nat.mod_lt _ (by decide)
       have aw:=Bw (i:=i) (j:=j) (d:=d) (b':=b') he ht (by
        rw [← hl,bB,hB,← hB];clear he hZ ht hv;obtain ⟨u,hu⟩:∃ u,u=t % B:=⟨_,rfl⟩;rw [← hu] at hd oC ⊢
        split <;> omega)
       have gW:=mj hZ (show j+i < j+n2+1 by omega) (show d < B from dK)
       have c4:b'≤1:=by rw [bB]; split <;> omega
       have e6:IntKind.i64.wrap (((j:Nat):Int)+((i:Nat):Int))=((j+i:Nat):Int):=by rw [ax (by omega) (by omega)]; omega
       have e7:IntKind.i64.wrap (((i:Nat):Int)+1)=((i+1:Nat):Int):=by rw [ax (by omega) (by omega)]; omega
       rw [← hx];simp only [j4 _ iH,hv,e6];refine ⟨⟨by omega,by omega⟩,?_⟩
       simp only [toNat_cast,aA,Nat.zero_add];conv=>whnf
       refine ⟨by show j+i < m; omega,?_⟩
       conv=>whnf
       rw [← hl];simp only [eK];refine ⟨(l,t % B,b),rfl,⟨dT,oC,hb⟩,?_⟩;simp only [lH,← hd,← bB,e6];conv=>whnf
       refine ⟨⟨by omega,by omega⟩,?_⟩
       simp only [toNat_cast,aA,Nat.zero_add];conv=>whnf
       refine ⟨by show j+i < m; omega,?_⟩
       conv=>whnf
       simp only [ck,jR,e7];rw [fL dK];refine .inl ⟨_,?_,i+1,t / B,b',cG Z (j+i) d,(.aa (.aa (.aa (.sk 3 (.aa (.aa (.sk 1 (.aa (.sk 1 (.aa (.aa (.sk 88 (.aa (.aa (.aa (.sk 90 .nil rfl)))) rfl))) rfl)) rfl))) rfl)))),rfl,rfl,?_⟩
       ·omega
       ·exact ⟨⟨by omega,fV,c4⟩,gW,aw⟩
      ·have h1:i=n2:=by
        have h1:¬ i < n2:=by simpa using h1
        omega
       subst h1;obtain ⟨l,hl⟩:∃ l,l=an Z (j+i):=⟨_,rfl⟩;have dT:l < 4294967296:=by rw [hl]; exact cI Z (j+i)
       obtain ⟨d,hd⟩:∃ d,d=(l+2*4294967296 - c - b) % 4294967296:=⟨_,rfl⟩;obtain ⟨b',bB⟩:∃ b',b'=if l < c+b then 1 else 0:=⟨_,rfl⟩
       have dK:d < 4294967296:=by rw [hd]; exact Nat.mod_lt _ (by decide)
       have aw:=Bx (j:=j) (d:=d) (b':=b') (by rw [bR]; exact b8 D) hc he (by
        rw [← hl,bB,hB,← hB];clear he hZ
        split <;> omega)
       have gW:=mj hZ (show j+i < j+i+1 by omega) (show d < B from dK)
       have oD:c % B=c:=Nat.mod_eq_of_lt hc;have c4:b'≤1:=by rw [bB]; split <;> omega
       have vP:qt % B=qt:=Nat.mod_eq_of_lt hT.1;have hE:0 < D*B ^ j:=Nat.mul_pos F.AA (eD j);have oE:Q=X / (D*B ^ j):=by rw [F.fQ,Nat.div_div_eq_div_mul,Nat.mul_comm]
       conv=>whnf
       simp only [e1];refine ⟨⟨by omega,by omega⟩,?_⟩
       simp only [toNat_cast,aA,Nat.zero_add];conv=>whnf
       refine ⟨by show j+i < m; omega,?_⟩
       conv=>whnf
       rw [← hl];simp only [eK,oD];refine ⟨(l,c,b),rfl,⟨dT,hc,hb⟩,?_⟩;simp only [lH,← hd,← bB,e1];conv=>whnf
       refine ⟨⟨by omega,by omega⟩,?_⟩
       simp only [toNat_cast,aA,Nat.zero_add];conv=>whnf
       refine ⟨by show j+i < m; omega,?_⟩
       conv=>whnf
       rw [fL dK];refine aN (fun J=>?_) (fun J=>?_)
       ·have J:b'=0:=by
         have:=of_decide_eq_true J;omega
        clear bB;subst J;rw [Nat.zero_mul,Nat.add_zero] at aw;obtain ⟨iJ,fi⟩:=Bf hE aw (by rw [← oE]; exact hT.2.1)
        conv=>whnf
        simp only [eK,vP];exact rO (i:=⟨X,m,cx,D,cd,j⟩) fi iJ rfl
       ·have J:b'=1:=by
         have:=of_decide_eq_false J;omega
        clear bB;subst J;rw [Nat.one_mul] at aw;obtain ⟨iJ,fi⟩:=Bg hE aw gW (by rw [← oE]; exact hT.2.2)
        obtain ⟨Y,hY⟩:∃ Y,Y=cG Z (j+i) d:=⟨_,rfl⟩;rw [← hY] at fi gW ⊢;clear aw he hZ hY hc hb hl dT hd dK oD;conv=>whnf
        refine .inl ⟨fun mm tz hz=>∃ (k:Nat) (c:Nat) (V:Nat),bC (some (.slice (some ⟨0,0,none⟩) m cx)::some (.slice (some ⟨1,0,none⟩) i cd)::some (.int .i64 j)::aF 3 (some (.int .u32 0)::some (.int .i64 i)::aF 1 (some (.int .u64 qt)::aF 5 (some (.int .u32 c)::aF 141 (some (.slice (some ⟨1,0,none⟩) i cd)::some (.int .i64 i)::some (.int .i64 k)::aF 34 []))))) tz∧hz=[some (.flat true m 1 (bu V)),some (dN D)]∧i - k=mm∧((k≤i∧c≤1)∧V < B ^ (j+i+1)∧V+c*B ^ (j+k)=Y+D % B ^ k*B ^ j),.inr ⟨[0,1],[0,1,2,6,7,9,15,157,158,159],?_⟩,?_⟩
        ·conv=>whnf
         intro _;conv=>whnf
         refine ⟨_,0,0,Y,(.aa (.aa (.aa (.sk 3 (.aa (.aa (.sk 1 (.aa (.sk 5 (.aa (.sk 141 (.aa (.aa (.aa (.sk 34 .nil rfl)))) rfl)) rfl)) rfl))) rfl)))),rfl,rfl,?_⟩;exact ⟨⟨Nat.zero_le _,by decide⟩,gW,by simp [Nat.mod_one]⟩
        rintro mm aW _ ⟨k,c,V,aB,rfl,rfl,⟨⟨hk,hc⟩,hV,he⟩⟩
        obtain ⟨az,rfl⟩:∃ az:Nat→Value,aW=.slice (some ⟨0,0,none⟩) m cx::.slice (some ⟨1,0,none⟩) i cd::.int .i64 j::zs az 3 3 (.int .u32 0::.int .i64 i::zs az 8 1 (.int .u64 qt::zs az 10 5 (.int .u32 c::zs az 16 141 (.slice (some ⟨1,0,none⟩) i cd::.int .i64 i::.int .i64 k::zs az 160 34 [])))):=bL aB;clear aB;conv=>whnf
        refine aN (fun h3=>?_) (fun h3=>?_)
        ·have h3:k < i:=by simpa using h3
         obtain ⟨x,hx⟩:∃ x,x=an D k:=⟨_,rfl⟩;obtain ⟨l,hl⟩:∃ l,l=an V (j+k):=⟨_,rfl⟩;have iH:x < 4294967296:=by rw [hx]; exact cI D k
         have dT:l < 4294967296:=by rw [hl]; exact cI V (j+k)
         obtain ⟨t,ht⟩:∃ t,t=l+x+c:=⟨_,rfl⟩;have aw:=By (t:=t) (i:=k) (j:=j) he (by rw [← hl,← hx]; exact ht)
         have im:t % B < 4294967296:=Nat.mod_lt _ (by decide)
         have fV:t / B≤1:=by show t / 4294967296≤1; omega
         have vQ:=mj hV (show j+k < j+i+1 by omega) (show t % B < B from im)
         have e6:IntKind.i64.wrap (((j:Nat):Int)+((k:Nat):Int))=((j+k:Nat):Int):=by rw [ax (by omega) (by omega)]; omega
         have e7:IntKind.i64.wrap (((k:Nat):Int)+1)=((k+1:Nat):Int):=by rw [ax (by omega) (by omega)]; omega
         conv=>whnf
         refine ⟨⟨by omega,by omega⟩,?_⟩
         simp only [toNat_cast,aA,Nat.zero_add];conv=>whnf
         refine ⟨by show k < nl D; omega,?_⟩
         conv=>whnf
         simp only [e6];refine ⟨⟨by omega,by omega⟩,?_⟩
         simp only [toNat_cast,aA,Nat.zero_add];conv=>whnf
         refine ⟨by show j+k < m; omega,?_⟩
         conv=>whnf
         rw [← hl,← hx];refine ⟨(l,x,c),rfl,⟨dT,iH,hc⟩,?_⟩;simp only [uK,← ht,e6];conv=>whnf
         refine ⟨⟨by omega,by omega⟩,?_⟩
         simp only [toNat_cast,aA,Nat.zero_add];conv=>whnf
         refine ⟨by show j+k < m; omega,?_⟩
         conv=>whnf
         simp only [e7];rw [show t % 4294967296=t % B from rfl,fL im]
         refine .inl ⟨_,?_,k+1,t / B,cG V (j+k) (t % B),(.aa (.aa (.aa (.sk 3 (.aa (.aa (.sk 1 (.aa (.sk 5 (.aa (.sk 141 (.aa (.aa (.aa (.sk 34 .nil rfl)))) rfl)) rfl)) rfl))) rfl)))),rfl,rfl,?_⟩
         ·omega
         ·exact ⟨⟨by omega,fV⟩,vQ,aw⟩
        ·have h3:k=i:=by
          have h3:¬ k < i:=by simpa using h3
          omega
         subst h3;have k9:D < B ^ k:=by rw [bR]; exact b8 D
         have gw:=Bz (V:=V) (R:=X % (D*B ^ j)) (k:=j+k) hV (Nat.lt_of_lt_of_le (Nat.mod_lt _ hE) (by rw [Nat.add_comm,Nat.pow_add]; exact Nat.mul_le_mul_right _ (Nat.le_of_lt k9))) hc (by
          rw [he,Nat.mod_eq_of_lt k9]; exact fi)
         have iu:qt - 1=X / (D*B ^ j):=by rw [iJ]; rfl
         have ep:IntKind.u64.wrap ((qt:Int) - 1)=((qt - 1:Nat):Int):=by
          have:1≤qt:=by rw [iJ]; exact Nat.le_add_left _ _
          have:=hT.1;rw [bN (by omega) (by omega)]; omega
         have vv:(qt - 1) % B=qt - 1:=Nat.mod_eq_of_lt (by have:=hT.1; show qt - 1 < 4294967296; omega)
         conv=>whnf
         simp only [e1];refine ⟨⟨by omega,by omega⟩,?_⟩
         simp only [toNat_cast,aA,Nat.zero_add];conv=>whnf
         refine ⟨by show j+k < m; omega,?_⟩
         conv=>whnf
         rw [show IntKind.u32.wrap (((an V (j+k):Nat):Int)+(c:Int))=(((an V (j+k)+c) % B:Nat):Int) from eK (an V (j+k)+c)]
         refine ⟨⟨by omega,by omega⟩,?_⟩
         simp only [toNat_cast,aA,Nat.zero_add];conv=>whnf
         refine ⟨by show j+k < m; omega,?_⟩
         conv=>whnf
         simp only [ep,eK,vv];rw [fL (Nat.mod_lt _ (by decide)),gw]
         exact rO (i:=⟨X,m,cx,D,cd,j⟩) rfl iu rfl
      skip
      skip
     ·rw [show (((((q - 1) / B:Nat):Int) == 0):Bool)=false by show decide ((((q - 1) / 4294967296:Nat):Int)=0)=false; exact decide_eq_false (by omega)]
      conv=>whnf
      refine .inr ⟨[0,1],[0,1,2,6,7,9,10],?_⟩;conv=>whnf
      intro _;conv=>whnf
      refine ⟨_,?_,q - 1,r+d1,(.aa (.aa (.aa (.sk 3 (.aa (.aa (.sk 1 (.aa (.aa (.sk 183 .nil rfl))) rfl))) rfl)))),rfl,rfl,?_⟩
      ·omega
      ·exact ⟨bW,by omega,by omega⟩
   ·rw [show decide ((qd:Int) > (AK:Int))=false from decide_eq_false (by omega)]
    conv=>whnf
    obtain ⟨qt,oz⟩:∃ qt,qt=q:=⟨_,rfl⟩;have hT:qt < 4294967296∧Q≤qt∧qt≤Q+1:=by
     have h3:=pk (.inl (by rw [← rG]; show qd≤r*4294967296+w0; omega))
     exact ⟨by omega,by omega,by omega⟩
    rw [← oz];clear cX rG IG yd pk mh he hr Ed fu oz;conv=>whnf
    refine .inl ⟨fun mm tz hz=>∃ (i:Nat) (c:Nat) (b:Nat) (Z:Nat),bC (some (.slice (some ⟨0,0,none⟩) m cx)::some (.slice (some ⟨1,0,none⟩) n2 cd)::some (.int .i64 j)::aF 3 (some (.int .u32 0)::some (.int .i64 n2)::aF 1 (some (.int .u64 qt)::aF 1 (some (.int .u64 c)::some (.int .u32 b)::aF 88 (some (.slice (some ⟨1,0,none⟩) n2 cd)::some (.int .i64 n2)::some (.int .i64 i)::aF 90 []))))) tz∧hz=[some (.flat true m 1 (bu Z)),some (dN D)]∧n2 - i=mm∧((i≤n2∧c < 4294967296∧b≤1)∧Z < B ^ (j+n2+1)∧Z+qt*(D % B ^ i)*B ^ j=X+(b+c)*B ^ (j+i)),.inr ⟨[0,1],[0,1,2,6,7,9,11,12,101,102,103],?_⟩,?_⟩
    ·conv=>whnf
     intro _;conv=>whnf
     refine ⟨_,0,0,0,X,(.aa (.aa (.aa (.sk 3 (.aa (.aa (.sk 1 (.aa (.sk 1 (.aa (.aa (.sk 88 (.aa (.aa (.aa (.sk 90 .nil rfl)))) rfl))) rfl)) rfl))) rfl)))),rfl,rfl,?_⟩;exact ⟨⟨Nat.zero_le _,by decide,by decide⟩,F.fX,by simp [Nat.mod_one]⟩
    rintro mm aW _ ⟨i,c,b,Z,aB,rfl,rfl,⟨⟨hi,hc,hb⟩,hZ,he⟩⟩
    obtain ⟨az,rfl⟩:∃ az:Nat→Value,aW=.slice (some ⟨0,0,none⟩) m cx::.slice (some ⟨1,0,none⟩) n2 cd::.int .i64 j::zs az 3 3 (.int .u32 0::.int .i64 n2::zs az 8 1 (.int .u64 qt::zs az 10 1 (.int .u64 c::.int .u32 b::zs az 13 88 (.slice (some ⟨1,0,none⟩) n2 cd::.int .i64 n2::.int .i64 i::zs az 104 90 [])))):=bL aB;clear aB;conv=>whnf
    refine aN (fun h1=>?_) (fun h1=>?_)
    ·have h1:i < n2:=by simpa using h1
     conv=>whnf
     refine ⟨⟨by omega,by omega⟩,?_⟩
     simp only [toNat_cast,aA,Nat.zero_add];conv=>whnf
     refine ⟨by show i < nl D; omega,?_⟩
     conv=>whnf
     obtain ⟨x,hx⟩:∃ x,x=an D i:=⟨_,rfl⟩;obtain ⟨l,hl⟩:∃ l,l=an Z (j+i):=⟨_,rfl⟩;obtain ⟨t,ht⟩:∃ t,t=c+qt*an D i:=⟨_,rfl⟩;have iH:x < B:=by rw [hx]; exact cI D i
     have dT:l < 4294967296:=by rw [hl]; exact cI Z (j+i)
     obtain ⟨hv,fV⟩:=BQ (t:=t) hc hT.1 iH (by rw [hx]; exact ht)
     have oC:t % B < 4294967296:=Nat.mod_lt _ (by decide)
     obtain ⟨d,hd⟩:∃ d,d=(l+2*4294967296 - t % B - b) % 4294967296:=⟨_,rfl⟩;obtain ⟨b',bB⟩:∃ b',b'=if l < t % B+b then 1 else 0:=⟨_,rfl⟩
     have dK:d < 4294967296:=by rw [hd]; exact Nat.mod_lt _ (by decide)
     have aw:=Bw (i:=i) (j:=j) (d:=d) (b':=b') he ht (by
      rw [← hl,bB,hB,← hB];clear he hZ ht hv;obtain ⟨u,hu⟩:∃ u,u=t % B:=⟨_,rfl⟩;rw [← hu] at hd oC ⊢
      split <;> omega)
     have gW:=mj hZ (show j+i < j+n2+1 by omega) (show d < B from dK)
     have c4:b'≤1:=by rw [bB]; split <;> omega
     have e6:IntKind.i64.wrap (((j:Nat):Int)+((i:Nat):Int))=((j+i:Nat):Int):=by rw [ax (by omega) (by omega)]; omega
     have e7:IntKind.i64.wrap (((i:Nat):Int)+1)=((i+1:Nat):Int):=by rw [ax (by omega) (by omega)]; omega
     rw [← hx];simp only [j4 _ iH,hv,e6];refine ⟨⟨by omega,by omega⟩,?_⟩
     simp only [toNat_cast,aA,Nat.zero_add];conv=>whnf
     refine ⟨by show j+i < m; omega,?_⟩
     conv=>whnf
     rw [← hl];simp only [eK];refine ⟨(l,t % B,b),rfl,⟨dT,oC,hb⟩,?_⟩;simp only [lH,← hd,← bB,e6];conv=>whnf
     refine ⟨⟨by omega,by omega⟩,?_⟩
     simp only [toNat_cast,aA,Nat.zero_add];conv=>whnf
     refine ⟨by show j+i < m; omega,?_⟩
     conv=>whnf
     simp only [ck,jR,e7];rw [fL dK];refine .inl ⟨_,?_,i+1,t / B,b',cG Z (j+i) d,(.aa (.aa (.aa (.sk 3 (.aa (.aa (.sk 1 (.aa (.sk 1 (.aa (.aa (.sk 88 (.aa (.aa (.aa (.sk 90 .nil rfl)))) rfl))) rfl)) rfl))) rfl)))),rfl,rfl,?_⟩
     ·omega
     ·exact ⟨⟨by omega,fV,c4⟩,gW,aw⟩
    ·have h1:i=n2:=by
      have h1:¬ i < n2:=by simpa using h1
      omega
     subst h1;obtain ⟨l,hl⟩:∃ l,l=an Z (j+i):=⟨_,rfl⟩;have dT:l < 4294967296:=by rw [hl]; exact cI Z (j+i)
     obtain ⟨d,hd⟩:∃ d,d=(l+2*4294967296 - c - b) % 4294967296:=⟨_,rfl⟩;obtain ⟨b',bB⟩:∃ b',b'=if l < c+b then 1 else 0:=⟨_,rfl⟩
     have dK:d < 4294967296:=by rw [hd]; exact Nat.mod_lt _ (by decide)
     have aw:=Bx (j:=j) (d:=d) (b':=b') (by rw [bR]; exact b8 D) hc he (by
      rw [← hl,bB,hB,← hB];clear he hZ
      split <;> omega)
     have gW:=mj hZ (show j+i < j+i+1 by omega) (show d < B from dK)
     have oD:c % B=c:=Nat.mod_eq_of_lt hc;have c4:b'≤1:=by rw [bB]; split <;> omega
     have vP:qt % B=qt:=Nat.mod_eq_of_lt hT.1;have hE:0 < D*B ^ j:=Nat.mul_pos F.AA (eD j);have oE:Q=X / (D*B ^ j):=by rw [F.fQ,Nat.div_div_eq_div_mul,Nat.mul_comm]
     conv=>whnf
     simp only [e1];refine ⟨⟨by omega,by omega⟩,?_⟩
     simp only [toNat_cast,aA,Nat.zero_add];conv=>whnf
     refine ⟨by show j+i < m; omega,?_⟩
     conv=>whnf
     rw [← hl];simp only [eK,oD];refine ⟨(l,c,b),rfl,⟨dT,hc,hb⟩,?_⟩;simp only [lH,← hd,← bB,e1];conv=>whnf
     refine ⟨⟨by omega,by omega⟩,?_⟩
     simp only [toNat_cast,aA,Nat.zero_add];conv=>whnf
     refine ⟨by show j+i < m; omega,?_⟩
     conv=>whnf
     rw [fL dK];refine aN (fun J=>?_) (fun J=>?_)
     ·have J:b'=0:=by
       have:=of_decide_eq_true J;omega
      clear bB;subst J;rw [Nat.zero_mul,Nat.add_zero] at aw;obtain ⟨iJ,fi⟩:=Bf hE aw (by rw [← oE]; exact hT.2.1)
      conv=>whnf
      simp only [eK,vP];exact rO (i:=⟨X,m,cx,D,cd,j⟩) fi iJ rfl
     ·have J:b'=1:=by
       have:=of_decide_eq_false J;omega
      clear bB;subst J;rw [Nat.one_mul] at aw;obtain ⟨iJ,fi⟩:=Bg hE aw gW (by rw [← oE]; exact hT.2.2)
      obtain ⟨Y,hY⟩:∃ Y,Y=cG Z (j+i) d:=⟨_,rfl⟩;rw [← hY] at fi gW ⊢;clear aw he hZ hY hc hb hl dT hd dK oD;conv=>whnf
      refine .inl ⟨fun mm tz hz=>∃ (k:Nat) (c:Nat) (V:Nat),bC (some (.slice (some ⟨0,0,none⟩) m cx)::some (.slice (some ⟨1,0,none⟩) i cd)::some (.int .i64 j)::aF 3 (some (.int .u32 0)::some (.int .i64 i)::aF 1 (some (.int .u64 qt)::aF 5 (some (.int .u32 c)::aF 141 (some (.slice (some ⟨1,0,none⟩) i cd)::some (.int .i64 i)::some (.int .i64 k)::aF 34 []))))) tz∧hz=[some (.flat true m 1 (bu V)),some (dN D)]∧i - k=mm∧((k≤i∧c≤1)∧V < B ^ (j+i+1)∧V+c*B ^ (j+k)=Y+D % B ^ k*B ^ j),.inr ⟨[0,1],[0,1,2,6,7,9,15,157,158,159],?_⟩,?_⟩
      ·conv=>whnf
       intro _;conv=>whnf
       refine ⟨_,0,0,Y,(.aa (.aa (.aa (.sk 3 (.aa (.aa (.sk 1 (.aa (.sk 5 (.aa (.sk 141 (.aa (.aa (.aa (.sk 34 .nil rfl)))) rfl)) rfl)) rfl))) rfl)))),rfl,rfl,?_⟩;exact ⟨⟨Nat.zero_le _,by decide⟩,gW,by simp [Nat.mod_one]⟩
      rintro mm aW _ ⟨k,c,V,aB,rfl,rfl,⟨⟨hk,hc⟩,hV,he⟩⟩
      obtain ⟨az,rfl⟩:∃ az:Nat→Value,aW=.slice (some ⟨0,0,none⟩) m cx::.slice (some ⟨1,0,none⟩) i cd::.int .i64 j::zs az 3 3 (.int .u32 0::.int .i64 i::zs az 8 1 (.int .u64 qt::zs az 10 5 (.int .u32 c::zs az 16 141 (.slice (some ⟨1,0,none⟩) i cd::.int .i64 i::.int .i64 k::zs az 160 34 [])))):=bL aB;clear aB;conv=>whnf
      refine aN (fun h3=>?_) (fun h3=>?_)
      ·have h3:k < i:=by simpa using h3
       obtain ⟨x,hx⟩:∃ x,x=an D k:=⟨_,rfl⟩;obtain ⟨l,hl⟩:∃ l,l=an V (j+k):=⟨_,rfl⟩;have iH:x < 4294967296:=by rw [hx]; exact cI D k
       have dT:l < 4294967296:=by rw [hl]; exact cI V (j+k)
       obtain ⟨t,ht⟩:∃ t,t=l+x+c:=⟨_,rfl⟩;have aw:=By (t:=t) (i:=k) (j:=j) he (by rw [← hl,← hx]; exact ht)
       have im:t % B < 4294967296:=Nat.mod_lt _ (by decide)
       have fV:t / B≤1:=by show t / 4294967296≤1; omega
       have vQ:=mj hV (show j+k < j+i+1 by omega) (show t % B < B from im)
       have e6:IntKind.i64.wrap (((j:Nat):Int)+((k:Nat):Int))=((j+k:Nat):Int):=by rw [ax (by omega) (by omega)]; omega
       have e7:IntKind.i64.wrap (((k:Nat):Int)+1)=((k+1:Nat):Int):=by rw [ax (by omega) (by omega)]; omega
       conv=>whnf
       refine ⟨⟨by omega,by omega⟩,?_⟩
       simp only [toNat_cast,aA,Nat.zero_add];conv=>whnf
       refine ⟨by show k < nl D; omega,?_⟩
       conv=>whnf
       simp only [e6];refine ⟨⟨by omega,by omega⟩,?_⟩
       simp only [toNat_cast,aA,Nat.zero_add];conv=>whnf
       refine ⟨by show j+k < m; omega,?_⟩
       conv=>whnf
       rw [← hl,← hx];refine ⟨(l,x,c),rfl,⟨dT,iH,hc⟩,?_⟩;simp only [uK,← ht,e6];conv=>whnf
       refine ⟨⟨by omega,by omega⟩,?_⟩
       simp only [toNat_cast,aA,Nat.zero_add];conv=>whnf
       refine ⟨by show j+k < m; omega,?_⟩
       conv=>whnf
       simp only [e7];rw [show t % 4294967296=t % B from rfl,fL im]
       refine .inl ⟨_,?_,k+1,t / B,cG V (j+k) (t % B),(.aa (.aa (.aa (.sk 3 (.aa (.aa (.sk 1 (.aa (.sk 5 (.aa (.sk 141 (.aa (.aa (.aa (.sk 34 .nil rfl)))) rfl)) rfl)) rfl))) rfl)))),rfl,rfl,?_⟩
       ·omega
       ·exact ⟨⟨by omega,fV⟩,vQ,aw⟩
      ·have h3:k=i:=by
        have h3:¬ k < i:=by simpa using h3
        omega
       subst h3;have k9:D < B ^ k:=by rw [bR]; exact b8 D
       have gw:=Bz (V:=V) (R:=X % (D*B ^ j)) (k:=j+k) hV (Nat.lt_of_lt_of_le (Nat.mod_lt _ hE) (by rw [Nat.add_comm,Nat.pow_add]; exact Nat.mul_le_mul_right _ (Nat.le_of_lt k9))) hc (by
        rw [he,Nat.mod_eq_of_lt k9]; exact fi)
       have iu:qt - 1=X / (D*B ^ j):=by rw [iJ]; rfl
       have ep:IntKind.u64.wrap ((qt:Int) - 1)=((qt - 1:Nat):Int):=by
        have:1≤qt:=by rw [iJ]; exact Nat.le_add_left _ _
        have:=hT.1;rw [bN (by omega) (by omega)]; omega
       have vv:(qt - 1) % B=qt - 1:=Nat.mod_eq_of_lt (by have:=hT.1; show qt - 1 < 4294967296; omega)
       conv=>whnf
       simp only [e1];refine ⟨⟨by omega,by omega⟩,?_⟩
       simp only [toNat_cast,aA,Nat.zero_add];conv=>whnf
       refine ⟨by show j+k < m; omega,?_⟩
       conv=>whnf
       rw [show IntKind.u32.wrap (((an V (j+k):Nat):Int)+(c:Int))=(((an V (j+k)+c) % B:Nat):Int) from eK (an V (j+k)+c)]
       refine ⟨⟨by omega,by omega⟩,?_⟩
       simp only [toNat_cast,aA,Nat.zero_add];conv=>whnf
       refine ⟨by show j+k < m; omega,?_⟩
       conv=>whnf
       simp only [ep,eK,vv];rw [fL (Nat.mod_lt _ (by decide)),gw]
       exact rO (i:=⟨X,m,cx,D,cd,j⟩) rfl iu rfl
    skip
    skip
  ·rw [show (((((r / B:Nat):Int) == 0):Bool))=false by show decide (((r / 4294967296:Nat):Int)=0)=false; exact decide_eq_false (by omega)]
   conv=>whnf
   obtain ⟨qt,oz⟩:∃ qt,qt=q:=⟨_,rfl⟩;have hT:qt < 4294967296∧Q≤qt∧qt≤Q+1:=⟨by omega,by omega,by have:=pk (.inr mh); omega⟩
   rw [← oz];clear yd pk mh he hr Ed fu oz;conv=>whnf
   refine .inl ⟨fun mm tz hz=>∃ (i:Nat) (c:Nat) (b:Nat) (Z:Nat),bC (some (.slice (some ⟨0,0,none⟩) m cx)::some (.slice (some ⟨1,0,none⟩) n2 cd)::some (.int .i64 j)::aF 3 (some (.int .u32 0)::some (.int .i64 n2)::aF 1 (some (.int .u64 qt)::aF 1 (some (.int .u64 c)::some (.int .u32 b)::aF 88 (some (.slice (some ⟨1,0,none⟩) n2 cd)::some (.int .i64 n2)::some (.int .i64 i)::aF 90 []))))) tz∧hz=[some (.flat true m 1 (bu Z)),some (dN D)]∧n2 - i=mm∧((i≤n2∧c < 4294967296∧b≤1)∧Z < B ^ (j+n2+1)∧Z+qt*(D % B ^ i)*B ^ j=X+(b+c)*B ^ (j+i)),.inr ⟨[0,1],[0,1,2,6,7,9,11,12,101,102,103],?_⟩,?_⟩
   ·conv=>whnf
    intro _;conv=>whnf
    refine ⟨_,0,0,0,X,(.aa (.aa (.aa (.sk 3 (.aa (.aa (.sk 1 (.aa (.sk 1 (.aa (.aa (.sk 88 (.aa (.aa (.aa (.sk 90 .nil rfl)))) rfl))) rfl)) rfl))) rfl)))),rfl,rfl,?_⟩;exact ⟨⟨Nat.zero_le _,by decide,by decide⟩,F.fX,by simp [Nat.mod_one]⟩
   rintro mm aW _ ⟨i,c,b,Z,aB,rfl,rfl,⟨⟨hi,hc,hb⟩,hZ,he⟩⟩
   obtain ⟨az,rfl⟩:∃ az:Nat→Value,aW=.slice (some ⟨0,0,none⟩) m cx::.slice (some ⟨1,0,none⟩) n2 cd::.int .i64 j::zs az 3 3 (.int .u32 0::.int .i64 n2::zs az 8 1 (.int .u64 qt::zs az 10 1 (.int .u64 c::.int .u32 b::zs az 13 88 (.slice (some ⟨1,0,none⟩) n2 cd::.int .i64 n2::.int .i64 i::zs az 104 90 [])))):=bL aB;clear aB;conv=>whnf
   refine aN (fun h1=>?_) (fun h1=>?_)
   ·have h1:i < n2:=by simpa using h1
    conv=>whnf
    refine ⟨⟨by omega,by omega⟩,?_⟩
    simp only [toNat_cast,aA,Nat.zero_add];conv=>whnf
    refine ⟨by show i < nl D; omega,?_⟩
    conv=>whnf
    obtain ⟨x,hx⟩:∃ x,x=an D i:=⟨_,rfl⟩;obtain ⟨l,hl⟩:∃ l,l=an Z (j+i):=⟨_,rfl⟩;obtain ⟨t,ht⟩:∃ t,t=c+qt*an D i:=⟨_,rfl⟩;have iH:x < B:=by rw [hx]; exact cI D i
    have dT:l < 4294967296:=by rw [hl]; exact cI Z (j+i)
    obtain ⟨hv,fV⟩:=BQ (t:=t) hc hT.1 iH (by rw [hx]; exact ht)
    have oC:t % B < 4294967296:=Nat.mod_lt _ (by decide)
    obtain ⟨d,hd⟩:∃ d,d=(l+2*4294967296 - t % B - b) % 4294967296:=⟨_,rfl⟩;obtain ⟨b',bB⟩:∃ b',b'=if l < t % B+b then 1 else 0:=⟨_,rfl⟩
    have dK:d < 4294967296:=by rw [hd]; exact Nat.mod_lt _ (by decide)
    have aw:=Bw (i:=i) (j:=j) (d:=d) (b':=b') he ht (by
     rw [← hl,bB,hB,← hB];clear he hZ ht hv;obtain ⟨u,hu⟩:∃ u,u=t % B:=⟨_,rfl⟩;rw [← hu] at hd oC ⊢
     split <;> omega)
    have gW:=mj hZ (show j+i < j+n2+1 by omega) (show d < B from dK)
    have c4:b'≤1:=by rw [bB]; split <;> omega
    have e6:IntKind.i64.wrap (((j:Nat):Int)+((i:Nat):Int))=((j+i:Nat):Int):=by rw [ax (by omega) (by omega)]; omega
    have e7:IntKind.i64.wrap (((i:Nat):Int)+1)=((i+1:Nat):Int):=by rw [ax (by omega) (by omega)]; omega
    rw [← hx];simp only [j4 _ iH,hv,e6];refine ⟨⟨by omega,by omega⟩,?_⟩
    simp only [toNat_cast,aA,Nat.zero_add];conv=>whnf
    refine ⟨by show j+i < m; omega,?_⟩
    conv=>whnf
    rw [← hl];simp only [eK];refine ⟨(l,t % B,b),rfl,⟨dT,oC,hb⟩,?_⟩;simp only [lH,← hd,← bB,e6];conv=>whnf
    refine ⟨⟨by omega,by omega⟩,?_⟩
    simp only [toNat_cast,aA,Nat.zero_add];conv=>whnf
    refine ⟨by show j+i < m; omega,?_⟩
    conv=>whnf
    simp only [ck,jR,e7];rw [fL dK];refine .inl ⟨_,?_,i+1,t / B,b',cG Z (j+i) d,(.aa (.aa (.aa (.sk 3 (.aa (.aa (.sk 1 (.aa (.sk 1 (.aa (.aa (.sk 88 (.aa (.aa (.aa (.sk 90 .nil rfl)))) rfl))) rfl)) rfl))) rfl)))),rfl,rfl,?_⟩
    ·omega
    ·exact ⟨⟨by omega,fV,c4⟩,gW,aw⟩
   ·have h1:i=n2:=by
     have h1:¬ i < n2:=by simpa using h1
     omega
    subst h1;obtain ⟨l,hl⟩:∃ l,l=an Z (j+i):=⟨_,rfl⟩;have dT:l < 4294967296:=by rw [hl]; exact cI Z (j+i)
    obtain ⟨d,hd⟩:∃ d,d=(l+2*4294967296 - c - b) % 4294967296:=⟨_,rfl⟩;obtain ⟨b',bB⟩:∃ b',b'=if l < c+b then 1 else 0:=⟨_,rfl⟩
    have dK:d < 4294967296:=by rw [hd]; exact Nat.mod_lt _ (by decide)
    have aw:=Bx (j:=j) (d:=d) (b':=b') (by rw [bR]; exact b8 D) hc he (by
     rw [← hl,bB,hB,← hB];clear he hZ
     split <;> omega)
    have gW:=mj hZ (show j+i < j+i+1 by omega) (show d < B from dK)
    have oD:c % B=c:=Nat.mod_eq_of_lt hc;have c4:b'≤1:=by rw [bB]; split <;> omega
    have vP:qt % B=qt:=Nat.mod_eq_of_lt hT.1;have hE:0 < D*B ^ j:=Nat.mul_pos F.AA (eD j);have oE:Q=X / (D*B ^ j):=by rw [F.fQ,Nat.div_div_eq_div_mul,Nat.mul_comm]
    conv=>whnf
    simp only [e1];refine ⟨⟨by omega,by omega⟩,?_⟩
    simp only [toNat_cast,aA,Nat.zero_add];conv=>whnf
    refine ⟨by show j+i < m; omega,?_⟩
    conv=>whnf
    rw [← hl];simp only [eK,oD];refine ⟨(l,c,b),rfl,⟨dT,hc,hb⟩,?_⟩;simp only [lH,← hd,← bB,e1];conv=>whnf
    refine ⟨⟨by omega,by omega⟩,?_⟩
    simp only [toNat_cast,aA,Nat.zero_add];conv=>whnf
    refine ⟨by show j+i < m; omega,?_⟩
    conv=>whnf
    rw [fL dK];refine aN (fun J=>?_) (fun J=>?_)
    ·have J:b'=0:=by
      have:=of_decide_eq_true J;omega
     clear bB;subst J;rw [Nat.zero_mul,Nat.add_zero] at aw;obtain ⟨iJ,fi⟩:=Bf hE aw (by rw [← oE]; exact hT.2.1)
     conv=>whnf
     simp only [eK,vP];exact rO (i:=⟨X,m,cx,D,cd,j⟩) fi iJ rfl
    ·have J:b'=1:=by
      have:=of_decide_eq_false J;omega
     clear bB;subst J;rw [Nat.one_mul] at aw;obtain ⟨iJ,fi⟩:=Bg hE aw gW (by rw [← oE]; exact hT.2.2)
     obtain ⟨Y,hY⟩:∃ Y,Y=cG Z (j+i) d:=⟨_,rfl⟩;rw [← hY] at fi gW ⊢;clear aw he hZ hY hc hb hl dT hd dK oD;conv=>whnf
     refine .inl ⟨fun mm tz hz=>∃ (k:Nat) (c:Nat) (V:Nat),bC (some (.slice (some ⟨0,0,none⟩) m cx)::some (.slice (some ⟨1,0,none⟩) i cd)::some (.int .i64 j)::aF 3 (some (.int .u32 0)::some (.int .i64 i)::aF 1 (some (.int .u64 qt)::aF 5 (some (.int .u32 c)::aF 141 (some (.slice (some ⟨1,0,none⟩) i cd)::some (.int .i64 i)::some (.int .i64 k)::aF 34 []))))) tz∧hz=[some (.flat true m 1 (bu V)),some (dN D)]∧i - k=mm∧((k≤i∧c≤1)∧V < B ^ (j+i+1)∧V+c*B ^ (j+k)=Y+D % B ^ k*B ^ j),.inr ⟨[0,1],[0,1,2,6,7,9,15,157,158,159],?_⟩,?_⟩
     ·conv=>whnf
      intro _;conv=>whnf
      refine ⟨_,0,0,Y,(.aa (.aa (.aa (.sk 3 (.aa (.aa (.sk 1 (.aa (.sk 5 (.aa (.sk 141 (.aa (.aa (.aa (.sk 34 .nil rfl)))) rfl)) rfl)) rfl))) rfl)))),rfl,rfl,?_⟩;exact ⟨⟨Nat.zero_le _,by decide⟩,gW,by simp [Nat.mod_one]⟩
     rintro mm aW _ ⟨k,c,V,aB,rfl,rfl,⟨⟨hk,hc⟩,hV,he⟩⟩
     obtain ⟨az,rfl⟩:∃ az:Nat→Value,aW=.slice (some ⟨0,0,none⟩) m cx::.slice (some ⟨1,0,none⟩) i cd::.int .i64 j::zs az 3 3 (.int .u32 0::.int .i64 i::zs az 8 1 (.int .u64 qt::zs az 10 5 (.int .u32 c::zs az 16 141 (.slice (some ⟨1,0,none⟩) i cd::.int .i64 i::.int .i64 k::zs az 160 34 [])))):=bL aB;clear aB;conv=>whnf
     refine aN (fun h3=>?_) (fun h3=>?_)
     ·have h3:k < i:=by simpa using h3
      obtain ⟨x,hx⟩:∃ x,x=an D k:=⟨_,rfl⟩;obtain ⟨l,hl⟩:∃ l,l=an V (j+k):=⟨_,rfl⟩;have iH:x < 4294967296:=by rw [hx]; exact cI D k
      have dT:l < 4294967296:=by rw [hl]; exact cI V (j+k)
      obtain ⟨t,ht⟩:∃ t,t=l+x+c:=⟨_,rfl⟩;have aw:=By (t:=t) (i:=k) (j:=j) he (by rw [← hl,← hx]; exact ht)
      have im:t % B < 4294967296:=Nat.mod_lt _ (by decide)
      have fV:t / B≤1:=by show t / 4294967296≤1; omega
      have vQ:=mj hV (show j+k < j+i+1 by omega) (show t % B < B from im)
      have e6:IntKind.i64.wrap (((j:Nat):Int)+((k:Nat):Int))=((j+k:Nat):Int):=by rw [ax (by omega) (by omega)]; omega
      have e7:IntKind.i64.wrap (((k:Nat):Int)+1)=((k+1:Nat):Int):=by rw [ax (by omega) (by omega)]; omega
      conv=>whnf
      refine ⟨⟨by omega,by omega⟩,?_⟩
      simp only [toNat_cast,aA,Nat.zero_add];conv=>whnf
      refine ⟨by show k < nl D; omega,?_⟩
      conv=>whnf
      simp only [e6];refine ⟨⟨by omega,by omega⟩,?_⟩
      simp only [toNat_cast,aA,Nat.zero_add];conv=>whnf
      refine ⟨by show j+k < m; omega,?_⟩
      conv=>whnf
      rw [← hl,← hx];refine ⟨(l,x,c),rfl,⟨dT,iH,hc⟩,?_⟩;simp only [uK,← ht,e6];conv=>whnf
      refine ⟨⟨by omega,by omega⟩,?_⟩
      simp only [toNat_cast,aA,Nat.zero_add];conv=>whnf
      refine ⟨by show j+k < m; omega,?_⟩
      conv=>whnf
      simp only [e7];rw [show t % 4294967296=t % B from rfl,fL im]
      refine .inl ⟨_,?_,k+1,t / B,cG V (j+k) (t % B),(.aa (.aa (.aa (.sk 3 (.aa (.aa (.sk 1 (.aa (.sk 5 (.aa (.sk 141 (.aa (.aa (.aa (.sk 34 .nil rfl)))) rfl)) rfl)) rfl))) rfl)))),rfl,rfl,?_⟩
      ·omega
      ·exact ⟨⟨by omega,fV⟩,vQ,aw⟩
     ·have h3:k=i:=by
       have h3:¬ k < i:=by simpa using h3
       omega
      subst h3;have k9:D < B ^ k:=by rw [bR]; exact b8 D
      have gw:=Bz (V:=V) (R:=X % (D*B ^ j)) (k:=j+k) hV (Nat.lt_of_lt_of_le (Nat.mod_lt _ hE) (by rw [Nat.add_comm,Nat.pow_add]; exact Nat.mul_le_mul_right _ (Nat.le_of_lt k9))) hc (by
       rw [he,Nat.mod_eq_of_lt k9]; exact fi)
      have iu:qt - 1=X / (D*B ^ j):=by rw [iJ]; rfl
      have ep:IntKind.u64.wrap ((qt:Int) - 1)=((qt - 1:Nat):Int):=by
       have:1≤qt:=by rw [iJ]; exact Nat.le_add_left _ _
       have:=hT.1;rw [bN (by omega) (by omega)]; omega
      have vv:(qt - 1) % B=qt - 1:=Nat.mod_eq_of_lt (by have:=hT.1; show qt - 1 < 4294967296; omega)
      conv=>whnf
      simp only [e1];refine ⟨⟨by omega,by omega⟩,?_⟩
      simp only [toNat_cast,aA,Nat.zero_add];conv=>whnf
      refine ⟨by show j+k < m; omega,?_⟩
      conv=>whnf
      rw [show IntKind.u32.wrap (((an V (j+k):Nat):Int)+(c:Int))=(((an V (j+k)+c) % B:Nat):Int) from eK (an V (j+k)+c)]
      refine ⟨⟨by omega,by omega⟩,?_⟩
      simp only [toNat_cast,aA,Nat.zero_add];conv=>whnf
      refine ⟨by show j+k < m; omega,?_⟩
      conv=>whnf
      simp only [ep,eK,vv];rw [fL (Nat.mod_lt _ (by decide)),gw]
      exact rO (i:=⟨X,m,cx,D,cd,j⟩) rfl iu rfl
   skip
   skip
 ·have al:Q < q:=by have:=F.fB; omega
  rw [show decide (((q / B:Nat):Int) > 0)=true from decide_eq_true (by show (((q / 4294967296:Nat):Int) > 0); omega)]
  conv=>whnf
  have ep:IntKind.u64.wrap ((q:Int) - 1)=((q - 1:Nat):Int):=by rw [bN (by omega) (by omega)]; omega
  have bW:(q - 1)*d1+(r+d1)=top:=by
   have h1:(q - 1)*d1+d1=q*d1:=by
    conv=>rhs; rw [show q=(q - 1)+1 by omega,Nat.add_mul,Nat.one_mul]
   omega
  have fi:r+d1 < 18446744073709551616:=Nat.lt_of_le_of_lt (Nat.le_trans (Nat.le_add_left _ _) (Nat.le_of_eq bW)) HQ;have er:IntKind.u64.wrap ((r:Int)+(d1:Int))=((r+d1:Nat):Int):=by rw [bN (by omega) (by omega)]; omega
  simp only [ep,e4];refine ⟨⟨by omega,by omega⟩,?_⟩
  simp only [toNat_cast,aA,Nat.zero_add];conv=>whnf
  refine ⟨by show n1 < nl D; omega,?_⟩
  conv=>whnf
  simp only [j4 _ zX];rw [← gp,er];simp only [ck,jR];rcases Nat.lt_or_ge (r+d1) 4294967296 with mh | mh
  ·rw [show decide ((((r+d1) / B:Nat):Int) > 0)=false from decide_eq_false (by show ¬ ((((r+d1) / 4294967296:Nat):Int) > 0); omega)]
   conv=>whnf
   refine .inr ⟨[0,1],[0,1,2,6,7,9,10],?_⟩;conv=>whnf
   intro _;conv=>whnf
   refine ⟨_,?_,q - 1,r+d1,(.aa (.aa (.aa (.sk 3 (.aa (.aa (.sk 1 (.aa (.aa (.sk 183 .nil rfl))) rfl))) rfl)))),rfl,rfl,?_⟩
   ·omega
   ·exact ⟨bW,by omega,by omega⟩
  ·rw [show decide ((((r+d1) / B:Nat):Int) > 0)=true from decide_eq_true (by show ((((r+d1) / 4294967296:Nat):Int) > 0); omega)]
   conv=>whnf
   simp only [ck,jR];rcases Nat.lt_or_ge (q - 1) 4294967296 with vt | vt
   ·rw [show (((((q - 1) / B:Nat):Int) == 0):Bool)=true by show decide ((((q - 1) / 4294967296:Nat):Int)=0)=true; exact decide_eq_true (by omega)]
    conv=>whnf
    obtain ⟨qt,oz⟩:∃ qt,qt=q - 1:=⟨_,rfl⟩;have hT:qt < 4294967296∧Q≤qt∧qt≤Q+1:=by
     have h3:q - 1≤X / B ^ j / D+1:=GF (eD n) F.fW F.fD bW vt F.fP DD (.inl mh);rw [← F.fQ] at h3;omega
    rw [← oz];clear yd vt al ep bW fi er mh he hr Ed fu oz;conv=>whnf
    refine .inl ⟨fun mm tz hz=>∃ (i:Nat) (c:Nat) (b:Nat) (Z:Nat),bC (some (.slice (some ⟨0,0,none⟩) m cx)::some (.slice (some ⟨1,0,none⟩) n2 cd)::some (.int .i64 j)::aF 3 (some (.int .u32 0)::some (.int .i64 n2)::aF 1 (some (.int .u64 qt)::aF 1 (some (.int .u64 c)::some (.int .u32 b)::aF 88 (some (.slice (some ⟨1,0,none⟩) n2 cd)::some (.int .i64 n2)::some (.int .i64 i)::aF 90 []))))) tz∧hz=[some (.flat true m 1 (bu Z)),some (dN D)]∧n2 - i=mm∧((i≤n2∧c < 4294967296∧b≤1)∧Z < B ^ (j+n2+1)∧Z+qt*(D % B ^ i)*B ^ j=X+(b+c)*B ^ (j+i)),.inr ⟨[0,1],[0,1,2,6,7,9,11,12,101,102,103],?_⟩,?_⟩
    ·conv=>whnf
     intro _;conv=>whnf
     refine ⟨_,0,0,0,X,(.aa (.aa (.aa (.sk 3 (.aa (.aa (.sk 1 (.aa (.sk 1 (.aa (.aa (.sk 88 (.aa (.aa (.aa (.sk 90 .nil rfl)))) rfl))) rfl)) rfl))) rfl)))),rfl,rfl,?_⟩;exact ⟨⟨Nat.zero_le _,by decide,by decide⟩,F.fX,by simp [Nat.mod_one]⟩
    rintro mm aW _ ⟨i,c,b,Z,aB,rfl,rfl,⟨⟨hi,hc,hb⟩,hZ,he⟩⟩
    obtain ⟨az,rfl⟩:∃ az:Nat→Value,aW=.slice (some ⟨0,0,none⟩) m cx::.slice (some ⟨1,0,none⟩) n2 cd::.int .i64 j::zs az 3 3 (.int .u32 0::.int .i64 n2::zs az 8 1 (.int .u64 qt::zs az 10 1 (.int .u64 c::.int .u32 b::zs az 13 88 (.slice (some ⟨1,0,none⟩) n2 cd::.int .i64 n2::.int .i64 i::zs az 104 90 [])))):=bL aB;clear aB;conv=>whnf
    refine aN (fun h1=>?_) (fun h1=>?_)
    ·have h1:i < n2:=by simpa using h1
     conv=>whnf
     refine ⟨⟨by omega,by omega⟩,?_⟩
     simp only [toNat_cast,aA,Nat.zero_add];conv=>whnf
     refine ⟨by show i < nl D; omega,?_⟩
     conv=>whnf
     obtain ⟨x,hx⟩:∃ x,x=an D i:=⟨_,rfl⟩;obtain ⟨l,hl⟩:∃ l,l=an Z (j+i):=⟨_,rfl⟩;obtain ⟨t,ht⟩:∃ t,t=c+qt*an D i:=⟨_,rfl⟩;have iH:x < B:=by rw [hx]; exact cI D i
     have dT:l < 4294967296:=by rw [hl]; exact cI Z (j+i)
     obtain ⟨hv,fV⟩:=BQ (t:=t) hc hT.1 iH (by rw [hx]; exact ht)
     have oC:t % B < 4294967296:=Nat.mod_lt _ (by decide)
     obtain ⟨d,hd⟩:∃ d,d=(l+2*4294967296 - t % B - b) % 4294967296:=⟨_,rfl⟩;obtain ⟨b',bB⟩:∃ b',b'=if l < t % B+b then 1 else 0:=⟨_,rfl⟩
     have dK:d < 4294967296:=by rw [hd]; exact Nat.mod_lt _ (by decide)
     have aw:=Bw (i:=i) (j:=j) (d:=d) (b':=b') he ht (by
      rw [← hl,bB,hB,← hB];clear he hZ ht hv;obtain ⟨u,hu⟩:∃ u,u=t % B:=⟨_,rfl⟩;rw [← hu] at hd oC ⊢
      split <;> omega)
     have gW:=mj hZ (show j+i < j+n2+1 by omega) (show d < B from dK)
     have c4:b'≤1:=by rw [bB]; split <;> omega
     have e6:IntKind.i64.wrap (((j:Nat):Int)+((i:Nat):Int))=((j+i:Nat):Int):=by rw [ax (by omega) (by omega)]; omega
     have e7:IntKind.i64.wrap (((i:Nat):Int)+1)=((i+1:Nat):Int):=by rw [ax (by omega) (by omega)]; omega
     rw [← hx];simp only [j4 _ iH,hv,e6];refine ⟨⟨by omega,by omega⟩,?_⟩
     simp only [toNat_cast,aA,Nat.zero_add];conv=>whnf
     refine ⟨by show j+i < m; omega,?_⟩
     conv=>whnf
     rw [← hl];simp only [eK];refine ⟨(l,t % B,b),rfl,⟨dT,oC,hb⟩,?_⟩;simp only [lH,← hd,← bB,e6];conv=>whnf
     refine ⟨⟨by omega,by omega⟩,?_⟩
     simp only [toNat_cast,aA,Nat.zero_add];conv=>whnf
     refine ⟨by show j+i < m; omega,?_⟩
     conv=>whnf
     simp only [ck,jR,e7];rw [fL dK];refine .inl ⟨_,?_,i+1,t / B,b',cG Z (j+i) d,(.aa (.aa (.aa (.sk 3 (.aa (.aa (.sk 1 (.aa (.sk 1 (.aa (.aa (.sk 88 (.aa (.aa (.aa (.sk 90 .nil rfl)))) rfl))) rfl)) rfl))) rfl)))),rfl,rfl,?_⟩
     ·omega
     ·exact ⟨⟨by omega,fV,c4⟩,gW,aw⟩
    ·have h1:i=n2:=by
      have h1:¬ i < n2:=by simpa using h1
      omega
     subst h1;obtain ⟨l,hl⟩:∃ l,l=an Z (j+i):=⟨_,rfl⟩;have dT:l < 4294967296:=by rw [hl]; exact cI Z (j+i)
     obtain ⟨d,hd⟩:∃ d,d=(l+2*4294967296 - c - b) % 4294967296:=⟨_,rfl⟩;obtain ⟨b',bB⟩:∃ b',b'=if l < c+b then 1 else 0:=⟨_,rfl⟩
     have dK:d < 4294967296:=by rw [hd]; exact Nat.mod_lt _ (by decide)
     have aw:=Bx (j:=j) (d:=d) (b':=b') (by rw [bR]; exact b8 D) hc he (by
      rw [← hl,bB,hB,← hB];clear he hZ
      split <;> omega)
     have gW:=mj hZ (show j+i < j+i+1 by omega) (show d < B from dK)
     have oD:c % B=c:=Nat.mod_eq_of_lt hc;have c4:b'≤1:=by rw [bB]; split <;> omega
     have vP:qt % B=qt:=Nat.mod_eq_of_lt hT.1;have hE:0 < D*B ^ j:=Nat.mul_pos F.AA (eD j);have oE:Q=X / (D*B ^ j):=by rw [F.fQ,Nat.div_div_eq_div_mul,Nat.mul_comm]
     conv=>whnf
     simp only [e1];refine ⟨⟨by omega,by omega⟩,?_⟩
     simp only [toNat_cast,aA,Nat.zero_add];conv=>whnf
     refine ⟨by show j+i < m; omega,?_⟩
     conv=>whnf
     rw [← hl];simp only [eK,oD];refine ⟨(l,c,b),rfl,⟨dT,hc,hb⟩,?_⟩;simp only [lH,← hd,← bB,e1];conv=>whnf
     refine ⟨⟨by omega,by omega⟩,?_⟩
     simp only [toNat_cast,aA,Nat.zero_add];conv=>whnf
     refine ⟨by show j+i < m; omega,?_⟩
     conv=>whnf
     rw [fL dK];refine aN (fun J=>?_) (fun J=>?_)
     ·have J:b'=0:=by
       have:=of_decide_eq_true J;omega
      clear bB;subst J;rw [Nat.zero_mul,Nat.add_zero] at aw;obtain ⟨iJ,fi⟩:=Bf hE aw (by rw [← oE]; exact hT.2.1)
      conv=>whnf
      simp only [eK,vP];exact rO (i:=⟨X,m,cx,D,cd,j⟩) fi iJ rfl
     ·have J:b'=1:=by
       have:=of_decide_eq_false J;omega
      clear bB;subst J;rw [Nat.one_mul] at aw;obtain ⟨iJ,fi⟩:=Bg hE aw gW (by rw [← oE]; exact hT.2.2)
      obtain ⟨Y,hY⟩:∃ Y,Y=cG Z (j+i) d:=⟨_,rfl⟩;rw [← hY] at fi gW ⊢;clear aw he hZ hY hc hb hl dT hd dK oD;conv=>whnf
      refine .inl ⟨fun mm tz hz=>∃ (k:Nat) (c:Nat) (V:Nat),bC (some (.slice (some ⟨0,0,none⟩) m cx)::some (.slice (some ⟨1,0,none⟩) i cd)::some (.int .i64 j)::aF 3 (some (.int .u32 0)::some (.int .i64 i)::aF 1 (some (.int .u64 qt)::aF 5 (some (.int .u32 c)::aF 141 (some (.slice (some ⟨1,0,none⟩) i cd)::some (.int .i64 i)::some (.int .i64 k)::aF 34 []))))) tz∧hz=[some (.flat true m 1 (bu V)),some (dN D)]∧i - k=mm∧((k≤i∧c≤1)∧V < B ^ (j+i+1)∧V+c*B ^ (j+k)=Y+D % B ^ k*B ^ j),.inr ⟨[0,1],[0,1,2,6,7,9,15,157,158,159],?_⟩,?_⟩
      ·conv=>whnf
       intro _;conv=>whnf
       refine ⟨_,0,0,Y,(.aa (.aa (.aa (.sk 3 (.aa (.aa (.sk 1 (.aa (.sk 5 (.aa (.sk 141 (.aa (.aa (.aa (.sk 34 .nil rfl)))) rfl)) rfl)) rfl))) rfl)))),rfl,rfl,?_⟩;exact ⟨⟨Nat.zero_le _,by decide⟩,gW,by simp [Nat.mod_one]⟩
      rintro mm aW _ ⟨k,c,V,aB,rfl,rfl,⟨⟨hk,hc⟩,hV,he⟩⟩
      obtain ⟨az,rfl⟩:∃ az:Nat→Value,aW=.slice (some ⟨0,0,none⟩) m cx::.slice (some ⟨1,0,none⟩) i cd::.int .i64 j::zs az 3 3 (.int .u32 0::.int .i64 i::zs az 8 1 (.int .u64 qt::zs az 10 5 (.int .u32 c::zs az 16 141 (.slice (some ⟨1,0,none⟩) i cd::.int .i64 i::.int .i64 k::zs az 160 34 [])))):=bL aB;clear aB;conv=>whnf
      refine aN (fun h3=>?_) (fun h3=>?_)
      ·have h3:k < i:=by simpa using h3
       obtain ⟨x,hx⟩:∃ x,x=an D k:=⟨_,rfl⟩;obtain ⟨l,hl⟩:∃ l,l=an V (j+k):=⟨_,rfl⟩;have iH:x < 4294967296:=by rw [hx]; exact cI D k
       have dT:l < 4294967296:=by rw [hl]; exact cI V (j+k)
       obtain ⟨t,ht⟩:∃ t,t=l+x+c:=⟨_,rfl⟩;have aw:=By (t:=t) (i:=k) (j:=j) he (by rw [← hl,← hx]; exact ht)
       have im:t % B < 4294967296:=Nat.mod_lt _ (by decide)
       have fV:t / B≤1:=by show t / 4294967296≤1; omega
       have vQ:=mj hV (show j+k < j+i+1 by omega) (show t % B < B from im)
       have e6:IntKind.i64.wrap (((j:Nat):Int)+((k:Nat):Int))=((j+k:Nat):Int):=by rw [ax (by omega) (by omega)]; omega
       have e7:IntKind.i64.wrap (((k:Nat):Int)+1)=((k+1:Nat):Int):=by rw [ax (by omega) (by omega)]; omega
       conv=>whnf
       refine ⟨⟨by omega,by omega⟩,?_⟩
       simp only [toNat_cast,aA,Nat.zero_add];conv=>whnf
       refine ⟨by show k < nl D; omega,?_⟩
       conv=>whnf
       simp only [e6];refine ⟨⟨by omega,by omega⟩,?_⟩
       simp only [toNat_cast,aA,Nat.zero_add];conv=>whnf
       refine ⟨by show j+k < m; omega,?_⟩
       conv=>whnf
       rw [← hl,← hx];refine ⟨(l,x,c),rfl,⟨dT,iH,hc⟩,?_⟩;simp only [uK,← ht,e6];conv=>whnf
       refine ⟨⟨by omega,by omega⟩,?_⟩
       simp only [toNat_cast,aA,Nat.zero_add];conv=>whnf
       refine ⟨by show j+k < m; omega,?_⟩
       conv=>whnf
       simp only [e7];rw [show t % 4294967296=t % B from rfl,fL im]
       refine .inl ⟨_,?_,k+1,t / B,cG V (j+k) (t % B),(.aa (.aa (.aa (.sk 3 (.aa (.aa (.sk 1 (.aa (.sk 5 (.aa (.sk 141 (.aa (.aa (.aa (.sk 34 .nil rfl)))) rfl)) rfl)) rfl))) rfl)))),rfl,rfl,?_⟩
       ·omega
       ·exact ⟨⟨by omega,fV⟩,vQ,aw⟩
      ·have h3:k=i:=by
        have h3:¬ k < i:=by simpa using h3
        omega
       subst h3;have k9:D < B ^ k:=by rw [bR]; exact b8 D
       have gw:=Bz (V:=V) (R:=X % (D*B ^ j)) (k:=j+k) hV (Nat.lt_of_lt_of_le (Nat.mod_lt _ hE) (by rw [Nat.add_comm,Nat.pow_add]; exact Nat.mul_le_mul_right _ (Nat.le_of_lt k9))) hc (by
        rw [he,Nat.mod_eq_of_lt k9]; exact fi)
       have iu:qt - 1=X / (D*B ^ j):=by rw [iJ]; rfl
       have ep:IntKind.u64.wrap ((qt:Int) - 1)=((qt - 1:Nat):Int):=by
        have:1≤qt:=by rw [iJ]; exact Nat.le_add_left _ _
        have:=hT.1;rw [bN (by omega) (by omega)]; omega
       have vv:(qt - 1) % B=qt - 1:=Nat.mod_eq_of_lt (by have:=hT.1; show qt - 1 < 4294967296; omega)
       conv=>whnf
       simp only [e1];refine ⟨⟨by omega,by omega⟩,?_⟩
       simp only [toNat_cast,aA,Nat.zero_add];conv=>whnf
       refine ⟨by show j+k < m; omega,?_⟩
       conv=>whnf
       rw [show IntKind.u32.wrap (((an V (j+k):Nat):Int)+(c:Int))=(((an V (j+k)+c) % B:Nat):Int) from eK (an V (j+k)+c)]
       refine ⟨⟨by omega,by omega⟩,?_⟩
       simp only [toNat_cast,aA,Nat.zero_add];conv=>whnf
       refine ⟨by show j+k < m; omega,?_⟩
       conv=>whnf
       simp only [ep,eK,vv];rw [fL (Nat.mod_lt _ (by decide)),gw]
       exact rO (i:=⟨X,m,cx,D,cd,j⟩) rfl iu rfl
    skip
    skip
   ·rw [show (((((q - 1) / B:Nat):Int) == 0):Bool)=false by show decide ((((q - 1) / 4294967296:Nat):Int)=0)=false; exact decide_eq_false (by omega)]
    conv=>whnf
    refine .inr ⟨[0,1],[0,1,2,6,7,9,10],?_⟩;conv=>whnf
    intro _;conv=>whnf
    refine ⟨_,?_,q - 1,r+d1,(.aa (.aa (.aa (.sk 3 (.aa (.aa (.sk 1 (.aa (.aa (.sk 183 .nil rfl))) rfl))) rfl)))),rfl,rfl,?_⟩
    ·omega
    ·exact ⟨bW,by omega,by omega⟩
open Go Go.Ae
def Eh:Env:=En [(161,.q sG),(136,.q wL),(183,.q CI),(185,.q CJ),(187,.q BR),(184,.p C1)] [(186,Aw xi)]
theorem aeB:EnvOk Tryz.prog Eh:=bK ⟨Cp,Fj,WQ,WR,T6,Zr,trivial⟩ ⟨WS,trivial⟩
theorem Vh:gu Tryz.prog 163 (Aw gQ):=by
 refine OE aeB aQ Tryz.func163 (enters_of Tryz.func163 (by kernel_rfl) rfl) ?_
 intro ⟨A,ca,D,cd⟩ hp;have hp:(nl A≤137438953472∧nl D≤137438953472)∧D≠0:=hp;conv=>whnf
 refine ⟨(A,ca,D,cd),[0,1],rfl,hp.1,?_⟩;conv=>whnf
 refine ⟨aD.aP (fun h=>h) (fun r hr=>rfl),?_⟩
 conv=>whnf
 refine ⟨aD.aP (fun h=>h) (fun r hr=>rfl),?_⟩
 conv=>whnf
 refine ⟨_,rfl,?_⟩;conv=>whnf
 refine aN (fun h0=>?_) (fun h0=>?_)
 ·have h0:A < D:=by
   have h0:cM A D < 0:=of_decide_eq_true h0;rcases Nat.lt_or_ge A D with h | h
   ·exact h
   ·rw [cM,if_neg (by omega)] at h0
    split at h0 <;> omega
  conv=>whnf
  exact UM h0
 ·have h0:D≤A:=by
   have h0:¬ cM A D < 0:=of_decide_eq_false h0;rcases Nat.lt_or_ge A D with h | h
   ·rw [cM,if_pos h] at h0;omega
   ·exact h
  have pL:0 < D:=Nat.pos_of_ne_zero hp.2;conv=>whnf
  refine aN (fun h1=>?_) (fun h1=>?_)
  ·have h1:nl D=1:=by
    have h1:((nl D:Nat):Int)=1:=by simpa using h1
    omega
   obtain ⟨eP,dT,pD⟩:=Z8 h1;conv=>whnf
   refine ⟨⟨by omega,by show ((0:Nat):Int) < ((nl D:Nat):Int); omega⟩,?_⟩
   simp only [toNat_0,aA,Nat.zero_add];conv=>whnf
   refine ⟨by show 0 < nl D; omega,?_⟩
   conv=>whnf
   rw [eP];refine ⟨(A,ca,D),[0],rfl,⟨hp.1.1,pD,dT⟩,?_⟩;conv=>whnf
   refine ⟨aD.aP (fun h=>h) (fun r hr=>rfl),?_⟩
   conv=>whnf
   refine ⟨_,rfl,?_⟩;conv=>whnf
   refine ⟨some (1,A % D,1),[3],rfl,⟨by rw [Nat.pow_one]; exact Nat.lt_trans (Nat.mod_lt _ pD) dT,by decide⟩,?_⟩
   conv=>whnf
   have JJ:A % D < 4294967296:=Nat.lt_trans (Nat.mod_lt _ pD) dT;refine ⟨Mn JJ (Nat.le_refl _),?_⟩;conv=>whnf
   refine ⟨_,rfl,?_⟩;conv=>whnf
   refine Mm (q:=2) (r:=3) h0 (by decide) (by decide) (by decide) rfl rfl rfl rfl ⟨(fun h=>by cases h),rfl,lB (Nat.div_le_self _ _),fun _ _=>rfl,fun r hr v hv=>dE (l:=bu (A / D) r) rfl v hv⟩ ?_
   exact Mn JJ (jQ (n:=1) (by rw [Nat.pow_one]; exact JJ))
  ·have h1:nl D≠1:=by
    intro e;have e2:((nl D:Nat):Int)=1:=by rw [e]; rfl
    simp [e2] at h1
   have hnD:=lB h0;have J:2≤nl D:=by have:=y6 hp.2; omega
   obtain ⟨n,hn⟩:∃ n,n=nl D - 1:=⟨_,rfl⟩;obtain ⟨s,hs⟩:∃ s,s=32 - fe (an D n):=⟨_,rfl⟩;obtain ⟨f1,f2,f3,f4,f5⟩:=Tp (D:=D) (n:=n) (s:=s) (by omega) hs
   obtain ⟨E,hE⟩:∃ E,E=D*2 ^ s:=⟨_,rfl⟩;have hEp:0 < E:=by rw [hE]; exact Nat.mul_pos pL (Nat.pow_pos (by decide))
   rw [← hE] at f3 f4 f5;have hEn:nl E=nl D:=by omega
   have e1:IntKind.i64.wrap (((nl D:Nat):Int) - 1)=((n:Nat):Int):=by rw [ax (by omega) (by omega)]; omega
   conv=>whnf
   simp only [e1];refine ⟨⟨by omega,by show ((n:Nat):Int) < ((nl D:Nat):Int); omega⟩,?_⟩
   simp only [toNat_cast,aA,Nat.zero_add];conv=>whnf
   refine ⟨by show n < nl D; omega,?_⟩
   conv=>whnf
   refine ⟨an D n,rfl,cI D n,?_⟩;simp only [C1,← hs];conv=>whnf
   refine ⟨(A,ca,s),[0],rfl,⟨hp.1.1,f1⟩,?_⟩;conv=>whnf
   refine ⟨aD.aP (fun h=>h) (fun r hr=>rfl),?_⟩
   conv=>whnf
   refine ⟨_,rfl,?_⟩;conv=>whnf
   refine ⟨(D,cd,s),[1],rfl,⟨hp.1.2,f1⟩,?_⟩;conv=>whnf
   refine ⟨aD.aP (fun h=>h) (fun r hr=>rfl),?_⟩
   conv=>whnf
   refine ⟨_,rfl,?_⟩;conv=>whnf
   rw [show (A,ca,s).1*2 ^ (A,ca,s).2.2=A*2 ^ s from rfl,show (D,cd,s).1*2 ^ (D,cd,s).2.2=E from hE.symm]
   have aeC:E < B ^ (nl D+1):=Nat.lt_of_lt_of_le (b8 E) (Nat.pow_le_pow_right (by decide) (by omega))
   refine ⟨some (nl D+1,E,nl D+1),[3],rfl,⟨aeC,by omega⟩,?_⟩
   conv=>whnf
   refine ⟨⟨(fun h=>by cases h),rfl,Nat.le_refl _,fun _ _=>rfl,fun r hr v hv=>dE (l:=bu E r) rfl v hv⟩,?_⟩
   conv=>whnf
   refine ⟨_,rfl,?_⟩;conv=>whnf
   obtain ⟨k,hk⟩:∃ k,k=nl A+1 - nl D:=⟨_,rfl⟩;have e2:IntKind.i64.wrap (((nl A+1:Nat):Int) - ((nl E:Nat):Int))=((k:Nat):Int):=by rw [ax (by omega) (by omega)]; omega
   simp only [e2];refine ⟨⟨by omega,by omega,by show ((k:Nat):Int)*((4:Nat):Int)≤_; omega⟩,?_⟩
   simp only [toNat_cast,tQ];conv=>whnf
   refine .inl ⟨fun mm tz hz=>∃ (i:Nat) (U:Nat) (Q:Nat),bC (aF 8 (some (.int .i64 s)::some (.slice (some ⟨2,0,none⟩) (nl A+1) (nl A+1))::some (.slice (some ⟨3,0,none⟩) (nl E) (nl D+1))::some (.slice (some ⟨4,0,none⟩) k k)::some (.int .i64 (IntKind.i64.wrap ((i:Int) - 1)))::aF 60 [])) tz∧hz=[some (.flat false (nl A) 1 (bu A)),some (.flat false (nl D) 1 (bu D)),some (.flat true (nl A+1) 1 (bu U)),some (.flat true (nl D+1) 1 (bu E)),some (.flat true k 1 (bu Q))]∧i=mm∧(i≤k∧Q*E+U=A*2 ^ s∧U < E*B ^ i∧Q % B ^ i=0),.inl ⟨_,k,A*2 ^ s,0,(.sk 8 (.aa (.aa (.aa (.aa (.aa (.sk 60 .nil rfl)))))) rfl),rfl,rfl,?_⟩,?_⟩
   ·exact ⟨Nat.le_refl _,by rw [Nat.zero_mul,Nat.zero_add],UK f1 f5 (by omega) (by omega),Nat.zero_mod _⟩
   rintro mm aW _ ⟨i,U,Q,aB,rfl,rfl,⟨hi,Ee,hU,hQm⟩⟩
   obtain ⟨az,rfl⟩:∃ az:Nat→Value,aW=zs az 0 8 (.int .i64 s::.slice (some ⟨2,0,none⟩) (nl A+1) (nl A+1)::.slice (some ⟨3,0,none⟩) (nl E) (nl D+1)::.slice (some ⟨4,0,none⟩) k k::.int .i64 (IntKind.i64.wrap ((i:Int) - 1))::zs az 13 60 []):=bL aB;clear aB;conv=>whnf
   refine aN (fun h3=>?_) (fun h3=>?_)
   ·have h3:0 < i:=by
     rcases Nat.eq_zero_or_pos i with h | h
     ·subst h; revert h3; decide
     ·exact h
    obtain ⟨i,rfl⟩:∃ i',i=i'+1:=⟨i - 1,by omega⟩
    have ei:IntKind.i64.wrap (((i+1:Nat):Int) - 1)=((i:Nat):Int):=by rw [ax (by omega) (by omega)]; omega
    simp only [ei];obtain ⟨g1,g2,g3,g4⟩:=UL hEp Ee hU hQm;conv=>whnf
    refine ⟨⟨U,nl A+1,nl A+1,E,nl D+1,i⟩,[2,3],rfl,⟨by show nl A+1≤_; omega,by show 2≤nl E; omega,by show 2147483648≤an E (nl E - 1); rw [show nl E - 1=n by omega]; exact f4,by show i+nl E < nl A+1; omega,hU⟩,by decide,?_⟩
    conv=>whnf
    refine ⟨aD.aP (fun h=>h) (fun r hr=>rfl),?_⟩
    conv=>whnf
    refine ⟨⟨(fun h=>by cases h),rfl,by show nl E≤nl D+1; omega,fun _ _=>rfl,fun r hr v hv=>dE (l:=bu E r) rfl v hv⟩,?_⟩
    conv=>whnf
    refine ⟨_,rfl,?_⟩;conv=>whnf
    refine ⟨⟨by omega,by omega⟩,?_⟩
    simp only [toNat_cast,aA,Nat.zero_add];conv=>whnf
    refine ⟨by show i < k; omega,?_⟩
    conv=>whnf
    rw [fL g1];refine .inl ⟨_,?_,i,U % (E*B ^ i),cG Q i (U / (E*B ^ i)),(.sk 8 (.aa (.aa (.aa (.aa (.aa (.sk 60 .nil rfl)))))) rfl),rfl,rfl,?_⟩
    ·omega
    ·exact ⟨by omega,g2,g3,g4⟩
   ·have h3:i=0:=by
     rcases Nat.eq_zero_or_pos i with h | h
     ·exact h
     ·have e:IntKind.i64.wrap ((i:Int) - 1)=((i - 1:Nat):Int):=by rw [ax (by omega) (by omega)]; omega
      rw [e] at h3;exact absurd h3 (by simp)
    subst h3;rw [Nat.pow_zero,Nat.mul_one] at hU;rw [hE] at Ee hU;obtain ⟨g1,g2,g3⟩:=VY pL Ee hU;have hUn:nl U≤nl E:=lB (by rw [hE]; exact Nat.le_of_lt hU)
    have Rr:U < B ^ (nl A+1):=Nat.lt_of_lt_of_le (b8 U) (Nat.pow_le_pow_right (by decide) (by omega))
    have Rs:Q < B ^ k:=by
     rw [g1];refine (Nat.div_lt_iff_lt_mul pL).2 ?_;refine Nat.lt_of_lt_of_le (b8 A) ?_;have h5:B ^ n≤D:=by rw [show n=nl D - 1 from hn]; exact Sc hp.2
     rw [show nl A=k+n by omega,Nat.pow_add]
     exact Nat.mul_le_mul_left _ h5
    have hQn:=jQ Rs;have hRn:nl (A % D)≤nl U:=by rw [← g3]; exact lB (Nat.div_le_self _ _)
    conv=>whnf
    refine ⟨some (k,Q,k),[4],rfl,⟨Rs,by omega⟩,?_⟩
    conv=>whnf
    refine ⟨⟨(fun h=>by cases h),rfl,Nat.le_refl _,fun _ _=>rfl,fun r hr v hv=>dE (l:=bu Q r) rfl v hv⟩,?_⟩
    conv=>whnf
    refine ⟨_,rfl,?_⟩;conv=>whnf
    refine ⟨some (nl A+1,U,nl A+1),[2],rfl,⟨Rr,by omega⟩,?_⟩
    conv=>whnf
    refine ⟨⟨(fun h=>by cases h),rfl,Nat.le_refl _,fun _ _=>rfl,fun r hr v hv=>dE (l:=bu U r) rfl v hv⟩,?_⟩
    conv=>whnf
    refine ⟨_,rfl,?_⟩;conv=>whnf
    refine ⟨(U,nl A+1,s),[2],rfl,⟨by show nl U≤_; omega,f1⟩,?_⟩
    conv=>whnf
    refine ⟨⟨(fun h=>by cases h),rfl,by show nl U≤nl A+1; omega,fun _ _=>rfl,fun r hr v hv=>dE (l:=bu U r) rfl v hv⟩,?_⟩
    conv=>whnf
    refine ⟨_,rfl,?_⟩;conv=>whnf
    show zU gQ (A,ca,D,cd) (.tuple ⟨[.slice (some ⟨4,0,none⟩) (nl Q) k,.slice (some ⟨5,0,none⟩) (nl (U / 2 ^ s)) aO]⟩) _
    rw [g3];clear g2 Ee Rr;subst g1;refine Mm (q:=4) (r:=5) h0 (by decide) (by decide) (by decide) rfl rfl rfl rfl ⟨(fun h=>by cases h),rfl,hQn,fun _ _=>rfl,fun r hr v hv=>dE (l:=bu (A / D) r) rfl v hv⟩ ⟨(fun h=>by cases h),rfl,hRn,fun r _=>by rw [← g3]; rfl,fun r hr v hv=>dE (l:=bu (A % D) r) rfl v hv⟩
set_option maxHeartbeats 1000000
open Go Go.Ae
theorem ML:bk Tryz.prog 141 wW:=by
 refine bn DC aQ Tryz.func141 (enters_of Tryz.func141 (by kernel_rfl) rfl) (fun _=>rfl) (fun _=>rfl) ?_
 intro ⟨b,s⟩ hp;have hp:s.size≤549755813888:=hp;conv=>whnf
 refine aN (fun h1=>?_) (fun h1=>?_)
 ·have h1:¬ s.size≤7:=by
   have h1:=of_decide_eq_true h1;have h1:((s.size:Nat):Int) > 7:=h1;omega
  conv=>whnf
  simp only [wW,h1,if_false,decide_false]
 ·have h1:s.size≤7:=by
   have h1:=of_decide_eq_false h1;have h1:¬ ((s.size:Nat):Int) > 7:=h1;omega
  have fg:=h1;conv=>whnf
  refine .inl ⟨fun mm tz hz=>∃ (i:Nat) (N:Nat),bC (aF 1 (some (.pointer (some ⟨0,0,none⟩))::some (.int .i64 0)::some (.bool false)::some (.int .i64 N)::aF 7 (some (.int .i64 s.size)::some (.int .i64 i)::aF 16 []))) tz∧hz=[some (.aS true 2 [[.bool b,.string s]])]∧s.size - i=mm∧(i≤s.size∧N=ab s / C ^ (s.size - i)),.inl ⟨_,0,0,(.sk 1 (.aa (.aa (.aa (.aa (.sk 7 (.aa (.aa (.sk 16 .nil rfl))) rfl))))) rfl),rfl,rfl,?_⟩,?_⟩
  ·exact ⟨Nat.zero_le _,by rw [Nat.sub_zero,Nat.div_eq_of_lt (gE s)]⟩
  rintro mm aW _ ⟨i,N,aB,rfl,rfl,⟨hi,hN⟩⟩
  obtain ⟨az,rfl⟩:∃ az:Nat→Value,aW=zs az 0 1 (.pointer (some ⟨0,0,none⟩)::.int .i64 0::.bool false::.int .i64 N::zs az 5 7 (.int .i64 s.size::.int .i64 i::zs az 14 16 [])):=bL aB;clear aB;have al:=CL s hi;rw [← hN] at al;have mV:=al;have al:=Nat.lt_of_lt_of_le al (n9 (show i≤7 by omega))
  conv=>whnf
  refine aN (fun J=>?_) (fun J=>?_)
  ·have J:i < s.size:=by simpa using J
   have aw:=yH J;rw [← hN] at aw;have hb:b9 s i < 256:=wB s i;have eN:((N:Nat):Int)*256+((b9 s i:Nat):Int)=((N*256+b9 s i:Nat):Int):=by omega
   conv=>whnf
   refine ⟨⟨by omega,by omega⟩,?_⟩
   try simp (disch:=omega) only [ax,bN,dh,dF,ck,dV,dy,dX,c9,dm,dx,dD,dz,dL,toNat_cast,aA,Nat.zero_add,dU,toNat_0,toNat_1,Nat.sub_zero,dZ,ef,eE,eF,dM,dY,dW,eg]
   conv=>whnf
   have e3:IntKind.i64.wrap (((i:Nat):Int)+1)=((i+1:Nat):Int):=by rw [ax (by omega) (by omega)]; rfl
   have JK:=Nat.lt_of_lt_of_le mV (Dr (show i≤6 by omega))
   rw [NT (by omega) hb,e3]
   refine .inl ⟨_,?_,i+1,N*256+b9 s i,(.sk 1 (.aa (.aa (.aa (.aa (.sk 7 (.aa (.aa (.sk 16 .nil rfl))) rfl))))) rfl),rfl,rfl,?_⟩
   ·omega
   ·exact ⟨by omega,aw.symm⟩
  ·have J:i=s.size:=by
    have J:¬ i < s.size:=by simpa using J
    omega
   subst J;rw [Nat.sub_self,Nat.pow_zero,Nat.div_one] at hN;subst hN;cases b with
   | true =>
    conv=>whnf
    try simp (disch:=omega) only [ax,bN,dh,dF,ck,dV,dy,dX,c9,dm,dx,dD,dz,dL,toNat_cast,aA,Nat.zero_add,dU,toNat_0,toNat_1,Nat.sub_zero,dZ,ef,eE,eF,dM,dY,dW,eg]
    have e:IV.z (true,s)=-(ab s:Int):=rfl;simp only [wW,e,fg,if_true,decide_true,Int.zero_sub]
   | false =>
    conv=>whnf
    have e:IV.z (false,s)=(ab s:Int):=rfl;simp only [wW,e,fg,if_true,decide_true]
def Ei:Env:=En [(131,.q uY),(135,.q uX),(139,.q CH),(136,.q wL),(141,.p wW)]
theorem IH:EnvOk Tryz.prog Ei:=bK ⟨GU,Cq,WO,Fj,ML,trivial⟩ trivial
theorem sH:bk Tryz.prog 83 eZ:=by
 refine bn IH aQ Tryz.func83 (enters_of Tryz.func83 (by kernel_rfl) rfl) (fun _=>rfl) (fun _=>rfl) ?_
 intro (n:Int) hp;have hp:-9223372036854775808≤n∧n < 9223372036854775808:=hp;conv=>whnf
 obtain ⟨N,hN⟩:∃ N:Nat,N=n.natAbs:=⟨_,rfl⟩;have AL:N < 18446744073709551616:=by omega
 have hl:=M5 AL;refine aN (fun h1=>?_) (fun h1=>?_)
 ·have h1:n < 0:=of_decide_eq_true h1;have e1:IntKind.u64.wrap (0 - IntKind.u64.wrap n)=(N:Int):=by
   rw [BO,BO]; omega
  conv=>whnf
  simp only [e1];refine ⟨(decide (n < 0),some (2,N,2)),[1],rfl,⟨OJ AL,by decide⟩,?_⟩
  conv=>whnf
  refine ⟨M6 AL,?_⟩;conv=>whnf
  refine ⟨_,rfl,?_⟩;conv=>whnf
  show lR (decide (n < 0)) N=aH n
  rw [jr]
  congr 1
  simp only [a9,h1,decide_true,decide_false,if_true,Bool.false_eq_true,if_false];omega
 ·have h1:¬ n < 0:=of_decide_eq_false h1;have e1:IntKind.u64.wrap n=(N:Int):=by
   rw [BO]; omega
  conv=>whnf
  simp only [e1];refine ⟨(decide (n < 0),some (2,N,2)),[1],rfl,⟨OJ AL,by decide⟩,?_⟩
  conv=>whnf
  refine ⟨M6 AL,?_⟩;conv=>whnf
  refine ⟨_,rfl,?_⟩;conv=>whnf
  show lR (decide (n < 0)) N=aH n
  rw [jr]
  congr 1
  simp only [a9,h1,decide_true,decide_false,if_true,Bool.false_eq_true,if_false];omega
theorem O4:bk Tryz.prog 92 fm:=by
 refine bn IH aQ Tryz.func92 (enters_of Tryz.func92 (by kernel_rfl) rfl) (fun _=>rfl) (fun _=>rfl) ?_
 intro ⟨⟨b,s⟩,⟨c,t⟩⟩ hp;have hp:s.size≤549755813888∧t.size≤549755813888:=hp;conv=>whnf
 refine .inl ⟨12,[[],[0],[],[2],[0,1,2,3],[],[5],[5,6],[],[8],[5,6,7,8,9],[5,6,7,8,9,10],[0,1,2,3,4,5,6,7,8,9,10,11],[0,1,2,3,4,5,6,7,8,9,10,11,12]],by kernel_rfl,?_⟩
 conv=>whnf
 refine ⟨s,[],rfl,by show s.size≤1099511627776; omega,?_⟩
 conv=>whnf
 refine ⟨_,rfl,?_⟩;conv=>whnf
 refine ⟨t,[],rfl,by show t.size≤1099511627776; omega,?_⟩
 conv=>whnf
 refine ⟨_,rfl,?_⟩;conv=>whnf
 refine ⟨(ab s,aO,ab t,aO),[10,13],rfl,⟨IV.nl (i:=(b,s)) hp.1,IV.nl (i:=(c,t)) hp.2⟩,?_⟩;conv=>whnf
 refine ⟨aD.aP (fun h=>h) (fun r hr=>rfl),?_⟩
 conv=>whnf
 refine ⟨aD.aP (fun h=>h) (fun r hr=>rfl),?_⟩
 conv=>whnf
 refine ⟨_,rfl,?_⟩;conv=>whnf
 have iw:=IV.nl (i:=(b,s)) hp.1;have iK:=IV.nl (i:=(c,t)) hp.2;have iw:nl (ab s)≤137438953472:=iw;have iK:nl (ab t)≤137438953472:=iK;have hmul:=UN (ab s) (ab t);refine ⟨(b != c,some (nl (ab s*ab t),ab s*ab t,aO)),[14],rfl,⟨b8 _,by omega⟩,?_⟩
 conv=>whnf
 refine ⟨aD.aP (fun h=>h) (fun r hr=>rfl),?_⟩
 conv=>whnf
 refine ⟨_,rfl,?_⟩;conv=>whnf
 show lR (b != c) (ab s*ab t)=_
 rw [jr,VZ]
 rfl
open Go Go.Ae
theorem abT:bk Tryz.prog 130 ib:=by
 refine bn IH aQ Tryz.func130 (enters_of Tryz.func130 (by kernel_rfl) rfl) (fun _=>rfl) (fun _=>rfl) ?_
 intro ⟨b,s⟩ hp;have hp:s.size≤549755813888:=hp;have iw:nl (ab s)≤137438953472:=IV.nl (i:=(b,s)) hp;conv=>whnf
 refine .inl ⟨6,[[],[0],[0,1],[],[3],[3,4],[0,1,2,3,4,5],[0,1,2,3,4,5,6]],by kernel_rfl,?_⟩
 conv=>whnf
 refine ⟨s,[],rfl,by show s.size≤1099511627776; omega,?_⟩
 conv=>whnf
 refine ⟨_,rfl,?_⟩;conv=>whnf
 refine ⟨(!b,some (nl (ab s),ab s,aO)),[7],rfl,⟨b8 _,by omega⟩,?_⟩
 conv=>whnf
 refine ⟨aD.aP (fun h=>h) (fun r hr=>rfl),?_⟩
 conv=>whnf
 refine ⟨_,rfl,?_⟩;conv=>whnf
 show lR (!b) (ab s)=_
 rw [jr,F5]
 rfl
def Ej:Env:=En [(131,.q uY),(135,.q uX),(142,.q C2),(143,.q CG),(136,.q wL),(141,.p wW),(83,.p eZ)]
theorem Qr:EnvOk Tryz.prog Ej:=bK ⟨GU,Cq,Zs,WN,Fj,ML,sH,trivial⟩ trivial
theorem Hn:bk Tryz.prog 97 jk:=by
 refine bn Qr aQ Tryz.func97 (enters_of Tryz.func97 (by kernel_rfl) rfl) (fun _=>rfl) (fun _=>rfl) ?_
 intro ⟨⟨b,s⟩,⟨c,t⟩⟩ hp;have hp:s.size≤549755813888∧t.size≤549755813888:=hp;have iw:nl (ab s)≤137438953472:=IV.nl (i:=(b,s)) hp.1;have iK:nl (ab t)≤137438953472:=IV.nl (i:=(c,t)) hp.2;conv=>whnf
 refine ⟨(b,s),rfl,hp.1,?_⟩;conv=>whnf
 refine aN (fun h1=>?_) (fun h1=>?_)
 ·have h1:s.size≤7:=of_decide_eq_true h1;conv=>whnf
  refine ⟨(c,t),rfl,hp.2,?_⟩;conv=>whnf
  refine aN (fun J=>?_) (fun J=>?_)
  ·have J:t.size≤7:=of_decide_eq_true J;conv=>whnf
   have z1:=GG (i:=(b,s)) h1;have z2:=GG (i:=(c,t)) J;have ew:IntKind.i64.wrap ((if (b,s).snd.size≤7 then IV.z (b,s) else 0)+if (c,t).snd.size≤7 then IV.z (c,t) else 0)=IV.z (b,s)+IV.z (c,t):=by
    rw [if_pos h1,if_pos J];exact ax (by omega) (by omega)
   rw [ew];refine ⟨IV.z (b,s)+IV.z (c,t),rfl,⟨by omega,by omega⟩,?_⟩
   conv=>whnf
   rfl
  ·conv=>whnf
   refine .inl ⟨5,[[],[0],[0,1],[],[3],[0,1,2,3,4],[0,1,2,3,4,5],[0,1,2,3,4,5,6]],by kernel_rfl,?_⟩
   conv=>whnf
   refine ⟨s,[],rfl,by show s.size≤1099511627776; omega,?_⟩
   conv=>whnf
   refine ⟨_,rfl,?_⟩;conv=>whnf
   refine ⟨t,[],rfl,by show t.size≤1099511627776; omega,?_⟩
   conv=>whnf
   refine ⟨_,rfl,?_⟩;conv=>whnf
   refine aN (fun h5=>?_) (fun h5=>?_)
   ·have h5:b=c:=eq_of_beq h5;conv=>whnf
    refine .inl ⟨5,[[],[0],[],[],[2,3],[0,1,2,3,4],[0,1,2,3,4,5]],by kernel_rfl,?_⟩
    conv=>whnf
    refine ⟨(ab s,aO,ab t,aO),[5,8],rfl,⟨iw,iK⟩,?_⟩;conv=>whnf
    refine ⟨aD.aP (fun h=>h) (fun r hr=>rfl),?_⟩
    conv=>whnf
    refine ⟨aD.aP (fun h=>h) (fun r hr=>rfl),?_⟩
    conv=>whnf
    refine ⟨_,rfl,?_⟩;conv=>whnf
    have hal:=Mp (ab s) (ab t);refine ⟨(b,some (nl (ab s+ab t),ab s+ab t,aO)),[13],rfl,⟨b8 _,by omega⟩,?_⟩
    conv=>whnf
    refine ⟨aD.aP (fun h=>h) (fun r hr=>rfl),?_⟩
    conv=>whnf
    refine ⟨_,rfl,?_⟩;conv=>whnf
    show lR b (ab s+ab t)=aH (IV.z (b,s)+IV.z (c,t))
    rw [jr,Mo,h5]
    rfl
   ·have h5:b≠c:=by
     intro e;subst e;cases b <;> cases h5
    conv=>whnf
    refine ⟨(ab s,aO,ab t,aO),[5,8],rfl,⟨iw,iK⟩,?_⟩;conv=>whnf
    refine ⟨aD.aP (fun h=>h) (fun r hr=>rfl),?_⟩
    conv=>whnf
    refine ⟨aD.aP (fun h=>h) (fun r hr=>rfl),?_⟩
    conv=>whnf
    refine ⟨_,rfl,?_⟩;conv=>whnf
    refine aN (fun h6=>?_) (fun h6=>?_)
    ·have h6:ab s≤ab t:=by
      have h6:cM (ab s) (ab t) < 0:=of_decide_eq_true h6;unfold cM at h6
      split at h6
      ·omega
      ·split at h6 <;> omega
     have ll:=lB (Nat.sub_le (ab t) (ab s));conv=>whnf
     refine .inl ⟨5,[[],[0],[],[],[2,3],[0,1,2,3,4],[0,1,2,3,4,5]],by kernel_rfl,?_⟩
     conv=>whnf
     refine ⟨(ab t,aO,ab s,aO),[8,5],rfl,⟨⟨iK,iw⟩,h6⟩,?_⟩;conv=>whnf
     refine ⟨aD.aP (fun h=>h) (fun r hr=>rfl),?_⟩
     conv=>whnf
     refine ⟨aD.aP (fun h=>h) (fun r hr=>rfl),?_⟩
     conv=>whnf
     refine ⟨_,rfl,?_⟩;conv=>whnf
     refine ⟨(c,some (nl (ab t - ab s),ab t - ab s,aO)),[13],rfl,⟨b8 _,by omega⟩,?_⟩
     conv=>whnf
     refine ⟨aD.aP (fun h=>h) (fun r hr=>rfl),?_⟩
     conv=>whnf
     refine ⟨_,rfl,?_⟩;conv=>whnf
     show lR c (ab t - ab s)=aH (IV.z (b,s)+IV.z (c,t))
     rw [jr,BA (Ne.symm h5) h6,Int.add_comm]
     rfl
    ·have h6:ab t≤ab s:=by
      have h6:¬ cM (ab s) (ab t) < 0:=of_decide_eq_false h6;unfold cM at h6
      split at h6
      ·omega
      ·split at h6 <;> omega
     have ll:=lB (Nat.sub_le (ab s) (ab t));conv=>whnf
     refine .inl ⟨5,[[],[0],[],[],[2,3],[0,1,2,3,4],[0,1,2,3,4,5]],by kernel_rfl,?_⟩
     conv=>whnf
     refine ⟨(ab s,aO,ab t,aO),[5,8],rfl,⟨⟨iw,iK⟩,h6⟩,?_⟩;conv=>whnf
     refine ⟨aD.aP (fun h=>h) (fun r hr=>rfl),?_⟩
     conv=>whnf
     refine ⟨aD.aP (fun h=>h) (fun r hr=>rfl),?_⟩
     conv=>whnf
     refine ⟨_,rfl,?_⟩;conv=>whnf
     refine ⟨(b,some (nl (ab s - ab t),ab s - ab t,aO)),[13],rfl,⟨b8 _,by omega⟩,?_⟩
     conv=>whnf
     refine ⟨aD.aP (fun h=>h) (fun r hr=>rfl),?_⟩
     conv=>whnf
     refine ⟨_,rfl,?_⟩;conv=>whnf
     show lR b (ab s - ab t)=aH (IV.z (b,s)+IV.z (c,t))
     rw [jr,BA h5 h6]
     rfl
 ·conv=>whnf
  refine .inl ⟨5,[[],[0],[0,1],[],[3],[0,1,2,3,4],[0,1,2,3,4,5],[0,1,2,3,4,5,6]],by kernel_rfl,?_⟩
  conv=>whnf
  refine ⟨s,[],rfl,by show s.size≤1099511627776; omega,?_⟩
  conv=>whnf
  refine ⟨_,rfl,?_⟩;conv=>whnf
  refine ⟨t,[],rfl,by show t.size≤1099511627776; omega,?_⟩
  conv=>whnf
  refine ⟨_,rfl,?_⟩;conv=>whnf
  refine aN (fun h5=>?_) (fun h5=>?_)
  ·have h5:b=c:=eq_of_beq h5;conv=>whnf
   refine .inl ⟨5,[[],[0],[],[],[2,3],[0,1,2,3,4],[0,1,2,3,4,5]],by kernel_rfl,?_⟩
   conv=>whnf
   refine ⟨(ab s,aO,ab t,aO),[5,8],rfl,⟨iw,iK⟩,?_⟩;conv=>whnf
   refine ⟨aD.aP (fun h=>h) (fun r hr=>rfl),?_⟩
   conv=>whnf
   refine ⟨aD.aP (fun h=>h) (fun r hr=>rfl),?_⟩
   conv=>whnf
   refine ⟨_,rfl,?_⟩;conv=>whnf
   have hal:=Mp (ab s) (ab t);refine ⟨(b,some (nl (ab s+ab t),ab s+ab t,aO)),[13],rfl,⟨b8 _,by omega⟩,?_⟩
   conv=>whnf
   refine ⟨aD.aP (fun h=>h) (fun r hr=>rfl),?_⟩
   conv=>whnf
   refine ⟨_,rfl,?_⟩;conv=>whnf
   show lR b (ab s+ab t)=aH (IV.z (b,s)+IV.z (c,t))
   rw [jr,Mo,h5]
   rfl
  ·have h5:b≠c:=by
    intro e;subst e;cases b <;> cases h5
   conv=>whnf
   refine ⟨(ab s,aO,ab t,aO),[5,8],rfl,⟨iw,iK⟩,?_⟩;conv=>whnf
   refine ⟨aD.aP (fun h=>h) (fun r hr=>rfl),?_⟩
   conv=>whnf
   refine ⟨aD.aP (fun h=>h) (fun r hr=>rfl),?_⟩
   conv=>whnf
   refine ⟨_,rfl,?_⟩;conv=>whnf
   refine aN (fun h6=>?_) (fun h6=>?_)
   ·have h6:ab s≤ab t:=by
     have h6:cM (ab s) (ab t) < 0:=of_decide_eq_true h6;unfold cM at h6
     split at h6
     ·omega
     ·split at h6 <;> omega
    have ll:=lB (Nat.sub_le (ab t) (ab s));conv=>whnf
    refine .inl ⟨5,[[],[0],[],[],[2,3],[0,1,2,3,4],[0,1,2,3,4,5]],by kernel_rfl,?_⟩
    conv=>whnf
    refine ⟨(ab t,aO,ab s,aO),[8,5],rfl,⟨⟨iK,iw⟩,h6⟩,?_⟩;conv=>whnf
    refine ⟨aD.aP (fun h=>h) (fun r hr=>rfl),?_⟩
    conv=>whnf
    refine ⟨aD.aP (fun h=>h) (fun r hr=>rfl),?_⟩
    conv=>whnf
    refine ⟨_,rfl,?_⟩;conv=>whnf
    refine ⟨(c,some (nl (ab t - ab s),ab t - ab s,aO)),[13],rfl,⟨b8 _,by omega⟩,?_⟩
    conv=>whnf
    refine ⟨aD.aP (fun h=>h) (fun r hr=>rfl),?_⟩
    conv=>whnf
    refine ⟨_,rfl,?_⟩;conv=>whnf
    show lR c (ab t - ab s)=aH (IV.z (b,s)+IV.z (c,t))
    rw [jr,BA (Ne.symm h5) h6,Int.add_comm]
    rfl
   ·have h6:ab t≤ab s:=by
     have h6:¬ cM (ab s) (ab t) < 0:=of_decide_eq_false h6;unfold cM at h6
     split at h6
     ·omega
     ·split at h6 <;> omega
    have ll:=lB (Nat.sub_le (ab s) (ab t));conv=>whnf
    refine .inl ⟨5,[[],[0],[],[],[2,3],[0,1,2,3,4],[0,1,2,3,4,5]],by kernel_rfl,?_⟩
    conv=>whnf
    refine ⟨(ab s,aO,ab t,aO),[5,8],rfl,⟨⟨iw,iK⟩,h6⟩,?_⟩;conv=>whnf
    refine ⟨aD.aP (fun h=>h) (fun r hr=>rfl),?_⟩
    conv=>whnf
    refine ⟨aD.aP (fun h=>h) (fun r hr=>rfl),?_⟩
    conv=>whnf
    refine ⟨_,rfl,?_⟩;conv=>whnf
    refine ⟨(b,some (nl (ab s - ab t),ab s - ab t,aO)),[13],rfl,⟨b8 _,by omega⟩,?_⟩
    conv=>whnf
    refine ⟨aD.aP (fun h=>h) (fun r hr=>rfl),?_⟩
    conv=>whnf
    refine ⟨_,rfl,?_⟩;conv=>whnf
    show lR b (ab s - ab t)=aH (IV.z (b,s)+IV.z (c,t))
    rw [jr,BA h5 h6]
    rfl
def Ek:Env:=En [(97,.p jk)]
theorem aeD:EnvOk Tryz.prog Ek:=bK ⟨Hn,trivial⟩ trivial
theorem abU:bk Tryz.prog 164 mL:=by
 refine bn aeD aQ Tryz.func164 (enters_of Tryz.func164 (by kernel_rfl) rfl) (fun _=>rfl) (fun _=>rfl) ?_
 intro ⟨⟨b,s⟩,⟨c,t⟩⟩ hp;have hp:s.size≤549755813888∧t.size≤549755813888:=hp;conv=>whnf
 refine ⟨((b,s),(!c,t)),rfl,hp,?_⟩;conv=>whnf
 show aH (IV.z (b,s)+a9 (!c) (ab t))=aH (IV.z (b,s) - IV.z (c,t))
 rw [F5]
 rfl
theorem Ho:bk Tryz.prog 87 lS:=by
 refine bn Qr aQ Tryz.func87 (enters_of Tryz.func87 (by kernel_rfl) rfl) (fun _=>rfl) (fun _=>rfl) ?_
 intro ⟨⟨b,s⟩,⟨c,t⟩⟩ hp;have hp:s.size≤549755813888∧t.size≤549755813888:=hp;have iw:nl (ab s)≤137438953472:=IV.nl (i:=(b,s)) hp.1;have iK:nl (ab t)≤137438953472:=IV.nl (i:=(c,t)) hp.2;conv=>whnf
 refine .inl ⟨5,[[],[0],[0,1],[],[3],[0,1,2,3,4],[0,1,2,3,4,5],[0,1,2,3,4,5,6]],by kernel_rfl,?_⟩
 conv=>whnf
 refine ⟨s,[],rfl,by show s.size≤1099511627776; omega,?_⟩
 conv=>whnf
 refine ⟨_,rfl,?_⟩;conv=>whnf
 refine ⟨t,[],rfl,by show t.size≤1099511627776; omega,?_⟩
 conv=>whnf
 refine ⟨_,rfl,?_⟩;conv=>whnf
 have fin:∀ (z:Int),z=dO (IV.z (b,s)) (IV.z (c,t))→Value.int .i64 z=lS.val ((b,s),(c,t)):=fun z h=>by rw [h]; rfl
 cases b with
 | false =>
  conv=>whnf
  cases c with
  | false =>
   conv=>whnf
   refine ⟨(ab s,aO,ab t,aO),[4,7],rfl,⟨iw,iK⟩,?_⟩;conv=>whnf
   refine ⟨aD.aP (fun h=>h) (fun r hr=>rfl),?_⟩
   conv=>whnf
   refine ⟨aD.aP (fun h=>h) (fun r hr=>rfl),?_⟩
   conv=>whnf
   refine ⟨_,rfl,?_⟩;conv=>whnf
   exact fin _ (BS _ _).symm
  | true =>
   conv=>whnf
   rcases Nat.eq_zero_or_pos (ab t) with h1 | h1
   ·rw [wN h1];conv=>whnf
    refine ⟨(ab s,aO,ab t,aO),[4,7],rfl,⟨iw,iK⟩,?_⟩;conv=>whnf
    refine ⟨aD.aP (fun h=>h) (fun r hr=>rfl),?_⟩
    conv=>whnf
    refine ⟨aD.aP (fun h=>h) (fun r hr=>rfl),?_⟩
    conv=>whnf
    refine ⟨_,rfl,?_⟩;conv=>whnf
    refine fin _ ?_;show cM (ab s) (ab t)=dO ((ab s:Nat):Int) (-((ab t:Nat):Int))
    rw [h1];exact (BS _ 0).symm
   ·rw [wU h1];conv=>whnf
    exact fin _ (uy (show -((ab t:Nat):Int) < ((ab s:Nat):Int) by omega)).symm
 | true =>
  conv=>whnf
  rcases Nat.eq_zero_or_pos (ab s) with J | J
  ·try rw [wN J]
   cases c with
   | false =>
    conv=>whnf
    try rw [wN J]
    conv=>whnf
    refine ⟨(ab s,aO,ab t,aO),[4,7],rfl,⟨iw,iK⟩,?_⟩;conv=>whnf
    refine ⟨aD.aP (fun h=>h) (fun r hr=>rfl),?_⟩
    conv=>whnf
    refine ⟨aD.aP (fun h=>h) (fun r hr=>rfl),?_⟩
    conv=>whnf
    refine ⟨_,rfl,?_⟩;conv=>whnf
    refine fin _ ?_;show cM (ab s) (ab t)=dO (-((ab s:Nat):Int)) ((ab t:Nat):Int)
    rw [J];exact (BS 0 _).symm
   | true =>
    conv=>whnf
    try rw [wN J]
    conv=>whnf
    rcases Nat.eq_zero_or_pos (ab t) with h1 | h1
    ·rw [wN h1];conv=>whnf
     refine ⟨(ab s,aO,ab t,aO),[4,7],rfl,⟨iw,iK⟩,?_⟩;conv=>whnf
     refine ⟨aD.aP (fun h=>h) (fun r hr=>rfl),?_⟩
     conv=>whnf
     refine ⟨aD.aP (fun h=>h) (fun r hr=>rfl),?_⟩
     conv=>whnf
     refine ⟨_,rfl,?_⟩;conv=>whnf
     refine fin _ ?_;show cM (ab s) (ab t)=dO (-((ab s:Nat):Int)) (-((ab t:Nat):Int))
     rw [h1,J]
     rfl
    ·rw [wU h1];conv=>whnf
     exact fin _ (uy (show -((ab t:Nat):Int) < -((ab s:Nat):Int) by omega)).symm
  ·try rw [wU J]
   cases c with
   | false =>
    conv=>whnf
    try rw [wU J]
    conv=>whnf
    exact fin _ (ux (show -((ab s:Nat):Int) < ((ab t:Nat):Int) by omega)).symm
   | true =>
    conv=>whnf
    try rw [wU J]
    conv=>whnf
    rcases Nat.eq_zero_or_pos (ab t) with h1 | h1
    ·rw [wN h1];conv=>whnf
     exact fin _ (ux (show -((ab s:Nat):Int) < -((ab t:Nat):Int) by omega)).symm
    ·rw [wU h1];conv=>whnf
     refine ⟨(ab t,aO,ab s,aO),[7,4],rfl,⟨iK,iw⟩,?_⟩;conv=>whnf
     refine ⟨aD.aP (fun h=>h) (fun r hr=>rfl),?_⟩
     conv=>whnf
     refine ⟨aD.aP (fun h=>h) (fun r hr=>rfl),?_⟩
     conv=>whnf
     refine ⟨_,rfl,?_⟩;conv=>whnf
     exact fin _ (M4 _ _).symm
open Go Go.Ae
def El:Env:=En [(131,.q uY),(135,.q uX),(83,.p eZ),(97,.p jk),(164,.p mL)] [(163,Aw gQ)]
theorem Qs:EnvOk Tryz.prog El:=bK ⟨GU,Cq,sH,Hn,abU,trivial⟩ ⟨Vh,trivial⟩
theorem abV:bk Tryz.prog 133 vm:=by
 refine bn Qs aQ Tryz.func133 (enters_of Tryz.func133 (by kernel_rfl) rfl) (fun _=>rfl) (fun _=>rfl) ?_
 intro ⟨⟨b,s⟩,⟨c,t⟩⟩ hp;have hp:s.size≤549755813888∧t.size≤549755813888:=hp;have iw:nl (ab s)≤137438953472:=IV.nl (i:=(b,s)) hp.1;have iK:nl (ab t)≤137438953472:=IV.nl (i:=(c,t)) hp.2;conv=>whnf
 refine .inl ⟨5,[[],[0],[0,1],[],[3],[0,1,2,3,4],[0,1,2,3,4,5],[0,1,2,3,4,5,6]],by kernel_rfl,?_⟩
 conv=>whnf
 refine ⟨s,[],rfl,by show s.size≤1099511627776; omega,?_⟩
 conv=>whnf
 refine ⟨_,rfl,?_⟩;conv=>whnf
 refine ⟨t,[],rfl,by show t.size≤1099511627776; omega,?_⟩
 conv=>whnf
 refine ⟨_,rfl,?_⟩;conv=>whnf
 refine .inl ⟨fun mm tz hz=>∃ (A:Nat) (D:Nat) (ca:Nat) (cd:Nat),bC (aF 4 (some (.pointer (some ⟨0,0,none⟩))::some (.slice (some ⟨1,0,none⟩) (nl A) ca)::some (.slice (some ⟨2,0,none⟩) (nl D) cd)::aF 21 [])) tz∧hz=[some (.aS true 2 [[.bool false,.string ⟨#[]⟩]]),some (dN A),some (dN D)]∧D=mm∧((nl A≤137438953472∧nl D≤137438953472)∧Nat.gcd A D=Nat.gcd (ab s) (ab t)),.inr ⟨[2,5,8],[4,5,6],?_⟩,?_⟩
 ·conv=>whnf
  intro _;conv=>whnf
  refine ⟨_,ab s,ab t,aO,aO,(.sk 4 (.aa (.aa (.aa (.sk 21 .nil rfl)))) rfl),rfl,rfl,?_⟩;exact ⟨⟨iw,iK⟩,rfl⟩
 rintro mm aW _ ⟨A,D,ca,cd,aB,rfl,rfl,⟨cL,hg⟩⟩
 obtain ⟨az,rfl⟩:∃ az:Nat→Value,aW=zs az 0 4 (.pointer (some ⟨0,0,none⟩)::.slice (some ⟨1,0,none⟩) (nl A) ca::.slice (some ⟨2,0,none⟩) (nl D) cd::zs az 7 21 []):=bL aB;clear aB;conv=>whnf
 refine aN (fun h1=>?_) (fun h1=>?_)
 ·have h1:=Xm (of_decide_eq_true h1);conv=>whnf
  refine ⟨(A,ca,D,cd),[1,2],rfl,⟨cL,by show D≠0; omega⟩,by decide,?_⟩
  rcases Nat.lt_or_ge A D with J | J
  ·have ev:gQ.val (A,ca,D,cd)=.tuple ⟨[.slice none 0 0,one A ca]⟩:=if_pos J;have en:gQ.new (A,ca,D,cd)=[]:=if_pos J;rw [ev,en];conv=>whnf
   refine ⟨aD.aP (fun h=>h) (fun r hr=>rfl),?_⟩
   conv=>whnf
   refine ⟨aD.aP (fun h=>h) (fun r hr=>rfl),?_⟩
   conv=>whnf
   refine ⟨_,rfl,?_⟩;conv=>whnf
   refine .inr ⟨[0,2,1],[4,5,6],?_⟩;conv=>whnf
   intro _;conv=>whnf
   refine ⟨_,?_,D,A,cd,ca,(.sk 4 (.aa (.aa (.aa (.sk 21 .nil rfl)))) rfl),rfl,rfl,?_⟩
   ·omega
   ·exact ⟨⟨cL.2,cL.1⟩,by rw [Nat.gcd_comm]; exact hg⟩
  ·have ev:gQ.val (A,ca,D,cd)=.tuple ⟨[kZ 2 (A / D),kZ 3 (A % D)]⟩:=if_neg (Nat.not_lt.2 J);have en:gQ.new (A,ca,D,cd)=[dN (A / D),dN (A % D)]:=if_neg (Nat.not_lt.2 J);rw [ev,en];conv=>whnf
   refine ⟨aD.aP (fun h=>h) (fun r hr=>rfl),?_⟩
   conv=>whnf
   refine ⟨aD.aP (fun h=>h) (fun r hr=>rfl),?_⟩
   conv=>whnf
   refine ⟨_,rfl,?_⟩;conv=>whnf
   have hm:=Nat.mod_lt A h1;have ll:=lB (Nat.le_of_lt hm);refine .inr ⟨[0,2,4],[4,5,6],?_⟩;conv=>whnf
   intro _;conv=>whnf
   refine ⟨_,?_,D,A % D,cd,aO,(.sk 4 (.aa (.aa (.aa (.sk 21 .nil rfl)))) rfl),rfl,rfl,?_⟩
   ·omega
   ·exact ⟨⟨cL.2,by omega⟩,by rw [Nat.gcd_comm,← Nat.gcd_rec,Nat.gcd_comm]; exact hg⟩
 ·have h1:=Tr (of_decide_eq_false h1);subst h1;rw [Nat.gcd_zero_right] at hg;conv=>whnf
  refine ⟨(false,some (nl A,A,ca)),[1],rfl,⟨b8 _,by omega⟩,?_⟩
  conv=>whnf
  refine ⟨aD.aP (fun h=>h) (fun r hr=>rfl),?_⟩
  conv=>whnf
  refine ⟨_,rfl,?_⟩;conv=>whnf
  show lR false A=aH ((Int.gcd (IV.z (b,s)) (IV.z (c,t)):Nat):Int)
  rw [jr,hg];unfold Int.gcd IV.z;rw [uh,uh]
  rfl
theorem abW:bk Tryz.prog 134 iR:=by
 refine bn Qs aQ Tryz.func134 (enters_of Tryz.func134 (by kernel_rfl) rfl) (fun _=>rfl) (fun _=>rfl) ?_
 intro ⟨⟨b,s⟩,⟨c,t⟩⟩ hp;have hp:s.size≤549755813888∧t.size≤549755813888:=hp;have iw:nl (ab s)≤137438953472:=IV.nl (i:=(b,s)) hp.1;have iK:nl (ab t)≤137438953472:=IV.nl (i:=(c,t)) hp.2;conv=>whnf
 refine ⟨t,[],rfl,by show t.size≤1099511627776; omega,?_⟩
 conv=>whnf
 refine ⟨_,rfl,?_⟩;conv=>whnf
 refine aN (fun h1=>?_) (fun h1=>?_)
 ·have h1:ab t=0:=by
   have h1:((nl (ab t):Nat):Int)=0:=by simpa using h1
   exact Ls (by omega)
  have hz:IV.z (c,t)=0:=FD.2 h1;conv=>whnf
  have e:Int.fdiv (IV.z (b,s)) 0=0:=Int.fdiv_zero _;simp only [iR,hz,e,if_true,wC]
  rfl
 ·have h1:ab t≠0:=by
   intro e;rw [e,rY] at h1;cases h1
  conv=>whnf
  refine ⟨s,[],rfl,by show s.size≤1099511627776; omega,?_⟩
  conv=>whnf
  refine ⟨_,rfl,?_⟩;conv=>whnf
  refine ⟨(ab s,aO,ab t,aO),[5,4],rfl,⟨⟨iw,iK⟩,h1⟩,by decide,?_⟩
  have pL:0 < ab t:=Nat.pos_of_ne_zero h1;rcases Nat.lt_or_ge (ab s) (ab t) with J | J
  ·rw [show gQ.val (ab s,aO,ab t,aO)=.tuple ⟨[.slice none 0 0,one (ab s) aO]⟩ from if_pos J,show gQ.new (ab s,aO,ab t,aO)=[] from if_pos J]
   have hQ:0=ab s / ab t:=(Nat.div_eq_of_lt J).symm;have hR:ab s=ab s % ab t:=(Nat.mod_eq_of_lt J).symm;conv=>whnf
   refine ⟨aD.aP (fun h=>h) (fun r hr=>rfl),?_⟩
   conv=>whnf
   refine ⟨aD.aP (fun h=>h) (fun r hr=>rfl),?_⟩
   conv=>whnf
   refine ⟨_,rfl,?_⟩;conv=>whnf
   refine .inl ⟨13,[[],[0],[],[2],[0,1,2,3],[],[0,1,2,3,4,5],[],[7],[],[0,1,2,3,4,5,6,7,8,9],[],[],[0,1,2,3,4,5,6,7,8,9,10,11,12],[0,1,2,3,4,5,6,7,8,9,10,11,12,13]],by kernel_rfl,?_⟩
   conv=>whnf
   refine ⟨(b != c,none),[],rfl,trivial,?_⟩;conv=>whnf
   skip
   conv=>whnf
   obtain ⟨qs,rH⟩:∃ qs,qs=nb (0):=⟨_,rfl⟩;obtain ⟨qb,q9⟩:∃ qb:Bool,qb=((b != c) && (0) != 0):=⟨_,rfl⟩;obtain ⟨rs,iU⟩:∃ rs,rs=nb (ab s):=⟨_,rfl⟩;obtain ⟨rb,vR⟩:∃ rb:Bool,rb=(b && (ab s) != 0):=⟨_,rfl⟩;refine ⟨.agg ⟨[.bool qb,.string qs]⟩,by rw [rH,q9]; rfl,?_⟩
   conv=>whnf
   refine ⟨(b,some (nl (ab s),ab s,aO)),[5],rfl,⟨b8 _,by omega⟩,?_⟩
   conv=>whnf
   refine ⟨aD.aP (fun h=>h) (fun r hr=>rfl),?_⟩
   conv=>whnf
   refine ⟨.agg ⟨[.bool rb,.string rs]⟩,by rw [iU,vR]; rfl,?_⟩
   conv=>whnf
   have eQ:Value.agg ⟨[.bool qb,.string qs]⟩=aH (a9 (b != c) (ab s / ab t)):=by rw [rH,q9,← hQ]; exact jr _ _
   have eR:Value.agg ⟨[.bool rb,.string rs]⟩=aH (a9 b (ab s % ab t)):=by rw [iU,vR,← hR]; exact jr _ _
   have fin:∀ (q r:Value),q=aH (Int.fdiv (IV.z (b,s)) (IV.z (c,t)))→r=aH (Int.fmod (IV.z (b,s)) (IV.z (c,t)))→Value.tuple ⟨[q,r,.int .i64 0]⟩=iR.val ((b,s),(c,t)):=fun q r hq hr=>by
    have hz:IV.z (c,t)≠0:=fun e=>h1 (FD.1 e)
    simp only [iR,if_neg hz];rw [hq,hr]
   rcases Nat.eq_zero_or_pos (ab s) with h3 | h3
   ·rw [show (!rs.toList == (⟨#[]⟩:ByteArray).toList)=false by rw [iU]; exact wO h3]
    conv=>whnf
    refine .inr (.inl ⟨(.br 0 (.br 1 (.br 2 (.br 3 (.br 4 .leaf .leaf) .leaf) .leaf) (.br 2 (.br 1 (.br 3 (.br 4 .leaf .leaf) .leaf) .leaf) .leaf)) (.br 1 (.br 0 (.br 2 (.br 3 (.br 4 .leaf .leaf) .leaf) .leaf) .leaf) .leaf)),by kernel_rfl,?_⟩)
    have f1:=wD (b:=b) (c:=c) pL (.inl (show ab s % ab t=0 by rw [← hR]; exact h3))
    repeat' ((conv=>whnf); first | exact True.intro | refine And.intro ?_ ?_)
    all_goals conv=>whnf
    all_goals exact fin _ _ (eQ.trans (congrArg aH f1.1.symm)) (eR.trans (congrArg aH f1.2.symm))
   ·rw [show (!rs.toList == (⟨#[]⟩:ByteArray).toList)=true by rw [iU]; exact wV (Nat.ne_of_gt h3)]
    conv=>whnf
    refine aN (fun h4=>?_) (fun h4=>?_)
    ·conv=>whnf
     refine .inl ⟨5,[[],[],[0,1],[],[],[0,1,2,3,4],[0,1,2,3,4,5],[0,1,2,3,4,5,6]],by kernel_rfl,?_⟩
     conv=>whnf
     have h4:b≠c:=by
      intro e;subst e;cases b <;> cases h4
     have f1:=Fa (b:=b) (c:=c) pL (show ab s % ab t≠0 by rw [← hR]; exact Nat.ne_of_gt h3) h4
     have Em:IV.z (qb,qs)=a9 (b != c) (ab s / ab t):=by rw [rH,q9,← hQ]; exact CK _ _
     have pM:IV.z (rb,rs)=a9 b (ab s % ab t):=by rw [iU,vR,← hR]; exact CK _ _
     have sq:qs.size≤s.size:=by rw [rH,hQ]; exact Bq (Nat.div_le_self _ _)
     have sr:rs.size≤s.size:=by rw [iU,hR]; exact Bq (Nat.mod_le _ _)
     have s1:=Hc;refine ⟨(1:Int),rfl,⟨by decide,by decide⟩,?_⟩
     obtain ⟨v1,mc⟩:∃ v1,v1=nb 1:=⟨_,rfl⟩;rw [show eZ.val (1:Int)=.agg ⟨[.bool false,.string v1]⟩ by rw [mc]; rfl]
     rw [← mc] at s1;conv=>whnf
     refine ⟨((qb,qs),(false,v1)),rfl,⟨by show qs.size≤_; omega,by show v1.size≤_; omega⟩,?_⟩
     obtain ⟨q2,fu⟩:∃ q2,q2=nb (IV.z (qb,qs) - IV.z (false,v1)).natAbs:=⟨_,rfl⟩;obtain ⟨b2,c4⟩:∃ b2:Bool,b2=decide (IV.z (qb,qs) - IV.z (false,v1) < 0):=⟨_,rfl⟩;rw [show mL.val ((qb,qs),(false,v1))=.agg ⟨[.bool b2,.string q2]⟩ by rw [fu,c4]; rfl]
     conv=>whnf
     refine ⟨((rb,rs),(c,t)),rfl,⟨by show rs.size≤_; omega,hp.2⟩,?_⟩
     obtain ⟨q3,iu⟩:∃ q3,q3=nb (IV.z (rb,rs)+IV.z (c,t)).natAbs:=⟨_,rfl⟩;obtain ⟨b3,tj⟩:∃ b3:Bool,b3=decide (IV.z (rb,rs)+IV.z (c,t) < 0):=⟨_,rfl⟩;rw [show jk.val ((rb,rs),(c,t))=.agg ⟨[.bool b3,.string q3]⟩ by rw [iu,tj]; rfl]
     have e2:Value.agg ⟨[.bool b2,.string q2]⟩=aH (a9 (b != c) (ab s / ab t) - 1):=by
      have:IV.z (false,v1)=1:=by rw [mc]; show a9 false (ab (nb 1))=1; rw [iy]; rfl
      rw [fu,c4,Em,this]; rfl
     have e3:Value.agg ⟨[.bool b3,.string q3]⟩=aH (a9 b (ab s % ab t)+a9 c (ab t)):=by
      rw [iu,tj,pM]; rfl
     conv=>whnf
     refine .inr (.inl ⟨(.br 0 (.br 1 (.br 2 (.br 3 (.br 4 .leaf .leaf) .leaf) .leaf) (.br 2 (.br 1 (.br 3 (.br 4 .leaf .leaf) .leaf) .leaf) .leaf)) (.br 1 (.br 0 (.br 2 (.br 3 (.br 4 .leaf .leaf) .leaf) .leaf) .leaf) .leaf)),by kernel_rfl,?_⟩)
     repeat' ((conv=>whnf); first | exact True.intro | refine And.intro ?_ ?_)
     all_goals conv=>whnf
     all_goals exact fin _ _ (e2.trans (congrArg aH f1.1.symm)) (e3.trans (congrArg aH f1.2.symm))
    ·conv=>whnf
     refine .inr (.inl ⟨(.br 0 (.br 1 (.br 2 (.br 3 (.br 4 .leaf .leaf) .leaf) .leaf) (.br 2 (.br 1 (.br 3 (.br 4 .leaf .leaf) .leaf) .leaf) .leaf)) (.br 1 (.br 0 (.br 2 (.br 3 (.br 4 .leaf .leaf) .leaf) .leaf) .leaf) .leaf)),by kernel_rfl,?_⟩)
     have h4:b=c:=by
      cases b <;> cases c <;> first | rfl | cases h4
     have f1:=wD (b:=b) (c:=c) (A:=ab s) pL (.inr h4)
     repeat' ((conv=>whnf); first | exact True.intro | refine And.intro ?_ ?_)
     all_goals conv=>whnf
     all_goals exact fin _ _ (eQ.trans (congrArg aH f1.1.symm)) (eR.trans (congrArg aH f1.2.symm))
  ·rw [show gQ.val (ab s,aO,ab t,aO)=.tuple ⟨[kZ 2 (ab s / ab t),kZ 3 (ab s % ab t)]⟩ from if_neg (Nat.not_lt.2 J),show gQ.new (ab s,aO,ab t,aO)=[dN (ab s / ab t),dN (ab s % ab t)] from if_neg (Nat.not_lt.2 J)]
   have hQ:ab s / ab t=ab s / ab t:=rfl;have hR:ab s % ab t=ab s % ab t:=rfl;conv=>whnf
   refine ⟨aD.aP (fun h=>h) (fun r hr=>rfl),?_⟩
   conv=>whnf
   refine ⟨aD.aP (fun h=>h) (fun r hr=>rfl),?_⟩
   conv=>whnf
   refine ⟨_,rfl,?_⟩;conv=>whnf
   refine .inl ⟨13,[[],[0],[],[2],[0,1,2,3],[],[0,1,2,3,4,5],[],[7],[],[0,1,2,3,4,5,6,7,8,9],[],[],[0,1,2,3,4,5,6,7,8,9,10,11,12],[0,1,2,3,4,5,6,7,8,9,10,11,12,13]],by kernel_rfl,?_⟩
   conv=>whnf
   refine ⟨(b != c,some (nl (ab s / ab t),ab s / ab t,aO)),[6],rfl,⟨b8 _,by have:=lB (Nat.div_le_self (ab s) (ab t)); omega⟩,?_⟩
   conv=>whnf
   refine ⟨aD.aP (fun h=>h) (fun r hr=>rfl),?_⟩
   conv=>whnf
   obtain ⟨qs,rH⟩:∃ qs,qs=nb (ab s / ab t):=⟨_,rfl⟩;obtain ⟨qb,q9⟩:∃ qb:Bool,qb=((b != c) && (ab s / ab t) != 0):=⟨_,rfl⟩;obtain ⟨rs,iU⟩:∃ rs,rs=nb (ab s % ab t):=⟨_,rfl⟩;obtain ⟨rb,vR⟩:∃ rb:Bool,rb=(b && (ab s % ab t) != 0):=⟨_,rfl⟩;refine ⟨.agg ⟨[.bool qb,.string qs]⟩,by rw [rH,q9]; rfl,?_⟩
   conv=>whnf
   refine ⟨(b,some (nl (ab s % ab t),ab s % ab t,aO)),[7],rfl,⟨b8 _,by have:=lB (Nat.mod_le (ab s) (ab t)); omega⟩,?_⟩
   conv=>whnf
   refine ⟨aD.aP (fun h=>h) (fun r hr=>rfl),?_⟩
   conv=>whnf
   refine ⟨.agg ⟨[.bool rb,.string rs]⟩,by rw [iU,vR]; rfl,?_⟩
   conv=>whnf
   have eQ:Value.agg ⟨[.bool qb,.string qs]⟩=aH (a9 (b != c) (ab s / ab t)):=by rw [rH,q9,← hQ]; exact jr _ _
   have eR:Value.agg ⟨[.bool rb,.string rs]⟩=aH (a9 b (ab s % ab t)):=by rw [iU,vR,← hR]; exact jr _ _
   have fin:∀ (q r:Value),q=aH (Int.fdiv (IV.z (b,s)) (IV.z (c,t)))→r=aH (Int.fmod (IV.z (b,s)) (IV.z (c,t)))→Value.tuple ⟨[q,r,.int .i64 0]⟩=iR.val ((b,s),(c,t)):=fun q r hq hr=>by
    have hz:IV.z (c,t)≠0:=fun e=>h1 (FD.1 e)
    simp only [iR,if_neg hz];rw [hq,hr]
   rcases Nat.eq_zero_or_pos (ab s % ab t) with h3 | h3
   ·rw [show (!rs.toList == (⟨#[]⟩:ByteArray).toList)=false by rw [iU]; exact wO h3]
    conv=>whnf
    refine .inr (.inl ⟨(.br 0 (.br 1 (.br 2 (.br 3 (.br 4 .leaf .leaf) .leaf) .leaf) (.br 2 (.br 1 (.br 3 (.br 4 .leaf .leaf) .leaf) .leaf) .leaf)) (.br 1 (.br 0 (.br 2 (.br 3 (.br 4 .leaf .leaf) .leaf) .leaf) .leaf) .leaf)),by kernel_rfl,?_⟩)
    have f1:=wD (b:=b) (c:=c) pL (.inl (show ab s % ab t=0 by rw [← hR]; exact h3))
    repeat' ((conv=>whnf); first | exact True.intro | refine And.intro ?_ ?_)
    all_goals conv=>whnf
    all_goals exact fin _ _ (eQ.trans (congrArg aH f1.1.symm)) (eR.trans (congrArg aH f1.2.symm))
   ·rw [show (!rs.toList == (⟨#[]⟩:ByteArray).toList)=true by rw [iU]; exact wV (Nat.ne_of_gt h3)]
    conv=>whnf
    refine aN (fun h4=>?_) (fun h4=>?_)
    ·conv=>whnf
     refine .inl ⟨5,[[],[],[0,1],[],[],[0,1,2,3,4],[0,1,2,3,4,5],[0,1,2,3,4,5,6]],by kernel_rfl,?_⟩
     conv=>whnf
     have h4:b≠c:=by
      intro e;subst e;cases b <;> cases h4
     have f1:=Fa (b:=b) (c:=c) pL (show ab s % ab t≠0 by rw [← hR]; exact Nat.ne_of_gt h3) h4
     have Em:IV.z (qb,qs)=a9 (b != c) (ab s / ab t):=by rw [rH,q9,← hQ]; exact CK _ _
     have pM:IV.z (rb,rs)=a9 b (ab s % ab t):=by rw [iU,vR,← hR]; exact CK _ _
     have sq:qs.size≤s.size:=by rw [rH,hQ]; exact Bq (Nat.div_le_self _ _)
     have sr:rs.size≤s.size:=by rw [iU,hR]; exact Bq (Nat.mod_le _ _)
     have s1:=Hc;refine ⟨(1:Int),rfl,⟨by decide,by decide⟩,?_⟩
     obtain ⟨v1,mc⟩:∃ v1,v1=nb 1:=⟨_,rfl⟩;rw [show eZ.val (1:Int)=.agg ⟨[.bool false,.string v1]⟩ by rw [mc]; rfl]
     rw [← mc] at s1;conv=>whnf
     refine ⟨((qb,qs),(false,v1)),rfl,⟨by show qs.size≤_; omega,by show v1.size≤_; omega⟩,?_⟩
     obtain ⟨q2,fu⟩:∃ q2,q2=nb (IV.z (qb,qs) - IV.z (false,v1)).natAbs:=⟨_,rfl⟩;obtain ⟨b2,c4⟩:∃ b2:Bool,b2=decide (IV.z (qb,qs) - IV.z (false,v1) < 0):=⟨_,rfl⟩;rw [show mL.val ((qb,qs),(false,v1))=.agg ⟨[.bool b2,.string q2]⟩ by rw [fu,c4]; rfl]
     conv=>whnf
     refine ⟨((rb,rs),(c,t)),rfl,⟨by show rs.size≤_; omega,hp.2⟩,?_⟩
     obtain ⟨q3,iu⟩:∃ q3,q3=nb (IV.z (rb,rs)+IV.z (c,t)).natAbs:=⟨_,rfl⟩;obtain ⟨b3,tj⟩:∃ b3:Bool,b3=decide (IV.z (rb,rs)+IV.z (c,t) < 0):=⟨_,rfl⟩;rw [show jk.val ((rb,rs),(c,t))=.agg ⟨[.bool b3,.string q3]⟩ by rw [iu,tj]; rfl]
     have e2:Value.agg ⟨[.bool b2,.string q2]⟩=aH (a9 (b != c) (ab s / ab t) - 1):=by
      have:IV.z (false,v1)=1:=by rw [mc]; show a9 false (ab (nb 1))=1; rw [iy]; rfl
      rw [fu,c4,Em,this]; rfl
     have e3:Value.agg ⟨[.bool b3,.string q3]⟩=aH (a9 b (ab s % ab t)+a9 c (ab t)):=by
      rw [iu,tj,pM]; rfl
     conv=>whnf
     refine .inr (.inl ⟨(.br 0 (.br 1 (.br 2 (.br 3 (.br 4 .leaf .leaf) .leaf) .leaf) (.br 2 (.br 1 (.br 3 (.br 4 .leaf .leaf) .leaf) .leaf) .leaf)) (.br 1 (.br 0 (.br 2 (.br 3 (.br 4 .leaf .leaf) .leaf) .leaf) .leaf) .leaf)),by kernel_rfl,?_⟩)
     repeat' ((conv=>whnf); first | exact True.intro | refine And.intro ?_ ?_)
     all_goals conv=>whnf
     all_goals exact fin _ _ (e2.trans (congrArg aH f1.1.symm)) (e3.trans (congrArg aH f1.2.symm))
    ·conv=>whnf
     refine .inr (.inl ⟨(.br 0 (.br 1 (.br 2 (.br 3 (.br 4 .leaf .leaf) .leaf) .leaf) (.br 2 (.br 1 (.br 3 (.br 4 .leaf .leaf) .leaf) .leaf) .leaf)) (.br 1 (.br 0 (.br 2 (.br 3 (.br 4 .leaf .leaf) .leaf) .leaf) .leaf) .leaf)),by kernel_rfl,?_⟩)
     have h4:b=c:=by
      cases b <;> cases c <;> first | rfl | cases h4
     have f1:=wD (b:=b) (c:=c) (A:=ab s) pL (.inr h4)
     repeat' ((conv=>whnf); first | exact True.intro | refine And.intro ?_ ?_)
     all_goals conv=>whnf
     all_goals exact fin _ _ (eQ.trans (congrArg aH f1.1.symm)) (eR.trans (congrArg aH f1.2.symm))
open Go Go.Ae
theorem B0:bk Tryz.prog 191 kP:=by
 refine bn lX aQ Tryz.func191 (enters_of Tryz.func191 (by kernel_rfl) rfl) (fun _=>rfl) (fun _=>rfl) ?_
 intro (s:ByteArray) (hs:s.size≤1099511627776);simp only [kP];conv=>whnf
 refine .inl ⟨fun mm tz hz=>∃ (u:ByteArray),bC (some (.string u)::aF 13 []) tz∧hz=[]∧u.size=mm∧(ab u=ab s∧u.size≤s.size),.inl ⟨_,s,(.aa (.sk 13 .nil rfl)),rfl,rfl,?_⟩,?_⟩
 ·exact ⟨rfl,Nat.le_refl _⟩
 rintro mm aW _ ⟨u,aB,rfl,rfl,⟨hu,hle⟩⟩
 obtain ⟨az,rfl⟩:∃ az:Nat→Value,aW=.string u::zs az 1 13 []:=bL aB;clear aB;conv=>whnf
 rcases Nat.eq_zero_or_pos u.size with h1 | h1
 ·rw [show decide (((u.size:Nat):Int) > 0)=false from decide_eq_false (by omega)]
  conv=>whnf
  rw [← hu,← y7 (.inl h1)]
 ·rw [show decide (((u.size:Nat):Int) > 0)=true from decide_eq_true (by omega)]
  conv=>whnf
  refine ⟨⟨by omega,by omega⟩,?_⟩
  conv=>whnf
  refine aN (fun J=>?_) (fun J=>?_)
  ·have J:b9 u 0=0:=by
    have J:((b9 u 0:Nat):Int)=0:=by simpa using J
    omega
   obtain ⟨d1,d2⟩:=drop_zero (by omega) J
   conv=>whnf
   refine ⟨⟨by decide,by show (1:Int)≤((u.size:Nat):Int); omega,Int.le_refl _⟩,?_⟩
   conv=>whnf
   refine .inl ⟨_,?_,u.extract 1 u.size,(.aa (.sk 13 .nil rfl)),rfl,rfl,?_⟩
   ·rw [d2]; omega
   ·exact ⟨by rw [d1,hu],by rw [d2]; omega⟩
  ·have J:b9 u 0≠0:=by
    intro h;have e:b9 u (Int.toNat 0)=b9 u 0:=rfl;rw [e,h] at J;simp at J
   conv=>whnf
   rw [← hu,← y7 (.inr J)]
def Era:Env:=En [(191,.p kP)]
theorem zK:EnvOk Tryz.prog Era:=bK ⟨B0,trivial⟩ trivial
theorem FO:bk Tryz.prog 179 jt:=by
 refine bn zK aQ Tryz.func179 (enters_of Tryz.func179 (by kernel_rfl) rfl) (fun _=>rfl) (fun _=>rfl) ?_
 intro ⟨b,s⟩ hp;have hp:s.size≤549755813888:=hp;obtain ⟨m,hm⟩:∃ m,m=nb (ab s):=⟨_,rfl⟩;have Qt:kP.val s=.string m:=by rw [hm]; rfl
 have fin:Value.agg ⟨[.bool (b && ab s != 0),.string m]⟩=aH (IV.z (b,s)):=by rw [hm]; exact jr b (ab s)
 conv=>whnf
 rcases Nat.eq_zero_or_pos s.size with h1 | h1
 ·rw [show decide ((((b,s).snd.size:Nat):Int) > 0)=false from decide_eq_false (by show ¬ (((s.size:Nat):Int) > 0); omega)]
  conv=>whnf
  refine ⟨s,rfl,by show s.size≤1099511627776; omega,?_⟩
  rw [Qt];cases b with
  | false =>
   conv=>whnf
   exact fin
  | true =>
   conv=>whnf
   refine Eq.trans ?_ fin;rw [hm];show Value.agg ⟨[.bool (!(nb (ab s)).toList == (⟨#[]⟩:ByteArray).toList),.string (nb (ab s))]⟩=_
   rw [F6,Bool.true_and]
 ·rw [show decide ((((b,s).snd.size:Nat):Int) > 0)=true from decide_eq_true (by show (((s.size:Nat):Int) > 0); omega)]
  conv=>whnf
  refine ⟨⟨by decide,by show (0:Int) < ((s.size:Nat):Int); omega⟩,?_⟩
  conv=>whnf
  refine aN (fun J=>?_) (fun J=>?_)
  ·have J:b9 s 0≠0:=by
    intro h;have e:b9 (b,s).snd (Int.toNat 0)=b9 s 0:=rfl;rw [e,h] at J;simp at J
   conv=>whnf
   exact UO h1 J
  ·conv=>whnf
   refine ⟨s,rfl,by show s.size≤1099511627776; omega,?_⟩
   rw [Qt];cases b with
   | false =>
    conv=>whnf
    exact fin
   | true =>
    conv=>whnf
    refine Eq.trans ?_ fin;rw [hm];show Value.agg ⟨[.bool (!(nb (ab s)).toList == (⟨#[]⟩:ByteArray).toList),.string (nb (ab s))]⟩=_
    rw [F6,Bool.true_and]
theorem FP:bk Tryz.prog 193 kj:=by
 refine bn zK aQ Tryz.func193 (enters_of Tryz.func193 (by kernel_rfl) rfl) (fun _=>rfl) (fun _=>rfl) ?_
 intro (s:ByteArray) (hp:s.size≤7);conv=>whnf
 refine .inl ⟨fun mm tz hz=>∃ (i:Nat) (N:Nat),bC (some (.string s)::aF 2 (some (.int .i64 N)::some (.int .i64 i)::aF 14 [])) tz∧hz=[]∧s.size - i=mm∧(i≤s.size∧N=ab s / C ^ (s.size - i)),.inl ⟨_,0,0,(.aa (.sk 2 (.aa (.aa (.sk 14 .nil rfl))) rfl)),rfl,rfl,?_⟩,?_⟩
 ·exact ⟨Nat.zero_le _,by rw [Nat.sub_zero,Nat.div_eq_of_lt (gE s)]⟩
 rintro mm aW _ ⟨i,N,aB,rfl,rfl,⟨hi,hN⟩⟩
 obtain ⟨az,rfl⟩:∃ az:Nat→Value,aW=.string s::zs az 1 2 (.int .i64 N::.int .i64 i::zs az 5 14 []):=bL aB;clear aB;have mV:=CL s hi;rw [← hN] at mV;have al:=Nat.lt_of_lt_of_le mV (n9 (show i≤7 by omega))
 conv=>whnf
 refine aN (fun J=>?_) (fun J=>?_)
 ·have J:i < s.size:=by simpa using J
  have aw:=yH J;rw [← hN] at aw;have hb:b9 s i < 256:=wB s i;have e3:IntKind.i64.wrap (((i:Nat):Int)+1)=((i+1:Nat):Int):=by rw [ax (by omega) (by omega)]; rfl
  have JK:=Nat.lt_of_lt_of_le mV (Dr (show i≤6 by omega))
  conv=>whnf
  refine ⟨⟨by omega,by omega⟩,?_⟩
  simp only [toNat_cast];conv=>whnf
  rw [M7 (by omega) hb,e3]
  refine .inl ⟨_,?_,i+1,N*256+b9 s i,(.aa (.sk 2 (.aa (.aa (.sk 14 .nil rfl))) rfl)),rfl,rfl,?_⟩
  ·omega
  ·exact ⟨by omega,aw.symm⟩
 ·have J:i=s.size:=by
   have J:¬ i < s.size:=by simpa using J
   omega
  subst J;rw [Nat.sub_self,Nat.pow_zero,Nat.div_one] at hN;subst hN;conv=>whnf
  rfl
def Erb:Env:=En [(193,.p kj)]
theorem acZ:EnvOk Tryz.prog Erb:=bK ⟨FP,trivial⟩ trivial
theorem Vi:bk Tryz.prog 181 xj:=by
 refine bn acZ aQ Tryz.func181 (enters_of Tryz.func181 (by kernel_rfl) rfl) (fun _=>rfl) (fun _=>rfl) ?_
 intro ⟨b,s⟩ hp;have hp:s.size≤7:=hp;have al:=Nat.lt_of_lt_of_le (gE s) (n9 hp);cases b with
 | true =>
  conv=>whnf
  refine ⟨s,rfl,hp,?_⟩;conv=>whnf
  rw [ax (by omega) (by omega)]
  show Value.int .i64 (0 - (ab s:Int))=.int .i64 (-(ab s:Int))
  rw [Int.zero_sub]
 | false =>
  conv=>whnf
  refine ⟨s,rfl,hp,?_⟩;conv=>whnf
  rfl
theorem Zt:bk Tryz.prog 177 Iv:=by
 refine bn lX aQ Tryz.func177 (enters_of Tryz.func177 (by kernel_rfl) rfl) (fun _=>rfl) (fun _=>rfl) ?_
 intro (n:Nat) (hp:n < 9223372036854775808);conv=>whnf
 refine aN (fun h1=>?_) (fun h1=>?_)
 ·have h1:n < 256:=by
   have:=of_decide_eq_true h1;omega
  conv=>whnf
  refine aN (fun J=>?_) (fun J=>?_)
  ·have J:n=0:=by
    have J:((n:Nat):Int)=0:=by simpa using J
    omega
   subst J;conv=>whnf
   show Value.string ⟨#[]⟩=.string (nb 0)
   rw [p8]
  ·have J:n≠0:=by
    intro e;subst e;simp at J
   conv=>whnf
   rw [qA];refine ⟨⟨Nat.le_refl _,fun r hr=>by
    have h0:r=0:=by
     have hr:r < 1:=hr;omega
    subst h0;exact ⟨_,rfl⟩⟩,?_⟩
   have e:=EH (g:=fun r=>[[Value.int .u8 ((n % C:Nat):Int)]].getD r []) (i:=0) (m:=1) (X:=n) (fun r hr=>by
    have:r=0:=by omega
    subst this;show [Value.int .u8 ((n % C:Nat):Int)]=[Value.int .u8 ((n / C ^ 0 % C:Nat):Int)]
    rw [Nat.pow_zero,Nat.div_one])
   conv=>whnf
   show _=Value.string (nb n)
   rw [xz (N:=n) (n:=1) h1 (.inr (by show 1≤n; omega)),← e]
   rfl
 ·have h1:256≤n:=by
   have:=of_decide_eq_false h1;omega
  conv=>whnf
  refine .inl ⟨fun mm tz hz=>∃ (i:Nat) (m:Nat) (g:Nat→List Value),bC (some (.int .i64 m)::aF 2 (some (.pointer (some ⟨0,0,none⟩))::some (.int .i64 i)::aF 21 [])) tz∧hz=[some (.flat true 8 1 g)]∧m=mm∧((i≤8∧m=n / C ^ (8 - i))∧(i=8∨C ^ (8 - i - 1)≤n)∧(∀ r,i≤r→r < 8→g r=[.int .u8 ((n / C ^ (7 - r) % C:Nat):Int)])∧(∀ r,r < 8→∃ x:Int,g r=[.int .u8 x])),.inl ⟨_,8,n,_,(.aa (.sk 2 (.aa (.aa (.sk 21 .nil rfl))) rfl)),rfl,rfl,?_⟩,?_⟩
  ·exact ⟨⟨Nat.le_refl _,by simp⟩,.inl rfl,fun r h1 J=>absurd h1 (by omega),fun r hr=>⟨0,rfl⟩⟩
  rintro mm aW _ ⟨i,m,g,aB,rfl,rfl,⟨⟨hi,hm⟩,ho,hg,cZ⟩⟩
  obtain ⟨az,rfl⟩:∃ az:Nat→Value,aW=.int .i64 m::zs az 1 2 (.pointer (some ⟨0,0,none⟩)::.int .i64 i::zs az 5 21 []):=bL aB;clear aB;conv=>whnf
  refine aN (fun J=>?_) (fun J=>?_)
  ·have J:0 < m:=by
    have:=of_decide_eq_true J;omega
   have gk:0 < i:=by
    rcases Nat.eq_zero_or_pos i with h | h
    ·subst h;rw [hm] at J;rw [Qd hp] at J;exact absurd J (by decide)
    ·exact h
   obtain ⟨i,rfl⟩:∃ i',i=i'+1:=⟨i - 1,by omega⟩
   have ei:IntKind.i64.wrap (((i+1:Nat):Int) - 1)=((i:Nat):Int):=by rw [ax (by omega) (by omega)]; omega
   have eI:m / 256=n / C ^ (8 - i):=by
    rw [hm,EJ,show 8 - (i+1)+1=8 - i by omega]
   have IJ:C ^ (8 - (i+1))≤n:=by
    rcases Nat.lt_or_ge n (C ^ (8 - (i+1))) with h | h
    ·rw [hm,Nat.div_eq_of_lt h] at J;exact absurd J (by decide)
    ·exact h
   conv=>whnf
   simp only [ei];refine ⟨⟨by omega,by omega⟩,?_⟩
   simp only [toNat_cast,aA,Nat.zero_add];conv=>whnf
   refine ⟨by show i < 8; omega,?_⟩
   conv=>whnf
   obtain ⟨x,hx⟩:=cZ i (by omega)
   rw [hx];conv=>whnf
   rw [qA,c9,show ((m:Nat):Int) / 256=((m / 256:Nat):Int) from rfl]
   refine .inl ⟨_,?_,i,m / 256,_,(.aa (.sk 2 (.aa (.aa (.sk 21 .nil rfl))) rfl)),rfl,rfl,?_⟩
   ·omega
   ·refine ⟨⟨by omega,eI⟩,.inr (by rw [show 8 - i - 1=8 - (i+1) by omega]; exact IJ),fun r iJ fi=>?_,fun r hr=>?_⟩
    rotate_left
    ·by_cases he:r=i
     ·exact ⟨_,if_pos he⟩
     ·rw [if_neg he]; exact cZ r hr
    by_cases he:r=i
    ·subst he;rw [if_pos rfl,hm,show 7 - r=8 - (r+1) by omega]
    ·rw [if_neg he];exact hg r (by omega) fi
  ·have J:m=0:=by
    have:=of_decide_eq_false J;omega
   have al:n < C ^ (8 - i):=by
    rw [J] at hm;have h3:=Nat.mod_lt n (ia (8 - i));have h4:=Nat.mod_add_div n (C ^ (8 - i));rw [← hm,Nat.mul_zero,Nat.add_zero] at h4;rw [← h4]; exact h3
   obtain ⟨k,hk⟩:∃ k,8 - i=k+1:=⟨8 - i - 1,by
    rcases Nat.eq_zero_or_pos (8 - i) with h | h
    ·rw [h,Nat.pow_zero] at al; omega
    ·omega⟩
   rw [hk] at al;have ho:C ^ k≤n:=by
    rcases ho with h | h
    ·omega
    ·rw [show 8 - i - 1=k by omega] at h; exact h
   have e:=EH (g:=g) (i:=i) (m:=k+1) (X:=n) (fun r hr=>by
    rw [hg (i+r) (by omega) (by omega),show 7 - (i+r)=k+1 - 1 - r by omega])
   conv=>whnf
   refine ⟨⟨by omega,by omega,Int.le_refl _,Nat.le_refl _,rfl⟩,?_⟩
   simp only [toNat_cast,aA,Nat.zero_add,hk];conv=>whnf
   refine ⟨⟨by show i+(k+1)≤8; omega,fun r hr=>cZ (i+r) (by omega)⟩,?_⟩
   conv=>whnf
   show Value.string ⟨⟨bytesOf g i (k+1)⟩⟩=Value.string (nb n)
   rw [e,xz al (.inr ho)]
theorem Fk:bk Tryz.prog 180 r4:=by
 refine bn lX aQ Tryz.func180 (enters_of Tryz.func180 (by kernel_rfl) rfl) (fun _=>rfl) (fun _=>rfl) ?_
 intro ⟨A,D⟩ hp;have hp:aT A≤1099511627776∧aT D≤1099511627776:=hp;simp only [r4];obtain ⟨a,ha⟩:∃ a,a=nb A:=⟨_,rfl⟩;obtain ⟨d,hd⟩:∃ d,d=nb D:=⟨_,rfl⟩;rw [← ha,← hd];have l1:a.size=d.size→Op.bytesLess a.toList d.toList=decide (A < D):=fun h=>by rw [ha,hd] at h ⊢; exact UP h
 have l2:(a.toList == d.toList)=decide (A=D):=by rw [ha,hd]; exact UQ
 have l3:a.size < d.size→A < D:=fun h=>by rw [ha,hd] at h; exact Mq h
 have l4:d.size < a.size→D < A:=fun h=>by rw [ha,hd] at h; exact Mq h
 conv=>whnf
 refine aN (fun h1=>?_) (fun h1=>?_)
 ·have h1:a.size≠d.size:=by
   intro e;rw [e] at h1;simp at h1
  conv=>whnf
  refine aN (fun J=>?_) (fun J=>?_)
  ·have J:=l3 (by have:=of_decide_eq_true J; omega)
   conv=>whnf
   rw [cM,if_pos J]
  ·have J:=l4 (by have:=of_decide_eq_false J; omega)
   conv=>whnf
   rw [cM,if_neg (by omega),if_pos J]
 ·have h1:a.size=d.size:=by
   have h1:((a.size:Nat):Int)=((d.size:Nat):Int):=by simpa using h1
   omega
  conv=>whnf
  rw [l1 h1];refine aN (fun J=>?_) (fun J=>?_)
  ·have J:=of_decide_eq_true J;conv=>whnf
   rw [cM,if_pos J]
  ·have J:=of_decide_eq_false J;conv=>whnf
   rw [l1 h1,l2];refine aN (fun h3=>?_) (fun h3=>?_)
   ·have h3:D < A:=by
     simp [J] at h3;omega
    conv=>whnf
    rw [cM,if_neg J,if_pos h3]
   ·have h3:A=D:=by
     simpa [J] using h3
    conv=>whnf
    subst h3;rw [cM,if_neg J,if_neg J]
end Go.Proofs.YtlapbjdhekcipaaGreat
