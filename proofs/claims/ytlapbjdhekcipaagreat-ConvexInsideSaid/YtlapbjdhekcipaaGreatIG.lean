import Derived.Test.YtlapbjdhekcipaaGreatIF
set_option linter.unusedVariables false
set_option linter.unusedSimpArgs false
set_option maxRecDepth 20000
set_option maxHeartbeats 4000000
namespace Go.Proofs.YtlapbjdhekcipaaGreat
open Go Go.Ae
def Eg:Env:=En [(167,.p kQ),(197,.p tU)]
theorem adw:EnvOk Tryz.prog Eg:=bC ⟨ML,VB,trivial⟩ trivial
theorem VJ:fJ Tryz.prog 186 (zZ wK):=by
 refine NG adw aK Tryz.func186 (enters_of Tryz.func186 (by kernel_rfl) rfl) ?_
 intro ⟨X,m,cx,D,cd,j⟩ hp;have hp:m≤137438953473∧2≤nl D∧2147483648≤al D (nl D - 1)∧j+nl D < m∧X < D*B ^ (j+1):=hp;obtain ⟨n,hn⟩:∃ n,n=nl D - 2:=⟨_,rfl⟩;obtain ⟨n1,zF⟩:∃ n1,n1=nl D - 1:=⟨_,rfl⟩;obtain ⟨n2,bJ⟩:∃ n2,n2=nl D:=⟨_,rfl⟩;rw [← zF,← bJ] at hp;have hn:n2=n+2∧n1=n+1:=by omega
 have HR:=cD X (j+n2);have Ph:=cD X (j+n1);have HS:=cD X (j+n);have zo:=cD D n1;have Pj:=cD D n;have hB:B=4294967296:=rfl;conv=>whnf
 refine .inl ⟨16,[[],[],[],[1,2],[0,1,2,3],[0,1,2,3,4],[0,1,2,3,4,5],[0,1,2,3,4,5,6],[],[],[],[9,10],[9,10,11],[8,9,10,11,12],[8,9,10,11,12,13],[8,9,10,11,12,13,14],[0,1,2,3,4,5,6,7,8,9,10,11,12,13,14,15],[0,1,2,3,4,5,6,7,8,9,10,11,12,13,14,15,16]],by kernel_rfl,?_⟩
 conv=>whnf
 rw [← bJ];have e1:IntKind.i64.wrap (((j:Nat):Int)+((n2:Nat):Int))=((j+n2:Nat):Int):=by rw [ax (by omega) (by omega)]; omega
 have e2:IntKind.i64.wrap (((j+n2:Nat):Int) - 1)=((j+n1:Nat):Int):=by rw [ax (by omega) (by omega)]; omega
 have e3:IntKind.i64.wrap (((j+n2:Nat):Int) - 2)=((j+n:Nat):Int):=by rw [ax (by omega) (by omega)]; omega
 have e4:IntKind.i64.wrap (((n2:Nat):Int) - 1)=((n1:Nat):Int):=by rw [ax (by omega) (by omega)]; omega
 have e5:IntKind.i64.wrap (((n2:Nat):Int) - 2)=((n:Nat):Int):=by rw [ax (by omega) (by omega)]; omega
 simp only [e1];refine ⟨⟨by omega,by omega⟩,?_⟩
 simp only [toNat_cast,au,Nat.zero_add];conv=>whnf
 refine ⟨by show j+n2 < m; omega,?_⟩
 conv=>whnf
 simp only [e1,e2];refine ⟨⟨by omega,by omega⟩,?_⟩
 simp only [toNat_cast,au,Nat.zero_add];conv=>whnf
 refine ⟨by show j+n1 < m; omega,?_⟩
 conv=>whnf
 have jZ:∀ l:Nat,l < B→IntKind.u64.wrap ((l:Nat):Int)=(l:Int):=fun l hl=>bH (by omega) (by omega)
 have qn:∀ l:Nat,l < B→IntKind.u64.wrap ((l:Int)*4294967296)=(l:Int)*4294967296:=fun l hl=>bH (by omega) (by omega)
 simp only [jZ _ HR,jZ _ Ph,di,qn _ HR,dj _ _ HR Ph];obtain ⟨top,uE⟩:∃ top,top=al X (j+n2)*4294967296+al X (j+n1):=⟨_,rfl⟩;have adx:((al X (j+n2):Nat):Int)*4294967296+((al X (j+n1):Nat):Int)=(top:Int):=by omega
 simp only [adx];obtain ⟨d1,fG⟩:∃ d1,d1=al D n1:=⟨_,rfl⟩;obtain ⟨d0,ff⟩:∃ d0,d0=al D n:=⟨_,rfl⟩;have hp3:2147483648≤d1:=by rw [fG]; exact hp.2.2.1
 have adW:d1 < 4294967296:=by rw [fG]; exact zo
 have C5:d0 < 4294967296:=by rw [ff]; exact Pj
 have Hf:top < 18446744073709551616:=by omega
 refine .inl ⟨17,[[],[],[],[2],[1,2,3],[1,2,3,4],[1,2,3,4,5],[0,1,2,3,4,5,6],[],[],[],[10],[9,10,11],[9,10,11,12],[9,10,11,12,13],[8,9,10,11,12,13,14],[0,1,2,3,4,5,6,7],[0,1,2,3,4,5,6,7,8,9,10,11,12,13,14,15,16]],by kernel_rfl,?_⟩
 conv=>whnf
 simp only [e4];refine ⟨⟨by omega,by omega⟩,?_⟩
 simp only [toNat_cast,au,Nat.zero_add];conv=>whnf
 refine ⟨by show n1 < nl D; omega,?_⟩
 conv=>whnf
 simp only [jZ _ zo];rw [← fG];have aH:decide ((d1:Int)≠0)=true:=decide_eq_true (by omega)
 rw [aH];conv=>whnf
 simp only [e4];refine ⟨⟨by omega,by omega⟩,?_⟩
 simp only [toNat_cast,au,Nat.zero_add];conv=>whnf
 refine ⟨by show n1 < nl D; omega,?_⟩
 conv=>whnf
 simp only [jZ _ zo];rw [← fG,aH];conv=>whnf
 obtain ⟨w0,I7⟩:∃ w0,w0=al X (j+n):=⟨_,rfl⟩;rw [← I7] at HS;obtain ⟨Q,hQ⟩:∃ Q,Q=X / B ^ j / D:=⟨_,rfl⟩;obtain ⟨q0,vh⟩:∃ q0,q0=top / d1:=⟨_,rfl⟩;have F:=Y1 bJ hn.1 hn.2 hp.2.2.1 hp.2.2.2.2 uE fG ff I7 hQ vh;clear hQ;obtain ⟨m6,hp4⟩:m≤137438953473∧j+n2 < m:=⟨hp.1,hp.2.2.2.1⟩;clear hp;have fq3:q0≤4294967297:=F.P2;have eq0:IntKind.u64.wrap ((q0:Nat):Int)=((q0:Nat):Int):=bH (by omega) (by omega)
 simp only [Fw,Mh];rw [← vh,eq0];refine .inl ⟨fun mm tz hz=>∃ (q:Nat) (r:Nat),bt (some (.slice (some ⟨0,0,none⟩) m cx)::some (.slice (some ⟨1,0,none⟩) n2 cd)::some (.int .i64 j)::aC 3 (some (.int .u32 0)::some (.int .i64 n2)::aC 1 (some (.int .u64 q)::some (.int .u64 r)::aC 183 []))) tz∧hz=[some (.flat true m 1 (bk X)),some (dB D)]∧q=mm∧(q*d1+r=top∧Q≤q∧q≤4294967297),.inr ⟨[0,1],[0,1,2,6,7,9,10],?_⟩,?_⟩
 ·conv=>whnf
  intro _;conv=>whnf
  refine ⟨_,q0,top % d1,(.aa (.aa (.aa (.sk 3 (.aa (.aa (.sk 1 (.aa (.aa (.sk 183 .nil rfl))) rfl))) rfl)))),rfl,rfl,?_⟩;exact ⟨by rw [vh,Nat.mul_comm]; exact Nat.div_add_mod top d1,F.fq,F.P2⟩
 rintro mm aS _ ⟨q,r,aw,rfl,rfl,⟨he,DD,eZ⟩⟩
 obtain ⟨az,rfl⟩:∃ az:Nat→Value,aS=.slice (some ⟨0,0,none⟩) m cx::.slice (some ⟨1,0,none⟩) n2 cd::.int .i64 j::zs az 3 3 (.int .u32 0::.int .i64 n2::zs az 8 1 (.int .u64 q::.int .u64 r::zs az 11 183 [])):=bF aw;clear aw;have hr:r < 18446744073709551616:=Nat.lt_of_le_of_lt (Nat.le_trans (Nat.le_add_left _ _) (Nat.le_of_eq he)) Hf;refine .inl ⟨27,[[],[0],[0,1],[0,1,2],[0,1,2,3],[0,1,2,3,4],[0,1,2,3,4,5],[0,1,2,3,4,5,6],[0,1,2,3,4,5,6,7],[0,1,2,3,4,5,6,7],[0,1,2,3,4,5,6,7],[0,1,2,3,4,5,6,7,10],[0,1,2,3,4,5,6,7,9,10,11],[0,1,2,3,4,5,6,7,9,10,11,12],[0,1,2,3,4,5,6,7,9,10,11,12,13],[0,1,2,3,4,5,6,7,8,9,10,11,12,13,14],[0,1,2,3,4,5,6,7],[0,1,2,3,4,5,6,7,16],[0,1,2,3,4,5,6,7],[0,1,2,3,4,5,6,7],[0,1,2,3,4,5,6,7],[0,1,2,3,4,5,6,7,19,20],[0,1,2,3,4,5,6,7,19,20,21],[0,1,2,3,4,5,6,7,18,19,20,21,22],[0,1,2,3,4,5,6,7,18,19,20,21,22,23],[0,1,2,3,4,5,6,7,18,19,20,21,22,23,24],[0,1,2,3,4,5,6,7,16,17,18,19,20,21,22,23,24,25],[0,1,2,3,4,5,6,7,8,9,10,11,12,13,14,15,16,17,18,19,20,21,22,23,24,25,26],[0,1,2,3,4,5,6,7,8,9,10,11,12,13,14,15,16,17,18,19,20,21,22,23,24,25,26,27],[0,1,2,3,4,5,6,7,8,9,10,11,12,13,14,15,16,17,18,19,20,21,22,23,24,25,26,27,28]],by kernel_rfl,?_⟩
 conv=>whnf
 simp only [b6,ju];rcases Nat.lt_or_ge q 4294967296 with xH | xH
 ·rw [show decide (((q / B:Nat):Int) > 0)=false from decide_eq_false (by show ¬ (((q / 4294967296:Nat):Int) > 0); omega)]
  conv=>whnf
  simp only [b6,ju];have oD:q*d0≤r*B+w0∨B≤r→q≤Q+1:=fun h=>by
   rw [F.fQ];exact F8 (dM n) F.fW F.fD he xH F.fP C5 h.symm
  rcases Nat.lt_or_ge r 4294967296 with lJ | lJ
  ·rw [show (((((r / B:Nat):Int) == 0):Bool))=true by show decide (((r / 4294967296:Nat):Int)=0)=true; exact decide_eq_true (by omega)]
   conv=>whnf
   simp only [e5];refine ⟨⟨by omega,by omega⟩,?_⟩
   simp only [toNat_cast,au,Nat.zero_add];conv=>whnf
   refine ⟨by show n < nl D; omega,?_⟩
   conv=>whnf
   simp only [jZ _ Pj];rw [← ff,(abt eZ C5).1];simp only [e1,e3];obtain ⟨vq,cN⟩:∃ v,v=Value.int .u64 ((q*d0:Nat):Int):=⟨_,rfl⟩;rw [← cN];refine ⟨⟨by omega,by omega⟩,?_⟩
   simp only [toNat_cast,au,Nat.zero_add];conv=>whnf
   refine ⟨by show j+n < m; omega,?_⟩
   conv=>whnf
   rw [← I7];simp only [jZ _ HS,di,qn r lJ,dj _ _ lJ HS];rw [show ((r:Nat):Int)*4294967296+((w0:Nat):Int)=((r*4294967296+w0:Nat):Int) by omega]
   obtain ⟨qd,qR⟩:∃ qd,qd=q*d0:=⟨_,rfl⟩;obtain ⟨Ag,HT⟩:∃ Ag,Ag=r*4294967296+w0:=⟨_,rfl⟩;rw [cN,← qR,← HT];conv=>whnf
   rcases Nat.lt_or_ge Ag qd with Ht | adX
   ·rw [show decide ((qd:Int) > (Ag:Int))=true from decide_eq_true (by omega)]
    have ak:Q < q:=by
     rw [F.fQ];refine UR F.z8 (dM n) F.fW F.fD he ?_;rw [← qR];show r*4294967296+w0 < qd
     omega
    clear cN qR HT Ht;conv=>whnf
    have ep:IntKind.u64.wrap ((q:Int) - 1)=((q - 1:Nat):Int):=by rw [bH (by omega) (by omega)]; omega
    have cA:(q - 1)*d1+(r+d1)=top:=by
     have h1:(q - 1)*d1+d1=q*d1:=by
      conv=>rhs; rw [show q=(q - 1)+1 by omega,Nat.add_mul,Nat.one_mul]
     omega
    have eU:r+d1 < 18446744073709551616:=Nat.lt_of_le_of_lt (Nat.le_trans (Nat.le_add_left _ _) (Nat.le_of_eq cA)) Hf;have er:IntKind.u64.wrap ((r:Int)+(d1:Int))=((r+d1:Nat):Int):=by rw [bH (by omega) (by omega)]; omega
    simp only [ep,e4];refine ⟨⟨by omega,by omega⟩,?_⟩
    simp only [toNat_cast,au,Nat.zero_add];conv=>whnf
    refine ⟨by show n1 < nl D; omega,?_⟩
    conv=>whnf
    simp only [jZ _ zo];rw [← fG,er];simp only [b6,ju];rcases Nat.lt_or_ge (r+d1) 4294967296 with lJ | lJ
    ·rw [show decide ((((r+d1) / B:Nat):Int) > 0)=false from decide_eq_false (by show ¬ ((((r+d1) / 4294967296:Nat):Int) > 0); omega)]
     conv=>whnf
     refine .inr ⟨[0,1],[0,1,2,6,7,9,10],?_⟩;conv=>whnf
     intro _;conv=>whnf
     refine ⟨_,?_,q - 1,r+d1,(.aa (.aa (.aa (.sk 3 (.aa (.aa (.sk 1 (.aa (.aa (.sk 183 .nil rfl))) rfl))) rfl)))),rfl,rfl,?_⟩
     ·omega
     ·exact ⟨cA,by omega,by omega⟩
    ·rw [show decide ((((r+d1) / B:Nat):Int) > 0)=true from decide_eq_true (by show ((((r+d1) / 4294967296:Nat):Int) > 0); omega)]
     conv=>whnf
     simp only [b6,ju];rcases Nat.lt_or_ge (q - 1) 4294967296 with uN | uN
     ·rw [show (((((q - 1) / B:Nat):Int) == 0):Bool)=true by show decide ((((q - 1) / 4294967296:Nat):Int)=0)=true; exact decide_eq_true (by omega)]
      conv=>whnf
      obtain ⟨qt,nS⟩:∃ qt,qt=q - 1:=⟨_,rfl⟩;have hT:qt < 4294967296∧Q≤qt∧qt≤Q+1:=by
       have h3:q - 1≤X / B ^ j / D+1:=F8 (dM n) F.fW F.fD cA uN F.fP C5 (.inl lJ);rw [← F.fQ] at h3;omega
      rw [← nS];clear xH uN ak ep cA eU er lJ he hr DD eZ nS;conv=>whnf
      refine .inl ⟨fun mm tz hz=>∃ (i:Nat) (c:Nat) (b:Nat) (Z:Nat),bt (some (.slice (some ⟨0,0,none⟩) m cx)::some (.slice (some ⟨1,0,none⟩) n2 cd)::some (.int .i64 j)::aC 3 (some (.int .u32 0)::some (.int .i64 n2)::aC 1 (some (.int .u64 qt)::aC 1 (some (.int .u64 c)::some (.int .u32 b)::aC 88 (some (.slice (some ⟨1,0,none⟩) n2 cd)::some (.int .i64 n2)::some (.int .i64 i)::aC 90 []))))) tz∧hz=[some (.flat true m 1 (bk Z)),some (dB D)]∧n2 - i=mm∧((i≤n2∧c < 4294967296∧b≤1)∧Z < B ^ (j+n2+1)∧Z+qt*(D % B ^ i)*B ^ j=X+(b+c)*B ^ (j+i)),.inr ⟨[0,1],[0,1,2,6,7,9,11,12,101,102,103],?_⟩,?_⟩
      ·conv=>whnf
       intro _;conv=>whnf
       refine ⟨_,0,0,0,X,(.aa (.aa (.aa (.sk 3 (.aa (.aa (.sk 1 (.aa (.sk 1 (.aa (.aa (.sk 88 (.aa (.aa (.aa (.sk 90 .nil rfl)))) rfl))) rfl)) rfl))) rfl)))),rfl,rfl,?_⟩;exact ⟨⟨Nat.zero_le _,by decide,by decide⟩,F.fX,by simp [Nat.mod_one]⟩
      rintro mm aS _ ⟨i,c,b,Z,aw,rfl,rfl,⟨⟨hi,hc,hb⟩,hZ,he⟩⟩
      obtain ⟨az,rfl⟩:∃ az:Nat→Value,aS=.slice (some ⟨0,0,none⟩) m cx::.slice (some ⟨1,0,none⟩) n2 cd::.int .i64 j::zs az 3 3 (.int .u32 0::.int .i64 n2::zs az 8 1 (.int .u64 qt::zs az 10 1 (.int .u64 c::.int .u32 b::zs az 13 88 (.slice (some ⟨1,0,none⟩) n2 cd::.int .i64 n2::.int .i64 i::zs az 104 90 [])))):=bF aw;clear aw;conv=>whnf
      refine aI (fun h1=>?_) (fun h1=>?_)
      ·have h1:i < n2:=by simpa using h1
       conv=>whnf
       refine ⟨⟨by omega,by omega⟩,?_⟩
       simp only [toNat_cast,au,Nat.zero_add];conv=>whnf
       refine ⟨by show i < nl D; omega,?_⟩
       conv=>whnf
       obtain ⟨x,hx⟩:∃ x,x=al D i:=⟨_,rfl⟩;obtain ⟨l,hl⟩:∃ l,l=al Z (j+i):=⟨_,rfl⟩;obtain ⟨t,ht⟩:∃ t,t=c+qt*al D i:=⟨_,rfl⟩;have gZ:x < B:=by rw [hx]; exact cD D i
       have eH:l < 4294967296:=by rw [hl]; exact cD Z (j+i)
       obtain ⟨hv,fo⟩:=Bm (t:=t) hc hT.1 gZ (by rw [hx]; exact ht)
       have nT:t % B < 4294967296:=Nat.mod_lt _ (by decide)
       obtain ⟨d,hd⟩:∃ d,d=(l+2*4294967296 - t % B - b) % 4294967296:=⟨_,rfl⟩;obtain ⟨b',bB⟩:∃ b',b'=if l < t % B+b then 1 else 0:=⟨_,rfl⟩
       have dx:d < 4294967296:=by rw [hd]; exact Nat.mod_lt _ (by decide)
       have aq:=A4 (i:=i) (j:=j) (d:=d) (b':=b') he ht (by
        rw [← hl,bB,hB,← hB];clear he hZ ht hv;obtain ⟨u,hu⟩:∃ u,u=t % B:=⟨_,rfl⟩;rw [← hu] at hd nT ⊢
        split <;> omega)
       have gr:=lM hZ (show j+i < j+n2+1 by omega) (show d < B from dx)
       have dv:b'≤1:=by rw [bB]; split <;> omega
       have e6:IntKind.i64.wrap (((j:Nat):Int)+((i:Nat):Int))=((j+i:Nat):Int):=by rw [ax (by omega) (by omega)]; omega
       have e7:IntKind.i64.wrap (((i:Nat):Int)+1)=((i+1:Nat):Int):=by rw [ax (by omega) (by omega)]; omega
       rw [← hx];simp only [jZ _ gZ,hv,e6];refine ⟨⟨by omega,by omega⟩,?_⟩
       simp only [toNat_cast,au,Nat.zero_add];conv=>whnf
       refine ⟨by show j+i < m; omega,?_⟩
       conv=>whnf
       rw [← hl];simp only [dS];refine ⟨(l,t % B,b),rfl,⟨eH,nT,hb⟩,?_⟩;simp only [kQ,← hd,← bB,e6];conv=>whnf
       refine ⟨⟨by omega,by omega⟩,?_⟩
       simp only [toNat_cast,au,Nat.zero_add];conv=>whnf
       refine ⟨by show j+i < m; omega,?_⟩
       conv=>whnf
       simp only [b6,ju,e7];rw [fg dx];refine .inl ⟨_,?_,i+1,t / B,b',cB Z (j+i) d,(.aa (.aa (.aa (.sk 3 (.aa (.aa (.sk 1 (.aa (.sk 1 (.aa (.aa (.sk 88 (.aa (.aa (.aa (.sk 90 .nil rfl)))) rfl))) rfl)) rfl))) rfl)))),rfl,rfl,?_⟩
       ·omega
       ·exact ⟨⟨by omega,fo,dv⟩,gr,aq⟩
      ·have h1:i=n2:=by
        have h1:¬ i < n2:=by simpa using h1
        omega
       subst h1;obtain ⟨l,hl⟩:∃ l,l=al Z (j+i):=⟨_,rfl⟩;have eH:l < 4294967296:=by rw [hl]; exact cD Z (j+i)
       obtain ⟨d,hd⟩:∃ d,d=(l+2*4294967296 - c - b) % 4294967296:=⟨_,rfl⟩;obtain ⟨b',bB⟩:∃ b',b'=if l < c+b then 1 else 0:=⟨_,rfl⟩
       have dx:d < 4294967296:=by rw [hd]; exact Nat.mod_lt _ (by decide)
       have aq:=A5 (j:=j) (d:=d) (b':=b') (by rw [bJ]; exact bR D) hc he (by
        rw [← hl,bB,hB,← hB];clear he hZ
        split <;> omega)
       have gr:=lM hZ (show j+i < j+i+1 by omega) (show d < B from dx)
       have nU:c % B=c:=Nat.mod_eq_of_lt hc;have dv:b'≤1:=by rw [bB]; split <;> omega
       have vl:qt % B=qt:=Nat.mod_eq_of_lt hT.1;have hE:0 < D*B ^ j:=Nat.mul_pos F.z8 (dM j);have nV:Q=X / (D*B ^ j):=by rw [F.fQ,Nat.div_div_eq_div_mul,Nat.mul_comm]
       conv=>whnf
       simp only [e1];refine ⟨⟨by omega,by omega⟩,?_⟩
       simp only [toNat_cast,au,Nat.zero_add];conv=>whnf
       refine ⟨by show j+i < m; omega,?_⟩
       conv=>whnf
       rw [← hl];simp only [dS,nU];refine ⟨(l,c,b),rfl,⟨eH,hc,hb⟩,?_⟩;simp only [kQ,← hd,← bB,e1];conv=>whnf
       refine ⟨⟨by omega,by omega⟩,?_⟩
       simp only [toNat_cast,au,Nat.zero_add];conv=>whnf
       refine ⟨by show j+i < m; omega,?_⟩
       conv=>whnf
       rw [fg dx];refine aI (fun J=>?_) (fun J=>?_)
       ·have J:b'=0:=by
         have:=of_decide_eq_true J;omega
        clear bB;subst J;rw [Nat.zero_mul,Nat.add_zero] at aq;obtain ⟨g8,eU⟩:=AL hE aq (by rw [← nV]; exact hT.2.1)
        conv=>whnf
        simp only [dS,vl];exact q7 (i:=⟨X,m,cx,D,cd,j⟩) eU g8 rfl
       ·have J:b'=1:=by
         have:=of_decide_eq_false J;omega
        clear bB;subst J;rw [Nat.one_mul] at aq;obtain ⟨g8,eU⟩:=AM hE aq gr (by rw [← nV]; exact hT.2.2)
        obtain ⟨Y,hY⟩:∃ Y,Y=cB Z (j+i) d:=⟨_,rfl⟩;rw [← hY] at eU gr ⊢;clear aq he hZ hY hc hb hl eH hd dx nU;conv=>whnf
        refine .inl ⟨fun mm tz hz=>∃ (k:Nat) (c:Nat) (V:Nat),bt (some (.slice (some ⟨0,0,none⟩) m cx)::some (.slice (some ⟨1,0,none⟩) i cd)::some (.int .i64 j)::aC 3 (some (.int .u32 0)::some (.int .i64 i)::aC 1 (some (.int .u64 qt)::aC 5 (some (.int .u32 c)::aC 141 (some (.slice (some ⟨1,0,none⟩) i cd)::some (.int .i64 i)::some (.int .i64 k)::aC 34 []))))) tz∧hz=[some (.flat true m 1 (bk V)),some (dB D)]∧i - k=mm∧((k≤i∧c≤1)∧V < B ^ (j+i+1)∧V+c*B ^ (j+k)=Y+D % B ^ k*B ^ j),.inr ⟨[0,1],[0,1,2,6,7,9,15,157,158,159],?_⟩,?_⟩
        ·conv=>whnf
         intro _;conv=>whnf
         refine ⟨_,0,0,Y,(.aa (.aa (.aa (.sk 3 (.aa (.aa (.sk 1 (.aa (.sk 5 (.aa (.sk 141 (.aa (.aa (.aa (.sk 34 .nil rfl)))) rfl)) rfl)) rfl))) rfl)))),rfl,rfl,?_⟩;exact ⟨⟨Nat.zero_le _,by decide⟩,gr,by simp [Nat.mod_one]⟩
        rintro mm aS _ ⟨k,c,V,aw,rfl,rfl,⟨⟨hk,hc⟩,hV,he⟩⟩
        obtain ⟨az,rfl⟩:∃ az:Nat→Value,aS=.slice (some ⟨0,0,none⟩) m cx::.slice (some ⟨1,0,none⟩) i cd::.int .i64 j::zs az 3 3 (.int .u32 0::.int .i64 i::zs az 8 1 (.int .u64 qt::zs az 10 5 (.int .u32 c::zs az 16 141 (.slice (some ⟨1,0,none⟩) i cd::.int .i64 i::.int .i64 k::zs az 160 34 [])))):=bF aw;clear aw;conv=>whnf
        refine aI (fun h3=>?_) (fun h3=>?_)
        ·have h3:k < i:=by simpa using h3
         obtain ⟨x,hx⟩:∃ x,x=al D k:=⟨_,rfl⟩;obtain ⟨l,hl⟩:∃ l,l=al V (j+k):=⟨_,rfl⟩;have gZ:x < 4294967296:=by rw [hx]; exact cD D k
         have eH:l < 4294967296:=by rw [hl]; exact cD V (j+k)
         obtain ⟨t,ht⟩:∃ t,t=l+x+c:=⟨_,rfl⟩;have aq:=A6 (t:=t) (i:=k) (j:=j) he (by rw [← hl,← hx]; exact ht)
         have gJ:t % B < 4294967296:=Nat.mod_lt _ (by decide)
         have fo:t / B≤1:=by show t / 4294967296≤1; omega
         have vm:=lM hV (show j+k < j+i+1 by omega) (show t % B < B from gJ)
         have e6:IntKind.i64.wrap (((j:Nat):Int)+((k:Nat):Int))=((j+k:Nat):Int):=by rw [ax (by omega) (by omega)]; omega
         have e7:IntKind.i64.wrap (((k:Nat):Int)+1)=((k+1:Nat):Int):=by rw [ax (by omega) (by omega)]; omega
         conv=>whnf
         refine ⟨⟨by omega,by omega⟩,?_⟩
         simp only [toNat_cast,au,Nat.zero_add];conv=>whnf
         refine ⟨by show k < nl D; omega,?_⟩
         conv=>whnf
         simp only [e6];refine ⟨⟨by omega,by omega⟩,?_⟩
         simp only [toNat_cast,au,Nat.zero_add];conv=>whnf
         refine ⟨by show j+k < m; omega,?_⟩
         conv=>whnf
         rw [← hl,← hx];refine ⟨(l,x,c),rfl,⟨eH,gZ,hc⟩,?_⟩;simp only [tU,← ht,e6];conv=>whnf
         refine ⟨⟨by omega,by omega⟩,?_⟩
         simp only [toNat_cast,au,Nat.zero_add];conv=>whnf
         refine ⟨by show j+k < m; omega,?_⟩
         conv=>whnf
         simp only [e7];rw [show t % 4294967296=t % B from rfl,fg gJ]
         refine .inl ⟨_,?_,k+1,t / B,cB V (j+k) (t % B),(.aa (.aa (.aa (.sk 3 (.aa (.aa (.sk 1 (.aa (.sk 5 (.aa (.sk 141 (.aa (.aa (.aa (.sk 34 .nil rfl)))) rfl)) rfl)) rfl))) rfl)))),rfl,rfl,?_⟩
         ·omega
         ·exact ⟨⟨by omega,fo⟩,vm,aq⟩
        ·have h3:k=i:=by
          have h3:¬ k < i:=by simpa using h3
          omega
         subst h3;have kE:D < B ^ k:=by rw [bJ]; exact bR D
         have fK:=A7 (V:=V) (R:=X % (D*B ^ j)) (k:=j+k) hV (Nat.lt_of_lt_of_le (Nat.mod_lt _ hE) (by rw [Nat.add_comm,Nat.pow_add]; exact Nat.mul_le_mul_right _ (Nat.le_of_lt kE))) hc (by
          rw [he,Nat.mod_eq_of_lt kE]; exact eU)
         have gK:qt - 1=X / (D*B ^ j):=by rw [g8]; rfl
         have ep:IntKind.u64.wrap ((qt:Int) - 1)=((qt - 1:Nat):Int):=by
          have:1≤qt:=by rw [g8]; exact Nat.le_add_left _ _
          have:=hT.1;rw [bH (by omega) (by omega)]; omega
         have uO:(qt - 1) % B=qt - 1:=Nat.mod_eq_of_lt (by have:=hT.1; show qt - 1 < 4294967296; omega)
         conv=>whnf
         simp only [e1];refine ⟨⟨by omega,by omega⟩,?_⟩
         simp only [toNat_cast,au,Nat.zero_add];conv=>whnf
         refine ⟨by show j+k < m; omega,?_⟩
         conv=>whnf
         rw [show IntKind.u32.wrap (((al V (j+k):Nat):Int)+(c:Int))=(((al V (j+k)+c) % B:Nat):Int) from dS (al V (j+k)+c)]
         refine ⟨⟨by omega,by omega⟩,?_⟩
         simp only [toNat_cast,au,Nat.zero_add];conv=>whnf
         refine ⟨by show j+k < m; omega,?_⟩
         conv=>whnf
         simp only [ep,dS,uO];rw [fg (Nat.mod_lt _ (by decide)),fK]
         exact q7 (i:=⟨X,m,cx,D,cd,j⟩) rfl gK rfl
      skip
      skip
     ·rw [show (((((q - 1) / B:Nat):Int) == 0):Bool)=false by show decide ((((q - 1) / 4294967296:Nat):Int)=0)=false; exact decide_eq_false (by omega)]
      conv=>whnf
      refine .inr ⟨[0,1],[0,1,2,6,7,9,10],?_⟩;conv=>whnf
      intro _;conv=>whnf
      refine ⟨_,?_,q - 1,r+d1,(.aa (.aa (.aa (.sk 3 (.aa (.aa (.sk 1 (.aa (.aa (.sk 183 .nil rfl))) rfl))) rfl)))),rfl,rfl,?_⟩
      ·omega
      ·exact ⟨cA,by omega,by omega⟩
   ·rw [show decide ((qd:Int) > (Ag:Int))=false from decide_eq_false (by omega)]
    conv=>whnf
    obtain ⟨qt,nS⟩:∃ qt,qt=q:=⟨_,rfl⟩;have hT:qt < 4294967296∧Q≤qt∧qt≤Q+1:=by
     have h3:=oD (.inl (by rw [← qR]; show qd≤r*4294967296+w0; omega))
     exact ⟨by omega,by omega,by omega⟩
    rw [← nS];clear cN qR HT xH oD lJ he hr DD eZ nS;conv=>whnf
    refine .inl ⟨fun mm tz hz=>∃ (i:Nat) (c:Nat) (b:Nat) (Z:Nat),bt (some (.slice (some ⟨0,0,none⟩) m cx)::some (.slice (some ⟨1,0,none⟩) n2 cd)::some (.int .i64 j)::aC 3 (some (.int .u32 0)::some (.int .i64 n2)::aC 1 (some (.int .u64 qt)::aC 1 (some (.int .u64 c)::some (.int .u32 b)::aC 88 (some (.slice (some ⟨1,0,none⟩) n2 cd)::some (.int .i64 n2)::some (.int .i64 i)::aC 90 []))))) tz∧hz=[some (.flat true m 1 (bk Z)),some (dB D)]∧n2 - i=mm∧((i≤n2∧c < 4294967296∧b≤1)∧Z < B ^ (j+n2+1)∧Z+qt*(D % B ^ i)*B ^ j=X+(b+c)*B ^ (j+i)),.inr ⟨[0,1],[0,1,2,6,7,9,11,12,101,102,103],?_⟩,?_⟩
    ·conv=>whnf
     intro _;conv=>whnf
     refine ⟨_,0,0,0,X,(.aa (.aa (.aa (.sk 3 (.aa (.aa (.sk 1 (.aa (.sk 1 (.aa (.aa (.sk 88 (.aa (.aa (.aa (.sk 90 .nil rfl)))) rfl))) rfl)) rfl))) rfl)))),rfl,rfl,?_⟩;exact ⟨⟨Nat.zero_le _,by decide,by decide⟩,F.fX,by simp [Nat.mod_one]⟩
    rintro mm aS _ ⟨i,c,b,Z,aw,rfl,rfl,⟨⟨hi,hc,hb⟩,hZ,he⟩⟩
    obtain ⟨az,rfl⟩:∃ az:Nat→Value,aS=.slice (some ⟨0,0,none⟩) m cx::.slice (some ⟨1,0,none⟩) n2 cd::.int .i64 j::zs az 3 3 (.int .u32 0::.int .i64 n2::zs az 8 1 (.int .u64 qt::zs az 10 1 (.int .u64 c::.int .u32 b::zs az 13 88 (.slice (some ⟨1,0,none⟩) n2 cd::.int .i64 n2::.int .i64 i::zs az 104 90 [])))):=bF aw;clear aw;conv=>whnf
    refine aI (fun h1=>?_) (fun h1=>?_)
    ·have h1:i < n2:=by simpa using h1
     conv=>whnf
     refine ⟨⟨by omega,by omega⟩,?_⟩
     simp only [toNat_cast,au,Nat.zero_add];conv=>whnf
     refine ⟨by show i < nl D; omega,?_⟩
     conv=>whnf
     obtain ⟨x,hx⟩:∃ x,x=al D i:=⟨_,rfl⟩;obtain ⟨l,hl⟩:∃ l,l=al Z (j+i):=⟨_,rfl⟩;obtain ⟨t,ht⟩:∃ t,t=c+qt*al D i:=⟨_,rfl⟩;have gZ:x < B:=by rw [hx]; exact cD D i
     have eH:l < 4294967296:=by rw [hl]; exact cD Z (j+i)
     obtain ⟨hv,fo⟩:=Bm (t:=t) hc hT.1 gZ (by rw [hx]; exact ht)
     have nT:t % B < 4294967296:=Nat.mod_lt _ (by decide)
     obtain ⟨d,hd⟩:∃ d,d=(l+2*4294967296 - t % B - b) % 4294967296:=⟨_,rfl⟩;obtain ⟨b',bB⟩:∃ b',b'=if l < t % B+b then 1 else 0:=⟨_,rfl⟩
     have dx:d < 4294967296:=by rw [hd]; exact Nat.mod_lt _ (by decide)
     have aq:=A4 (i:=i) (j:=j) (d:=d) (b':=b') he ht (by
      rw [← hl,bB,hB,← hB];clear he hZ ht hv;obtain ⟨u,hu⟩:∃ u,u=t % B:=⟨_,rfl⟩;rw [← hu] at hd nT ⊢
      split <;> omega)
     have gr:=lM hZ (show j+i < j+n2+1 by omega) (show d < B from dx)
     have dv:b'≤1:=by rw [bB]; split <;> omega
     have e6:IntKind.i64.wrap (((j:Nat):Int)+((i:Nat):Int))=((j+i:Nat):Int):=by rw [ax (by omega) (by omega)]; omega
     have e7:IntKind.i64.wrap (((i:Nat):Int)+1)=((i+1:Nat):Int):=by rw [ax (by omega) (by omega)]; omega
     rw [← hx];simp only [jZ _ gZ,hv,e6];refine ⟨⟨by omega,by omega⟩,?_⟩
     simp only [toNat_cast,au,Nat.zero_add];conv=>whnf
     refine ⟨by show j+i < m; omega,?_⟩
     conv=>whnf
     rw [← hl];simp only [dS];refine ⟨(l,t % B,b),rfl,⟨eH,nT,hb⟩,?_⟩;simp only [kQ,← hd,← bB,e6];conv=>whnf
     refine ⟨⟨by omega,by omega⟩,?_⟩
     simp only [toNat_cast,au,Nat.zero_add];conv=>whnf
     refine ⟨by show j+i < m; omega,?_⟩
     conv=>whnf
     simp only [b6,ju,e7];rw [fg dx];refine .inl ⟨_,?_,i+1,t / B,b',cB Z (j+i) d,(.aa (.aa (.aa (.sk 3 (.aa (.aa (.sk 1 (.aa (.sk 1 (.aa (.aa (.sk 88 (.aa (.aa (.aa (.sk 90 .nil rfl)))) rfl))) rfl)) rfl))) rfl)))),rfl,rfl,?_⟩
     ·omega
     ·exact ⟨⟨by omega,fo,dv⟩,gr,aq⟩
    ·have h1:i=n2:=by
      have h1:¬ i < n2:=by simpa using h1
      omega
     subst h1;obtain ⟨l,hl⟩:∃ l,l=al Z (j+i):=⟨_,rfl⟩;have eH:l < 4294967296:=by rw [hl]; exact cD Z (j+i)
     obtain ⟨d,hd⟩:∃ d,d=(l+2*4294967296 - c - b) % 4294967296:=⟨_,rfl⟩;obtain ⟨b',bB⟩:∃ b',b'=if l < c+b then 1 else 0:=⟨_,rfl⟩
     have dx:d < 4294967296:=by rw [hd]; exact Nat.mod_lt _ (by decide)
     have aq:=A5 (j:=j) (d:=d) (b':=b') (by rw [bJ]; exact bR D) hc he (by
      rw [← hl,bB,hB,← hB];clear he hZ
      split <;> omega)
     have gr:=lM hZ (show j+i < j+i+1 by omega) (show d < B from dx)
     have nU:c % B=c:=Nat.mod_eq_of_lt hc;have dv:b'≤1:=by rw [bB]; split <;> omega
     have vl:qt % B=qt:=Nat.mod_eq_of_lt hT.1;have hE:0 < D*B ^ j:=Nat.mul_pos F.z8 (dM j);have nV:Q=X / (D*B ^ j):=by rw [F.fQ,Nat.div_div_eq_div_mul,Nat.mul_comm]
     conv=>whnf
     simp only [e1];refine ⟨⟨by omega,by omega⟩,?_⟩
     simp only [toNat_cast,au,Nat.zero_add];conv=>whnf
     refine ⟨by show j+i < m; omega,?_⟩
     conv=>whnf
     rw [← hl];simp only [dS,nU];refine ⟨(l,c,b),rfl,⟨eH,hc,hb⟩,?_⟩;simp only [kQ,← hd,← bB,e1];conv=>whnf
     refine ⟨⟨by omega,by omega⟩,?_⟩
     simp only [toNat_cast,au,Nat.zero_add];conv=>whnf
     refine ⟨by show j+i < m; omega,?_⟩
     conv=>whnf
     rw [fg dx];refine aI (fun J=>?_) (fun J=>?_)
     ·have J:b'=0:=by
       have:=of_decide_eq_true J;omega
      clear bB;subst J;rw [Nat.zero_mul,Nat.add_zero] at aq;obtain ⟨g8,eU⟩:=AL hE aq (by rw [← nV]; exact hT.2.1)
      conv=>whnf
      simp only [dS,vl];exact q7 (i:=⟨X,m,cx,D,cd,j⟩) eU g8 rfl
     ·have J:b'=1:=by
       have:=of_decide_eq_false J;omega
      clear bB;subst J;rw [Nat.one_mul] at aq;obtain ⟨g8,eU⟩:=AM hE aq gr (by rw [← nV]; exact hT.2.2)
      obtain ⟨Y,hY⟩:∃ Y,Y=cB Z (j+i) d:=⟨_,rfl⟩;rw [← hY] at eU gr ⊢;clear aq he hZ hY hc hb hl eH hd dx nU;conv=>whnf
      refine .inl ⟨fun mm tz hz=>∃ (k:Nat) (c:Nat) (V:Nat),bt (some (.slice (some ⟨0,0,none⟩) m cx)::some (.slice (some ⟨1,0,none⟩) i cd)::some (.int .i64 j)::aC 3 (some (.int .u32 0)::some (.int .i64 i)::aC 1 (some (.int .u64 qt)::aC 5 (some (.int .u32 c)::aC 141 (some (.slice (some ⟨1,0,none⟩) i cd)::some (.int .i64 i)::some (.int .i64 k)::aC 34 []))))) tz∧hz=[some (.flat true m 1 (bk V)),some (dB D)]∧i - k=mm∧((k≤i∧c≤1)∧V < B ^ (j+i+1)∧V+c*B ^ (j+k)=Y+D % B ^ k*B ^ j),.inr ⟨[0,1],[0,1,2,6,7,9,15,157,158,159],?_⟩,?_⟩
      ·conv=>whnf
       intro _;conv=>whnf
       refine ⟨_,0,0,Y,(.aa (.aa (.aa (.sk 3 (.aa (.aa (.sk 1 (.aa (.sk 5 (.aa (.sk 141 (.aa (.aa (.aa (.sk 34 .nil rfl)))) rfl)) rfl)) rfl))) rfl)))),rfl,rfl,?_⟩;exact ⟨⟨Nat.zero_le _,by decide⟩,gr,by simp [Nat.mod_one]⟩
      rintro mm aS _ ⟨k,c,V,aw,rfl,rfl,⟨⟨hk,hc⟩,hV,he⟩⟩
      obtain ⟨az,rfl⟩:∃ az:Nat→Value,aS=.slice (some ⟨0,0,none⟩) m cx::.slice (some ⟨1,0,none⟩) i cd::.int .i64 j::zs az 3 3 (.int .u32 0::.int .i64 i::zs az 8 1 (.int .u64 qt::zs az 10 5 (.int .u32 c::zs az 16 141 (.slice (some ⟨1,0,none⟩) i cd::.int .i64 i::.int .i64 k::zs az 160 34 [])))):=bF aw;clear aw;conv=>whnf
      refine aI (fun h3=>?_) (fun h3=>?_)
      ·have h3:k < i:=by simpa using h3
       obtain ⟨x,hx⟩:∃ x,x=al D k:=⟨_,rfl⟩;obtain ⟨l,hl⟩:∃ l,l=al V (j+k):=⟨_,rfl⟩;have gZ:x < 4294967296:=by rw [hx]; exact cD D k
       have eH:l < 4294967296:=by rw [hl]; exact cD V (j+k)
       obtain ⟨t,ht⟩:∃ t,t=l+x+c:=⟨_,rfl⟩;have aq:=A6 (t:=t) (i:=k) (j:=j) he (by rw [← hl,← hx]; exact ht)
       have gJ:t % B < 4294967296:=Nat.mod_lt _ (by decide)
       have fo:t / B≤1:=by show t / 4294967296≤1; omega
       have vm:=lM hV (show j+k < j+i+1 by omega) (show t % B < B from gJ)
       have e6:IntKind.i64.wrap (((j:Nat):Int)+((k:Nat):Int))=((j+k:Nat):Int):=by rw [ax (by omega) (by omega)]; omega
       have e7:IntKind.i64.wrap (((k:Nat):Int)+1)=((k+1:Nat):Int):=by rw [ax (by omega) (by omega)]; omega
       conv=>whnf
       refine ⟨⟨by omega,by omega⟩,?_⟩
       simp only [toNat_cast,au,Nat.zero_add];conv=>whnf
       refine ⟨by show k < nl D; omega,?_⟩
       conv=>whnf
       simp only [e6];refine ⟨⟨by omega,by omega⟩,?_⟩
       simp only [toNat_cast,au,Nat.zero_add];conv=>whnf
       refine ⟨by show j+k < m; omega,?_⟩
       conv=>whnf
       rw [← hl,← hx];refine ⟨(l,x,c),rfl,⟨eH,gZ,hc⟩,?_⟩;simp only [tU,← ht,e6];conv=>whnf
       refine ⟨⟨by omega,by omega⟩,?_⟩
       simp only [toNat_cast,au,Nat.zero_add];conv=>whnf
       refine ⟨by show j+k < m; omega,?_⟩
       conv=>whnf
       simp only [e7];rw [show t % 4294967296=t % B from rfl,fg gJ]
       refine .inl ⟨_,?_,k+1,t / B,cB V (j+k) (t % B),(.aa (.aa (.aa (.sk 3 (.aa (.aa (.sk 1 (.aa (.sk 5 (.aa (.sk 141 (.aa (.aa (.aa (.sk 34 .nil rfl)))) rfl)) rfl)) rfl))) rfl)))),rfl,rfl,?_⟩
       ·omega
       ·exact ⟨⟨by omega,fo⟩,vm,aq⟩
      ·have h3:k=i:=by
        have h3:¬ k < i:=by simpa using h3
        omega
       subst h3;have kE:D < B ^ k:=by rw [bJ]; exact bR D
       have fK:=A7 (V:=V) (R:=X % (D*B ^ j)) (k:=j+k) hV (Nat.lt_of_lt_of_le (Nat.mod_lt _ hE) (by rw [Nat.add_comm,Nat.pow_add]; exact Nat.mul_le_mul_right _ (Nat.le_of_lt kE))) hc (by
        rw [he,Nat.mod_eq_of_lt kE]; exact eU)
       have gK:qt - 1=X / (D*B ^ j):=by rw [g8]; rfl
       have ep:IntKind.u64.wrap ((qt:Int) - 1)=((qt - 1:Nat):Int):=by
        have:1≤qt:=by rw [g8]; exact Nat.le_add_left _ _
        have:=hT.1;rw [bH (by omega) (by omega)]; omega
       have uO:(qt - 1) % B=qt - 1:=Nat.mod_eq_of_lt (by have:=hT.1; show qt - 1 < 4294967296; omega)
       conv=>whnf
       simp only [e1];refine ⟨⟨by omega,by omega⟩,?_⟩
       simp only [toNat_cast,au,Nat.zero_add];conv=>whnf
       refine ⟨by show j+k < m; omega,?_⟩
       conv=>whnf
       rw [show IntKind.u32.wrap (((al V (j+k):Nat):Int)+(c:Int))=(((al V (j+k)+c) % B:Nat):Int) from dS (al V (j+k)+c)]
       refine ⟨⟨by omega,by omega⟩,?_⟩
       simp only [toNat_cast,au,Nat.zero_add];conv=>whnf
       refine ⟨by show j+k < m; omega,?_⟩
       conv=>whnf
       simp only [ep,dS,uO];rw [fg (Nat.mod_lt _ (by decide)),fK]
       exact q7 (i:=⟨X,m,cx,D,cd,j⟩) rfl gK rfl
    skip
    skip
  ·rw [show (((((r / B:Nat):Int) == 0):Bool))=false by show decide (((r / 4294967296:Nat):Int)=0)=false; exact decide_eq_false (by omega)]
   conv=>whnf
   obtain ⟨qt,nS⟩:∃ qt,qt=q:=⟨_,rfl⟩;have hT:qt < 4294967296∧Q≤qt∧qt≤Q+1:=⟨by omega,by omega,by have:=oD (.inr lJ); omega⟩
   rw [← nS];clear xH oD lJ he hr DD eZ nS;conv=>whnf
   refine .inl ⟨fun mm tz hz=>∃ (i:Nat) (c:Nat) (b:Nat) (Z:Nat),bt (some (.slice (some ⟨0,0,none⟩) m cx)::some (.slice (some ⟨1,0,none⟩) n2 cd)::some (.int .i64 j)::aC 3 (some (.int .u32 0)::some (.int .i64 n2)::aC 1 (some (.int .u64 qt)::aC 1 (some (.int .u64 c)::some (.int .u32 b)::aC 88 (some (.slice (some ⟨1,0,none⟩) n2 cd)::some (.int .i64 n2)::some (.int .i64 i)::aC 90 []))))) tz∧hz=[some (.flat true m 1 (bk Z)),some (dB D)]∧n2 - i=mm∧((i≤n2∧c < 4294967296∧b≤1)∧Z < B ^ (j+n2+1)∧Z+qt*(D % B ^ i)*B ^ j=X+(b+c)*B ^ (j+i)),.inr ⟨[0,1],[0,1,2,6,7,9,11,12,101,102,103],?_⟩,?_⟩
   ·conv=>whnf
    intro _;conv=>whnf
    refine ⟨_,0,0,0,X,(.aa (.aa (.aa (.sk 3 (.aa (.aa (.sk 1 (.aa (.sk 1 (.aa (.aa (.sk 88 (.aa (.aa (.aa (.sk 90 .nil rfl)))) rfl))) rfl)) rfl))) rfl)))),rfl,rfl,?_⟩;exact ⟨⟨Nat.zero_le _,by decide,by decide⟩,F.fX,by simp [Nat.mod_one]⟩
   rintro mm aS _ ⟨i,c,b,Z,aw,rfl,rfl,⟨⟨hi,hc,hb⟩,hZ,he⟩⟩
   obtain ⟨az,rfl⟩:∃ az:Nat→Value,aS=.slice (some ⟨0,0,none⟩) m cx::.slice (some ⟨1,0,none⟩) n2 cd::.int .i64 j::zs az 3 3 (.int .u32 0::.int .i64 n2::zs az 8 1 (.int .u64 qt::zs az 10 1 (.int .u64 c::.int .u32 b::zs az 13 88 (.slice (some ⟨1,0,none⟩) n2 cd::.int .i64 n2::.int .i64 i::zs az 104 90 [])))):=bF aw;clear aw;conv=>whnf
   refine aI (fun h1=>?_) (fun h1=>?_)
   ·have h1:i < n2:=by simpa using h1
    conv=>whnf
    refine ⟨⟨by omega,by omega⟩,?_⟩
    simp only [toNat_cast,au,Nat.zero_add];conv=>whnf
    refine ⟨by show i < nl D; omega,?_⟩
    conv=>whnf
    obtain ⟨x,hx⟩:∃ x,x=al D i:=⟨_,rfl⟩;obtain ⟨l,hl⟩:∃ l,l=al Z (j+i):=⟨_,rfl⟩;obtain ⟨t,ht⟩:∃ t,t=c+qt*al D i:=⟨_,rfl⟩;have gZ:x < B:=by rw [hx]; exact cD D i
    have eH:l < 4294967296:=by rw [hl]; exact cD Z (j+i)
    obtain ⟨hv,fo⟩:=Bm (t:=t) hc hT.1 gZ (by rw [hx]; exact ht)
    have nT:t % B < 4294967296:=Nat.mod_lt _ (by decide)
    obtain ⟨d,hd⟩:∃ d,d=(l+2*4294967296 - t % B - b) % 4294967296:=⟨_,rfl⟩;obtain ⟨b',bB⟩:∃ b',b'=if l < t % B+b then 1 else 0:=⟨_,rfl⟩
    have dx:d < 4294967296:=by rw [hd]; exact Nat.mod_lt _ (by decide)
    have aq:=A4 (i:=i) (j:=j) (d:=d) (b':=b') he ht (by
     rw [← hl,bB,hB,← hB];clear he hZ ht hv;obtain ⟨u,hu⟩:∃ u,u=t % B:=⟨_,rfl⟩;rw [← hu] at hd nT ⊢
     split <;> omega)
    have gr:=lM hZ (show j+i < j+n2+1 by omega) (show d < B from dx)
    have dv:b'≤1:=by rw [bB]; split <;> omega
    have e6:IntKind.i64.wrap (((j:Nat):Int)+((i:Nat):Int))=((j+i:Nat):Int):=by rw [ax (by omega) (by omega)]; omega
    have e7:IntKind.i64.wrap (((i:Nat):Int)+1)=((i+1:Nat):Int):=by rw [ax (by omega) (by omega)]; omega
    rw [← hx];simp only [jZ _ gZ,hv,e6];refine ⟨⟨by omega,by omega⟩,?_⟩
    simp only [toNat_cast,au,Nat.zero_add];conv=>whnf
    refine ⟨by show j+i < m; omega,?_⟩
    conv=>whnf
    rw [← hl];simp only [dS];refine ⟨(l,t % B,b),rfl,⟨eH,nT,hb⟩,?_⟩;simp only [kQ,← hd,← bB,e6];conv=>whnf
    refine ⟨⟨by omega,by omega⟩,?_⟩
    simp only [toNat_cast,au,Nat.zero_add];conv=>whnf
    refine ⟨by show j+i < m; omega,?_⟩
    conv=>whnf
    simp only [b6,ju,e7];rw [fg dx];refine .inl ⟨_,?_,i+1,t / B,b',cB Z (j+i) d,(.aa (.aa (.aa (.sk 3 (.aa (.aa (.sk 1 (.aa (.sk 1 (.aa (.aa (.sk 88 (.aa (.aa (.aa (.sk 90 .nil rfl)))) rfl))) rfl)) rfl))) rfl)))),rfl,rfl,?_⟩
    ·omega
    ·exact ⟨⟨by omega,fo,dv⟩,gr,aq⟩
   ·have h1:i=n2:=by
     have h1:¬ i < n2:=by simpa using h1
     omega
    subst h1;obtain ⟨l,hl⟩:∃ l,l=al Z (j+i):=⟨_,rfl⟩;have eH:l < 4294967296:=by rw [hl]; exact cD Z (j+i)
    obtain ⟨d,hd⟩:∃ d,d=(l+2*4294967296 - c - b) % 4294967296:=⟨_,rfl⟩;obtain ⟨b',bB⟩:∃ b',b'=if l < c+b then 1 else 0:=⟨_,rfl⟩
    have dx:d < 4294967296:=by rw [hd]; exact Nat.mod_lt _ (by decide)
    have aq:=A5 (j:=j) (d:=d) (b':=b') (by rw [bJ]; exact bR D) hc he (by
     rw [← hl,bB,hB,← hB];clear he hZ
     split <;> omega)
    have gr:=lM hZ (show j+i < j+i+1 by omega) (show d < B from dx)
    have nU:c % B=c:=Nat.mod_eq_of_lt hc;have dv:b'≤1:=by rw [bB]; split <;> omega
    have vl:qt % B=qt:=Nat.mod_eq_of_lt hT.1;have hE:0 < D*B ^ j:=Nat.mul_pos F.z8 (dM j);have nV:Q=X / (D*B ^ j):=by rw [F.fQ,Nat.div_div_eq_div_mul,Nat.mul_comm]
    conv=>whnf
    simp only [e1];refine ⟨⟨by omega,by omega⟩,?_⟩
    simp only [toNat_cast,au,Nat.zero_add];conv=>whnf
    refine ⟨by show j+i < m; omega,?_⟩
    conv=>whnf
    rw [← hl];simp only [dS,nU];refine ⟨(l,c,b),rfl,⟨eH,hc,hb⟩,?_⟩;simp only [kQ,← hd,← bB,e1];conv=>whnf
    refine ⟨⟨by omega,by omega⟩,?_⟩
    simp only [toNat_cast,au,Nat.zero_add];conv=>whnf
    refine ⟨by show j+i < m; omega,?_⟩
    conv=>whnf
    rw [fg dx];refine aI (fun J=>?_) (fun J=>?_)
    ·have J:b'=0:=by
      have:=of_decide_eq_true J;omega
     clear bB;subst J;rw [Nat.zero_mul,Nat.add_zero] at aq;obtain ⟨g8,eU⟩:=AL hE aq (by rw [← nV]; exact hT.2.1)
     conv=>whnf
     simp only [dS,vl];exact q7 (i:=⟨X,m,cx,D,cd,j⟩) eU g8 rfl
    ·have J:b'=1:=by
      have:=of_decide_eq_false J;omega
     clear bB;subst J;rw [Nat.one_mul] at aq;obtain ⟨g8,eU⟩:=AM hE aq gr (by rw [← nV]; exact hT.2.2)
     obtain ⟨Y,hY⟩:∃ Y,Y=cB Z (j+i) d:=⟨_,rfl⟩;rw [← hY] at eU gr ⊢;clear aq he hZ hY hc hb hl eH hd dx nU;conv=>whnf
     refine .inl ⟨fun mm tz hz=>∃ (k:Nat) (c:Nat) (V:Nat),bt (some (.slice (some ⟨0,0,none⟩) m cx)::some (.slice (some ⟨1,0,none⟩) i cd)::some (.int .i64 j)::aC 3 (some (.int .u32 0)::some (.int .i64 i)::aC 1 (some (.int .u64 qt)::aC 5 (some (.int .u32 c)::aC 141 (some (.slice (some ⟨1,0,none⟩) i cd)::some (.int .i64 i)::some (.int .i64 k)::aC 34 []))))) tz∧hz=[some (.flat true m 1 (bk V)),some (dB D)]∧i - k=mm∧((k≤i∧c≤1)∧V < B ^ (j+i+1)∧V+c*B ^ (j+k)=Y+D % B ^ k*B ^ j),.inr ⟨[0,1],[0,1,2,6,7,9,15,157,158,159],?_⟩,?_⟩
     ·conv=>whnf
      intro _;conv=>whnf
      refine ⟨_,0,0,Y,(.aa (.aa (.aa (.sk 3 (.aa (.aa (.sk 1 (.aa (.sk 5 (.aa (.sk 141 (.aa (.aa (.aa (.sk 34 .nil rfl)))) rfl)) rfl)) rfl))) rfl)))),rfl,rfl,?_⟩;exact ⟨⟨Nat.zero_le _,by decide⟩,gr,by simp [Nat.mod_one]⟩
     rintro mm aS _ ⟨k,c,V,aw,rfl,rfl,⟨⟨hk,hc⟩,hV,he⟩⟩
     obtain ⟨az,rfl⟩:∃ az:Nat→Value,aS=.slice (some ⟨0,0,none⟩) m cx::.slice (some ⟨1,0,none⟩) i cd::.int .i64 j::zs az 3 3 (.int .u32 0::.int .i64 i::zs az 8 1 (.int .u64 qt::zs az 10 5 (.int .u32 c::zs az 16 141 (.slice (some ⟨1,0,none⟩) i cd::.int .i64 i::.int .i64 k::zs az 160 34 [])))):=bF aw;clear aw;conv=>whnf
     refine aI (fun h3=>?_) (fun h3=>?_)
     ·have h3:k < i:=by simpa using h3
      obtain ⟨x,hx⟩:∃ x,x=al D k:=⟨_,rfl⟩;obtain ⟨l,hl⟩:∃ l,l=al V (j+k):=⟨_,rfl⟩;have gZ:x < 4294967296:=by rw [hx]; exact cD D k
      have eH:l < 4294967296:=by rw [hl]; exact cD V (j+k)
      obtain ⟨t,ht⟩:∃ t,t=l+x+c:=⟨_,rfl⟩;have aq:=A6 (t:=t) (i:=k) (j:=j) he (by rw [← hl,← hx]; exact ht)
      have gJ:t % B < 4294967296:=Nat.mod_lt _ (by decide)
      have fo:t / B≤1:=by show t / 4294967296≤1; omega
      have vm:=lM hV (show j+k < j+i+1 by omega) (show t % B < B from gJ)
      have e6:IntKind.i64.wrap (((j:Nat):Int)+((k:Nat):Int))=((j+k:Nat):Int):=by rw [ax (by omega) (by omega)]; omega
      have e7:IntKind.i64.wrap (((k:Nat):Int)+1)=((k+1:Nat):Int):=by rw [ax (by omega) (by omega)]; omega
      conv=>whnf
      refine ⟨⟨by omega,by omega⟩,?_⟩
      simp only [toNat_cast,au,Nat.zero_add];conv=>whnf
      refine ⟨by show k < nl D; omega,?_⟩
      conv=>whnf
      simp only [e6];refine ⟨⟨by omega,by omega⟩,?_⟩
      simp only [toNat_cast,au,Nat.zero_add];conv=>whnf
      refine ⟨by show j+k < m; omega,?_⟩
      conv=>whnf
      rw [← hl,← hx];refine ⟨(l,x,c),rfl,⟨eH,gZ,hc⟩,?_⟩;simp only [tU,← ht,e6];conv=>whnf
      refine ⟨⟨by omega,by omega⟩,?_⟩
      simp only [toNat_cast,au,Nat.zero_add];conv=>whnf
      refine ⟨by show j+k < m; omega,?_⟩
      conv=>whnf
      simp only [e7];rw [show t % 4294967296=t % B from rfl,fg gJ]
      refine .inl ⟨_,?_,k+1,t / B,cB V (j+k) (t % B),(.aa (.aa (.aa (.sk 3 (.aa (.aa (.sk 1 (.aa (.sk 5 (.aa (.sk 141 (.aa (.aa (.aa (.sk 34 .nil rfl)))) rfl)) rfl)) rfl))) rfl)))),rfl,rfl,?_⟩
      ·omega
      ·exact ⟨⟨by omega,fo⟩,vm,aq⟩
     ·have h3:k=i:=by
       have h3:¬ k < i:=by simpa using h3
       omega
      subst h3;have kE:D < B ^ k:=by rw [bJ]; exact bR D
      have fK:=A7 (V:=V) (R:=X % (D*B ^ j)) (k:=j+k) hV (Nat.lt_of_lt_of_le (Nat.mod_lt _ hE) (by rw [Nat.add_comm,Nat.pow_add]; exact Nat.mul_le_mul_right _ (Nat.le_of_lt kE))) hc (by
       rw [he,Nat.mod_eq_of_lt kE]; exact eU)
      have gK:qt - 1=X / (D*B ^ j):=by rw [g8]; rfl
      have ep:IntKind.u64.wrap ((qt:Int) - 1)=((qt - 1:Nat):Int):=by
       have:1≤qt:=by rw [g8]; exact Nat.le_add_left _ _
       have:=hT.1;rw [bH (by omega) (by omega)]; omega
      have uO:(qt - 1) % B=qt - 1:=Nat.mod_eq_of_lt (by have:=hT.1; show qt - 1 < 4294967296; omega)
      conv=>whnf
      simp only [e1];refine ⟨⟨by omega,by omega⟩,?_⟩
      simp only [toNat_cast,au,Nat.zero_add];conv=>whnf
      refine ⟨by show j+k < m; omega,?_⟩
      conv=>whnf
      rw [show IntKind.u32.wrap (((al V (j+k):Nat):Int)+(c:Int))=(((al V (j+k)+c) % B:Nat):Int) from dS (al V (j+k)+c)]
      refine ⟨⟨by omega,by omega⟩,?_⟩
      simp only [toNat_cast,au,Nat.zero_add];conv=>whnf
      refine ⟨by show j+k < m; omega,?_⟩
      conv=>whnf
      simp only [ep,dS,uO];rw [fg (Nat.mod_lt _ (by decide)),fK]
      exact q7 (i:=⟨X,m,cx,D,cd,j⟩) rfl gK rfl
   skip
   skip
 ·have ak:Q < q:=by have:=F.fB; omega
  rw [show decide (((q / B:Nat):Int) > 0)=true from decide_eq_true (by show (((q / 4294967296:Nat):Int) > 0); omega)]
  conv=>whnf
  have ep:IntKind.u64.wrap ((q:Int) - 1)=((q - 1:Nat):Int):=by rw [bH (by omega) (by omega)]; omega
  have cA:(q - 1)*d1+(r+d1)=top:=by
   have h1:(q - 1)*d1+d1=q*d1:=by
    conv=>rhs; rw [show q=(q - 1)+1 by omega,Nat.add_mul,Nat.one_mul]
   omega
  have eU:r+d1 < 18446744073709551616:=Nat.lt_of_le_of_lt (Nat.le_trans (Nat.le_add_left _ _) (Nat.le_of_eq cA)) Hf;have er:IntKind.u64.wrap ((r:Int)+(d1:Int))=((r+d1:Nat):Int):=by rw [bH (by omega) (by omega)]; omega
  simp only [ep,e4];refine ⟨⟨by omega,by omega⟩,?_⟩
  simp only [toNat_cast,au,Nat.zero_add];conv=>whnf
  refine ⟨by show n1 < nl D; omega,?_⟩
  conv=>whnf
  simp only [jZ _ zo];rw [← fG,er];simp only [b6,ju];rcases Nat.lt_or_ge (r+d1) 4294967296 with lJ | lJ
  ·rw [show decide ((((r+d1) / B:Nat):Int) > 0)=false from decide_eq_false (by show ¬ ((((r+d1) / 4294967296:Nat):Int) > 0); omega)]
   conv=>whnf
   refine .inr ⟨[0,1],[0,1,2,6,7,9,10],?_⟩;conv=>whnf
   intro _;conv=>whnf
   refine ⟨_,?_,q - 1,r+d1,(.aa (.aa (.aa (.sk 3 (.aa (.aa (.sk 1 (.aa (.aa (.sk 183 .nil rfl))) rfl))) rfl)))),rfl,rfl,?_⟩
   ·omega
   ·exact ⟨cA,by omega,by omega⟩
  ·rw [show decide ((((r+d1) / B:Nat):Int) > 0)=true from decide_eq_true (by show ((((r+d1) / 4294967296:Nat):Int) > 0); omega)]
   conv=>whnf
   simp only [b6,ju];rcases Nat.lt_or_ge (q - 1) 4294967296 with uN | uN
   ·rw [show (((((q - 1) / B:Nat):Int) == 0):Bool)=true by show decide ((((q - 1) / 4294967296:Nat):Int)=0)=true; exact decide_eq_true (by omega)]
    conv=>whnf
    obtain ⟨qt,nS⟩:∃ qt,qt=q - 1:=⟨_,rfl⟩;have hT:qt < 4294967296∧Q≤qt∧qt≤Q+1:=by
     have h3:q - 1≤X / B ^ j / D+1:=F8 (dM n) F.fW F.fD cA uN F.fP C5 (.inl lJ);rw [← F.fQ] at h3;omega
    rw [← nS];clear xH uN ak ep cA eU er lJ he hr DD eZ nS;conv=>whnf
    refine .inl ⟨fun mm tz hz=>∃ (i:Nat) (c:Nat) (b:Nat) (Z:Nat),bt (some (.slice (some ⟨0,0,none⟩) m cx)::some (.slice (some ⟨1,0,none⟩) n2 cd)::some (.int .i64 j)::aC 3 (some (.int .u32 0)::some (.int .i64 n2)::aC 1 (some (.int .u64 qt)::aC 1 (some (.int .u64 c)::some (.int .u32 b)::aC 88 (some (.slice (some ⟨1,0,none⟩) n2 cd)::some (.int .i64 n2)::some (.int .i64 i)::aC 90 []))))) tz∧hz=[some (.flat true m 1 (bk Z)),some (dB D)]∧n2 - i=mm∧((i≤n2∧c < 4294967296∧b≤1)∧Z < B ^ (j+n2+1)∧Z+qt*(D % B ^ i)*B ^ j=X+(b+c)*B ^ (j+i)),.inr ⟨[0,1],[0,1,2,6,7,9,11,12,101,102,103],?_⟩,?_⟩
    ·conv=>whnf
     intro _;conv=>whnf
     refine ⟨_,0,0,0,X,(.aa (.aa (.aa (.sk 3 (.aa (.aa (.sk 1 (.aa (.sk 1 (.aa (.aa (.sk 88 (.aa (.aa (.aa (.sk 90 .nil rfl)))) rfl))) rfl)) rfl))) rfl)))),rfl,rfl,?_⟩;exact ⟨⟨Nat.zero_le _,by decide,by decide⟩,F.fX,by simp [Nat.mod_one]⟩
    rintro mm aS _ ⟨i,c,b,Z,aw,rfl,rfl,⟨⟨hi,hc,hb⟩,hZ,he⟩⟩
    obtain ⟨az,rfl⟩:∃ az:Nat→Value,aS=.slice (some ⟨0,0,none⟩) m cx::.slice (some ⟨1,0,none⟩) n2 cd::.int .i64 j::zs az 3 3 (.int .u32 0::.int .i64 n2::zs az 8 1 (.int .u64 qt::zs az 10 1 (.int .u64 c::.int .u32 b::zs az 13 88 (.slice (some ⟨1,0,none⟩) n2 cd::.int .i64 n2::.int .i64 i::zs az 104 90 [])))):=bF aw;clear aw;conv=>whnf
    refine aI (fun h1=>?_) (fun h1=>?_)
    ·have h1:i < n2:=by simpa using h1
     conv=>whnf
     refine ⟨⟨by omega,by omega⟩,?_⟩
     simp only [toNat_cast,au,Nat.zero_add];conv=>whnf
     refine ⟨by show i < nl D; omega,?_⟩
     conv=>whnf
     obtain ⟨x,hx⟩:∃ x,x=al D i:=⟨_,rfl⟩;obtain ⟨l,hl⟩:∃ l,l=al Z (j+i):=⟨_,rfl⟩;obtain ⟨t,ht⟩:∃ t,t=c+qt*al D i:=⟨_,rfl⟩;have gZ:x < B:=by rw [hx]; exact cD D i
     have eH:l < 4294967296:=by rw [hl]; exact cD Z (j+i)
     obtain ⟨hv,fo⟩:=Bm (t:=t) hc hT.1 gZ (by rw [hx]; exact ht)
     have nT:t % B < 4294967296:=Nat.mod_lt _ (by decide)
     obtain ⟨d,hd⟩:∃ d,d=(l+2*4294967296 - t % B - b) % 4294967296:=⟨_,rfl⟩;obtain ⟨b',bB⟩:∃ b',b'=if l < t % B+b then 1 else 0:=⟨_,rfl⟩
     have dx:d < 4294967296:=by rw [hd]; exact Nat.mod_lt _ (by decide)
     have aq:=A4 (i:=i) (j:=j) (d:=d) (b':=b') he ht (by
      rw [← hl,bB,hB,← hB];clear he hZ ht hv;obtain ⟨u,hu⟩:∃ u,u=t % B:=⟨_,rfl⟩;rw [← hu] at hd nT ⊢
      split <;> omega)
     have gr:=lM hZ (show j+i < j+n2+1 by omega) (show d < B from dx)
     have dv:b'≤1:=by rw [bB]; split <;> omega
     have e6:IntKind.i64.wrap (((j:Nat):Int)+((i:Nat):Int))=((j+i:Nat):Int):=by rw [ax (by omega) (by omega)]; omega
     have e7:IntKind.i64.wrap (((i:Nat):Int)+1)=((i+1:Nat):Int):=by rw [ax (by omega) (by omega)]; omega
     rw [← hx];simp only [jZ _ gZ,hv,e6];refine ⟨⟨by omega,by omega⟩,?_⟩
     simp only [toNat_cast,au,Nat.zero_add];conv=>whnf
     refine ⟨by show j+i < m; omega,?_⟩
     conv=>whnf
     rw [← hl];simp only [dS];refine ⟨(l,t % B,b),rfl,⟨eH,nT,hb⟩,?_⟩;simp only [kQ,← hd,← bB,e6];conv=>whnf
     refine ⟨⟨by omega,by omega⟩,?_⟩
     simp only [toNat_cast,au,Nat.zero_add];conv=>whnf
     refine ⟨by show j+i < m; omega,?_⟩
     conv=>whnf
     simp only [b6,ju,e7];rw [fg dx];refine .inl ⟨_,?_,i+1,t / B,b',cB Z (j+i) d,(.aa (.aa (.aa (.sk 3 (.aa (.aa (.sk 1 (.aa (.sk 1 (.aa (.aa (.sk 88 (.aa (.aa (.aa (.sk 90 .nil rfl)))) rfl))) rfl)) rfl))) rfl)))),rfl,rfl,?_⟩
     ·omega
     ·exact ⟨⟨by omega,fo,dv⟩,gr,aq⟩
    ·have h1:i=n2:=by
      have h1:¬ i < n2:=by simpa using h1
      omega
     subst h1;obtain ⟨l,hl⟩:∃ l,l=al Z (j+i):=⟨_,rfl⟩;have eH:l < 4294967296:=by rw [hl]; exact cD Z (j+i)
     obtain ⟨d,hd⟩:∃ d,d=(l+2*4294967296 - c - b) % 4294967296:=⟨_,rfl⟩;obtain ⟨b',bB⟩:∃ b',b'=if l < c+b then 1 else 0:=⟨_,rfl⟩
     have dx:d < 4294967296:=by rw [hd]; exact Nat.mod_lt _ (by decide)
     have aq:=A5 (j:=j) (d:=d) (b':=b') (by rw [bJ]; exact bR D) hc he (by
      rw [← hl,bB,hB,← hB];clear he hZ
      split <;> omega)
     have gr:=lM hZ (show j+i < j+i+1 by omega) (show d < B from dx)
     have nU:c % B=c:=Nat.mod_eq_of_lt hc;have dv:b'≤1:=by rw [bB]; split <;> omega
     have vl:qt % B=qt:=Nat.mod_eq_of_lt hT.1;have hE:0 < D*B ^ j:=Nat.mul_pos F.z8 (dM j);have nV:Q=X / (D*B ^ j):=by rw [F.fQ,Nat.div_div_eq_div_mul,Nat.mul_comm]
     conv=>whnf
     simp only [e1];refine ⟨⟨by omega,by omega⟩,?_⟩
     simp only [toNat_cast,au,Nat.zero_add];conv=>whnf
     refine ⟨by show j+i < m; omega,?_⟩
     conv=>whnf
     rw [← hl];simp only [dS,nU];refine ⟨(l,c,b),rfl,⟨eH,hc,hb⟩,?_⟩;simp only [kQ,← hd,← bB,e1];conv=>whnf
     refine ⟨⟨by omega,by omega⟩,?_⟩
     simp only [toNat_cast,au,Nat.zero_add];conv=>whnf
     refine ⟨by show j+i < m; omega,?_⟩
     conv=>whnf
     rw [fg dx];refine aI (fun J=>?_) (fun J=>?_)
     ·have J:b'=0:=by
       have:=of_decide_eq_true J;omega
      clear bB;subst J;rw [Nat.zero_mul,Nat.add_zero] at aq;obtain ⟨g8,eU⟩:=AL hE aq (by rw [← nV]; exact hT.2.1)
      conv=>whnf
      simp only [dS,vl];exact q7 (i:=⟨X,m,cx,D,cd,j⟩) eU g8 rfl
     ·have J:b'=1:=by
       have:=of_decide_eq_false J;omega
      clear bB;subst J;rw [Nat.one_mul] at aq;obtain ⟨g8,eU⟩:=AM hE aq gr (by rw [← nV]; exact hT.2.2)
      obtain ⟨Y,hY⟩:∃ Y,Y=cB Z (j+i) d:=⟨_,rfl⟩;rw [← hY] at eU gr ⊢;clear aq he hZ hY hc hb hl eH hd dx nU;conv=>whnf
      refine .inl ⟨fun mm tz hz=>∃ (k:Nat) (c:Nat) (V:Nat),bt (some (.slice (some ⟨0,0,none⟩) m cx)::some (.slice (some ⟨1,0,none⟩) i cd)::some (.int .i64 j)::aC 3 (some (.int .u32 0)::some (.int .i64 i)::aC 1 (some (.int .u64 qt)::aC 5 (some (.int .u32 c)::aC 141 (some (.slice (some ⟨1,0,none⟩) i cd)::some (.int .i64 i)::some (.int .i64 k)::aC 34 []))))) tz∧hz=[some (.flat true m 1 (bk V)),some (dB D)]∧i - k=mm∧((k≤i∧c≤1)∧V < B ^ (j+i+1)∧V+c*B ^ (j+k)=Y+D % B ^ k*B ^ j),.inr ⟨[0,1],[0,1,2,6,7,9,15,157,158,159],?_⟩,?_⟩
      ·conv=>whnf
       intro _;conv=>whnf
       refine ⟨_,0,0,Y,(.aa (.aa (.aa (.sk 3 (.aa (.aa (.sk 1 (.aa (.sk 5 (.aa (.sk 141 (.aa (.aa (.aa (.sk 34 .nil rfl)))) rfl)) rfl)) rfl))) rfl)))),rfl,rfl,?_⟩;exact ⟨⟨Nat.zero_le _,by decide⟩,gr,by simp [Nat.mod_one]⟩
      rintro mm aS _ ⟨k,c,V,aw,rfl,rfl,⟨⟨hk,hc⟩,hV,he⟩⟩
      obtain ⟨az,rfl⟩:∃ az:Nat→Value,aS=.slice (some ⟨0,0,none⟩) m cx::.slice (some ⟨1,0,none⟩) i cd::.int .i64 j::zs az 3 3 (.int .u32 0::.int .i64 i::zs az 8 1 (.int .u64 qt::zs az 10 5 (.int .u32 c::zs az 16 141 (.slice (some ⟨1,0,none⟩) i cd::.int .i64 i::.int .i64 k::zs az 160 34 [])))):=bF aw;clear aw;conv=>whnf
      refine aI (fun h3=>?_) (fun h3=>?_)
      ·have h3:k < i:=by simpa using h3
       obtain ⟨x,hx⟩:∃ x,x=al D k:=⟨_,rfl⟩;obtain ⟨l,hl⟩:∃ l,l=al V (j+k):=⟨_,rfl⟩;have gZ:x < 4294967296:=by rw [hx]; exact cD D k
       have eH:l < 4294967296:=by rw [hl]; exact cD V (j+k)
       obtain ⟨t,ht⟩:∃ t,t=l+x+c:=⟨_,rfl⟩;have aq:=A6 (t:=t) (i:=k) (j:=j) he (by rw [← hl,← hx]; exact ht)
       have gJ:t % B < 4294967296:=Nat.mod_lt _ (by decide)
       have fo:t / B≤1:=by show t / 4294967296≤1; omega
       have vm:=lM hV (show j+k < j+i+1 by omega) (show t % B < B from gJ)
       have e6:IntKind.i64.wrap (((j:Nat):Int)+((k:Nat):Int))=((j+k:Nat):Int):=by rw [ax (by omega) (by omega)]; omega
       have e7:IntKind.i64.wrap (((k:Nat):Int)+1)=((k+1:Nat):Int):=by rw [ax (by omega) (by omega)]; omega
       conv=>whnf
       refine ⟨⟨by omega,by omega⟩,?_⟩
       simp only [toNat_cast,au,Nat.zero_add];conv=>whnf
       refine ⟨by show k < nl D; omega,?_⟩
       conv=>whnf
       simp only [e6];refine ⟨⟨by omega,by omega⟩,?_⟩
       simp only [toNat_cast,au,Nat.zero_add];conv=>whnf
       refine ⟨by show j+k < m; omega,?_⟩
       conv=>whnf
       rw [← hl,← hx];refine ⟨(l,x,c),rfl,⟨eH,gZ,hc⟩,?_⟩;simp only [tU,← ht,e6];conv=>whnf
       refine ⟨⟨by omega,by omega⟩,?_⟩
       simp only [toNat_cast,au,Nat.zero_add];conv=>whnf
       refine ⟨by show j+k < m; omega,?_⟩
       conv=>whnf
       simp only [e7];rw [show t % 4294967296=t % B from rfl,fg gJ]
       refine .inl ⟨_,?_,k+1,t / B,cB V (j+k) (t % B),(.aa (.aa (.aa (.sk 3 (.aa (.aa (.sk 1 (.aa (.sk 5 (.aa (.sk 141 (.aa (.aa (.aa (.sk 34 .nil rfl)))) rfl)) rfl)) rfl))) rfl)))),rfl,rfl,?_⟩
       ·omega
       ·exact ⟨⟨by omega,fo⟩,vm,aq⟩
      ·have h3:k=i:=by
        have h3:¬ k < i:=by simpa using h3
        omega
       subst h3;have kE:D < B ^ k:=by rw [bJ]; exact bR D
       have fK:=A7 (V:=V) (R:=X % (D*B ^ j)) (k:=j+k) hV (Nat.lt_of_lt_of_le (Nat.mod_lt _ hE) (by rw [Nat.add_comm,Nat.pow_add]; exact Nat.mul_le_mul_right _ (Nat.le_of_lt kE))) hc (by
        rw [he,Nat.mod_eq_of_lt kE]; exact eU)
       have gK:qt - 1=X / (D*B ^ j):=by rw [g8]; rfl
       have ep:IntKind.u64.wrap ((qt:Int) - 1)=((qt - 1:Nat):Int):=by
        have:1≤qt:=by rw [g8]; exact Nat.le_add_left _ _
        have:=hT.1;rw [bH (by omega) (by omega)]; omega
       have uO:(qt - 1) % B=qt - 1:=Nat.mod_eq_of_lt (by have:=hT.1; show qt - 1 < 4294967296; omega)
       conv=>whnf
       simp only [e1];refine ⟨⟨by omega,by omega⟩,?_⟩
       simp only [toNat_cast,au,Nat.zero_add];conv=>whnf
       refine ⟨by show j+k < m; omega,?_⟩
       conv=>whnf
       rw [show IntKind.u32.wrap (((al V (j+k):Nat):Int)+(c:Int))=(((al V (j+k)+c) % B:Nat):Int) from dS (al V (j+k)+c)]
       refine ⟨⟨by omega,by omega⟩,?_⟩
       simp only [toNat_cast,au,Nat.zero_add];conv=>whnf
       refine ⟨by show j+k < m; omega,?_⟩
       conv=>whnf
       simp only [ep,dS,uO];rw [fg (Nat.mod_lt _ (by decide)),fK]
       exact q7 (i:=⟨X,m,cx,D,cd,j⟩) rfl gK rfl
    skip
    skip
   ·rw [show (((((q - 1) / B:Nat):Int) == 0):Bool)=false by show decide ((((q - 1) / 4294967296:Nat):Int)=0)=false; exact decide_eq_false (by omega)]
    conv=>whnf
    refine .inr ⟨[0,1],[0,1,2,6,7,9,10],?_⟩;conv=>whnf
    intro _;conv=>whnf
    refine ⟨_,?_,q - 1,r+d1,(.aa (.aa (.aa (.sk 3 (.aa (.aa (.sk 1 (.aa (.aa (.sk 183 .nil rfl))) rfl))) rfl)))),rfl,rfl,?_⟩
    ·omega
    ·exact ⟨cA,by omega,by omega⟩
open Go Go.Ae
def Eh:Env:=En [(161,.q rO),(136,.q wa),(183,.q Cc),(185,.q Cd),(187,.q Bn),(184,.p Cu)] [(186,zZ wK)]
theorem ady:EnvOk Tryz.prog Eh:=bC ⟨BO,EG,VH,VI,SY,Yj,trivial⟩ ⟨VJ,trivial⟩
theorem Ub:fJ Tryz.prog 163 (zZ gm):=by
 refine NG ady aK Tryz.func163 (enters_of Tryz.func163 (by kernel_rfl) rfl) ?_
 intro ⟨A,ca,D,cd⟩ hp;have hp:(nl A≤137438953472∧nl D≤137438953472)∧D≠0:=hp;conv=>whnf
 refine ⟨(A,ca,D,cd),[0,1],rfl,hp.1,?_⟩;conv=>whnf
 refine ⟨aP.aY (fun h=>h) (fun r hr=>rfl),?_⟩
 conv=>whnf
 refine ⟨aP.aY (fun h=>h) (fun r hr=>rfl),?_⟩
 conv=>whnf
 refine ⟨_,rfl,?_⟩;conv=>whnf
 refine aI (fun h0=>?_) (fun h0=>?_)
 ·have h0:A < D:=by
   have h0:cH A D < 0:=of_decide_eq_true h0;rcases Nat.lt_or_ge A D with h | h
   ·exact h
   ·rw [cH,if_neg (by omega)] at h0
    split at h0 <;> omega
  conv=>whnf
  exact TE h0
 ·have h0:D≤A:=by
   have h0:¬ cH A D < 0:=of_decide_eq_false h0;rcases Nat.lt_or_ge A D with h | h
   ·rw [cH,if_pos h] at h0;omega
   ·exact h
  have oU:0 < D:=Nat.pos_of_ne_zero hp.2;conv=>whnf
  refine aI (fun h1=>?_) (fun h1=>?_)
  ·have h1:nl D=1:=by
    have h1:((nl D:Nat):Int)=1:=by simpa using h1
    omega
   obtain ⟨dW,eH,oJ⟩:=Y2 h1;conv=>whnf
   refine ⟨⟨by omega,by show ((0:Nat):Int) < ((nl D:Nat):Int); omega⟩,?_⟩
   simp only [toNat_0,au,Nat.zero_add];conv=>whnf
   refine ⟨by show 0 < nl D; omega,?_⟩
   conv=>whnf
   rw [dW];refine ⟨(A,ca,D),[0],rfl,⟨hp.1.1,oJ,eH⟩,?_⟩;conv=>whnf
   refine ⟨aP.aY (fun h=>h) (fun r hr=>rfl),?_⟩
   conv=>whnf
   refine ⟨_,rfl,?_⟩;conv=>whnf
   refine ⟨some (1,A % D,1),[3],rfl,⟨by rw [Nat.pow_one]; exact Nat.lt_trans (Nat.mod_lt _ oJ) eH,by decide⟩,?_⟩
   conv=>whnf
   have I8:A % D < 4294967296:=Nat.lt_trans (Nat.mod_lt _ oJ) eH;refine ⟨Lx I8 (Nat.le_refl _),?_⟩;conv=>whnf
   refine ⟨_,rfl,?_⟩;conv=>whnf
   refine Lw (q:=2) (r:=3) h0 (by decide) (by decide) (by decide) rfl rfl rfl rfl ⟨(fun h=>by cases h),rfl,kN (Nat.div_le_self _ _),fun _ _=>rfl,fun r hr v hv=>dp (l:=bk (A / D) r) rfl v hv⟩ ?_
   exact Lx I8 (jt (n:=1) (by rw [Nat.pow_one]; exact I8))
  ·have h1:nl D≠1:=by
    intro e;have e2:((nl D:Nat):Int)=1:=by rw [e]; rfl
    simp [e2] at h1
   have hnD:=kN h0;have J:2≤nl D:=by have:=yy hp.2; omega
   obtain ⟨n,hn⟩:∃ n,n=nl D - 1:=⟨_,rfl⟩;obtain ⟨s,hs⟩:∃ s,s=32 - eM (al D n):=⟨_,rfl⟩;obtain ⟨f1,f2,f3,f4,f5⟩:=Sh (D:=D) (n:=n) (s:=s) (by omega) hs
   obtain ⟨E,hE⟩:∃ E,E=D*2 ^ s:=⟨_,rfl⟩;have hEp:0 < E:=by rw [hE]; exact Nat.mul_pos oU (Nat.pow_pos (by decide))
   rw [← hE] at f3 f4 f5;have hEn:nl E=nl D:=by omega
   have e1:IntKind.i64.wrap (((nl D:Nat):Int) - 1)=((n:Nat):Int):=by rw [ax (by omega) (by omega)]; omega
   conv=>whnf
   simp only [e1];refine ⟨⟨by omega,by show ((n:Nat):Int) < ((nl D:Nat):Int); omega⟩,?_⟩
   simp only [toNat_cast,au,Nat.zero_add];conv=>whnf
   refine ⟨by show n < nl D; omega,?_⟩
   conv=>whnf
   refine ⟨al D n,rfl,cD D n,?_⟩;simp only [Cu,← hs];conv=>whnf
   refine ⟨(A,ca,s),[0],rfl,⟨hp.1.1,f1⟩,?_⟩;conv=>whnf
   refine ⟨aP.aY (fun h=>h) (fun r hr=>rfl),?_⟩
   conv=>whnf
   refine ⟨_,rfl,?_⟩;conv=>whnf
   refine ⟨(D,cd,s),[1],rfl,⟨hp.1.2,f1⟩,?_⟩;conv=>whnf
   refine ⟨aP.aY (fun h=>h) (fun r hr=>rfl),?_⟩
   conv=>whnf
   refine ⟨_,rfl,?_⟩;conv=>whnf
   rw [show (A,ca,s).1*2 ^ (A,ca,s).2.2=A*2 ^ s from rfl,show (D,cd,s).1*2 ^ (D,cd,s).2.2=E from hE.symm]
   have adz:E < B ^ (nl D+1):=Nat.lt_of_lt_of_le (bR E) (Nat.pow_le_pow_right (by decide) (by omega))
   refine ⟨some (nl D+1,E,nl D+1),[3],rfl,⟨adz,by omega⟩,?_⟩
   conv=>whnf
   refine ⟨⟨(fun h=>by cases h),rfl,Nat.le_refl _,fun _ _=>rfl,fun r hr v hv=>dp (l:=bk E r) rfl v hv⟩,?_⟩
   conv=>whnf
   refine ⟨_,rfl,?_⟩;conv=>whnf
   obtain ⟨k,hk⟩:∃ k,k=nl A+1 - nl D:=⟨_,rfl⟩;have e2:IntKind.i64.wrap (((nl A+1:Nat):Int) - ((nl E:Nat):Int))=((k:Nat):Int):=by rw [ax (by omega) (by omega)]; omega
   simp only [e2];refine ⟨⟨by omega,by omega,by show ((k:Nat):Int)*((4:Nat):Int)≤_; omega⟩,?_⟩
   simp only [toNat_cast,sZ];conv=>whnf
   refine .inl ⟨fun mm tz hz=>∃ (i:Nat) (U:Nat) (Q:Nat),bt (aC 8 (some (.int .i64 s)::some (.slice (some ⟨2,0,none⟩) (nl A+1) (nl A+1))::some (.slice (some ⟨3,0,none⟩) (nl E) (nl D+1))::some (.slice (some ⟨4,0,none⟩) k k)::some (.int .i64 (IntKind.i64.wrap ((i:Int) - 1)))::aC 60 [])) tz∧hz=[some (.flat false (nl A) 1 (bk A)),some (.flat false (nl D) 1 (bk D)),some (.flat true (nl A+1) 1 (bk U)),some (.flat true (nl D+1) 1 (bk E)),some (.flat true k 1 (bk Q))]∧i=mm∧(i≤k∧Q*E+U=A*2 ^ s∧U < E*B ^ i∧Q % B ^ i=0),.inl ⟨_,k,A*2 ^ s,0,(.sk 8 (.aa (.aa (.aa (.aa (.aa (.sk 60 .nil rfl)))))) rfl),rfl,rfl,?_⟩,?_⟩
   ·exact ⟨Nat.le_refl _,by rw [Nat.zero_mul,Nat.zero_add],TC f1 f5 (by omega) (by omega),Nat.zero_mod _⟩
   rintro mm aS _ ⟨i,U,Q,aw,rfl,rfl,⟨hi,DE,hU,hQm⟩⟩
   obtain ⟨az,rfl⟩:∃ az:Nat→Value,aS=zs az 0 8 (.int .i64 s::.slice (some ⟨2,0,none⟩) (nl A+1) (nl A+1)::.slice (some ⟨3,0,none⟩) (nl E) (nl D+1)::.slice (some ⟨4,0,none⟩) k k::.int .i64 (IntKind.i64.wrap ((i:Int) - 1))::zs az 13 60 []):=bF aw;clear aw;conv=>whnf
   refine aI (fun h3=>?_) (fun h3=>?_)
   ·have h3:0 < i:=by
     rcases Nat.eq_zero_or_pos i with h | h
     ·subst h; revert h3; decide
     ·exact h
    obtain ⟨i,rfl⟩:∃ i',i=i'+1:=⟨i - 1,by omega⟩
    have ei:IntKind.i64.wrap (((i+1:Nat):Int) - 1)=((i:Nat):Int):=by rw [ax (by omega) (by omega)]; omega
    simp only [ei];obtain ⟨g1,g2,g3,g4⟩:=TD hEp DE hU hQm;conv=>whnf
    refine ⟨⟨U,nl A+1,nl A+1,E,nl D+1,i⟩,[2,3],rfl,⟨by show nl A+1≤_; omega,by show 2≤nl E; omega,by show 2147483648≤al E (nl E - 1); rw [show nl E - 1=n by omega]; exact f4,by show i+nl E < nl A+1; omega,hU⟩,by decide,?_⟩
    conv=>whnf
    refine ⟨aP.aY (fun h=>h) (fun r hr=>rfl),?_⟩
    conv=>whnf
    refine ⟨⟨(fun h=>by cases h),rfl,by show nl E≤nl D+1; omega,fun _ _=>rfl,fun r hr v hv=>dp (l:=bk E r) rfl v hv⟩,?_⟩
    conv=>whnf
    refine ⟨_,rfl,?_⟩;conv=>whnf
    refine ⟨⟨by omega,by omega⟩,?_⟩
    simp only [toNat_cast,au,Nat.zero_add];conv=>whnf
    refine ⟨by show i < k; omega,?_⟩
    conv=>whnf
    rw [fg g1];refine .inl ⟨_,?_,i,U % (E*B ^ i),cB Q i (U / (E*B ^ i)),(.sk 8 (.aa (.aa (.aa (.aa (.aa (.sk 60 .nil rfl)))))) rfl),rfl,rfl,?_⟩
    ·omega
    ·exact ⟨by omega,g2,g3,g4⟩
   ·have h3:i=0:=by
     rcases Nat.eq_zero_or_pos i with h | h
     ·exact h
     ·have e:IntKind.i64.wrap ((i:Int) - 1)=((i - 1:Nat):Int):=by rw [ax (by omega) (by omega)]; omega
      rw [e] at h3;exact absurd h3 (by simp)
    subst h3;rw [Nat.pow_zero,Nat.mul_one] at hU;rw [hE] at DE hU;obtain ⟨g1,g2,g3⟩:=US oU DE hU;have hUn:nl U≤nl E:=kN (by rw [hE]; exact Nat.le_of_lt hU)
    have Qe:U < B ^ (nl A+1):=Nat.lt_of_lt_of_le (bR U) (Nat.pow_le_pow_right (by decide) (by omega))
    have Qf:Q < B ^ k:=by
     rw [g1];refine (Nat.div_lt_iff_lt_mul oU).2 ?_;refine Nat.lt_of_lt_of_le (bR A) ?_;have h5:B ^ n≤D:=by rw [show n=nl D - 1 from hn]; exact Q5 hp.2
     rw [show nl A=k+n by omega,Nat.pow_add]
     exact Nat.mul_le_mul_left _ h5
    have hQn:=jt Qf;have hRn:nl (A % D)≤nl U:=by rw [← g3]; exact kN (Nat.div_le_self _ _)
    conv=>whnf
    refine ⟨some (k,Q,k),[4],rfl,⟨Qf,by omega⟩,?_⟩
    conv=>whnf
    refine ⟨⟨(fun h=>by cases h),rfl,Nat.le_refl _,fun _ _=>rfl,fun r hr v hv=>dp (l:=bk Q r) rfl v hv⟩,?_⟩
    conv=>whnf
    refine ⟨_,rfl,?_⟩;conv=>whnf
    refine ⟨some (nl A+1,U,nl A+1),[2],rfl,⟨Qe,by omega⟩,?_⟩
    conv=>whnf
    refine ⟨⟨(fun h=>by cases h),rfl,Nat.le_refl _,fun _ _=>rfl,fun r hr v hv=>dp (l:=bk U r) rfl v hv⟩,?_⟩
    conv=>whnf
    refine ⟨_,rfl,?_⟩;conv=>whnf
    refine ⟨(U,nl A+1,s),[2],rfl,⟨by show nl U≤_; omega,f1⟩,?_⟩
    conv=>whnf
    refine ⟨⟨(fun h=>by cases h),rfl,by show nl U≤nl A+1; omega,fun _ _=>rfl,fun r hr v hv=>dp (l:=bk U r) rfl v hv⟩,?_⟩
    conv=>whnf
    refine ⟨_,rfl,?_⟩;conv=>whnf
    show zi gm (A,ca,D,cd) (.tuple ⟨[.slice (some ⟨4,0,none⟩) (nl Q) k,.slice (some ⟨5,0,none⟩) (nl (U / 2 ^ s)) aJ]⟩) _
    rw [g3];clear g2 DE Qe;subst g1;refine Lw (q:=4) (r:=5) h0 (by decide) (by decide) (by decide) rfl rfl rfl rfl ⟨(fun h=>by cases h),rfl,hQn,fun _ _=>rfl,fun r hr v hv=>dp (l:=bk (A / D) r) rfl v hv⟩ ⟨(fun h=>by cases h),rfl,hRn,fun r _=>by rw [← g3]; rfl,fun r hr v hv=>dp (l:=bk (A % D) r) rfl v hv⟩
set_option maxHeartbeats 1000000
open Go Go.Ae
theorem LW:bc Tryz.prog 141 wx:=by
 refine bf C4 aK Tryz.func141 (enters_of Tryz.func141 (by kernel_rfl) rfl) (fun _=>rfl) (fun _=>rfl) ?_
 intro ⟨b,s⟩ hp;have hp:s.size≤549755813888:=hp;conv=>whnf
 refine aI (fun h1=>?_) (fun h1=>?_)
 ·have h1:¬ s.size≤7:=by
   have h1:=of_decide_eq_true h1;have h1:((s.size:Nat):Int) > 7:=h1;omega
  conv=>whnf
  simp only [wx,h1,if_false,decide_false]
 ·have h1:s.size≤7:=by
   have h1:=of_decide_eq_false h1;have h1:¬ ((s.size:Nat):Int) > 7:=h1;omega
  have eP:=h1;conv=>whnf
  refine .inl ⟨fun mm tz hz=>∃ (i:Nat) (N:Nat),bt (aC 1 (some (.pointer (some ⟨0,0,none⟩))::some (.int .i64 0)::some (.bool false)::some (.int .i64 N)::aC 7 (some (.int .i64 s.size)::some (.int .i64 i)::aC 16 []))) tz∧hz=[some (.aL true 2 [[.bool b,.string s]])]∧s.size - i=mm∧(i≤s.size∧N=ab s / C ^ (s.size - i)),.inl ⟨_,0,0,(.sk 1 (.aa (.aa (.aa (.aa (.sk 7 (.aa (.aa (.sk 16 .nil rfl))) rfl))))) rfl),rfl,rfl,?_⟩,?_⟩
  ·exact ⟨Nat.zero_le _,by rw [Nat.sub_zero,Nat.div_eq_of_lt (fY s)]⟩
  rintro mm aS _ ⟨i,N,aw,rfl,rfl,⟨hi,hN⟩⟩
  obtain ⟨az,rfl⟩:∃ az:Nat→Value,aS=zs az 0 1 (.pointer (some ⟨0,0,none⟩)::.int .i64 0::.bool false::.int .i64 N::zs az 5 7 (.int .i64 s.size::.int .i64 i::zs az 14 16 [])):=bF aw;clear aw;have ak:=Cf s hi;rw [← hN] at ak;have mo:=ak;have ak:=Nat.lt_of_lt_of_le ak (nF (show i≤7 by omega))
  conv=>whnf
  refine aI (fun J=>?_) (fun J=>?_)
  ·have J:i < s.size:=by simpa using J
   have aq:=ye J;rw [← hN] at aq;have hb:bT s i < 256:=vU s i;have eN:((N:Nat):Int)*256+((bT s i:Nat):Int)=((N*256+bT s i:Nat):Int):=by omega
   conv=>whnf
   refine ⟨⟨by omega,by omega⟩,?_⟩
   try simp (disch:=omega) only [ax,bH,cZ,dq,b6,dF,di,dH,cU,c0,dh,dn,dj,dy,toNat_cast,au,Nat.zero_add,dE,toNat_0,toNat_1,Nat.sub_zero,dJ,dK,dN,dO,dA,dI,dG,dL]
   conv=>whnf
   have e3:IntKind.i64.wrap (((i:Nat):Int)+1)=((i+1:Nat):Int):=by rw [ax (by omega) (by omega)]; rfl
   have I9:=Nat.lt_of_lt_of_le mo (CW (show i≤6 by omega))
   rw [M3 (by omega) hb,e3]
   refine .inl ⟨_,?_,i+1,N*256+bT s i,(.sk 1 (.aa (.aa (.aa (.aa (.sk 7 (.aa (.aa (.sk 16 .nil rfl))) rfl))))) rfl),rfl,rfl,?_⟩
   ·omega
   ·exact ⟨by omega,aq.symm⟩
  ·have J:i=s.size:=by
    have J:¬ i < s.size:=by simpa using J
    omega
   subst J;rw [Nat.sub_self,Nat.pow_zero,Nat.div_one] at hN;subst hN;cases b with
   | true =>
    conv=>whnf
    try simp (disch:=omega) only [ax,bH,cZ,dq,b6,dF,di,dH,cU,c0,dh,dn,dj,dy,toNat_cast,au,Nat.zero_add,dE,toNat_0,toNat_1,Nat.sub_zero,dJ,dK,dN,dO,dA,dI,dG,dL]
    have e:IV.z (true,s)=-(ab s:Int):=rfl;simp only [wx,e,eP,if_true,decide_true,Int.zero_sub]
   | false =>
    conv=>whnf
    have e:IV.z (false,s)=(ab s:Int):=rfl;simp only [wx,e,eP,if_true,decide_true]
def Ei:Env:=En [(131,.q ui),(135,.q uh),(139,.q Cb),(136,.q wa),(141,.p wx)]
theorem HU:EnvOk Tryz.prog Ei:=bC ⟨Gk,BP,VG,EG,LW,trivial⟩ trivial
theorem rP:bc Tryz.prog 83 eG:=by
 refine bf HU aK Tryz.func83 (enters_of Tryz.func83 (by kernel_rfl) rfl) (fun _=>rfl) (fun _=>rfl) ?_
 intro (n:Int) hp;have hp:-9223372036854775808≤n∧n < 9223372036854775808:=hp;conv=>whnf
 obtain ⟨N,hN⟩:∃ N:Nat,N=n.natAbs:=⟨_,rfl⟩;have Ah:N < 18446744073709551616:=by omega
 have hl:=Mj Ah;refine aI (fun h1=>?_) (fun h1=>?_)
 ·have h1:n < 0:=of_decide_eq_true h1;have e1:IntKind.u64.wrap (0 - IntKind.u64.wrap n)=(N:Int):=by
   rw [Bk,Bk]; omega
  conv=>whnf
  simp only [e1];refine ⟨(decide (n < 0),some (2,N,2)),[1],rfl,⟨NL Ah,by decide⟩,?_⟩
  conv=>whnf
  refine ⟨Mk Ah,?_⟩;conv=>whnf
  refine ⟨_,rfl,?_⟩;conv=>whnf
  show ld (decide (n < 0)) N=aD n
  rw [iO]
  congr 1
  simp only [aX,h1,decide_true,decide_false,if_true,Bool.false_eq_true,if_false];omega
 ·have h1:¬ n < 0:=of_decide_eq_false h1;have e1:IntKind.u64.wrap n=(N:Int):=by
   rw [Bk]; omega
  conv=>whnf
  simp only [e1];refine ⟨(decide (n < 0),some (2,N,2)),[1],rfl,⟨NL Ah,by decide⟩,?_⟩
  conv=>whnf
  refine ⟨Mk Ah,?_⟩;conv=>whnf
  refine ⟨_,rfl,?_⟩;conv=>whnf
  show ld (decide (n < 0)) N=aD n
  rw [iO]
  congr 1
  simp only [aX,h1,decide_true,decide_false,if_true,Bool.false_eq_true,if_false];omega
theorem N2:bc Tryz.prog 92 eX:=by
 refine bf HU aK Tryz.func92 (enters_of Tryz.func92 (by kernel_rfl) rfl) (fun _=>rfl) (fun _=>rfl) ?_
 intro ⟨⟨b,s⟩,⟨c,t⟩⟩ hp;have hp:s.size≤549755813888∧t.size≤549755813888:=hp;conv=>whnf
 refine .inl ⟨12,[[],[0],[],[2],[0,1,2,3],[],[5],[5,6],[],[8],[5,6,7,8,9],[5,6,7,8,9,10],[0,1,2,3,4,5,6,7,8,9,10,11],[0,1,2,3,4,5,6,7,8,9,10,11,12]],by kernel_rfl,?_⟩
 conv=>whnf
 refine ⟨s,[],rfl,by show s.size≤1099511627776; omega,?_⟩
 conv=>whnf
 refine ⟨_,rfl,?_⟩;conv=>whnf
 refine ⟨t,[],rfl,by show t.size≤1099511627776; omega,?_⟩
 conv=>whnf
 refine ⟨_,rfl,?_⟩;conv=>whnf
 refine ⟨(ab s,aJ,ab t,aJ),[10,13],rfl,⟨IV.nl (i:=(b,s)) hp.1,IV.nl (i:=(c,t)) hp.2⟩,?_⟩;conv=>whnf
 refine ⟨aP.aY (fun h=>h) (fun r hr=>rfl),?_⟩
 conv=>whnf
 refine ⟨aP.aY (fun h=>h) (fun r hr=>rfl),?_⟩
 conv=>whnf
 refine ⟨_,rfl,?_⟩;conv=>whnf
 have gL:=IV.nl (i:=(b,s)) hp.1;have g9:=IV.nl (i:=(c,t)) hp.2;have gL:nl (ab s)≤137438953472:=gL;have g9:nl (ab t)≤137438953472:=g9;have hmul:=TF (ab s) (ab t);refine ⟨(b != c,some (nl (ab s*ab t),ab s*ab t,aJ)),[14],rfl,⟨bR _,by omega⟩,?_⟩
 conv=>whnf
 refine ⟨aP.aY (fun h=>h) (fun r hr=>rfl),?_⟩
 conv=>whnf
 refine ⟨_,rfl,?_⟩;conv=>whnf
 show ld (b != c) (ab s*ab t)=_
 rw [iO,UT]
 rfl
open Go Go.Ae
theorem aaK:bc Tryz.prog 130 gC:=by
 refine bf HU aK Tryz.func130 (enters_of Tryz.func130 (by kernel_rfl) rfl) (fun _=>rfl) (fun _=>rfl) ?_
 intro ⟨b,s⟩ hp;have hp:s.size≤549755813888:=hp;have gL:nl (ab s)≤137438953472:=IV.nl (i:=(b,s)) hp;conv=>whnf
 refine .inl ⟨6,[[],[0],[0,1],[],[3],[3,4],[0,1,2,3,4,5],[0,1,2,3,4,5,6]],by kernel_rfl,?_⟩
 conv=>whnf
 refine ⟨s,[],rfl,by show s.size≤1099511627776; omega,?_⟩
 conv=>whnf
 refine ⟨_,rfl,?_⟩;conv=>whnf
 refine ⟨(!b,some (nl (ab s),ab s,aJ)),[7],rfl,⟨bR _,by omega⟩,?_⟩
 conv=>whnf
 refine ⟨aP.aY (fun h=>h) (fun r hr=>rfl),?_⟩
 conv=>whnf
 refine ⟨_,rfl,?_⟩;conv=>whnf
 show ld (!b) (ab s)=_
 rw [iO,Fx]
 rfl
def Ej:Env:=En [(131,.q ui),(135,.q uh),(142,.q Cv),(143,.q Ca),(136,.q wa),(141,.p wx),(83,.p eG)]
theorem Pk:EnvOk Tryz.prog Ej:=bC ⟨Gk,BP,Yk,VF,EG,LW,rP,trivial⟩ trivial
theorem GM:bc Tryz.prog 97 iG:=by
 refine bf Pk aK Tryz.func97 (enters_of Tryz.func97 (by kernel_rfl) rfl) (fun _=>rfl) (fun _=>rfl) ?_
 intro ⟨⟨b,s⟩,⟨c,t⟩⟩ hp;have hp:s.size≤549755813888∧t.size≤549755813888:=hp;have gL:nl (ab s)≤137438953472:=IV.nl (i:=(b,s)) hp.1;have g9:nl (ab t)≤137438953472:=IV.nl (i:=(c,t)) hp.2;conv=>whnf
 refine ⟨(b,s),rfl,hp.1,?_⟩;conv=>whnf
 refine aI (fun h1=>?_) (fun h1=>?_)
 ·have h1:s.size≤7:=of_decide_eq_true h1;conv=>whnf
  refine ⟨(c,t),rfl,hp.2,?_⟩;conv=>whnf
  refine aI (fun J=>?_) (fun J=>?_)
  ·have J:t.size≤7:=of_decide_eq_true J;conv=>whnf
   have z1:=F9 (i:=(b,s)) h1;have z2:=F9 (i:=(c,t)) J;have ew:IntKind.i64.wrap ((if (b,s).snd.size≤7 then IV.z (b,s) else 0)+if (c,t).snd.size≤7 then IV.z (c,t) else 0)=IV.z (b,s)+IV.z (c,t):=by
    rw [if_pos h1,if_pos J];exact ax (by omega) (by omega)
   rw [ew];refine ⟨IV.z (b,s)+IV.z (c,t),rfl,⟨by omega,by omega⟩,?_⟩
   conv=>whnf
   rfl
  ·conv=>whnf
   refine .inl ⟨5,[[],[0],[0,1],[],[3],[0,1,2,3,4],[0,1,2,3,4,5],[0,1,2,3,4,5,6]],by kernel_rfl,?_⟩
   conv=>whnf
   refine ⟨s,[],rfl,by show s.size≤1099511627776; omega,?_⟩
   conv=>whnf
   refine ⟨_,rfl,?_⟩;conv=>whnf
   refine ⟨t,[],rfl,by show t.size≤1099511627776; omega,?_⟩
   conv=>whnf
   refine ⟨_,rfl,?_⟩;conv=>whnf
   refine aI (fun h5=>?_) (fun h5=>?_)
   ·have h5:b=c:=eq_of_beq h5;conv=>whnf
    refine .inl ⟨5,[[],[0],[],[],[2,3],[0,1,2,3,4],[0,1,2,3,4,5]],by kernel_rfl,?_⟩
    conv=>whnf
    refine ⟨(ab s,aJ,ab t,aJ),[5,8],rfl,⟨gL,g9⟩,?_⟩;conv=>whnf
    refine ⟨aP.aY (fun h=>h) (fun r hr=>rfl),?_⟩
    conv=>whnf
    refine ⟨aP.aY (fun h=>h) (fun r hr=>rfl),?_⟩
    conv=>whnf
    refine ⟨_,rfl,?_⟩;conv=>whnf
    have hal:=Lz (ab s) (ab t);refine ⟨(b,some (nl (ab s+ab t),ab s+ab t,aJ)),[13],rfl,⟨bR _,by omega⟩,?_⟩
    conv=>whnf
    refine ⟨aP.aY (fun h=>h) (fun r hr=>rfl),?_⟩
    conv=>whnf
    refine ⟨_,rfl,?_⟩;conv=>whnf
    show ld b (ab s+ab t)=aD (IV.z (b,s)+IV.z (c,t))
    rw [iO,Ly,h5]
    rfl
   ·have h5:b≠c:=by
     intro e;subst e;cases b <;> cases h5
    conv=>whnf
    refine ⟨(ab s,aJ,ab t,aJ),[5,8],rfl,⟨gL,g9⟩,?_⟩;conv=>whnf
    refine ⟨aP.aY (fun h=>h) (fun r hr=>rfl),?_⟩
    conv=>whnf
    refine ⟨aP.aY (fun h=>h) (fun r hr=>rfl),?_⟩
    conv=>whnf
    refine ⟨_,rfl,?_⟩;conv=>whnf
    refine aI (fun h6=>?_) (fun h6=>?_)
    ·have h6:ab s≤ab t:=by
      have h6:cH (ab s) (ab t) < 0:=of_decide_eq_true h6;unfold cH at h6
      split at h6
      ·omega
      ·split at h6 <;> omega
     have kL:=kN (Nat.sub_le (ab t) (ab s));conv=>whnf
     refine .inl ⟨5,[[],[0],[],[],[2,3],[0,1,2,3,4],[0,1,2,3,4,5]],by kernel_rfl,?_⟩
     conv=>whnf
     refine ⟨(ab t,aJ,ab s,aJ),[8,5],rfl,⟨⟨g9,gL⟩,h6⟩,?_⟩;conv=>whnf
     refine ⟨aP.aY (fun h=>h) (fun r hr=>rfl),?_⟩
     conv=>whnf
     refine ⟨aP.aY (fun h=>h) (fun r hr=>rfl),?_⟩
     conv=>whnf
     refine ⟨_,rfl,?_⟩;conv=>whnf
     refine ⟨(c,some (nl (ab t - ab s),ab t - ab s,aJ)),[13],rfl,⟨bR _,by omega⟩,?_⟩
     conv=>whnf
     refine ⟨aP.aY (fun h=>h) (fun r hr=>rfl),?_⟩
     conv=>whnf
     refine ⟨_,rfl,?_⟩;conv=>whnf
     show ld c (ab t - ab s)=aD (IV.z (b,s)+IV.z (c,t))
     rw [iO,A8 (Ne.symm h5) h6,Int.add_comm]
     rfl
    ·have h6:ab t≤ab s:=by
      have h6:¬ cH (ab s) (ab t) < 0:=of_decide_eq_false h6;unfold cH at h6
      split at h6
      ·omega
      ·split at h6 <;> omega
     have kL:=kN (Nat.sub_le (ab s) (ab t));conv=>whnf
     refine .inl ⟨5,[[],[0],[],[],[2,3],[0,1,2,3,4],[0,1,2,3,4,5]],by kernel_rfl,?_⟩
     conv=>whnf
     refine ⟨(ab s,aJ,ab t,aJ),[5,8],rfl,⟨⟨gL,g9⟩,h6⟩,?_⟩;conv=>whnf
     refine ⟨aP.aY (fun h=>h) (fun r hr=>rfl),?_⟩
     conv=>whnf
     refine ⟨aP.aY (fun h=>h) (fun r hr=>rfl),?_⟩
     conv=>whnf
     refine ⟨_,rfl,?_⟩;conv=>whnf
     refine ⟨(b,some (nl (ab s - ab t),ab s - ab t,aJ)),[13],rfl,⟨bR _,by omega⟩,?_⟩
     conv=>whnf
     refine ⟨aP.aY (fun h=>h) (fun r hr=>rfl),?_⟩
     conv=>whnf
     refine ⟨_,rfl,?_⟩;conv=>whnf
     show ld b (ab s - ab t)=aD (IV.z (b,s)+IV.z (c,t))
     rw [iO,A8 h5 h6]
     rfl
 ·conv=>whnf
  refine .inl ⟨5,[[],[0],[0,1],[],[3],[0,1,2,3,4],[0,1,2,3,4,5],[0,1,2,3,4,5,6]],by kernel_rfl,?_⟩
  conv=>whnf
  refine ⟨s,[],rfl,by show s.size≤1099511627776; omega,?_⟩
  conv=>whnf
  refine ⟨_,rfl,?_⟩;conv=>whnf
  refine ⟨t,[],rfl,by show t.size≤1099511627776; omega,?_⟩
  conv=>whnf
  refine ⟨_,rfl,?_⟩;conv=>whnf
  refine aI (fun h5=>?_) (fun h5=>?_)
  ·have h5:b=c:=eq_of_beq h5;conv=>whnf
   refine .inl ⟨5,[[],[0],[],[],[2,3],[0,1,2,3,4],[0,1,2,3,4,5]],by kernel_rfl,?_⟩
   conv=>whnf
   refine ⟨(ab s,aJ,ab t,aJ),[5,8],rfl,⟨gL,g9⟩,?_⟩;conv=>whnf
   refine ⟨aP.aY (fun h=>h) (fun r hr=>rfl),?_⟩
   conv=>whnf
   refine ⟨aP.aY (fun h=>h) (fun r hr=>rfl),?_⟩
   conv=>whnf
   refine ⟨_,rfl,?_⟩;conv=>whnf
   have hal:=Lz (ab s) (ab t);refine ⟨(b,some (nl (ab s+ab t),ab s+ab t,aJ)),[13],rfl,⟨bR _,by omega⟩,?_⟩
   conv=>whnf
   refine ⟨aP.aY (fun h=>h) (fun r hr=>rfl),?_⟩
   conv=>whnf
   refine ⟨_,rfl,?_⟩;conv=>whnf
   show ld b (ab s+ab t)=aD (IV.z (b,s)+IV.z (c,t))
   rw [iO,Ly,h5]
   rfl
  ·have h5:b≠c:=by
    intro e;subst e;cases b <;> cases h5
   conv=>whnf
   refine ⟨(ab s,aJ,ab t,aJ),[5,8],rfl,⟨gL,g9⟩,?_⟩;conv=>whnf
   refine ⟨aP.aY (fun h=>h) (fun r hr=>rfl),?_⟩
   conv=>whnf
   refine ⟨aP.aY (fun h=>h) (fun r hr=>rfl),?_⟩
   conv=>whnf
   refine ⟨_,rfl,?_⟩;conv=>whnf
   refine aI (fun h6=>?_) (fun h6=>?_)
   ·have h6:ab s≤ab t:=by
     have h6:cH (ab s) (ab t) < 0:=of_decide_eq_true h6;unfold cH at h6
     split at h6
     ·omega
     ·split at h6 <;> omega
    have kL:=kN (Nat.sub_le (ab t) (ab s));conv=>whnf
    refine .inl ⟨5,[[],[0],[],[],[2,3],[0,1,2,3,4],[0,1,2,3,4,5]],by kernel_rfl,?_⟩
    conv=>whnf
    refine ⟨(ab t,aJ,ab s,aJ),[8,5],rfl,⟨⟨g9,gL⟩,h6⟩,?_⟩;conv=>whnf
    refine ⟨aP.aY (fun h=>h) (fun r hr=>rfl),?_⟩
    conv=>whnf
    refine ⟨aP.aY (fun h=>h) (fun r hr=>rfl),?_⟩
    conv=>whnf
    refine ⟨_,rfl,?_⟩;conv=>whnf
    refine ⟨(c,some (nl (ab t - ab s),ab t - ab s,aJ)),[13],rfl,⟨bR _,by omega⟩,?_⟩
    conv=>whnf
    refine ⟨aP.aY (fun h=>h) (fun r hr=>rfl),?_⟩
    conv=>whnf
    refine ⟨_,rfl,?_⟩;conv=>whnf
    show ld c (ab t - ab s)=aD (IV.z (b,s)+IV.z (c,t))
    rw [iO,A8 (Ne.symm h5) h6,Int.add_comm]
    rfl
   ·have h6:ab t≤ab s:=by
     have h6:¬ cH (ab s) (ab t) < 0:=of_decide_eq_false h6;unfold cH at h6
     split at h6
     ·omega
     ·split at h6 <;> omega
    have kL:=kN (Nat.sub_le (ab s) (ab t));conv=>whnf
    refine .inl ⟨5,[[],[0],[],[],[2,3],[0,1,2,3,4],[0,1,2,3,4,5]],by kernel_rfl,?_⟩
    conv=>whnf
    refine ⟨(ab s,aJ,ab t,aJ),[5,8],rfl,⟨⟨gL,g9⟩,h6⟩,?_⟩;conv=>whnf
    refine ⟨aP.aY (fun h=>h) (fun r hr=>rfl),?_⟩
    conv=>whnf
    refine ⟨aP.aY (fun h=>h) (fun r hr=>rfl),?_⟩
    conv=>whnf
    refine ⟨_,rfl,?_⟩;conv=>whnf
    refine ⟨(b,some (nl (ab s - ab t),ab s - ab t,aJ)),[13],rfl,⟨bR _,by omega⟩,?_⟩
    conv=>whnf
    refine ⟨aP.aY (fun h=>h) (fun r hr=>rfl),?_⟩
    conv=>whnf
    refine ⟨_,rfl,?_⟩;conv=>whnf
    show ld b (ab s - ab t)=aD (IV.z (b,s)+IV.z (c,t))
    rw [iO,A8 h5 h6]
    rfl
def Ek:Env:=En [(97,.p iG)]
theorem adA:EnvOk Tryz.prog Ek:=bC ⟨GM,trivial⟩ trivial
theorem aaL:bc Tryz.prog 164 l9:=by
 refine bf adA aK Tryz.func164 (enters_of Tryz.func164 (by kernel_rfl) rfl) (fun _=>rfl) (fun _=>rfl) ?_
 intro ⟨⟨b,s⟩,⟨c,t⟩⟩ hp;have hp:s.size≤549755813888∧t.size≤549755813888:=hp;conv=>whnf
 refine ⟨((b,s),(!c,t)),rfl,hp,?_⟩;conv=>whnf
 show aD (IV.z (b,s)+aX (!c) (ab t))=aD (IV.z (b,s) - IV.z (c,t))
 rw [Fx]
 rfl
theorem GN:bc Tryz.prog 87 lf:=by
 refine bf Pk aK Tryz.func87 (enters_of Tryz.func87 (by kernel_rfl) rfl) (fun _=>rfl) (fun _=>rfl) ?_
 intro ⟨⟨b,s⟩,⟨c,t⟩⟩ hp;have hp:s.size≤549755813888∧t.size≤549755813888:=hp;have gL:nl (ab s)≤137438953472:=IV.nl (i:=(b,s)) hp.1;have g9:nl (ab t)≤137438953472:=IV.nl (i:=(c,t)) hp.2;conv=>whnf
 refine .inl ⟨5,[[],[0],[0,1],[],[3],[0,1,2,3,4],[0,1,2,3,4,5],[0,1,2,3,4,5,6]],by kernel_rfl,?_⟩
 conv=>whnf
 refine ⟨s,[],rfl,by show s.size≤1099511627776; omega,?_⟩
 conv=>whnf
 refine ⟨_,rfl,?_⟩;conv=>whnf
 refine ⟨t,[],rfl,by show t.size≤1099511627776; omega,?_⟩
 conv=>whnf
 refine ⟨_,rfl,?_⟩;conv=>whnf
 have fin:∀ (z:Int),z=dC (IV.z (b,s)) (IV.z (c,t))→Value.int .i64 z=lf.val ((b,s),(c,t)):=fun z h=>by rw [h]; rfl
 cases b with
 | false =>
  conv=>whnf
  cases c with
  | false =>
   conv=>whnf
   refine ⟨(ab s,aJ,ab t,aJ),[4,7],rfl,⟨gL,g9⟩,?_⟩;conv=>whnf
   refine ⟨aP.aY (fun h=>h) (fun r hr=>rfl),?_⟩
   conv=>whnf
   refine ⟨aP.aY (fun h=>h) (fun r hr=>rfl),?_⟩
   conv=>whnf
   refine ⟨_,rfl,?_⟩;conv=>whnf
   exact fin _ (Bo _ _).symm
  | true =>
   conv=>whnf
   rcases Nat.eq_zero_or_pos (ab t) with h1 | h1
   ·rw [wc h1];conv=>whnf
    refine ⟨(ab s,aJ,ab t,aJ),[4,7],rfl,⟨gL,g9⟩,?_⟩;conv=>whnf
    refine ⟨aP.aY (fun h=>h) (fun r hr=>rfl),?_⟩
    conv=>whnf
    refine ⟨aP.aY (fun h=>h) (fun r hr=>rfl),?_⟩
    conv=>whnf
    refine ⟨_,rfl,?_⟩;conv=>whnf
    refine fin _ ?_;show cH (ab s) (ab t)=dC ((ab s:Nat):Int) (-((ab t:Nat):Int))
    rw [h1];exact (Bo _ 0).symm
   ·rw [wq h1];conv=>whnf
    exact fin _ (tF (show -((ab t:Nat):Int) < ((ab s:Nat):Int) by omega)).symm
 | true =>
  conv=>whnf
  rcases Nat.eq_zero_or_pos (ab s) with J | J
  ·try rw [wc J]
   cases c with
   | false =>
    conv=>whnf
    try rw [wc J]
    conv=>whnf
    refine ⟨(ab s,aJ,ab t,aJ),[4,7],rfl,⟨gL,g9⟩,?_⟩;conv=>whnf
    refine ⟨aP.aY (fun h=>h) (fun r hr=>rfl),?_⟩
    conv=>whnf
    refine ⟨aP.aY (fun h=>h) (fun r hr=>rfl),?_⟩
    conv=>whnf
    refine ⟨_,rfl,?_⟩;conv=>whnf
    refine fin _ ?_;show cH (ab s) (ab t)=dC (-((ab s:Nat):Int)) ((ab t:Nat):Int)
    rw [J];exact (Bo 0 _).symm
   | true =>
    conv=>whnf
    try rw [wc J]
    conv=>whnf
    rcases Nat.eq_zero_or_pos (ab t) with h1 | h1
    ·rw [wc h1];conv=>whnf
     refine ⟨(ab s,aJ,ab t,aJ),[4,7],rfl,⟨gL,g9⟩,?_⟩;conv=>whnf
     refine ⟨aP.aY (fun h=>h) (fun r hr=>rfl),?_⟩
     conv=>whnf
     refine ⟨aP.aY (fun h=>h) (fun r hr=>rfl),?_⟩
     conv=>whnf
     refine ⟨_,rfl,?_⟩;conv=>whnf
     refine fin _ ?_;show cH (ab s) (ab t)=dC (-((ab s:Nat):Int)) (-((ab t:Nat):Int))
     rw [h1,J]
     rfl
    ·rw [wq h1];conv=>whnf
     exact fin _ (tF (show -((ab t:Nat):Int) < -((ab s:Nat):Int) by omega)).symm
  ·try rw [wq J]
   cases c with
   | false =>
    conv=>whnf
    try rw [wq J]
    conv=>whnf
    exact fin _ (tE (show -((ab s:Nat):Int) < ((ab t:Nat):Int) by omega)).symm
   | true =>
    conv=>whnf
    try rw [wq J]
    conv=>whnf
    rcases Nat.eq_zero_or_pos (ab t) with h1 | h1
    ·rw [wc h1];conv=>whnf
     exact fin _ (tE (show -((ab s:Nat):Int) < -((ab t:Nat):Int) by omega)).symm
    ·rw [wq h1];conv=>whnf
     refine ⟨(ab t,aJ,ab s,aJ),[7,4],rfl,⟨g9,gL⟩,?_⟩;conv=>whnf
     refine ⟨aP.aY (fun h=>h) (fun r hr=>rfl),?_⟩
     conv=>whnf
     refine ⟨aP.aY (fun h=>h) (fun r hr=>rfl),?_⟩
     conv=>whnf
     refine ⟨_,rfl,?_⟩;conv=>whnf
     exact fin _ (Mi _ _).symm
open Go Go.Ae
def El:Env:=En [(131,.q ui),(135,.q uh),(83,.p eG),(97,.p iG),(164,.p l9)] [(163,zZ gm)]
theorem Pm:EnvOk Tryz.prog El:=bC ⟨Gk,BP,rP,GM,aaL,trivial⟩ ⟨Ub,trivial⟩
theorem aaM:bc Tryz.prog 133 uF:=by
 refine bf Pm aK Tryz.func133 (enters_of Tryz.func133 (by kernel_rfl) rfl) (fun _=>rfl) (fun _=>rfl) ?_
 intro ⟨⟨b,s⟩,⟨c,t⟩⟩ hp;have hp:s.size≤549755813888∧t.size≤549755813888:=hp;have gL:nl (ab s)≤137438953472:=IV.nl (i:=(b,s)) hp.1;have g9:nl (ab t)≤137438953472:=IV.nl (i:=(c,t)) hp.2;conv=>whnf
 refine .inl ⟨5,[[],[0],[0,1],[],[3],[0,1,2,3,4],[0,1,2,3,4,5],[0,1,2,3,4,5,6]],by kernel_rfl,?_⟩
 conv=>whnf
 refine ⟨s,[],rfl,by show s.size≤1099511627776; omega,?_⟩
 conv=>whnf
 refine ⟨_,rfl,?_⟩;conv=>whnf
 refine ⟨t,[],rfl,by show t.size≤1099511627776; omega,?_⟩
 conv=>whnf
 refine ⟨_,rfl,?_⟩;conv=>whnf
 refine .inl ⟨fun mm tz hz=>∃ (A:Nat) (D:Nat) (ca:Nat) (cd:Nat),bt (aC 4 (some (.pointer (some ⟨0,0,none⟩))::some (.slice (some ⟨1,0,none⟩) (nl A) ca)::some (.slice (some ⟨2,0,none⟩) (nl D) cd)::aC 21 [])) tz∧hz=[some (.aL true 2 [[.bool false,.string ⟨#[]⟩]]),some (dB A),some (dB D)]∧D=mm∧((nl A≤137438953472∧nl D≤137438953472)∧Nat.gcd A D=Nat.gcd (ab s) (ab t)),.inr ⟨[2,5,8],[4,5,6],?_⟩,?_⟩
 ·conv=>whnf
  intro _;conv=>whnf
  refine ⟨_,ab s,ab t,aJ,aJ,(.sk 4 (.aa (.aa (.aa (.sk 21 .nil rfl)))) rfl),rfl,rfl,?_⟩;exact ⟨⟨gL,g9⟩,rfl⟩
 rintro mm aS _ ⟨A,D,ca,cd,aw,rfl,rfl,⟨bZ,hg⟩⟩
 obtain ⟨az,rfl⟩:∃ az:Nat→Value,aS=zs az 0 4 (.pointer (some ⟨0,0,none⟩)::.slice (some ⟨1,0,none⟩) (nl A) ca::.slice (some ⟨2,0,none⟩) (nl D) cd::zs az 7 21 []):=bF aw;clear aw;conv=>whnf
 refine aI (fun h1=>?_) (fun h1=>?_)
 ·have h1:=Wc (of_decide_eq_true h1);conv=>whnf
  refine ⟨(A,ca,D,cd),[1,2],rfl,⟨bZ,by show D≠0; omega⟩,by decide,?_⟩
  rcases Nat.lt_or_ge A D with J | J
  ·have ev:gm.val (A,ca,D,cd)=.tuple ⟨[.slice none 0 0,one A ca]⟩:=if_pos J;have en:gm.new (A,ca,D,cd)=[]:=if_pos J;rw [ev,en];conv=>whnf
   refine ⟨aP.aY (fun h=>h) (fun r hr=>rfl),?_⟩
   conv=>whnf
   refine ⟨aP.aY (fun h=>h) (fun r hr=>rfl),?_⟩
   conv=>whnf
   refine ⟨_,rfl,?_⟩;conv=>whnf
   refine .inr ⟨[0,2,1],[4,5,6],?_⟩;conv=>whnf
   intro _;conv=>whnf
   refine ⟨_,?_,D,A,cd,ca,(.sk 4 (.aa (.aa (.aa (.sk 21 .nil rfl)))) rfl),rfl,rfl,?_⟩
   ·omega
   ·exact ⟨⟨bZ.2,bZ.1⟩,by rw [Nat.gcd_comm]; exact hg⟩
  ·have ev:gm.val (A,ca,D,cd)=.tuple ⟨[kD 2 (A / D),kD 3 (A % D)]⟩:=if_neg (Nat.not_lt.2 J);have en:gm.new (A,ca,D,cd)=[dB (A / D),dB (A % D)]:=if_neg (Nat.not_lt.2 J);rw [ev,en];conv=>whnf
   refine ⟨aP.aY (fun h=>h) (fun r hr=>rfl),?_⟩
   conv=>whnf
   refine ⟨aP.aY (fun h=>h) (fun r hr=>rfl),?_⟩
   conv=>whnf
   refine ⟨_,rfl,?_⟩;conv=>whnf
   have hm:=Nat.mod_lt A h1;have kL:=kN (Nat.le_of_lt hm);refine .inr ⟨[0,2,4],[4,5,6],?_⟩;conv=>whnf
   intro _;conv=>whnf
   refine ⟨_,?_,D,A % D,cd,aJ,(.sk 4 (.aa (.aa (.aa (.sk 21 .nil rfl)))) rfl),rfl,rfl,?_⟩
   ·omega
   ·exact ⟨⟨bZ.2,by omega⟩,by rw [Nat.gcd_comm,← Nat.gcd_rec,Nat.gcd_comm]; exact hg⟩
 ·have h1:=Sj (of_decide_eq_false h1);subst h1;rw [Nat.gcd_zero_right] at hg;conv=>whnf
  refine ⟨(false,some (nl A,A,ca)),[1],rfl,⟨bR _,by omega⟩,?_⟩
  conv=>whnf
  refine ⟨aP.aY (fun h=>h) (fun r hr=>rfl),?_⟩
  conv=>whnf
  refine ⟨_,rfl,?_⟩;conv=>whnf
  show ld false A=aD ((Int.gcd (IV.z (b,s)) (IV.z (c,t)):Nat):Int)
  rw [iO,hg];unfold Int.gcd IV.z;rw [tw,tw]
  rfl
theorem aaN:bc Tryz.prog 134 ij:=by
 refine bf Pm aK Tryz.func134 (enters_of Tryz.func134 (by kernel_rfl) rfl) (fun _=>rfl) (fun _=>rfl) ?_
 intro ⟨⟨b,s⟩,⟨c,t⟩⟩ hp;have hp:s.size≤549755813888∧t.size≤549755813888:=hp;have gL:nl (ab s)≤137438953472:=IV.nl (i:=(b,s)) hp.1;have g9:nl (ab t)≤137438953472:=IV.nl (i:=(c,t)) hp.2;conv=>whnf
 refine ⟨t,[],rfl,by show t.size≤1099511627776; omega,?_⟩
 conv=>whnf
 refine ⟨_,rfl,?_⟩;conv=>whnf
 refine aI (fun h1=>?_) (fun h1=>?_)
 ·have h1:ab t=0:=by
   have h1:((nl (ab t):Nat):Int)=0:=by simpa using h1
   exact KK (by omega)
  have hz:IV.z (c,t)=0:=E3.2 h1;conv=>whnf
  have e:Int.fdiv (IV.z (b,s)) 0=0:=Int.fdiv_zero _;simp only [ij,hz,e,if_true,vV]
  rfl
 ·have h1:ab t≠0:=by
   intro e;rw [e,rr] at h1;cases h1
  conv=>whnf
  refine ⟨s,[],rfl,by show s.size≤1099511627776; omega,?_⟩
  conv=>whnf
  refine ⟨_,rfl,?_⟩;conv=>whnf
  refine ⟨(ab s,aJ,ab t,aJ),[5,4],rfl,⟨⟨gL,g9⟩,h1⟩,by decide,?_⟩
  have oU:0 < ab t:=Nat.pos_of_ne_zero h1;rcases Nat.lt_or_ge (ab s) (ab t) with J | J
  ·rw [show gm.val (ab s,aJ,ab t,aJ)=.tuple ⟨[.slice none 0 0,one (ab s) aJ]⟩ from if_pos J,show gm.new (ab s,aJ,ab t,aJ)=[] from if_pos J]
   have hQ:0=ab s / ab t:=(Nat.div_eq_of_lt J).symm;have hR:ab s=ab s % ab t:=(Nat.mod_eq_of_lt J).symm;conv=>whnf
   refine ⟨aP.aY (fun h=>h) (fun r hr=>rfl),?_⟩
   conv=>whnf
   refine ⟨aP.aY (fun h=>h) (fun r hr=>rfl),?_⟩
   conv=>whnf
   refine ⟨_,rfl,?_⟩;conv=>whnf
   refine .inl ⟨13,[[],[0],[],[2],[0,1,2,3],[],[0,1,2,3,4,5],[],[7],[],[0,1,2,3,4,5,6,7,8,9],[],[],[0,1,2,3,4,5,6,7,8,9,10,11,12],[0,1,2,3,4,5,6,7,8,9,10,11,12,13]],by kernel_rfl,?_⟩
   conv=>whnf
   refine ⟨(b != c,none),[],rfl,trivial,?_⟩;conv=>whnf
   skip
   conv=>whnf
   obtain ⟨qs,qT⟩:∃ qs,qs=nb (0):=⟨_,rfl⟩;obtain ⟨qb,qC⟩:∃ qb:Bool,qb=((b != c) && (0) != 0):=⟨_,rfl⟩;obtain ⟨rs,il⟩:∃ rs,rs=nb (ab s):=⟨_,rfl⟩;obtain ⟨rb,vn⟩:∃ rb:Bool,rb=(b && (ab s) != 0):=⟨_,rfl⟩;refine ⟨.agg ⟨[.bool qb,.string qs]⟩,by rw [qT,qC]; rfl,?_⟩
   conv=>whnf
   refine ⟨(b,some (nl (ab s),ab s,aJ)),[5],rfl,⟨bR _,by omega⟩,?_⟩
   conv=>whnf
   refine ⟨aP.aY (fun h=>h) (fun r hr=>rfl),?_⟩
   conv=>whnf
   refine ⟨.agg ⟨[.bool rb,.string rs]⟩,by rw [il,vn]; rfl,?_⟩
   conv=>whnf
   have eQ:Value.agg ⟨[.bool qb,.string qs]⟩=aD (aX (b != c) (ab s / ab t)):=by rw [qT,qC,← hQ]; exact iO _ _
   have eR:Value.agg ⟨[.bool rb,.string rs]⟩=aD (aX b (ab s % ab t)):=by rw [il,vn,← hR]; exact iO _ _
   have fin:∀ (q r:Value),q=aD (Int.fdiv (IV.z (b,s)) (IV.z (c,t)))→r=aD (Int.fmod (IV.z (b,s)) (IV.z (c,t)))→Value.tuple ⟨[q,r,.int .i64 0]⟩=ij.val ((b,s),(c,t)):=fun q r hq hr=>by
    have hz:IV.z (c,t)≠0:=fun e=>h1 (E3.1 e)
    simp only [ij,if_neg hz];rw [hq,hr]
   rcases Nat.eq_zero_or_pos (ab s) with h3 | h3
   ·rw [show (!rs.toList == (⟨#[]⟩:ByteArray).toList)=false by rw [il]; exact we h3]
    conv=>whnf
    refine .inr (.inl ⟨(.br 0 (.br 1 (.br 2 (.br 3 (.br 4 .leaf .leaf) .leaf) .leaf) (.br 2 (.br 1 (.br 3 (.br 4 .leaf .leaf) .leaf) .leaf) .leaf)) (.br 1 (.br 0 (.br 2 (.br 3 (.br 4 .leaf .leaf) .leaf) .leaf) .leaf) .leaf)),by kernel_rfl,?_⟩)
    have f1:=vW (b:=b) (c:=c) oU (.inl (show ab s % ab t=0 by rw [← hR]; exact h3))
    repeat' ((conv=>whnf); first | exact True.intro | refine And.intro ?_ ?_)
    all_goals conv=>whnf
    all_goals exact fin _ _ (eQ.trans (congrArg aD f1.1.symm)) (eR.trans (congrArg aD f1.2.symm))
   ·rw [show (!rs.toList == (⟨#[]⟩:ByteArray).toList)=true by rw [il]; exact wu (Nat.ne_of_gt h3)]
    conv=>whnf
    refine aI (fun h4=>?_) (fun h4=>?_)
    ·conv=>whnf
     refine .inl ⟨5,[[],[],[0,1],[],[],[0,1,2,3,4],[0,1,2,3,4,5],[0,1,2,3,4,5,6]],by kernel_rfl,?_⟩
     conv=>whnf
     have h4:b≠c:=by
      intro e;subst e;cases b <;> cases h4
     have f1:=Ez (b:=b) (c:=c) oU (show ab s % ab t≠0 by rw [← hR]; exact Nat.ne_of_gt h3) h4
     have DF:IV.z (qb,qs)=aX (b != c) (ab s / ab t):=by rw [qT,qC,← hQ]; exact Ce _ _
     have oV:IV.z (rb,rs)=aX b (ab s % ab t):=by rw [il,vn,← hR]; exact Ce _ _
     have sq:qs.size≤s.size:=by rw [qT,hQ]; exact AX (Nat.div_le_self _ _)
     have sr:rs.size≤s.size:=by rw [il,hR]; exact AX (Nat.mod_le _ _)
     have s1:=GB;refine ⟨(1:Int),rfl,⟨by decide,by decide⟩,?_⟩
     obtain ⟨v1,oP⟩:∃ v1,v1=nb 1:=⟨_,rfl⟩;rw [show eG.val (1:Int)=.agg ⟨[.bool false,.string v1]⟩ by rw [oP]; rfl]
     rw [← oP] at s1;conv=>whnf
     refine ⟨((qb,qs),(false,v1)),rfl,⟨by show qs.size≤_; omega,by show v1.size≤_; omega⟩,?_⟩
     obtain ⟨q2,eZ⟩:∃ q2,q2=nb (IV.z (qb,qs) - IV.z (false,v1)).natAbs:=⟨_,rfl⟩;obtain ⟨b2,dv⟩:∃ b2:Bool,b2=decide (IV.z (qb,qs) - IV.z (false,v1) < 0):=⟨_,rfl⟩;rw [show l9.val ((qb,qs),(false,v1))=.agg ⟨[.bool b2,.string q2]⟩ by rw [eZ,dv]; rfl]
     conv=>whnf
     refine ⟨((rb,rs),(c,t)),rfl,⟨by show rs.size≤_; omega,hp.2⟩,?_⟩
     obtain ⟨q3,gK⟩:∃ q3,q3=nb (IV.z (rb,rs)+IV.z (c,t)).natAbs:=⟨_,rfl⟩;obtain ⟨b3,sJ⟩:∃ b3:Bool,b3=decide (IV.z (rb,rs)+IV.z (c,t) < 0):=⟨_,rfl⟩;rw [show iG.val ((rb,rs),(c,t))=.agg ⟨[.bool b3,.string q3]⟩ by rw [gK,sJ]; rfl]
     have e2:Value.agg ⟨[.bool b2,.string q2]⟩=aD (aX (b != c) (ab s / ab t) - 1):=by
      have:IV.z (false,v1)=1:=by rw [oP]; show aX false (ab (nb 1))=1; rw [gN]; rfl
      rw [eZ,dv,DF,this]; rfl
     have e3:Value.agg ⟨[.bool b3,.string q3]⟩=aD (aX b (ab s % ab t)+aX c (ab t)):=by
      rw [gK,sJ,oV]; rfl
     conv=>whnf
     refine .inr (.inl ⟨(.br 0 (.br 1 (.br 2 (.br 3 (.br 4 .leaf .leaf) .leaf) .leaf) (.br 2 (.br 1 (.br 3 (.br 4 .leaf .leaf) .leaf) .leaf) .leaf)) (.br 1 (.br 0 (.br 2 (.br 3 (.br 4 .leaf .leaf) .leaf) .leaf) .leaf) .leaf)),by kernel_rfl,?_⟩)
     repeat' ((conv=>whnf); first | exact True.intro | refine And.intro ?_ ?_)
     all_goals conv=>whnf
     all_goals exact fin _ _ (e2.trans (congrArg aD f1.1.symm)) (e3.trans (congrArg aD f1.2.symm))
    ·conv=>whnf
     refine .inr (.inl ⟨(.br 0 (.br 1 (.br 2 (.br 3 (.br 4 .leaf .leaf) .leaf) .leaf) (.br 2 (.br 1 (.br 3 (.br 4 .leaf .leaf) .leaf) .leaf) .leaf)) (.br 1 (.br 0 (.br 2 (.br 3 (.br 4 .leaf .leaf) .leaf) .leaf) .leaf) .leaf)),by kernel_rfl,?_⟩)
     have h4:b=c:=by
      cases b <;> cases c <;> first | rfl | cases h4
     have f1:=vW (b:=b) (c:=c) (A:=ab s) oU (.inr h4)
     repeat' ((conv=>whnf); first | exact True.intro | refine And.intro ?_ ?_)
     all_goals conv=>whnf
     all_goals exact fin _ _ (eQ.trans (congrArg aD f1.1.symm)) (eR.trans (congrArg aD f1.2.symm))
  ·rw [show gm.val (ab s,aJ,ab t,aJ)=.tuple ⟨[kD 2 (ab s / ab t),kD 3 (ab s % ab t)]⟩ from if_neg (Nat.not_lt.2 J),show gm.new (ab s,aJ,ab t,aJ)=[dB (ab s / ab t),dB (ab s % ab t)] from if_neg (Nat.not_lt.2 J)]
   have hQ:ab s / ab t=ab s / ab t:=rfl;have hR:ab s % ab t=ab s % ab t:=rfl;conv=>whnf
   refine ⟨aP.aY (fun h=>h) (fun r hr=>rfl),?_⟩
   conv=>whnf
   refine ⟨aP.aY (fun h=>h) (fun r hr=>rfl),?_⟩
   conv=>whnf
   refine ⟨_,rfl,?_⟩;conv=>whnf
   refine .inl ⟨13,[[],[0],[],[2],[0,1,2,3],[],[0,1,2,3,4,5],[],[7],[],[0,1,2,3,4,5,6,7,8,9],[],[],[0,1,2,3,4,5,6,7,8,9,10,11,12],[0,1,2,3,4,5,6,7,8,9,10,11,12,13]],by kernel_rfl,?_⟩
   conv=>whnf
   refine ⟨(b != c,some (nl (ab s / ab t),ab s / ab t,aJ)),[6],rfl,⟨bR _,by have:=kN (Nat.div_le_self (ab s) (ab t)); omega⟩,?_⟩
   conv=>whnf
   refine ⟨aP.aY (fun h=>h) (fun r hr=>rfl),?_⟩
   conv=>whnf
   obtain ⟨qs,qT⟩:∃ qs,qs=nb (ab s / ab t):=⟨_,rfl⟩;obtain ⟨qb,qC⟩:∃ qb:Bool,qb=((b != c) && (ab s / ab t) != 0):=⟨_,rfl⟩;obtain ⟨rs,il⟩:∃ rs,rs=nb (ab s % ab t):=⟨_,rfl⟩;obtain ⟨rb,vn⟩:∃ rb:Bool,rb=(b && (ab s % ab t) != 0):=⟨_,rfl⟩;refine ⟨.agg ⟨[.bool qb,.string qs]⟩,by rw [qT,qC]; rfl,?_⟩
   conv=>whnf
   refine ⟨(b,some (nl (ab s % ab t),ab s % ab t,aJ)),[7],rfl,⟨bR _,by have:=kN (Nat.mod_le (ab s) (ab t)); omega⟩,?_⟩
   conv=>whnf
   refine ⟨aP.aY (fun h=>h) (fun r hr=>rfl),?_⟩
   conv=>whnf
   refine ⟨.agg ⟨[.bool rb,.string rs]⟩,by rw [il,vn]; rfl,?_⟩
   conv=>whnf
   have eQ:Value.agg ⟨[.bool qb,.string qs]⟩=aD (aX (b != c) (ab s / ab t)):=by rw [qT,qC,← hQ]; exact iO _ _
   have eR:Value.agg ⟨[.bool rb,.string rs]⟩=aD (aX b (ab s % ab t)):=by rw [il,vn,← hR]; exact iO _ _
   have fin:∀ (q r:Value),q=aD (Int.fdiv (IV.z (b,s)) (IV.z (c,t)))→r=aD (Int.fmod (IV.z (b,s)) (IV.z (c,t)))→Value.tuple ⟨[q,r,.int .i64 0]⟩=ij.val ((b,s),(c,t)):=fun q r hq hr=>by
    have hz:IV.z (c,t)≠0:=fun e=>h1 (E3.1 e)
    simp only [ij,if_neg hz];rw [hq,hr]
   rcases Nat.eq_zero_or_pos (ab s % ab t) with h3 | h3
   ·rw [show (!rs.toList == (⟨#[]⟩:ByteArray).toList)=false by rw [il]; exact we h3]
    conv=>whnf
    refine .inr (.inl ⟨(.br 0 (.br 1 (.br 2 (.br 3 (.br 4 .leaf .leaf) .leaf) .leaf) (.br 2 (.br 1 (.br 3 (.br 4 .leaf .leaf) .leaf) .leaf) .leaf)) (.br 1 (.br 0 (.br 2 (.br 3 (.br 4 .leaf .leaf) .leaf) .leaf) .leaf) .leaf)),by kernel_rfl,?_⟩)
    have f1:=vW (b:=b) (c:=c) oU (.inl (show ab s % ab t=0 by rw [← hR]; exact h3))
    repeat' ((conv=>whnf); first | exact True.intro | refine And.intro ?_ ?_)
    all_goals conv=>whnf
    all_goals exact fin _ _ (eQ.trans (congrArg aD f1.1.symm)) (eR.trans (congrArg aD f1.2.symm))
   ·rw [show (!rs.toList == (⟨#[]⟩:ByteArray).toList)=true by rw [il]; exact wu (Nat.ne_of_gt h3)]
    conv=>whnf
    refine aI (fun h4=>?_) (fun h4=>?_)
    ·conv=>whnf
     refine .inl ⟨5,[[],[],[0,1],[],[],[0,1,2,3,4],[0,1,2,3,4,5],[0,1,2,3,4,5,6]],by kernel_rfl,?_⟩
     conv=>whnf
     have h4:b≠c:=by
      intro e;subst e;cases b <;> cases h4
     have f1:=Ez (b:=b) (c:=c) oU (show ab s % ab t≠0 by rw [← hR]; exact Nat.ne_of_gt h3) h4
     have DF:IV.z (qb,qs)=aX (b != c) (ab s / ab t):=by rw [qT,qC,← hQ]; exact Ce _ _
     have oV:IV.z (rb,rs)=aX b (ab s % ab t):=by rw [il,vn,← hR]; exact Ce _ _
     have sq:qs.size≤s.size:=by rw [qT,hQ]; exact AX (Nat.div_le_self _ _)
     have sr:rs.size≤s.size:=by rw [il,hR]; exact AX (Nat.mod_le _ _)
     have s1:=GB;refine ⟨(1:Int),rfl,⟨by decide,by decide⟩,?_⟩
     obtain ⟨v1,oP⟩:∃ v1,v1=nb 1:=⟨_,rfl⟩;rw [show eG.val (1:Int)=.agg ⟨[.bool false,.string v1]⟩ by rw [oP]; rfl]
     rw [← oP] at s1;conv=>whnf
     refine ⟨((qb,qs),(false,v1)),rfl,⟨by show qs.size≤_; omega,by show v1.size≤_; omega⟩,?_⟩
     obtain ⟨q2,eZ⟩:∃ q2,q2=nb (IV.z (qb,qs) - IV.z (false,v1)).natAbs:=⟨_,rfl⟩;obtain ⟨b2,dv⟩:∃ b2:Bool,b2=decide (IV.z (qb,qs) - IV.z (false,v1) < 0):=⟨_,rfl⟩;rw [show l9.val ((qb,qs),(false,v1))=.agg ⟨[.bool b2,.string q2]⟩ by rw [eZ,dv]; rfl]
     conv=>whnf
     refine ⟨((rb,rs),(c,t)),rfl,⟨by show rs.size≤_; omega,hp.2⟩,?_⟩
     obtain ⟨q3,gK⟩:∃ q3,q3=nb (IV.z (rb,rs)+IV.z (c,t)).natAbs:=⟨_,rfl⟩;obtain ⟨b3,sJ⟩:∃ b3:Bool,b3=decide (IV.z (rb,rs)+IV.z (c,t) < 0):=⟨_,rfl⟩;rw [show iG.val ((rb,rs),(c,t))=.agg ⟨[.bool b3,.string q3]⟩ by rw [gK,sJ]; rfl]
     have e2:Value.agg ⟨[.bool b2,.string q2]⟩=aD (aX (b != c) (ab s / ab t) - 1):=by
      have:IV.z (false,v1)=1:=by rw [oP]; show aX false (ab (nb 1))=1; rw [gN]; rfl
      rw [eZ,dv,DF,this]; rfl
     have e3:Value.agg ⟨[.bool b3,.string q3]⟩=aD (aX b (ab s % ab t)+aX c (ab t)):=by
      rw [gK,sJ,oV]; rfl
     conv=>whnf
     refine .inr (.inl ⟨(.br 0 (.br 1 (.br 2 (.br 3 (.br 4 .leaf .leaf) .leaf) .leaf) (.br 2 (.br 1 (.br 3 (.br 4 .leaf .leaf) .leaf) .leaf) .leaf)) (.br 1 (.br 0 (.br 2 (.br 3 (.br 4 .leaf .leaf) .leaf) .leaf) .leaf) .leaf)),by kernel_rfl,?_⟩)
     repeat' ((conv=>whnf); first | exact True.intro | refine And.intro ?_ ?_)
     all_goals conv=>whnf
     all_goals exact fin _ _ (e2.trans (congrArg aD f1.1.symm)) (e3.trans (congrArg aD f1.2.symm))
    ·conv=>whnf
     refine .inr (.inl ⟨(.br 0 (.br 1 (.br 2 (.br 3 (.br 4 .leaf .leaf) .leaf) .leaf) (.br 2 (.br 1 (.br 3 (.br 4 .leaf .leaf) .leaf) .leaf) .leaf)) (.br 1 (.br 0 (.br 2 (.br 3 (.br 4 .leaf .leaf) .leaf) .leaf) .leaf) .leaf)),by kernel_rfl,?_⟩)
     have h4:b=c:=by
      cases b <;> cases c <;> first | rfl | cases h4
     have f1:=vW (b:=b) (c:=c) (A:=ab s) oU (.inr h4)
     repeat' ((conv=>whnf); first | exact True.intro | refine And.intro ?_ ?_)
     all_goals conv=>whnf
     all_goals exact fin _ _ (eQ.trans (congrArg aD f1.1.symm)) (eR.trans (congrArg aD f1.2.symm))
open Go Go.Ae
theorem Bu:bc Tryz.prog 191 ko:=by
 refine bf lu aK Tryz.func191 (enters_of Tryz.func191 (by kernel_rfl) rfl) (fun _=>rfl) (fun _=>rfl) ?_
 intro (s:ByteArray) (hs:s.size≤1099511627776);simp only [ko];conv=>whnf
 refine .inl ⟨fun mm tz hz=>∃ (u:ByteArray),bt (some (.string u)::aC 13 []) tz∧hz=[]∧u.size=mm∧(ab u=ab s∧u.size≤s.size),.inl ⟨_,s,(.aa (.sk 13 .nil rfl)),rfl,rfl,?_⟩,?_⟩
 ·exact ⟨rfl,Nat.le_refl _⟩
 rintro mm aS _ ⟨u,aw,rfl,rfl,⟨hu,hle⟩⟩
 obtain ⟨az,rfl⟩:∃ az:Nat→Value,aS=.string u::zs az 1 13 []:=bF aw;clear aw;conv=>whnf
 rcases Nat.eq_zero_or_pos u.size with h1 | h1
 ·rw [show decide (((u.size:Nat):Int) > 0)=false from decide_eq_false (by omega)]
  conv=>whnf
  rw [← hu,← yz (.inl h1)]
 ·rw [show decide (((u.size:Nat):Int) > 0)=true from decide_eq_true (by omega)]
  conv=>whnf
  refine ⟨⟨by omega,by omega⟩,?_⟩
  conv=>whnf
  refine aI (fun J=>?_) (fun J=>?_)
  ·have J:bT u 0=0:=by
    have J:((bT u 0:Nat):Int)=0:=by simpa using J
    omega
   obtain ⟨d1,d2⟩:=drop_zero (by omega) J
   conv=>whnf
   refine ⟨⟨by decide,by show (1:Int)≤((u.size:Nat):Int); omega,Int.le_refl _⟩,?_⟩
   conv=>whnf
   refine .inl ⟨_,?_,u.extract 1 u.size,(.aa (.sk 13 .nil rfl)),rfl,rfl,?_⟩
   ·rw [d2]; omega
   ·exact ⟨by rw [d1,hu],by rw [d2]; omega⟩
  ·have J:bT u 0≠0:=by
    intro h;have e:bT u (Int.toNat 0)=bT u 0:=rfl;rw [e,h] at J;simp at J
   conv=>whnf
   rw [← hu,← yz (.inr J)]
def Era:Env:=En [(191,.p ko)]
theorem y8:EnvOk Tryz.prog Era:=bC ⟨Bu,trivial⟩ trivial
theorem Fg:bc Tryz.prog 179 iQ:=by
 refine bf y8 aK Tryz.func179 (enters_of Tryz.func179 (by kernel_rfl) rfl) (fun _=>rfl) (fun _=>rfl) ?_
 intro ⟨b,s⟩ hp;have hp:s.size≤549755813888:=hp;obtain ⟨m,hm⟩:∃ m,m=nb (ab s):=⟨_,rfl⟩;have Pn:ko.val s=.string m:=by rw [hm]; rfl
 have fin:Value.agg ⟨[.bool (b && ab s != 0),.string m]⟩=aD (IV.z (b,s)):=by rw [hm]; exact iO b (ab s)
 conv=>whnf
 rcases Nat.eq_zero_or_pos s.size with h1 | h1
 ·rw [show decide ((((b,s).snd.size:Nat):Int) > 0)=false from decide_eq_false (by show ¬ (((s.size:Nat):Int) > 0); omega)]
  conv=>whnf
  refine ⟨s,rfl,by show s.size≤1099511627776; omega,?_⟩
  rw [Pn];cases b with
  | false =>
   conv=>whnf
   exact fin
  | true =>
   conv=>whnf
   refine Eq.trans ?_ fin;rw [hm];show Value.agg ⟨[.bool (!(nb (ab s)).toList == (⟨#[]⟩:ByteArray).toList),.string (nb (ab s))]⟩=_
   rw [Fy,Bool.true_and]
 ·rw [show decide ((((b,s).snd.size:Nat):Int) > 0)=true from decide_eq_true (by show (((s.size:Nat):Int) > 0); omega)]
  conv=>whnf
  refine ⟨⟨by decide,by show (0:Int) < ((s.size:Nat):Int); omega⟩,?_⟩
  conv=>whnf
  refine aI (fun J=>?_) (fun J=>?_)
  ·have J:bT s 0≠0:=by
    intro h;have e:bT (b,s).snd (Int.toNat 0)=bT s 0:=rfl;rw [e,h] at J;simp at J
   conv=>whnf
   exact TG h1 J
  ·conv=>whnf
   refine ⟨s,rfl,by show s.size≤1099511627776; omega,?_⟩
   rw [Pn];cases b with
   | false =>
    conv=>whnf
    exact fin
   | true =>
    conv=>whnf
    refine Eq.trans ?_ fin;rw [hm];show Value.agg ⟨[.bool (!(nb (ab s)).toList == (⟨#[]⟩:ByteArray).toList),.string (nb (ab s))]⟩=_
    rw [Fy,Bool.true_and]
theorem Fh:bc Tryz.prog 193 jN:=by
 refine bf y8 aK Tryz.func193 (enters_of Tryz.func193 (by kernel_rfl) rfl) (fun _=>rfl) (fun _=>rfl) ?_
 intro (s:ByteArray) (hp:s.size≤7);conv=>whnf
 refine .inl ⟨fun mm tz hz=>∃ (i:Nat) (N:Nat),bt (some (.string s)::aC 2 (some (.int .i64 N)::some (.int .i64 i)::aC 14 [])) tz∧hz=[]∧s.size - i=mm∧(i≤s.size∧N=ab s / C ^ (s.size - i)),.inl ⟨_,0,0,(.aa (.sk 2 (.aa (.aa (.sk 14 .nil rfl))) rfl)),rfl,rfl,?_⟩,?_⟩
 ·exact ⟨Nat.zero_le _,by rw [Nat.sub_zero,Nat.div_eq_of_lt (fY s)]⟩
 rintro mm aS _ ⟨i,N,aw,rfl,rfl,⟨hi,hN⟩⟩
 obtain ⟨az,rfl⟩:∃ az:Nat→Value,aS=.string s::zs az 1 2 (.int .i64 N::.int .i64 i::zs az 5 14 []):=bF aw;clear aw;have mo:=Cf s hi;rw [← hN] at mo;have ak:=Nat.lt_of_lt_of_le mo (nF (show i≤7 by omega))
 conv=>whnf
 refine aI (fun J=>?_) (fun J=>?_)
 ·have J:i < s.size:=by simpa using J
  have aq:=ye J;rw [← hN] at aq;have hb:bT s i < 256:=vU s i;have e3:IntKind.i64.wrap (((i:Nat):Int)+1)=((i+1:Nat):Int):=by rw [ax (by omega) (by omega)]; rfl
  have I9:=Nat.lt_of_lt_of_le mo (CW (show i≤6 by omega))
  conv=>whnf
  refine ⟨⟨by omega,by omega⟩,?_⟩
  simp only [toNat_cast];conv=>whnf
  rw [Ml (by omega) hb,e3]
  refine .inl ⟨_,?_,i+1,N*256+bT s i,(.aa (.sk 2 (.aa (.aa (.sk 14 .nil rfl))) rfl)),rfl,rfl,?_⟩
  ·omega
  ·exact ⟨by omega,aq.symm⟩
 ·have J:i=s.size:=by
   have J:¬ i < s.size:=by simpa using J
   omega
  subst J;rw [Nat.sub_self,Nat.pow_zero,Nat.div_one] at hN;subst hN;conv=>whnf
  rfl
def Erb:Env:=En [(193,.p jN)]
theorem abO:EnvOk Tryz.prog Erb:=bC ⟨Fh,trivial⟩ trivial
theorem Uc:bc Tryz.prog 181 wL:=by
 refine bf abO aK Tryz.func181 (enters_of Tryz.func181 (by kernel_rfl) rfl) (fun _=>rfl) (fun _=>rfl) ?_
 intro ⟨b,s⟩ hp;have hp:s.size≤7:=hp;have ak:=Nat.lt_of_lt_of_le (fY s) (nF hp);cases b with
 | true =>
  conv=>whnf
  refine ⟨s,rfl,hp,?_⟩;conv=>whnf
  rw [ax (by omega) (by omega)]
  show Value.int .i64 (0 - (ab s:Int))=.int .i64 (-(ab s:Int))
  rw [Int.zero_sub]
 | false =>
  conv=>whnf
  refine ⟨s,rfl,hp,?_⟩;conv=>whnf
  rfl
theorem Yl:bc Tryz.prog 177 HK:=by
 refine bf lu aK Tryz.func177 (enters_of Tryz.func177 (by kernel_rfl) rfl) (fun _=>rfl) (fun _=>rfl) ?_
 intro (n:Nat) (hp:n < 9223372036854775808);conv=>whnf
 refine aI (fun h1=>?_) (fun h1=>?_)
 ·have h1:n < 256:=by
   have:=of_decide_eq_true h1;omega
  conv=>whnf
  refine aI (fun J=>?_) (fun J=>?_)
  ·have J:n=0:=by
    have J:((n:Nat):Int)=0:=by simpa using J
    omega
   subst J;conv=>whnf
   show Value.string ⟨#[]⟩=.string (nb 0)
   rw [pA]
  ·have J:n≠0:=by
    intro e;subst e;simp at J
   conv=>whnf
   rw [pI];refine ⟨⟨Nat.le_refl _,fun r hr=>by
    have h0:r=0:=by
     have hr:r < 1:=hr;omega
    subst h0;exact ⟨_,rfl⟩⟩,?_⟩
   have e:=DY (g:=fun r=>[[Value.int .u8 ((n % C:Nat):Int)]].getD r []) (i:=0) (m:=1) (X:=n) (fun r hr=>by
    have:r=0:=by omega
    subst this;show [Value.int .u8 ((n % C:Nat):Int)]=[Value.int .u8 ((n / C ^ 0 % C:Nat):Int)]
    rw [Nat.pow_zero,Nat.div_one])
   conv=>whnf
   show _=Value.string (nb n)
   rw [wY (N:=n) (n:=1) h1 (.inr (by show 1≤n; omega)),← e]
   rfl
 ·have h1:256≤n:=by
   have:=of_decide_eq_false h1;omega
  conv=>whnf
  refine .inl ⟨fun mm tz hz=>∃ (i:Nat) (m:Nat) (g:Nat→List Value),bt (some (.int .i64 m)::aC 2 (some (.pointer (some ⟨0,0,none⟩))::some (.int .i64 i)::aC 21 [])) tz∧hz=[some (.flat true 8 1 g)]∧m=mm∧((i≤8∧m=n / C ^ (8 - i))∧(i=8∨C ^ (8 - i - 1)≤n)∧(∀ r,i≤r→r < 8→g r=[.int .u8 ((n / C ^ (7 - r) % C:Nat):Int)])∧(∀ r,r < 8→∃ x:Int,g r=[.int .u8 x])),.inl ⟨_,8,n,_,(.aa (.sk 2 (.aa (.aa (.sk 21 .nil rfl))) rfl)),rfl,rfl,?_⟩,?_⟩
  ·exact ⟨⟨Nat.le_refl _,by simp⟩,.inl rfl,fun r h1 J=>absurd h1 (by omega),fun r hr=>⟨0,rfl⟩⟩
  rintro mm aS _ ⟨i,m,g,aw,rfl,rfl,⟨⟨hi,hm⟩,ho,hg,cP⟩⟩
  obtain ⟨az,rfl⟩:∃ az:Nat→Value,aS=.int .i64 m::zs az 1 2 (.pointer (some ⟨0,0,none⟩)::.int .i64 i::zs az 5 21 []):=bF aw;clear aw;conv=>whnf
  refine aI (fun J=>?_) (fun J=>?_)
  ·have J:0 < m:=by
    have:=of_decide_eq_true J;omega
   have fA:0 < i:=by
    rcases Nat.eq_zero_or_pos i with h | h
    ·subst h;rw [hm] at J;rw [O6 hp] at J;exact absurd J (by decide)
    ·exact h
   obtain ⟨i,rfl⟩:∃ i',i=i'+1:=⟨i - 1,by omega⟩
   have ei:IntKind.i64.wrap (((i+1:Nat):Int) - 1)=((i:Nat):Int):=by rw [ax (by omega) (by omega)]; omega
   have dg:m / 256=n / C ^ (8 - i):=by
    rw [hm,DZ,show 8 - (i+1)+1=8 - i by omega]
   have HV:C ^ (8 - (i+1))≤n:=by
    rcases Nat.lt_or_ge n (C ^ (8 - (i+1))) with h | h
    ·rw [hm,Nat.div_eq_of_lt h] at J;exact absurd J (by decide)
    ·exact h
   conv=>whnf
   simp only [ei];refine ⟨⟨by omega,by omega⟩,?_⟩
   simp only [toNat_cast,au,Nat.zero_add];conv=>whnf
   refine ⟨by show i < 8; omega,?_⟩
   conv=>whnf
   obtain ⟨x,hx⟩:=cP i (by omega)
   rw [hx];conv=>whnf
   rw [pI,cU,show ((m:Nat):Int) / 256=((m / 256:Nat):Int) from rfl]
   refine .inl ⟨_,?_,i,m / 256,_,(.aa (.sk 2 (.aa (.aa (.sk 21 .nil rfl))) rfl)),rfl,rfl,?_⟩
   ·omega
   ·refine ⟨⟨by omega,dg⟩,.inr (by rw [show 8 - i - 1=8 - (i+1) by omega]; exact HV),fun r g8 eU=>?_,fun r hr=>?_⟩
    rotate_left
    ·by_cases he:r=i
     ·exact ⟨_,if_pos he⟩
     ·rw [if_neg he]; exact cP r hr
    by_cases he:r=i
    ·subst he;rw [if_pos rfl,hm,show 7 - r=8 - (r+1) by omega]
    ·rw [if_neg he];exact hg r (by omega) eU
  ·have J:m=0:=by
    have:=of_decide_eq_false J;omega
   have ak:n < C ^ (8 - i):=by
    rw [J] at hm;have h3:=Nat.mod_lt n (gB (8 - i));have h4:=Nat.mod_add_div n (C ^ (8 - i));rw [← hm,Nat.mul_zero,Nat.add_zero] at h4;rw [← h4]; exact h3
   obtain ⟨k,hk⟩:∃ k,8 - i=k+1:=⟨8 - i - 1,by
    rcases Nat.eq_zero_or_pos (8 - i) with h | h
    ·rw [h,Nat.pow_zero] at ak; omega
    ·omega⟩
   rw [hk] at ak;have ho:C ^ k≤n:=by
    rcases ho with h | h
    ·omega
    ·rw [show 8 - i - 1=k by omega] at h; exact h
   have e:=DY (g:=g) (i:=i) (m:=k+1) (X:=n) (fun r hr=>by
    rw [hg (i+r) (by omega) (by omega),show 7 - (i+r)=k+1 - 1 - r by omega])
   conv=>whnf
   refine ⟨⟨by omega,by omega,Int.le_refl _,Nat.le_refl _,rfl⟩,?_⟩
   simp only [toNat_cast,au,Nat.zero_add,hk];conv=>whnf
   refine ⟨⟨by show i+(k+1)≤8; omega,fun r hr=>cP (i+r) (by omega)⟩,?_⟩
   conv=>whnf
   show Value.string ⟨⟨bytesOf g i (k+1)⟩⟩=Value.string (nb n)
   rw [e,wY ak (.inr ho)]
theorem EH:bc Tryz.prog 180 rA:=by
 refine bf lu aK Tryz.func180 (enters_of Tryz.func180 (by kernel_rfl) rfl) (fun _=>rfl) (fun _=>rfl) ?_
 intro ⟨A,D⟩ hp;have hp:aO A≤1099511627776∧aO D≤1099511627776:=hp;simp only [rA];obtain ⟨a,ha⟩:∃ a,a=nb A:=⟨_,rfl⟩;obtain ⟨d,hd⟩:∃ d,d=nb D:=⟨_,rfl⟩;rw [← ha,← hd];have l1:a.size=d.size→Op.bytesLess a.toList d.toList=decide (A < D):=fun h=>by rw [ha,hd] at h ⊢; exact TH h
 have l2:(a.toList == d.toList)=decide (A=D):=by rw [ha,hd]; exact TJ
 have l3:a.size < d.size→A < D:=fun h=>by rw [ha,hd] at h; exact LA h
 have l4:d.size < a.size→D < A:=fun h=>by rw [ha,hd] at h; exact LA h
 conv=>whnf
 refine aI (fun h1=>?_) (fun h1=>?_)
 ·have h1:a.size≠d.size:=by
   intro e;rw [e] at h1;simp at h1
  conv=>whnf
  refine aI (fun J=>?_) (fun J=>?_)
  ·have J:=l3 (by have:=of_decide_eq_true J; omega)
   conv=>whnf
   rw [cH,if_pos J]
  ·have J:=l4 (by have:=of_decide_eq_false J; omega)
   conv=>whnf
   rw [cH,if_neg (by omega),if_pos J]
 ·have h1:a.size=d.size:=by
   have h1:((a.size:Nat):Int)=((d.size:Nat):Int):=by simpa using h1
   omega
  conv=>whnf
  rw [l1 h1];refine aI (fun J=>?_) (fun J=>?_)
  ·have J:=of_decide_eq_true J;conv=>whnf
   rw [cH,if_pos J]
  ·have J:=of_decide_eq_false J;conv=>whnf
   rw [l1 h1,l2];refine aI (fun h3=>?_) (fun h3=>?_)
   ·have h3:D < A:=by
     simp [J] at h3;omega
    conv=>whnf
    rw [cH,if_neg J,if_pos h3]
   ·have h3:A=D:=by
     simpa [J] using h3
    conv=>whnf
    subst h3;rw [cH,if_neg J,if_neg J]
end Go.Proofs.YtlapbjdhekcipaaGreat
