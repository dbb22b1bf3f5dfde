import Derived.Test.YtppeponndkfbkaaGreatSF
set_option linter.unusedVariables false
set_option linter.unusedSimpArgs false
/- Contracts of bigint: one digit of a long division. -/
set_option maxRecDepth 20000
set_option maxHeartbeats 4000000
namespace Go.Proofs.YtppeponndkfbkaaGreat
open Go Go.Ae
def Eg:Env:=En [(170,.p sub32S),(173,.p add32S)]
theorem Egok:EnvOk Tryz.prog Eg:=Enk ⟨sub32_ok,add32_ok,trivial⟩ trivial
theorem digit_ok:FTOk Tryz.prog 168 (wFT digitS):=by
 refine wft_of Egok Dok Tryz.func168 (enters_of Tryz.func168 (by kernel_rfl) rfl) ?_
 intro ⟨X,m,cx,D,cd,j⟩ hp
 have hp:m≤137438953473∧2≤nl D∧2147483648≤limb D (nl D - 1)∧j+nl D < m∧X < D*B ^ (j+1):=hp
 obtain ⟨n,hn⟩:∃ n,n=nl D - 2:=⟨_,rfl⟩
 obtain ⟨n1,hn1⟩:∃ n1,n1=nl D - 1:=⟨_,rfl⟩
 obtain ⟨n2,hn2⟩:∃ n2,n2=nl D:=⟨_,rfl⟩
 rw [← hn1,← hn2] at hp
 have hn:n2=n+2∧n1=n+1:=by omega
 have hlX1:=limb_lt X (j+n2)
 have hlX2:=limb_lt X (j+n1)
 have hlX3:=limb_lt X (j+n)
 have hlD1:=limb_lt D n1
 have hlD0:=limb_lt D n
 have hB:B=4294967296:=rfl
 conv=>whnf
 refine .inl ⟨16,[[],[],[],[1,2],[0,1,2,3],[0,1,2,3,4],[0,1,2,3,4,5],[0,1,2,3,4,5,6],[],[],[],[9,10],[9,10,11],[8,9,10,11,12],[8,9,10,11,12,13],[8,9,10,11,12,13,14],[0,1,2,3,4,5,6,7,8,9,10,11,12,13,14,15],[0,1,2,3,4,5,6,7,8,9,10,11,12,13,14,15,16]],by kernel_rfl,?_⟩
 conv=>whnf
 rw [← hn2]
 have e1:IntKind.i64.wrap (((j:Nat):Int)+((n2:Nat):Int))=((j+n2:Nat):Int):=by rw [wrapi64 (by omega) (by omega)]; omega
 have e2:IntKind.i64.wrap (((j+n2:Nat):Int) - 1)=((j+n1:Nat):Int):=by rw [wrapi64 (by omega) (by omega)]; omega
 have e3:IntKind.i64.wrap (((j+n2:Nat):Int) - 2)=((j+n:Nat):Int):=by rw [wrapi64 (by omega) (by omega)]; omega
 have e4:IntKind.i64.wrap (((n2:Nat):Int) - 1)=((n1:Nat):Int):=by rw [wrapi64 (by omega) (by omega)]; omega
 have e5:IntKind.i64.wrap (((n2:Nat):Int) - 2)=((n:Nat):Int):=by rw [wrapi64 (by omega) (by omega)]; omega
 simp only [e1]
 refine ⟨⟨by omega,by omega⟩,?_⟩
 simp only [toNat_cast,rowAdd_eq,Nat.zero_add]
 conv=>whnf
 refine ⟨by show j+n2 < m; omega,?_⟩
 conv=>whnf
 simp only [e1,e2]
 refine ⟨⟨by omega,by omega⟩,?_⟩
 simp only [toNat_cast,rowAdd_eq,Nat.zero_add]
 conv=>whnf
 refine ⟨by show j+n1 < m; omega,?_⟩
 conv=>whnf
 have hl64:∀ l:Nat,l < B→IntKind.u64.wrap ((l:Nat):Int)=(l:Int):=fun l hl=>wrapu64 (by omega) (by omega)
 have hsl:∀ l:Nat,l < B→IntKind.u64.wrap ((l:Int)*4294967296)=(l:Int)*4294967296:=fun l hl=>wrapu64 (by omega) (by omega)
 simp only [hl64 _ hlX1,hl64 _ hlX2,shl_u64_32,hsl _ hlX1,or_word' _ _ hlX1 hlX2]
 obtain ⟨top,htop⟩:∃ top,top=limb X (j+n2)*4294967296+limb X (j+n1):=⟨_,rfl⟩
 have etop:((limb X (j+n2):Nat):Int)*4294967296+((limb X (j+n1):Nat):Int)=(top:Int):=by omega
 simp only [etop]
 obtain ⟨d1,hd1⟩:∃ d1,d1=limb D n1:=⟨_,rfl⟩
 obtain ⟨d0,hd0⟩:∃ d0,d0=limb D n:=⟨_,rfl⟩
 have hp3:2147483648≤d1:=by rw [hd1]; exact hp.2.2.1
 have hd1B:d1 < 4294967296:=by rw [hd1]; exact hlD1
 have hd0B:d0 < 4294967296:=by rw [hd0]; exact hlD0
 have htopB:top < 18446744073709551616:=by omega
 refine .inl ⟨17,[[],[],[],[2],[1,2,3],[1,2,3,4],[1,2,3,4,5],[0,1,2,3,4,5,6],[],[],[],[10],[9,10,11],[9,10,11,12],[9,10,11,12,13],[8,9,10,11,12,13,14],[0,1,2,3,4,5,6,7],[0,1,2,3,4,5,6,7,8,9,10,11,12,13,14,15,16]],by kernel_rfl,?_⟩
 conv=>whnf
 simp only [e4]
 refine ⟨⟨by omega,by omega⟩,?_⟩
 simp only [toNat_cast,rowAdd_eq,Nat.zero_add]
 conv=>whnf
 refine ⟨by show n1 < nl D; omega,?_⟩
 conv=>whnf
 simp only [hl64 _ hlD1]
 rw [← hd1]
 have hne:decide ((d1:Int)≠0)=true:=decide_eq_true (by omega)
 rw [hne]
 conv=>whnf
 simp only [e4]
 refine ⟨⟨by omega,by omega⟩,?_⟩
 simp only [toNat_cast,rowAdd_eq,Nat.zero_add]
 conv=>whnf
 refine ⟨by show n1 < nl D; omega,?_⟩
 conv=>whnf
 simp only [hl64 _ hlD1]
 rw [← hd1,hne]
 conv=>whnf
 obtain ⟨w0,hw0⟩:∃ w0,w0=limb X (j+n):=⟨_,rfl⟩
 rw [← hw0] at hlX3
 obtain ⟨Q,hQ⟩:∃ Q,Q=X / B ^ j / D:=⟨_,rfl⟩
 obtain ⟨q0,hq0⟩:∃ q0,q0=top / d1:=⟨_,rfl⟩
 have F:=digitF hn2 hn.1 hn.2 hp.2.2.1 hp.2.2.2.2 htop hd1 hd0 hw0 hQ hq0
 clear hQ
 obtain ⟨hp1,hp4⟩:m≤137438953473∧j+n2 < m:=⟨hp.1,hp.2.2.2.1⟩
 clear hp
 have fq3:q0≤4294967297:=F.fq2
 have eq0:IntKind.u64.wrap ((q0:Nat):Int)=((q0:Nat):Int):=wrapu64 (by omega) (by omega)
 simp only [tdiv_nat,tmod_nat]
 rw [← hq0,eq0]
 refine .inl ⟨fun mm tz hz=>∃ (q:Nat) (r:Nat),Pat (some (.slice (some ⟨0,0,none⟩) m cx)::some (.slice (some ⟨1,0,none⟩) n2 cd)::some (.int .i64 j)::nos 3 (some (.int .u32 0)::some (.int .i64 n2)::nos 1 (some (.int .u64 q)::some (.int .u64 r)::nos 183 []))) tz∧hz=[some (.flat true m 1 (limbRow X)),some (newB D)]∧q=mm∧(q*d1+r=top∧Q≤q∧q≤4294967297),.inr ⟨[0,1],[0,1,2,6,7,9,10],?_⟩,?_⟩
 ·conv=>whnf
  intro _
  conv=>whnf
  refine ⟨_,q0,top % d1,(.keep (.keep (.keep (.sk 3 (.keep (.keep (.sk 1 (.keep (.keep (.sk 183 .nil rfl))) rfl))) rfl)))),rfl,rfl,?_⟩
  exact ⟨by rw [hq0,Nat.mul_comm]; exact Nat.div_add_mod top d1,F.fq,F.fq2⟩
 rintro mm tms _ ⟨q,r,hpat,rfl,rfl,⟨he,hq1,hq2⟩⟩
 obtain ⟨az,rfl⟩:∃ az:Nat→Value,tms=.slice (some ⟨0,0,none⟩) m cx::.slice (some ⟨1,0,none⟩) n2 cd::.int .i64 j::zs az 3 3 (.int .u32 0::.int .i64 n2::zs az 8 1 (.int .u64 q::.int .u64 r::zs az 11 183 [])):=pat_fill hpat
 clear hpat
 have hr:r < 18446744073709551616:=Nat.lt_of_le_of_lt (Nat.le_trans (Nat.le_add_left _ _) (Nat.le_of_eq he)) htopB
 refine .inl ⟨27,[[],[0],[0,1],[0,1,2],[0,1,2,3],[0,1,2,3,4],[0,1,2,3,4,5],[0,1,2,3,4,5,6],[0,1,2,3,4,5,6,7],[0,1,2,3,4,5,6,7],[0,1,2,3,4,5,6,7],[0,1,2,3,4,5,6,7,10],[0,1,2,3,4,5,6,7,9,10,11],[0,1,2,3,4,5,6,7,9,10,11,12],[0,1,2,3,4,5,6,7,9,10,11,12,13],[0,1,2,3,4,5,6,7,8,9,10,11,12,13,14],[0,1,2,3,4,5,6,7],[0,1,2,3,4,5,6,7,16],[0,1,2,3,4,5,6,7],[0,1,2,3,4,5,6,7],[0,1,2,3,4,5,6,7],[0,1,2,3,4,5,6,7,19,20],[0,1,2,3,4,5,6,7,19,20,21],[0,1,2,3,4,5,6,7,18,19,20,21,22],[0,1,2,3,4,5,6,7,18,19,20,21,22,23],[0,1,2,3,4,5,6,7,18,19,20,21,22,23,24],[0,1,2,3,4,5,6,7,16,17,18,19,20,21,22,23,24,25],[0,1,2,3,4,5,6,7,8,9,10,11,12,13,14,15,16,17,18,19,20,21,22,23,24,25,26],[0,1,2,3,4,5,6,7,8,9,10,11,12,13,14,15,16,17,18,19,20,21,22,23,24,25,26,27],[0,1,2,3,4,5,6,7,8,9,10,11,12,13,14,15,16,17,18,19,20,21,22,23,24,25,26,27,28]],by kernel_rfl,?_⟩
 conv=>whnf
 simp only [shr_u64_32,div_B]
 rcases Nat.lt_or_ge q 4294967296 with hqB | hqB
 ·rw [show decide (((q / B:Nat):Int) > 0)=false from decide_eq_false (by show ¬ (((q / 4294967296:Nat):Int) > 0); omega)]
  conv=>whnf
  simp only [shr_u64_32,div_B]
  have hend:q*d0≤r*B+w0∨B≤r→q≤Q+1:=fun h=>by
   rw [F.fQ]
   exact est_end (Bpos n) F.fW F.fD he hqB F.fP hd0B h.symm
  rcases Nat.lt_or_ge r 4294967296 with hrB | hrB
  ·rw [show (((((r / B:Nat):Int) == 0):Bool))=true by show decide (((r / 4294967296:Nat):Int)=0)=true; exact decide_eq_true (by omega)]
   conv=>whnf
   simp only [e5]
   refine ⟨⟨by omega,by omega⟩,?_⟩
   simp only [toNat_cast,rowAdd_eq,Nat.zero_add]
   conv=>whnf
   refine ⟨by show n < nl D; omega,?_⟩
   conv=>whnf
   simp only [hl64 _ hlD0]
   rw [← hd0,(mul64 hq2 hd0B).1]
   simp only [e1,e3]
   obtain ⟨vq,hvq⟩:∃ v,v=Value.int .u64 ((q*d0:Nat):Int):=⟨_,rfl⟩
   rw [← hvq]
   refine ⟨⟨by omega,by omega⟩,?_⟩
   simp only [toNat_cast,rowAdd_eq,Nat.zero_add]
   conv=>whnf
   refine ⟨by show j+n < m; omega,?_⟩
   conv=>whnf
   rw [← hw0]
   simp only [hl64 _ hlX3,shl_u64_32,hsl r hrB,or_word' _ _ hrB hlX3]
   rw [show ((r:Nat):Int)*4294967296+((w0:Nat):Int)=((r*4294967296+w0:Nat):Int) by omega]
   obtain ⟨qd,hqd⟩:∃ qd,qd=q*d0:=⟨_,rfl⟩
   obtain ⟨rw0,hrw0⟩:∃ rw0,rw0=r*4294967296+w0:=⟨_,rfl⟩
   rw [hvq,← hqd,← hrw0]
   conv=>whnf
   rcases Nat.lt_or_ge rw0 qd with hlt2 | hge2
   ·rw [show decide ((qd:Int) > (rw0:Int))=true from decide_eq_true (by omega)]
    have hlt:Q < q:=by
     rw [F.fQ]
     refine est_down F.fD0 (Bpos n) F.fW F.fD he ?_
     rw [← hqd]
     show r*4294967296+w0 < qd
     omega
    clear hvq hqd hrw0 hlt2
    conv=>whnf
    have ep:IntKind.u64.wrap ((q:Int) - 1)=((q - 1:Nat):Int):=by rw [wrapu64 (by omega) (by omega)]; omega
    have he2:(q - 1)*d1+(r+d1)=top:=by
     have h1:(q - 1)*d1+d1=q*d1:=by
      conv=>rhs; rw [show q=(q - 1)+1 by omega,Nat.add_mul,Nat.one_mul]
     omega
    have hr2:r+d1 < 18446744073709551616:=Nat.lt_of_le_of_lt (Nat.le_trans (Nat.le_add_left _ _) (Nat.le_of_eq he2)) htopB
    have er:IntKind.u64.wrap ((r:Int)+(d1:Int))=((r+d1:Nat):Int):=by rw [wrapu64 (by omega) (by omega)]; omega
    simp only [ep,e4]
    refine ⟨⟨by omega,by omega⟩,?_⟩
    simp only [toNat_cast,rowAdd_eq,Nat.zero_add]
    conv=>whnf
    refine ⟨by show n1 < nl D; omega,?_⟩
    conv=>whnf
    simp only [hl64 _ hlD1]
    rw [← hd1,er]
    simp only [shr_u64_32,div_B]
    rcases Nat.lt_or_ge (r+d1) 4294967296 with hrB | hrB
    ·rw [show decide ((((r+d1) / B:Nat):Int) > 0)=false from decide_eq_false (by show ¬ ((((r+d1) / 4294967296:Nat):Int) > 0); omega)]
     conv=>whnf
     refine .inr ⟨[0,1],[0,1,2,6,7,9,10],?_⟩
     conv=>whnf
     intro _
     conv=>whnf
     refine ⟨_,?_,q - 1,r+d1,(.keep (.keep (.keep (.sk 3 (.keep (.keep (.sk 1 (.keep (.keep (.sk 183 .nil rfl))) rfl))) rfl)))),rfl,rfl,?_⟩
     ·omega
     ·exact ⟨he2,by omega,by omega⟩
    ·rw [show decide ((((r+d1) / B:Nat):Int) > 0)=true from decide_eq_true (by show ((((r+d1) / 4294967296:Nat):Int) > 0); omega)]
     conv=>whnf
     simp only [shr_u64_32,div_B]
     rcases Nat.lt_or_ge (q - 1) 4294967296 with hqB2 | hqB2
     ·rw [show (((((q - 1) / B:Nat):Int) == 0):Bool)=true by show decide ((((q - 1) / 4294967296:Nat):Int)=0)=true; exact decide_eq_true (by omega)]
      conv=>whnf
      obtain ⟨qt,hqt⟩:∃ qt,qt=q - 1:=⟨_,rfl⟩
      have hT:qt < 4294967296∧Q≤qt∧qt≤Q+1:=by
       have h3:q - 1≤X / B ^ j / D+1:=est_end (Bpos n) F.fW F.fD he2 hqB2 F.fP hd0B (.inl hrB)
       rw [← F.fQ] at h3
       omega
      rw [← hqt]
      clear hqB hqB2 hlt ep he2 hr2 er hrB he hr hq1 hq2 hqt
      conv=>whnf
      refine .inl ⟨fun mm tz hz=>∃ (i:Nat) (c:Nat) (b:Nat) (Z:Nat),Pat (some (.slice (some ⟨0,0,none⟩) m cx)::some (.slice (some ⟨1,0,none⟩) n2 cd)::some (.int .i64 j)::nos 3 (some (.int .u32 0)::some (.int .i64 n2)::nos 1 (some (.int .u64 qt)::nos 1 (some (.int .u64 c)::some (.int .u32 b)::nos 88 (some (.slice (some ⟨1,0,none⟩) n2 cd)::some (.int .i64 n2)::some (.int .i64 i)::nos 90 []))))) tz∧hz=[some (.flat true m 1 (limbRow Z)),some (newB D)]∧n2 - i=mm∧((i≤n2∧c < 4294967296∧b≤1)∧Z < B ^ (j+n2+1)∧Z+qt*(D % B ^ i)*B ^ j=X+(b+c)*B ^ (j+i)),.inr ⟨[0,1],[0,1,2,6,7,9,11,12,101,102,103],?_⟩,?_⟩
      ·conv=>whnf
       intro _
       conv=>whnf
       refine ⟨_,0,0,0,X,(.keep (.keep (.keep (.sk 3 (.keep (.keep (.sk 1 (.keep (.sk 1 (.keep (.keep (.sk 88 (.keep (.keep (.keep (.sk 90 .nil rfl)))) rfl))) rfl)) rfl))) rfl)))),rfl,rfl,?_⟩
       exact ⟨⟨Nat.zero_le _,by decide,by decide⟩,F.fX,by simp [Nat.mod_one]⟩
      rintro mm tms _ ⟨i,c,b,Z,hpat,rfl,rfl,⟨⟨hi,hc,hb⟩,hZ,he⟩⟩
      obtain ⟨az,rfl⟩:∃ az:Nat→Value,tms=.slice (some ⟨0,0,none⟩) m cx::.slice (some ⟨1,0,none⟩) n2 cd::.int .i64 j::zs az 3 3 (.int .u32 0::.int .i64 n2::zs az 8 1 (.int .u64 qt::zs az 10 1 (.int .u64 c::.int .u32 b::zs az 13 88 (.slice (some ⟨1,0,none⟩) n2 cd::.int .i64 n2::.int .i64 i::zs az 104 90 [])))):=pat_fill hpat
      clear hpat
      conv=>whnf
      refine br_intro (fun h1=>?_) (fun h1=>?_)
      ·have h1:i < n2:=by simpa using h1
       conv=>whnf
       refine ⟨⟨by omega,by omega⟩,?_⟩
       simp only [toNat_cast,rowAdd_eq,Nat.zero_add]
       conv=>whnf
       refine ⟨by show i < nl D; omega,?_⟩
       conv=>whnf
       obtain ⟨x,hx⟩:∃ x,x=limb D i:=⟨_,rfl⟩
       obtain ⟨l,hl⟩:∃ l,l=limb Z (j+i):=⟨_,rfl⟩
       obtain ⟨t,ht⟩:∃ t,t=c+qt*limb D i:=⟨_,rfl⟩
       have hxB:x < B:=by rw [hx]; exact limb_lt D i
       have hlB:l < 4294967296:=by rw [hl]; exact limb_lt Z (j+i)
       obtain ⟨hv,htC⟩:=muladd64 (t:=t) hc hT.1 hxB (by rw [hx]; exact ht)
       have htm:t % B < 4294967296:=Nat.mod_lt _ (by decide)
       obtain ⟨d,hd⟩:∃ d,d=(l+2*4294967296 - t % B - b) % 4294967296:=⟨_,rfl⟩
       obtain ⟨b',hb'⟩:∃ b',b'=if l < t % B+b then 1 else 0:=⟨_,rfl⟩
       have hdB:d < 4294967296:=by rw [hd]; exact Nat.mod_lt _ (by decide)
       have hst:=away_step (i:=i) (j:=j) (d:=d) (b':=b') he ht (by
        rw [← hl,hb',hB,← hB]
        clear he hZ ht hv
        obtain ⟨u,hu⟩:∃ u,u=t % B:=⟨_,rfl⟩
        rw [← hu] at hd htm ⊢
        split <;> omega)
       have hZ2:=setLimb_lt hZ (show j+i < j+n2+1 by omega) (show d < B from hdB)
       have hb2:b'≤1:=by rw [hb']; split <;> omega
       have e6:IntKind.i64.wrap (((j:Nat):Int)+((i:Nat):Int))=((j+i:Nat):Int):=by rw [wrapi64 (by omega) (by omega)]; omega
       have e7:IntKind.i64.wrap (((i:Nat):Int)+1)=((i+1:Nat):Int):=by rw [wrapi64 (by omega) (by omega)]; omega
       rw [← hx]
       simp only [hl64 _ hxB,hv,e6]
       refine ⟨⟨by omega,by omega⟩,?_⟩
       simp only [toNat_cast,rowAdd_eq,Nat.zero_add]
       conv=>whnf
       refine ⟨by show j+i < m; omega,?_⟩
       conv=>whnf
       rw [← hl]
       simp only [u32_mod]
       refine ⟨(l,t % B,b),rfl,⟨hlB,htm,hb⟩,?_⟩
       simp only [sub32S,← hd,← hb',e6]
       conv=>whnf
       refine ⟨⟨by omega,by omega⟩,?_⟩
       simp only [toNat_cast,rowAdd_eq,Nat.zero_add]
       conv=>whnf
       refine ⟨by show j+i < m; omega,?_⟩
       conv=>whnf
       simp only [shr_u64_32,div_B,e7]
       rw [limbRow_set hdB]
       refine .inl ⟨_,?_,i+1,t / B,b',setLimb Z (j+i) d,(.keep (.keep (.keep (.sk 3 (.keep (.keep (.sk 1 (.keep (.sk 1 (.keep (.keep (.sk 88 (.keep (.keep (.keep (.sk 90 .nil rfl)))) rfl))) rfl)) rfl))) rfl)))),rfl,rfl,?_⟩
       ·omega
       ·exact ⟨⟨by omega,htC,hb2⟩,hZ2,hst⟩
      ·have h1:i=n2:=by
        have h1:¬ i < n2:=by simpa using h1
        omega
       subst h1
       obtain ⟨l,hl⟩:∃ l,l=limb Z (j+i):=⟨_,rfl⟩
       have hlB:l < 4294967296:=by rw [hl]; exact limb_lt Z (j+i)
       obtain ⟨d,hd⟩:∃ d,d=(l+2*4294967296 - c - b) % 4294967296:=⟨_,rfl⟩
       obtain ⟨b',hb'⟩:∃ b',b'=if l < c+b then 1 else 0:=⟨_,rfl⟩
       have hdB:d < 4294967296:=by rw [hd]; exact Nat.mod_lt _ (by decide)
       have hst:=away_last (j:=j) (d:=d) (b':=b') (by rw [hn2]; exact lt_nl D) hc he (by
        rw [← hl,hb',hB,← hB]
        clear he hZ
        split <;> omega)
       have hZ2:=setLimb_lt hZ (show j+i < j+i+1 by omega) (show d < B from hdB)
       have hcm:c % B=c:=Nat.mod_eq_of_lt hc
       have hb2:b'≤1:=by rw [hb']; split <;> omega
       have hqm:qt % B=qt:=Nat.mod_eq_of_lt hT.1
       have hE:0 < D*B ^ j:=Nat.mul_pos F.fD0 (Bpos j)
       have hQ2:Q=X / (D*B ^ j):=by rw [F.fQ,Nat.div_div_eq_div_mul,Nat.mul_comm]
       conv=>whnf
       simp only [e1]
       refine ⟨⟨by omega,by omega⟩,?_⟩
       simp only [toNat_cast,rowAdd_eq,Nat.zero_add]
       conv=>whnf
       refine ⟨by show j+i < m; omega,?_⟩
       conv=>whnf
       rw [← hl]
       simp only [u32_mod,hcm]
       refine ⟨(l,c,b),rfl,⟨hlB,hc,hb⟩,?_⟩
       simp only [sub32S,← hd,← hb',e1]
       conv=>whnf
       refine ⟨⟨by omega,by omega⟩,?_⟩
       simp only [toNat_cast,rowAdd_eq,Nat.zero_add]
       conv=>whnf
       refine ⟨by show j+i < m; omega,?_⟩
       conv=>whnf
       rw [limbRow_set hdB]
       refine br_intro (fun h2=>?_) (fun h2=>?_)
       ·have h2:b'=0:=by
         have:=of_decide_eq_true h2
         omega
        clear hb'
        subst h2
        rw [Nat.zero_mul,Nat.add_zero] at hst
        obtain ⟨hr1,hr2⟩:=right_guess hE hst (by rw [← hQ2]; exact hT.2.1)
        conv=>whnf
        simp only [u32_mod,hqm]
        exact wres_digit (i:=⟨X,m,cx,D,cd,j⟩) hr2 hr1 rfl
       ·have h2:b'=1:=by
         have:=of_decide_eq_false h2
         omega
        clear hb'
        subst h2
        rw [Nat.one_mul] at hst
        obtain ⟨hr1,hr2⟩:=large_guess hE hst hZ2 (by rw [← hQ2]; exact hT.2.2)
        obtain ⟨Y,hY⟩:∃ Y,Y=setLimb Z (j+i) d:=⟨_,rfl⟩
        rw [← hY] at hr2 hZ2 ⊢
        clear hst he hZ hY hc hb hl hlB hd hdB hcm
        conv=>whnf
        refine .inl ⟨fun mm tz hz=>∃ (k:Nat) (c:Nat) (V:Nat),Pat (some (.slice (some ⟨0,0,none⟩) m cx)::some (.slice (some ⟨1,0,none⟩) i cd)::some (.int .i64 j)::nos 3 (some (.int .u32 0)::some (.int .i64 i)::nos 1 (some (.int .u64 qt)::nos 5 (some (.int .u32 c)::nos 141 (some (.slice (some ⟨1,0,none⟩) i cd)::some (.int .i64 i)::some (.int .i64 k)::nos 34 []))))) tz∧hz=[some (.flat true m 1 (limbRow V)),some (newB D)]∧i - k=mm∧((k≤i∧c≤1)∧V < B ^ (j+i+1)∧V+c*B ^ (j+k)=Y+D % B ^ k*B ^ j),.inr ⟨[0,1],[0,1,2,6,7,9,15,157,158,159],?_⟩,?_⟩
        ·conv=>whnf
         intro _
         conv=>whnf
         refine ⟨_,0,0,Y,(.keep (.keep (.keep (.sk 3 (.keep (.keep (.sk 1 (.keep (.sk 5 (.keep (.sk 141 (.keep (.keep (.keep (.sk 34 .nil rfl)))) rfl)) rfl)) rfl))) rfl)))),rfl,rfl,?_⟩
         exact ⟨⟨Nat.zero_le _,by decide⟩,hZ2,by simp [Nat.mod_one]⟩
        rintro mm tms _ ⟨k,c,V,hpat,rfl,rfl,⟨⟨hk,hc⟩,hV,he⟩⟩
        obtain ⟨az,rfl⟩:∃ az:Nat→Value,tms=.slice (some ⟨0,0,none⟩) m cx::.slice (some ⟨1,0,none⟩) i cd::.int .i64 j::zs az 3 3 (.int .u32 0::.int .i64 i::zs az 8 1 (.int .u64 qt::zs az 10 5 (.int .u32 c::zs az 16 141 (.slice (some ⟨1,0,none⟩) i cd::.int .i64 i::.int .i64 k::zs az 160 34 [])))):=pat_fill hpat
        clear hpat
        conv=>whnf
        refine br_intro (fun h3=>?_) (fun h3=>?_)
        ·have h3:k < i:=by simpa using h3
         obtain ⟨x,hx⟩:∃ x,x=limb D k:=⟨_,rfl⟩
         obtain ⟨l,hl⟩:∃ l,l=limb V (j+k):=⟨_,rfl⟩
         have hxB:x < 4294967296:=by rw [hx]; exact limb_lt D k
         have hlB:l < 4294967296:=by rw [hl]; exact limb_lt V (j+k)
         obtain ⟨t,ht⟩:∃ t,t=l+x+c:=⟨_,rfl⟩
         have hst:=back_step (t:=t) (i:=k) (j:=j) he (by rw [← hl,← hx]; exact ht)
         have htB:t % B < 4294967296:=Nat.mod_lt _ (by decide)
         have htC:t / B≤1:=by show t / 4294967296≤1; omega
         have hV2:=setLimb_lt hV (show j+k < j+i+1 by omega) (show t % B < B from htB)
         have e6:IntKind.i64.wrap (((j:Nat):Int)+((k:Nat):Int))=((j+k:Nat):Int):=by rw [wrapi64 (by omega) (by omega)]; omega
         have e7:IntKind.i64.wrap (((k:Nat):Int)+1)=((k+1:Nat):Int):=by rw [wrapi64 (by omega) (by omega)]; omega
         conv=>whnf
         refine ⟨⟨by omega,by omega⟩,?_⟩
         simp only [toNat_cast,rowAdd_eq,Nat.zero_add]
         conv=>whnf
         refine ⟨by show k < nl D; omega,?_⟩
         conv=>whnf
         simp only [e6]
         refine ⟨⟨by omega,by omega⟩,?_⟩
         simp only [toNat_cast,rowAdd_eq,Nat.zero_add]
         conv=>whnf
         refine ⟨by show j+k < m; omega,?_⟩
         conv=>whnf
         rw [← hl,← hx]
         refine ⟨(l,x,c),rfl,⟨hlB,hxB,hc⟩,?_⟩
         simp only [add32S,← ht,e6]
         conv=>whnf
         refine ⟨⟨by omega,by omega⟩,?_⟩
         simp only [toNat_cast,rowAdd_eq,Nat.zero_add]
         conv=>whnf
         refine ⟨by show j+k < m; omega,?_⟩
         conv=>whnf
         simp only [e7]
         rw [show t % 4294967296=t % B from rfl,limbRow_set htB]
         refine .inl ⟨_,?_,k+1,t / B,setLimb V (j+k) (t % B),(.keep (.keep (.keep (.sk 3 (.keep (.keep (.sk 1 (.keep (.sk 5 (.keep (.sk 141 (.keep (.keep (.keep (.sk 34 .nil rfl)))) rfl)) rfl)) rfl))) rfl)))),rfl,rfl,?_⟩
         ·omega
         ·exact ⟨⟨by omega,htC⟩,hV2,hst⟩
        ·have h3:k=i:=by
          have h3:¬ k < i:=by simpa using h3
          omega
         subst h3
         have hDlt:D < B ^ k:=by rw [hn2]; exact lt_nl D
         have hfin:=back_last (V:=V) (R:=X % (D*B ^ j)) (k:=j+k) hV (Nat.lt_of_lt_of_le (Nat.mod_lt _ hE) (by rw [Nat.add_comm,Nat.pow_add]; exact Nat.mul_le_mul_right _ (Nat.le_of_lt hDlt))) hc (by
          rw [he,Nat.mod_eq_of_lt hDlt]; exact hr2)
         have hq3:qt - 1=X / (D*B ^ j):=by rw [hr1]; rfl
         have ep:IntKind.u64.wrap ((qt:Int) - 1)=((qt - 1:Nat):Int):=by
          have:1≤qt:=by rw [hr1]; exact Nat.le_add_left _ _
          have:=hT.1
          rw [wrapu64 (by omega) (by omega)]; omega
         have hqm2:(qt - 1) % B=qt - 1:=Nat.mod_eq_of_lt (by have:=hT.1; show qt - 1 < 4294967296; omega)
         conv=>whnf
         simp only [e1]
         refine ⟨⟨by omega,by omega⟩,?_⟩
         simp only [toNat_cast,rowAdd_eq,Nat.zero_add]
         conv=>whnf
         refine ⟨by show j+k < m; omega,?_⟩
         conv=>whnf
         rw [show IntKind.u32.wrap (((limb V (j+k):Nat):Int)+(c:Int))=(((limb V (j+k)+c) % B:Nat):Int) from u32_mod (limb V (j+k)+c)]
         refine ⟨⟨by omega,by omega⟩,?_⟩
         simp only [toNat_cast,rowAdd_eq,Nat.zero_add]
         conv=>whnf
         refine ⟨by show j+k < m; omega,?_⟩
         conv=>whnf
         simp only [ep,u32_mod,hqm2]
         rw [limbRow_set (Nat.mod_lt _ (by decide)),hfin]
         exact wres_digit (i:=⟨X,m,cx,D,cd,j⟩) rfl hq3 rfl
      skip
      skip
     ·rw [show (((((q - 1) / B:Nat):Int) == 0):Bool)=false by show decide ((((q - 1) / 4294967296:Nat):Int)=0)=false; exact decide_eq_false (by omega)]
      conv=>whnf
      refine .inr ⟨[0,1],[0,1,2,6,7,9,10],?_⟩
      conv=>whnf
      intro _
      conv=>whnf
      refine ⟨_,?_,q - 1,r+d1,(.keep (.keep (.keep (.sk 3 (.keep (.keep (.sk 1 (.keep (.keep (.sk 183 .nil rfl))) rfl))) rfl)))),rfl,rfl,?_⟩
      ·omega
      ·exact ⟨he2,by omega,by omega⟩
   ·rw [show decide ((qd:Int) > (rw0:Int))=false from decide_eq_false (by omega)]
    conv=>whnf
    obtain ⟨qt,hqt⟩:∃ qt,qt=q:=⟨_,rfl⟩
    have hT:qt < 4294967296∧Q≤qt∧qt≤Q+1:=by
     have h3:=hend (.inl (by rw [← hqd]; show qd≤r*4294967296+w0; omega))
     exact ⟨by omega,by omega,by omega⟩
    rw [← hqt]
    clear hvq hqd hrw0 hqB hend hrB he hr hq1 hq2 hqt
    conv=>whnf
    refine .inl ⟨fun mm tz hz=>∃ (i:Nat) (c:Nat) (b:Nat) (Z:Nat),Pat (some (.slice (some ⟨0,0,none⟩) m cx)::some (.slice (some ⟨1,0,none⟩) n2 cd)::some (.int .i64 j)::nos 3 (some (.int .u32 0)::some (.int .i64 n2)::nos 1 (some (.int .u64 qt)::nos 1 (some (.int .u64 c)::some (.int .u32 b)::nos 88 (some (.slice (some ⟨1,0,none⟩) n2 cd)::some (.int .i64 n2)::some (.int .i64 i)::nos 90 []))))) tz∧hz=[some (.flat true m 1 (limbRow Z)),some (newB D)]∧n2 - i=mm∧((i≤n2∧c < 4294967296∧b≤1)∧Z < B ^ (j+n2+1)∧Z+qt*(D % B ^ i)*B ^ j=X+(b+c)*B ^ (j+i)),.inr ⟨[0,1],[0,1,2,6,7,9,11,12,101,102,103],?_⟩,?_⟩
    ·conv=>whnf
     intro _
     conv=>whnf
     refine ⟨_,0,0,0,X,(.keep (.keep (.keep (.sk 3 (.keep (.keep (.sk 1 (.keep (.sk 1 (.keep (.keep (.sk 88 (.keep (.keep (.keep (.sk 90 .nil rfl)))) rfl))) rfl)) rfl))) rfl)))),rfl,rfl,?_⟩
     exact ⟨⟨Nat.zero_le _,by decide,by decide⟩,F.fX,by simp [Nat.mod_one]⟩
    rintro mm tms _ ⟨i,c,b,Z,hpat,rfl,rfl,⟨⟨hi,hc,hb⟩,hZ,he⟩⟩
    obtain ⟨az,rfl⟩:∃ az:Nat→Value,tms=.slice (some ⟨0,0,none⟩) m cx::.slice (some ⟨1,0,none⟩) n2 cd::.int .i64 j::zs az 3 3 (.int .u32 0::.int .i64 n2::zs az 8 1 (.int .u64 qt::zs az 10 1 (.int .u64 c::.int .u32 b::zs az 13 88 (.slice (some ⟨1,0,none⟩) n2 cd::.int .i64 n2::.int .i64 i::zs az 104 90 [])))):=pat_fill hpat
    clear hpat
    conv=>whnf
    refine br_intro (fun h1=>?_) (fun h1=>?_)
    ·have h1:i < n2:=by simpa using h1
     conv=>whnf
     refine ⟨⟨by omega,by omega⟩,?_⟩
     simp only [toNat_cast,rowAdd_eq,Nat.zero_add]
     conv=>whnf
     refine ⟨by show i < nl D; omega,?_⟩
     conv=>whnf
     obtain ⟨x,hx⟩:∃ x,x=limb D i:=⟨_,rfl⟩
     obtain ⟨l,hl⟩:∃ l,l=limb Z (j+i):=⟨_,rfl⟩
     obtain ⟨t,ht⟩:∃ t,t=c+qt*limb D i:=⟨_,rfl⟩
     have hxB:x < B:=by rw [hx]; exact limb_lt D i
     have hlB:l < 4294967296:=by rw [hl]; exact limb_lt Z (j+i)
     obtain ⟨hv,htC⟩:=muladd64 (t:=t) hc hT.1 hxB (by rw [hx]; exact ht)
     have htm:t % B < 4294967296:=Nat.mod_lt _ (by decide)
     obtain ⟨d,hd⟩:∃ d,d=(l+2*4294967296 - t % B - b) % 4294967296:=⟨_,rfl⟩
     obtain ⟨b',hb'⟩:∃ b',b'=if l < t % B+b then 1 else 0:=⟨_,rfl⟩
     have hdB:d < 4294967296:=by rw [hd]; exact Nat.mod_lt _ (by decide)
     have hst:=away_step (i:=i) (j:=j) (d:=d) (b':=b') he ht (by
      rw [← hl,hb',hB,← hB]
      clear he hZ ht hv
      obtain ⟨u,hu⟩:∃ u,u=t % B:=⟨_,rfl⟩
      rw [← hu] at hd htm ⊢
      split <;> omega)
     have hZ2:=setLimb_lt hZ (show j+i < j+n2+1 by omega) (show d < B from hdB)
     have hb2:b'≤1:=by rw [hb']; split <;> omega
     have e6:IntKind.i64.wrap (((j:Nat):Int)+((i:Nat):Int))=((j+i:Nat):Int):=by rw [wrapi64 (by omega) (by omega)]; omega
     have e7:IntKind.i64.wrap (((i:Nat):Int)+1)=((i+1:Nat):Int):=by rw [wrapi64 (by omega) (by omega)]; omega
     rw [← hx]
     simp only [hl64 _ hxB,hv,e6]
     refine ⟨⟨by omega,by omega⟩,?_⟩
     simp only [toNat_cast,rowAdd_eq,Nat.zero_add]
     conv=>whnf
     refine ⟨by show j+i < m; omega,?_⟩
     conv=>whnf
     rw [← hl]
     simp only [u32_mod]
     refine ⟨(l,t % B,b),rfl,⟨hlB,htm,hb⟩,?_⟩
     simp only [sub32S,← hd,← hb',e6]
     conv=>whnf
     refine ⟨⟨by omega,by omega⟩,?_⟩
     simp only [toNat_cast,rowAdd_eq,Nat.zero_add]
     conv=>whnf
     refine ⟨by show j+i < m; omega,?_⟩
     conv=>whnf
     simp only [shr_u64_32,div_B,e7]
     rw [limbRow_set hdB]
     refine .inl ⟨_,?_,i+1,t / B,b',setLimb Z (j+i) d,(.keep (.keep (.keep (.sk 3 (.keep (.keep (.sk 1 (.keep (.sk 1 (.keep (.keep (.sk 88 (.keep (.keep (.keep (.sk 90 .nil rfl)))) rfl))) rfl)) rfl))) rfl)))),rfl,rfl,?_⟩
     ·omega
     ·exact ⟨⟨by omega,htC,hb2⟩,hZ2,hst⟩
    ·have h1:i=n2:=by
      have h1:¬ i < n2:=by simpa using h1
      omega
     subst h1
     obtain ⟨l,hl⟩:∃ l,l=limb Z (j+i):=⟨_,rfl⟩
     have hlB:l < 4294967296:=by rw [hl]; exact limb_lt Z (j+i)
     obtain ⟨d,hd⟩:∃ d,d=(l+2*4294967296 - c - b) % 4294967296:=⟨_,rfl⟩
     obtain ⟨b',hb'⟩:∃ b',b'=if l < c+b then 1 else 0:=⟨_,rfl⟩
     have hdB:d < 4294967296:=by rw [hd]; exact Nat.mod_lt _ (by decide)
     have hst:=away_last (j:=j) (d:=d) (b':=b') (by rw [hn2]; exact lt_nl D) hc he (by
      rw [← hl,hb',hB,← hB]
      clear he hZ
      split <;> omega)
     have hZ2:=setLimb_lt hZ (show j+i < j+i+1 by omega) (show d < B from hdB)
     have hcm:c % B=c:=Nat.mod_eq_of_lt hc
     have hb2:b'≤1:=by rw [hb']; split <;> omega
     have hqm:qt % B=qt:=Nat.mod_eq_of_lt hT.1
     have hE:0 < D*B ^ j:=Nat.mul_pos F.fD0 (Bpos j)
     have hQ2:Q=X / (D*B ^ j):=by rw [F.fQ,Nat.div_div_eq_div_mul,Nat.mul_comm]
     conv=>whnf
     simp only [e1]
     refine ⟨⟨by omega,by omega⟩,?_⟩
     simp only [toNat_cast,rowAdd_eq,Nat.zero_add]
     conv=>whnf
     refine ⟨by show j+i < m; omega,?_⟩
     conv=>whnf
     rw [← hl]
     simp only [u32_mod,hcm]
     refine ⟨(l,c,b),rfl,⟨hlB,hc,hb⟩,?_⟩
     simp only [sub32S,← hd,← hb',e1]
     conv=>whnf
     refine ⟨⟨by omega,by omega⟩,?_⟩
     simp only [toNat_cast,rowAdd_eq,Nat.zero_add]
     conv=>whnf
     refine ⟨by show j+i < m; omega,?_⟩
     conv=>whnf
     rw [limbRow_set hdB]
     refine br_intro (fun h2=>?_) (fun h2=>?_)
     ·have h2:b'=0:=by
       have:=of_decide_eq_true h2
       omega
      clear hb'
      subst h2
      rw [Nat.zero_mul,Nat.add_zero] at hst
      obtain ⟨hr1,hr2⟩:=right_guess hE hst (by rw [← hQ2]; exact hT.2.1)
      conv=>whnf
      simp only [u32_mod,hqm]
      exact wres_digit (i:=⟨X,m,cx,D,cd,j⟩) hr2 hr1 rfl
     ·have h2:b'=1:=by
       have:=of_decide_eq_false h2
       omega
      clear hb'
      subst h2
      rw [Nat.one_mul] at hst
      obtain ⟨hr1,hr2⟩:=large_guess hE hst hZ2 (by rw [← hQ2]; exact hT.2.2)
      obtain ⟨Y,hY⟩:∃ Y,Y=setLimb Z (j+i) d:=⟨_,rfl⟩
      rw [← hY] at hr2 hZ2 ⊢
      clear hst he hZ hY hc hb hl hlB hd hdB hcm
      conv=>whnf
      refine .inl ⟨fun mm tz hz=>∃ (k:Nat) (c:Nat) (V:Nat),Pat (some (.slice (some ⟨0,0,none⟩) m cx)::some (.slice (some ⟨1,0,none⟩) i cd)::some (.int .i64 j)::nos 3 (some (.int .u32 0)::some (.int .i64 i)::nos 1 (some (.int .u64 qt)::nos 5 (some (.int .u32 c)::nos 141 (some (.slice (some ⟨1,0,none⟩) i cd)::some (.int .i64 i)::some (.int .i64 k)::nos 34 []))))) tz∧hz=[some (.flat true m 1 (limbRow V)),some (newB D)]∧i - k=mm∧((k≤i∧c≤1)∧V < B ^ (j+i+1)∧V+c*B ^ (j+k)=Y+D % B ^ k*B ^ j),.inr ⟨[0,1],[0,1,2,6,7,9,15,157,158,159],?_⟩,?_⟩
      ·conv=>whnf
       intro _
       conv=>whnf
       refine ⟨_,0,0,Y,(.keep (.keep (.keep (.sk 3 (.keep (.keep (.sk 1 (.keep (.sk 5 (.keep (.sk 141 (.keep (.keep (.keep (.sk 34 .nil rfl)))) rfl)) rfl)) rfl))) rfl)))),rfl,rfl,?_⟩
       exact ⟨⟨Nat.zero_le _,by decide⟩,hZ2,by simp [Nat.mod_one]⟩
      rintro mm tms _ ⟨k,c,V,hpat,rfl,rfl,⟨⟨hk,hc⟩,hV,he⟩⟩
      obtain ⟨az,rfl⟩:∃ az:Nat→Value,tms=.slice (some ⟨0,0,none⟩) m cx::.slice (some ⟨1,0,none⟩) i cd::.int .i64 j::zs az 3 3 (.int .u32 0::.int .i64 i::zs az 8 1 (.int .u64 qt::zs az 10 5 (.int .u32 c::zs az 16 141 (.slice (some ⟨1,0,none⟩) i cd::.int .i64 i::.int .i64 k::zs az 160 34 [])))):=pat_fill hpat
      clear hpat
      conv=>whnf
      refine br_intro (fun h3=>?_) (fun h3=>?_)
      ·have h3:k < i:=by simpa using h3
       obtain ⟨x,hx⟩:∃ x,x=limb D k:=⟨_,rfl⟩
       obtain ⟨l,hl⟩:∃ l,l=limb V (j+k):=⟨_,rfl⟩
       have hxB:x < 4294967296:=by rw [hx]; exact limb_lt D k
       have hlB:l < 4294967296:=by rw [hl]; exact limb_lt V (j+k)
       obtain ⟨t,ht⟩:∃ t,t=l+x+c:=⟨_,rfl⟩
       have hst:=back_step (t:=t) (i:=k) (j:=j) he (by rw [← hl,← hx]; exact ht)
       have htB:t % B < 4294967296:=Nat.mod_lt _ (by decide)
       have htC:t / B≤1:=by show t / 4294967296≤1; omega
       have hV2:=setLimb_lt hV (show j+k < j+i+1 by omega) (show t % B < B from htB)
       have e6:IntKind.i64.wrap (((j:Nat):Int)+((k:Nat):Int))=((j+k:Nat):Int):=by rw [wrapi64 (by omega) (by omega)]; omega
       have e7:IntKind.i64.wrap (((k:Nat):Int)+1)=((k+1:Nat):Int):=by rw [wrapi64 (by omega) (by omega)]; omega
       conv=>whnf
       refine ⟨⟨by omega,by omega⟩,?_⟩
       simp only [toNat_cast,rowAdd_eq,Nat.zero_add]
       conv=>whnf
       refine ⟨by show k < nl D; omega,?_⟩
       conv=>whnf
       simp only [e6]
       refine ⟨⟨by omega,by omega⟩,?_⟩
       simp only [toNat_cast,rowAdd_eq,Nat.zero_add]
       conv=>whnf
       refine ⟨by show j+k < m; omega,?_⟩
       conv=>whnf
       rw [← hl,← hx]
       refine ⟨(l,x,c),rfl,⟨hlB,hxB,hc⟩,?_⟩
       simp only [add32S,← ht,e6]
       conv=>whnf
       refine ⟨⟨by omega,by omega⟩,?_⟩
       simp only [toNat_cast,rowAdd_eq,Nat.zero_add]
       conv=>whnf
       refine ⟨by show j+k < m; omega,?_⟩
       conv=>whnf
       simp only [e7]
       rw [show t % 4294967296=t % B from rfl,limbRow_set htB]
       refine .inl ⟨_,?_,k+1,t / B,setLimb V (j+k) (t % B),(.keep (.keep (.keep (.sk 3 (.keep (.keep (.sk 1 (.keep (.sk 5 (.keep (.sk 141 (.keep (.keep (.keep (.sk 34 .nil rfl)))) rfl)) rfl)) rfl))) rfl)))),rfl,rfl,?_⟩
       ·omega
       ·exact ⟨⟨by omega,htC⟩,hV2,hst⟩
      ·have h3:k=i:=by
        have h3:¬ k < i:=by simpa using h3
        omega
       subst h3
       have hDlt:D < B ^ k:=by rw [hn2]; exact lt_nl D
       have hfin:=back_last (V:=V) (R:=X % (D*B ^ j)) (k:=j+k) hV (Nat.lt_of_lt_of_le (Nat.mod_lt _ hE) (by rw [Nat.add_comm,Nat.pow_add]; exact Nat.mul_le_mul_right _ (Nat.le_of_lt hDlt))) hc (by
        rw [he,Nat.mod_eq_of_lt hDlt]; exact hr2)
       have hq3:qt - 1=X / (D*B ^ j):=by rw [hr1]; rfl
       have ep:IntKind.u64.wrap ((qt:Int) - 1)=((qt - 1:Nat):Int):=by
        have:1≤qt:=by rw [hr1]; exact Nat.le_add_left _ _
        have:=hT.1
        rw [wrapu64 (by omega) (by omega)]; omega
       have hqm2:(qt - 1) % B=qt - 1:=Nat.mod_eq_of_lt (by have:=hT.1; show qt - 1 < 4294967296; omega)
       conv=>whnf
       simp only [e1]
       refine ⟨⟨by omega,by omega⟩,?_⟩
       simp only [toNat_cast,rowAdd_eq,Nat.zero_add]
       conv=>whnf
       refine ⟨by show j+k < m; omega,?_⟩
       conv=>whnf
       rw [show IntKind.u32.wrap (((limb V (j+k):Nat):Int)+(c:Int))=(((limb V (j+k)+c) % B:Nat):Int) from u32_mod (limb V (j+k)+c)]
       refine ⟨⟨by omega,by omega⟩,?_⟩
       simp only [toNat_cast,rowAdd_eq,Nat.zero_add]
       conv=>whnf
       refine ⟨by show j+k < m; omega,?_⟩
       conv=>whnf
       simp only [ep,u32_mod,hqm2]
       rw [limbRow_set (Nat.mod_lt _ (by decide)),hfin]
       exact wres_digit (i:=⟨X,m,cx,D,cd,j⟩) rfl hq3 rfl
    skip
    skip
  ·rw [show (((((r / B:Nat):Int) == 0):Bool))=false by show decide (((r / 4294967296:Nat):Int)=0)=false; exact decide_eq_false (by omega)]
   conv=>whnf
   obtain ⟨qt,hqt⟩:∃ qt,qt=q:=⟨_,rfl⟩
   have hT:qt < 4294967296∧Q≤qt∧qt≤Q+1:=⟨by omega,by omega,by have:=hend (.inr hrB); omega⟩
   rw [← hqt]
   clear hqB hend hrB he hr hq1 hq2 hqt
   conv=>whnf
   refine .inl ⟨fun mm tz hz=>∃ (i:Nat) (c:Nat) (b:Nat) (Z:Nat),Pat (some (.slice (some ⟨0,0,none⟩) m cx)::some (.slice (some ⟨1,0,none⟩) n2 cd)::some (.int .i64 j)::nos 3 (some (.int .u32 0)::some (.int .i64 n2)::nos 1 (some (.int .u64 qt)::nos 1 (some (.int .u64 c)::some (.int .u32 b)::nos 88 (some (.slice (some ⟨1,0,none⟩) n2 cd)::some (.int .i64 n2)::some (.int .i64 i)::nos 90 []))))) tz∧hz=[some (.flat true m 1 (limbRow Z)),some (newB D)]∧n2 - i=mm∧((i≤n2∧c < 4294967296∧b≤1)∧Z < B ^ (j+n2+1)∧Z+qt*(D % B ^ i)*B ^ j=X+(b+c)*B ^ (j+i)),.inr ⟨[0,1],[0,1,2,6,7,9,11,12,101,102,103],?_⟩,?_⟩
   ·conv=>whnf
    intro _
    conv=>whnf
    refine ⟨_,0,0,0,X,(.keep (.keep (.keep (.sk 3 (.keep (.keep (.sk 1 (.keep (.sk 1 (.keep (.keep (.sk 88 (.keep (.keep (.keep (.sk 90 .nil rfl)))) rfl))) rfl)) rfl))) rfl)))),rfl,rfl,?_⟩
    exact ⟨⟨Nat.zero_le _,by decide,by decide⟩,F.fX,by simp [Nat.mod_one]⟩
   rintro mm tms _ ⟨i,c,b,Z,hpat,rfl,rfl,⟨⟨hi,hc,hb⟩,hZ,he⟩⟩
   obtain ⟨az,rfl⟩:∃ az:Nat→Value,tms=.slice (some ⟨0,0,none⟩) m cx::.slice (some ⟨1,0,none⟩) n2 cd::.int .i64 j::zs az 3 3 (.int .u32 0::.int .i64 n2::zs az 8 1 (.int .u64 qt::zs az 10 1 (.int .u64 c::.int .u32 b::zs az 13 88 (.slice (some ⟨1,0,none⟩) n2 cd::.int .i64 n2::.int .i64 i::zs az 104 90 [])))):=pat_fill hpat
   clear hpat
   conv=>whnf
   refine br_intro (fun h1=>?_) (fun h1=>?_)
   ·have h1:i < n2:=by simpa using h1
    conv=>whnf
    refine ⟨⟨by omega,by omega⟩,?_⟩
    simp only [toNat_cast,rowAdd_eq,Nat.zero_add]
    conv=>whnf
    refine ⟨by show i < nl D; omega,?_⟩
    conv=>whnf
    obtain ⟨x,hx⟩:∃ x,x=limb D i:=⟨_,rfl⟩
    obtain ⟨l,hl⟩:∃ l,l=limb Z (j+i):=⟨_,rfl⟩
    obtain ⟨t,ht⟩:∃ t,t=c+qt*limb D i:=⟨_,rfl⟩
    have hxB:x < B:=by rw [hx]; exact limb_lt D i
    have hlB:l < 4294967296:=by rw [hl]; exact limb_lt Z (j+i)
    obtain ⟨hv,htC⟩:=muladd64 (t:=t) hc hT.1 hxB (by rw [hx]; exact ht)
    have htm:t % B < 4294967296:=Nat.mod_lt _ (by decide)
    obtain ⟨d,hd⟩:∃ d,d=(l+2*4294967296 - t % B - b) % 4294967296:=⟨_,rfl⟩
    obtain ⟨b',hb'⟩:∃ b',b'=if l < t % B+b then 1 else 0:=⟨_,rfl⟩
    have hdB:d < 4294967296:=by rw [hd]; exact Nat.mod_lt _ (by decide)
    have hst:=away_step (i:=i) (j:=j) (d:=d) (b':=b') he ht (by
     rw [← hl,hb',hB,← hB]
     clear he hZ ht hv
     obtain ⟨u,hu⟩:∃ u,u=t % B:=⟨_,rfl⟩
     rw [← hu] at hd htm ⊢
     split <;> omega)
    have hZ2:=setLimb_lt hZ (show j+i < j+n2+1 by omega) (show d < B from hdB)
    have hb2:b'≤1:=by rw [hb']; split <;> omega
    have e6:IntKind.i64.wrap (((j:Nat):Int)+((i:Nat):Int))=((j+i:Nat):Int):=by rw [wrapi64 (by omega) (by omega)]; omega
    have e7:IntKind.i64.wrap (((i:Nat):Int)+1)=((i+1:Nat):Int):=by rw [wrapi64 (by omega) (by omega)]; omega
    rw [← hx]
    simp only [hl64 _ hxB,hv,e6]
    refine ⟨⟨by omega,by omega⟩,?_⟩
    simp only [toNat_cast,rowAdd_eq,Nat.zero_add]
    conv=>whnf
    refine ⟨by show j+i < m; omega,?_⟩
    conv=>whnf
    rw [← hl]
    simp only [u32_mod]
    refine ⟨(l,t % B,b),rfl,⟨hlB,htm,hb⟩,?_⟩
    simp only [sub32S,← hd,← hb',e6]
    conv=>whnf
    refine ⟨⟨by omega,by omega⟩,?_⟩
    simp only [toNat_cast,rowAdd_eq,Nat.zero_add]
    conv=>whnf
    refine ⟨by show j+i < m; omega,?_⟩
    conv=>whnf
    simp only [shr_u64_32,div_B,e7]
    rw [limbRow_set hdB]
    refine .inl ⟨_,?_,i+1,t / B,b',setLimb Z (j+i) d,(.keep (.keep (.keep (.sk 3 (.keep (.keep (.sk 1 (.keep (.sk 1 (.keep (.keep (.sk 88 (.keep (.keep (.keep (.sk 90 .nil rfl)))) rfl))) rfl)) rfl))) rfl)))),rfl,rfl,?_⟩
    ·omega
    ·exact ⟨⟨by omega,htC,hb2⟩,hZ2,hst⟩
   ·have h1:i=n2:=by
     have h1:¬ i < n2:=by simpa using h1
     omega
    subst h1
    obtain ⟨l,hl⟩:∃ l,l=limb Z (j+i):=⟨_,rfl⟩
    have hlB:l < 4294967296:=by rw [hl]; exact limb_lt Z (j+i)
    obtain ⟨d,hd⟩:∃ d,d=(l+2*4294967296 - c - b) % 4294967296:=⟨_,rfl⟩
    obtain ⟨b',hb'⟩:∃ b',b'=if l < c+b then 1 else 0:=⟨_,rfl⟩
    have hdB:d < 4294967296:=by rw [hd]; exact Nat.mod_lt _ (by decide)
    have hst:=away_last (j:=j) (d:=d) (b':=b') (by rw [hn2]; exact lt_nl D) hc he (by
     rw [← hl,hb',hB,← hB]
     clear he hZ
     split <;> omega)
    have hZ2:=setLimb_lt hZ (show j+i < j+i+1 by omega) (show d < B from hdB)
    have hcm:c % B=c:=Nat.mod_eq_of_lt hc
    have hb2:b'≤1:=by rw [hb']; split <;> omega
    have hqm:qt % B=qt:=Nat.mod_eq_of_lt hT.1
    have hE:0 < D*B ^ j:=Nat.mul_pos F.fD0 (Bpos j)
    have hQ2:Q=X / (D*B ^ j):=by rw [F.fQ,Nat.div_div_eq_div_mul,Nat.mul_comm]
    conv=>whnf
    simp only [e1]
    refine ⟨⟨by omega,by omega⟩,?_⟩
    simp only [toNat_cast,rowAdd_eq,Nat.zero_add]
    conv=>whnf
    refine ⟨by show j+i < m; omega,?_⟩
    conv=>whnf
    rw [← hl]
    simp only [u32_mod,hcm]
    refine ⟨(l,c,b),rfl,⟨hlB,hc,hb⟩,?_⟩
    simp only [sub32S,← hd,← hb',e1]
    conv=>whnf
    refine ⟨⟨by omega,by omega⟩,?_⟩
    simp only [toNat_cast,rowAdd_eq,Nat.zero_add]
    conv=>whnf
    refine ⟨by show j+i < m; omega,?_⟩
    conv=>whnf
    rw [limbRow_set hdB]
    refine br_intro (fun h2=>?_) (fun h2=>?_)
    ·have h2:b'=0:=by
      have:=of_decide_eq_true h2
      omega
     clear hb'
     subst h2
     rw [Nat.zero_mul,Nat.add_zero] at hst
     obtain ⟨hr1,hr2⟩:=right_guess hE hst (by rw [← hQ2]; exact hT.2.1)
     conv=>whnf
     simp only [u32_mod,hqm]
     exact wres_digit (i:=⟨X,m,cx,D,cd,j⟩) hr2 hr1 rfl
    ·have h2:b'=1:=by
      have:=of_decide_eq_false h2
      omega
     clear hb'
     subst h2
     rw [Nat.one_mul] at hst
     obtain ⟨hr1,hr2⟩:=large_guess hE hst hZ2 (by rw [← hQ2]; exact hT.2.2)
     obtain ⟨Y,hY⟩:∃ Y,Y=setLimb Z (j+i) d:=⟨_,rfl⟩
     rw [← hY] at hr2 hZ2 ⊢
     clear hst he hZ hY hc hb hl hlB hd hdB hcm
     conv=>whnf
     refine .inl ⟨fun mm tz hz=>∃ (k:Nat) (c:Nat) (V:Nat),Pat (some (.slice (some ⟨0,0,none⟩) m cx)::some (.slice (some ⟨1,0,none⟩) i cd)::some (.int .i64 j)::nos 3 (some (.int .u32 0)::some (.int .i64 i)::nos 1 (some (.int .u64 qt)::nos 5 (some (.int .u32 c)::nos 141 (some (.slice (some ⟨1,0,none⟩) i cd)::some (.int .i64 i)::some (.int .i64 k)::nos 34 []))))) tz∧hz=[some (.flat true m 1 (limbRow V)),some (newB D)]∧i - k=mm∧((k≤i∧c≤1)∧V < B ^ (j+i+1)∧V+c*B ^ (j+k)=Y+D % B ^ k*B ^ j),.inr ⟨[0,1],[0,1,2,6,7,9,15,157,158,159],?_⟩,?_⟩
     ·conv=>whnf
      intro _
      conv=>whnf
      refine ⟨_,0,0,Y,(.keep (.keep (.keep (.sk 3 (.keep (.keep (.sk 1 (.keep (.sk 5 (.keep (.sk 141 (.keep (.keep (.keep (.sk 34 .nil rfl)))) rfl)) rfl)) rfl))) rfl)))),rfl,rfl,?_⟩
      exact ⟨⟨Nat.zero_le _,by decide⟩,hZ2,by simp [Nat.mod_one]⟩
     rintro mm tms _ ⟨k,c,V,hpat,rfl,rfl,⟨⟨hk,hc⟩,hV,he⟩⟩
     obtain ⟨az,rfl⟩:∃ az:Nat→Value,tms=.slice (some ⟨0,0,none⟩) m cx::.slice (some ⟨1,0,none⟩) i cd::.int .i64 j::zs az 3 3 (.int .u32 0::.int .i64 i::zs az 8 1 (.int .u64 qt::zs az 10 5 (.int .u32 c::zs az 16 141 (.slice (some ⟨1,0,none⟩) i cd::.int .i64 i::.int .i64 k::zs az 160 34 [])))):=pat_fill hpat
     clear hpat
     conv=>whnf
     refine br_intro (fun h3=>?_) (fun h3=>?_)
     ·have h3:k < i:=by simpa using h3
      obtain ⟨x,hx⟩:∃ x,x=limb D k:=⟨_,rfl⟩
      obtain ⟨l,hl⟩:∃ l,l=limb V (j+k):=⟨_,rfl⟩
      have hxB:x < 4294967296:=by rw [hx]; exact limb_lt D k
      have hlB:l < 4294967296:=by rw [hl]; exact limb_lt V (j+k)
      obtain ⟨t,ht⟩:∃ t,t=l+x+c:=⟨_,rfl⟩
      have hst:=back_step (t:=t) (i:=k) (j:=j) he (by rw [← hl,← hx]; exact ht)
      have htB:t % B < 4294967296:=Nat.mod_lt _ (by decide)
      have htC:t / B≤1:=by show t / 4294967296≤1; omega
      have hV2:=setLimb_lt hV (show j+k < j+i+1 by omega) (show t % B < B from htB)
      have e6:IntKind.i64.wrap (((j:Nat):Int)+((k:Nat):Int))=((j+k:Nat):Int):=by rw [wrapi64 (by omega) (by omega)]; omega
      have e7:IntKind.i64.wrap (((k:Nat):Int)+1)=((k+1:Nat):Int):=by rw [wrapi64 (by omega) (by omega)]; omega
      conv=>whnf
      refine ⟨⟨by omega,by omega⟩,?_⟩
      simp only [toNat_cast,rowAdd_eq,Nat.zero_add]
      conv=>whnf
      refine ⟨by show k < nl D; omega,?_⟩
      conv=>whnf
      simp only [e6]
      refine ⟨⟨by omega,by omega⟩,?_⟩
      simp only [toNat_cast,rowAdd_eq,Nat.zero_add]
      conv=>whnf
      refine ⟨by show j+k < m; omega,?_⟩
      conv=>whnf
      rw [← hl,← hx]
      refine ⟨(l,x,c),rfl,⟨hlB,hxB,hc⟩,?_⟩
      simp only [add32S,← ht,e6]
      conv=>whnf
      refine ⟨⟨by omega,by omega⟩,?_⟩
      simp only [toNat_cast,rowAdd_eq,Nat.zero_add]
      conv=>whnf
      refine ⟨by show j+k < m; omega,?_⟩
      conv=>whnf
      simp only [e7]
      rw [show t % 4294967296=t % B from rfl,limbRow_set htB]
      refine .inl ⟨_,?_,k+1,t / B,setLimb V (j+k) (t % B),(.keep (.keep (.keep (.sk 3 (.keep (.keep (.sk 1 (.keep (.sk 5 (.keep (.sk 141 (.keep (.keep (.keep (.sk 34 .nil rfl)))) rfl)) rfl)) rfl))) rfl)))),rfl,rfl,?_⟩
      ·omega
      ·exact ⟨⟨by omega,htC⟩,hV2,hst⟩
     ·have h3:k=i:=by
       have h3:¬ k < i:=by simpa using h3
       omega
      subst h3
      have hDlt:D < B ^ k:=by rw [hn2]; exact lt_nl D
      have hfin:=back_last (V:=V) (R:=X % (D*B ^ j)) (k:=j+k) hV (Nat.lt_of_lt_of_le (Nat.mod_lt _ hE) (by rw [Nat.add_comm,Nat.pow_add]; exact Nat.mul_le_mul_right _ (Nat.le_of_lt hDlt))) hc (by
       rw [he,Nat.mod_eq_of_lt hDlt]; exact hr2)
      have hq3:qt - 1=X / (D*B ^ j):=by rw [hr1]; rfl
      have ep:IntKind.u64.wrap ((qt:Int) - 1)=((qt - 1:Nat):Int):=by
       have:1≤qt:=by rw [hr1]; exact Nat.le_add_left _ _
       have:=hT.1
       rw [wrapu64 (by omega) (by omega)]; omega
      have hqm2:(qt - 1) % B=qt - 1:=Nat.mod_eq_of_lt (by have:=hT.1; show qt - 1 < 4294967296; omega)
      conv=>whnf
      simp only [e1]
      refine ⟨⟨by omega,by omega⟩,?_⟩
      simp only [toNat_cast,rowAdd_eq,Nat.zero_add]
      conv=>whnf
      refine ⟨by show j+k < m; omega,?_⟩
      conv=>whnf
      rw [show IntKind.u32.wrap (((limb V (j+k):Nat):Int)+(c:Int))=(((limb V (j+k)+c) % B:Nat):Int) from u32_mod (limb V (j+k)+c)]
      refine ⟨⟨by omega,by omega⟩,?_⟩
      simp only [toNat_cast,rowAdd_eq,Nat.zero_add]
      conv=>whnf
      refine ⟨by show j+k < m; omega,?_⟩
      conv=>whnf
      simp only [ep,u32_mod,hqm2]
      rw [limbRow_set (Nat.mod_lt _ (by decide)),hfin]
      exact wres_digit (i:=⟨X,m,cx,D,cd,j⟩) rfl hq3 rfl
   skip
   skip
 ·have hlt:Q < q:=by have:=F.fB; omega
  rw [show decide (((q / B:Nat):Int) > 0)=true from decide_eq_true (by show (((q / 4294967296:Nat):Int) > 0); omega)]
  conv=>whnf
  have ep:IntKind.u64.wrap ((q:Int) - 1)=((q - 1:Nat):Int):=by rw [wrapu64 (by omega) (by omega)]; omega
  have he2:(q - 1)*d1+(r+d1)=top:=by
   have h1:(q - 1)*d1+d1=q*d1:=by
    conv=>rhs; rw [show q=(q - 1)+1 by omega,Nat.add_mul,Nat.one_mul]
   omega
  have hr2:r+d1 < 18446744073709551616:=Nat.lt_of_le_of_lt (Nat.le_trans (Nat.le_add_left _ _) (Nat.le_of_eq he2)) htopB
  have er:IntKind.u64.wrap ((r:Int)+(d1:Int))=((r+d1:Nat):Int):=by rw [wrapu64 (by omega) (by omega)]; omega
  simp only [ep,e4]
  refine ⟨⟨by omega,by omega⟩,?_⟩
  simp only [toNat_cast,rowAdd_eq,Nat.zero_add]
  conv=>whnf
  refine ⟨by show n1 < nl D; omega,?_⟩
  conv=>whnf
  simp only [hl64 _ hlD1]
  rw [← hd1,er]
  simp only [shr_u64_32,div_B]
  rcases Nat.lt_or_ge (r+d1) 4294967296 with hrB | hrB
  ·rw [show decide ((((r+d1) / B:Nat):Int) > 0)=false from decide_eq_false (by show ¬ ((((r+d1) / 4294967296:Nat):Int) > 0); omega)]
   conv=>whnf
   refine .inr ⟨[0,1],[0,1,2,6,7,9,10],?_⟩
   conv=>whnf
   intro _
   conv=>whnf
   refine ⟨_,?_,q - 1,r+d1,(.keep (.keep (.keep (.sk 3 (.keep (.keep (.sk 1 (.keep (.keep (.sk 183 .nil rfl))) rfl))) rfl)))),rfl,rfl,?_⟩
   ·omega
   ·exact ⟨he2,by omega,by omega⟩
  ·rw [show decide ((((r+d1) / B:Nat):Int) > 0)=true from decide_eq_true (by show ((((r+d1) / 4294967296:Nat):Int) > 0); omega)]
   conv=>whnf
   simp only [shr_u64_32,div_B]
   rcases Nat.lt_or_ge (q - 1) 4294967296 with hqB2 | hqB2
   ·rw [show (((((q - 1) / B:Nat):Int) == 0):Bool)=true by show decide ((((q - 1) / 4294967296:Nat):Int)=0)=true; exact decide_eq_true (by omega)]
    conv=>whnf
    obtain ⟨qt,hqt⟩:∃ qt,qt=q - 1:=⟨_,rfl⟩
    have hT:qt < 4294967296∧Q≤qt∧qt≤Q+1:=by
     have h3:q - 1≤X / B ^ j / D+1:=est_end (Bpos n) F.fW F.fD he2 hqB2 F.fP hd0B (.inl hrB)
     rw [← F.fQ] at h3
     omega
    rw [← hqt]
    clear hqB hqB2 hlt ep he2 hr2 er hrB he hr hq1 hq2 hqt
    conv=>whnf
    refine .inl ⟨fun mm tz hz=>∃ (i:Nat) (c:Nat) (b:Nat) (Z:Nat),Pat (some (.slice (some ⟨0,0,none⟩) m cx)::some (.slice (some ⟨1,0,none⟩) n2 cd)::some (.int .i64 j)::nos 3 (some (.int .u32 0)::some (.int .i64 n2)::nos 1 (some (.int .u64 qt)::nos 1 (some (.int .u64 c)::some (.int .u32 b)::nos 88 (some (.slice (some ⟨1,0,none⟩) n2 cd)::some (.int .i64 n2)::some (.int .i64 i)::nos 90 []))))) tz∧hz=[some (.flat true m 1 (limbRow Z)),some (newB D)]∧n2 - i=mm∧((i≤n2∧c < 4294967296∧b≤1)∧Z < B ^ (j+n2+1)∧Z+qt*(D % B ^ i)*B ^ j=X+(b+c)*B ^ (j+i)),.inr ⟨[0,1],[0,1,2,6,7,9,11,12,101,102,103],?_⟩,?_⟩
    ·conv=>whnf
     intro _
     conv=>whnf
     refine ⟨_,0,0,0,X,(.keep (.keep (.keep (.sk 3 (.keep (.keep (.sk 1 (.keep (.sk 1 (.keep (.keep (.sk 88 (.keep (.keep (.keep (.sk 90 .nil rfl)))) rfl))) rfl)) rfl))) rfl)))),rfl,rfl,?_⟩
     exact ⟨⟨Nat.zero_le _,by decide,by decide⟩,F.fX,by simp [Nat.mod_one]⟩
    rintro mm tms _ ⟨i,c,b,Z,hpat,rfl,rfl,⟨⟨hi,hc,hb⟩,hZ,he⟩⟩
    obtain ⟨az,rfl⟩:∃ az:Nat→Value,tms=.slice (some ⟨0,0,none⟩) m cx::.slice (some ⟨1,0,none⟩) n2 cd::.int .i64 j::zs az 3 3 (.int .u32 0::.int .i64 n2::zs az 8 1 (.int .u64 qt::zs az 10 1 (.int .u64 c::.int .u32 b::zs az 13 88 (.slice (some ⟨1,0,none⟩) n2 cd::.int .i64 n2::.int .i64 i::zs az 104 90 [])))):=pat_fill hpat
    clear hpat
    conv=>whnf
    refine br_intro (fun h1=>?_) (fun h1=>?_)
    ·have h1:i < n2:=by simpa using h1
     conv=>whnf
     refine ⟨⟨by omega,by omega⟩,?_⟩
     simp only [toNat_cast,rowAdd_eq,Nat.zero_add]
     conv=>whnf
     refine ⟨by show i < nl D; omega,?_⟩
     conv=>whnf
     obtain ⟨x,hx⟩:∃ x,x=limb D i:=⟨_,rfl⟩
     obtain ⟨l,hl⟩:∃ l,l=limb Z (j+i):=⟨_,rfl⟩
     obtain ⟨t,ht⟩:∃ t,t=c+qt*limb D i:=⟨_,rfl⟩
     have hxB:x < B:=by rw [hx]; exact limb_lt D i
     have hlB:l < 4294967296:=by rw [hl]; exact limb_lt Z (j+i)
     obtain ⟨hv,htC⟩:=muladd64 (t:=t) hc hT.1 hxB (by rw [hx]; exact ht)
     have htm:t % B < 4294967296:=Nat.mod_lt _ (by decide)
     obtain ⟨d,hd⟩:∃ d,d=(l+2*4294967296 - t % B - b) % 4294967296:=⟨_,rfl⟩
     obtain ⟨b',hb'⟩:∃ b',b'=if l < t % B+b then 1 else 0:=⟨_,rfl⟩
     have hdB:d < 4294967296:=by rw [hd]; exact Nat.mod_lt _ (by decide)
     have hst:=away_step (i:=i) (j:=j) (d:=d) (b':=b') he ht (by
      rw [← hl,hb',hB,← hB]
      clear he hZ ht hv
      obtain ⟨u,hu⟩:∃ u,u=t % B:=⟨_,rfl⟩
      rw [← hu] at hd htm ⊢
      split <;> omega)
     have hZ2:=setLimb_lt hZ (show j+i < j+n2+1 by omega) (show d < B from hdB)
     have hb2:b'≤1:=by rw [hb']; split <;> omega
     have e6:IntKind.i64.wrap (((j:Nat):Int)+((i:Nat):Int))=((j+i:Nat):Int):=by rw [wrapi64 (by omega) (by omega)]; omega
     have e7:IntKind.i64.wrap (((i:Nat):Int)+1)=((i+1:Nat):Int):=by rw [wrapi64 (by omega) (by omega)]; omega
     rw [← hx]
     simp only [hl64 _ hxB,hv,e6]
     refine ⟨⟨by omega,by omega⟩,?_⟩
     simp only [toNat_cast,rowAdd_eq,Nat.zero_add]
     conv=>whnf
     refine ⟨by show j+i < m; omega,?_⟩
     conv=>whnf
     rw [← hl]
     simp only [u32_mod]
     refine ⟨(l,t % B,b),rfl,⟨hlB,htm,hb⟩,?_⟩
     simp only [sub32S,← hd,← hb',e6]
     conv=>whnf
     refine ⟨⟨by omega,by omega⟩,?_⟩
     simp only [toNat_cast,rowAdd_eq,Nat.zero_add]
     conv=>whnf
     refine ⟨by show j+i < m; omega,?_⟩
     conv=>whnf
     simp only [shr_u64_32,div_B,e7]
     rw [limbRow_set hdB]
     refine .inl ⟨_,?_,i+1,t / B,b',setLimb Z (j+i) d,(.keep (.keep (.keep (.sk 3 (.keep (.keep (.sk 1 (.keep (.sk 1 (.keep (.keep (.sk 88 (.keep (.keep (.keep (.sk 90 .nil rfl)))) rfl))) rfl)) rfl))) rfl)))),rfl,rfl,?_⟩
     ·omega
     ·exact ⟨⟨by omega,htC,hb2⟩,hZ2,hst⟩
    ·have h1:i=n2:=by
      have h1:¬ i < n2:=by simpa using h1
      omega
     subst h1
     obtain ⟨l,hl⟩:∃ l,l=limb Z (j+i):=⟨_,rfl⟩
     have hlB:l < 4294967296:=by rw [hl]; exact limb_lt Z (j+i)
     obtain ⟨d,hd⟩:∃ d,d=(l+2*4294967296 - c - b) % 4294967296:=⟨_,rfl⟩
     obtain ⟨b',hb'⟩:∃ b',b'=if l < c+b then 1 else 0:=⟨_,rfl⟩
     have hdB:d < 4294967296:=by rw [hd]; exact Nat.mod_lt _ (by decide)
     have hst:=away_last (j:=j) (d:=d) (b':=b') (by rw [hn2]; exact lt_nl D) hc he (by
      rw [← hl,hb',hB,← hB]
      clear he hZ
      split <;> omega)
     have hZ2:=setLimb_lt hZ (show j+i < j+i+1 by omega) (show d < B from hdB)
     have hcm:c % B=c:=Nat.mod_eq_of_lt hc
     have hb2:b'≤1:=by rw [hb']; split <;> omega
     have hqm:qt % B=qt:=Nat.mod_eq_of_lt hT.1
     have hE:0 < D*B ^ j:=Nat.mul_pos F.fD0 (Bpos j)
     have hQ2:Q=X / (D*B ^ j):=by rw [F.fQ,Nat.div_div_eq_div_mul,Nat.mul_comm]
     conv=>whnf
     simp only [e1]
     refine ⟨⟨by omega,by omega⟩,?_⟩
     simp only [toNat_cast,rowAdd_eq,Nat.zero_add]
     conv=>whnf
     refine ⟨by show j+i < m; omega,?_⟩
     conv=>whnf
     rw [← hl]
     simp only [u32_mod,hcm]
     refine ⟨(l,c,b),rfl,⟨hlB,hc,hb⟩,?_⟩
     simp only [sub32S,← hd,← hb',e1]
     conv=>whnf
     refine ⟨⟨by omega,by omega⟩,?_⟩
     simp only [toNat_cast,rowAdd_eq,Nat.zero_add]
     conv=>whnf
     refine ⟨by show j+i < m; omega,?_⟩
     conv=>whnf
     rw [limbRow_set hdB]
     refine br_intro (fun h2=>?_) (fun h2=>?_)
     ·have h2:b'=0:=by
       have:=of_decide_eq_true h2
       omega
      clear hb'
      subst h2
      rw [Nat.zero_mul,Nat.add_zero] at hst
      obtain ⟨hr1,hr2⟩:=right_guess hE hst (by rw [← hQ2]; exact hT.2.1)
      conv=>whnf
      simp only [u32_mod,hqm]
      exact wres_digit (i:=⟨X,m,cx,D,cd,j⟩) hr2 hr1 rfl
     ·have h2:b'=1:=by
       have:=of_decide_eq_false h2
       omega
      clear hb'
      subst h2
      rw [Nat.one_mul] at hst
      obtain ⟨hr1,hr2⟩:=large_guess hE hst hZ2 (by rw [← hQ2]; exact hT.2.2)
      obtain ⟨Y,hY⟩:∃ Y,Y=setLimb Z (j+i) d:=⟨_,rfl⟩
      rw [← hY] at hr2 hZ2 ⊢
      clear hst he hZ hY hc hb hl hlB hd hdB hcm
      conv=>whnf
      refine .inl ⟨fun mm tz hz=>∃ (k:Nat) (c:Nat) (V:Nat),Pat (some (.slice (some ⟨0,0,none⟩) m cx)::some (.slice (some ⟨1,0,none⟩) i cd)::some (.int .i64 j)::nos 3 (some (.int .u32 0)::some (.int .i64 i)::nos 1 (some (.int .u64 qt)::nos 5 (some (.int .u32 c)::nos 141 (some (.slice (some ⟨1,0,none⟩) i cd)::some (.int .i64 i)::some (.int .i64 k)::nos 34 []))))) tz∧hz=[some (.flat true m 1 (limbRow V)),some (newB D)]∧i - k=mm∧((k≤i∧c≤1)∧V < B ^ (j+i+1)∧V+c*B ^ (j+k)=Y+D % B ^ k*B ^ j),.inr ⟨[0,1],[0,1,2,6,7,9,15,157,158,159],?_⟩,?_⟩
      ·conv=>whnf
       intro _
       conv=>whnf
       refine ⟨_,0,0,Y,(.keep (.keep (.keep (.sk 3 (.keep (.keep (.sk 1 (.keep (.sk 5 (.keep (.sk 141 (.keep (.keep (.keep (.sk 34 .nil rfl)))) rfl)) rfl)) rfl))) rfl)))),rfl,rfl,?_⟩
       exact ⟨⟨Nat.zero_le _,by decide⟩,hZ2,by simp [Nat.mod_one]⟩
      rintro mm tms _ ⟨k,c,V,hpat,rfl,rfl,⟨⟨hk,hc⟩,hV,he⟩⟩
      obtain ⟨az,rfl⟩:∃ az:Nat→Value,tms=.slice (some ⟨0,0,none⟩) m cx::.slice (some ⟨1,0,none⟩) i cd::.int .i64 j::zs az 3 3 (.int .u32 0::.int .i64 i::zs az 8 1 (.int .u64 qt::zs az 10 5 (.int .u32 c::zs az 16 141 (.slice (some ⟨1,0,none⟩) i cd::.int .i64 i::.int .i64 k::zs az 160 34 [])))):=pat_fill hpat
      clear hpat
      conv=>whnf
      refine br_intro (fun h3=>?_) (fun h3=>?_)
      ·have h3:k < i:=by simpa using h3
       obtain ⟨x,hx⟩:∃ x,x=limb D k:=⟨_,rfl⟩
       obtain ⟨l,hl⟩:∃ l,l=limb V (j+k):=⟨_,rfl⟩
       have hxB:x < 4294967296:=by rw [hx]; exact limb_lt D k
       have hlB:l < 4294967296:=by rw [hl]; exact limb_lt V (j+k)
       obtain ⟨t,ht⟩:∃ t,t=l+x+c:=⟨_,rfl⟩
       have hst:=back_step (t:=t) (i:=k) (j:=j) he (by rw [← hl,← hx]; exact ht)
       have htB:t % B < 4294967296:=Nat.mod_lt _ (by decide)
       have htC:t / B≤1:=by show t / 4294967296≤1; omega
       have hV2:=setLimb_lt hV (show j+k < j+i+1 by omega) (show t % B < B from htB)
       have e6:IntKind.i64.wrap (((j:Nat):Int)+((k:Nat):Int))=((j+k:Nat):Int):=by rw [wrapi64 (by omega) (by omega)]; omega
       have e7:IntKind.i64.wrap (((k:Nat):Int)+1)=((k+1:Nat):Int):=by rw [wrapi64 (by omega) (by omega)]; omega
       conv=>whnf
       refine ⟨⟨by omega,by omega⟩,?_⟩
       simp only [toNat_cast,rowAdd_eq,Nat.zero_add]
       conv=>whnf
       refine ⟨by show k < nl D; omega,?_⟩
       conv=>whnf
       simp only [e6]
       refine ⟨⟨by omega,by omega⟩,?_⟩
       simp only [toNat_cast,rowAdd_eq,Nat.zero_add]
       conv=>whnf
       refine ⟨by show j+k < m; omega,?_⟩
       conv=>whnf
       rw [← hl,← hx]
       refine ⟨(l,x,c),rfl,⟨hlB,hxB,hc⟩,?_⟩
       simp only [add32S,← ht,e6]
       conv=>whnf
       refine ⟨⟨by omega,by omega⟩,?_⟩
       simp only [toNat_cast,rowAdd_eq,Nat.zero_add]
       conv=>whnf
       refine ⟨by show j+k < m; omega,?_⟩
       conv=>whnf
       simp only [e7]
       rw [show t % 4294967296=t % B from rfl,limbRow_set htB]
       refine .inl ⟨_,?_,k+1,t / B,setLimb V (j+k) (t % B),(.keep (.keep (.keep (.sk 3 (.keep (.keep (.sk 1 (.keep (.sk 5 (.keep (.sk 141 (.keep (.keep (.keep (.sk 34 .nil rfl)))) rfl)) rfl)) rfl))) rfl)))),rfl,rfl,?_⟩
       ·omega
       ·exact ⟨⟨by omega,htC⟩,hV2,hst⟩
      ·have h3:k=i:=by
        have h3:¬ k < i:=by simpa using h3
        omega
       subst h3
       have hDlt:D < B ^ k:=by rw [hn2]; exact lt_nl D
       have hfin:=back_last (V:=V) (R:=X % (D*B ^ j)) (k:=j+k) hV (Nat.lt_of_lt_of_le (Nat.mod_lt _ hE) (by rw [Nat.add_comm,Nat.pow_add]; exact Nat.mul_le_mul_right _ (Nat.le_of_lt hDlt))) hc (by
        rw [he,Nat.mod_eq_of_lt hDlt]; exact hr2)
       have hq3:qt - 1=X / (D*B ^ j):=by rw [hr1]; rfl
       have ep:IntKind.u64.wrap ((qt:Int) - 1)=((qt - 1:Nat):Int):=by
        have:1≤qt:=by rw [hr1]; exact Nat.le_add_left _ _
        have:=hT.1
        rw [wrapu64 (by omega) (by omega)]; omega
       have hqm2:(qt - 1) % B=qt - 1:=Nat.mod_eq_of_lt (by have:=hT.1; show qt - 1 < 4294967296; omega)
       conv=>whnf
       simp only [e1]
       refine ⟨⟨by omega,by omega⟩,?_⟩
       simp only [toNat_cast,rowAdd_eq,Nat.zero_add]
       conv=>whnf
       refine ⟨by show j+k < m; omega,?_⟩
       conv=>whnf
       rw [show IntKind.u32.wrap (((limb V (j+k):Nat):Int)+(c:Int))=(((limb V (j+k)+c) % B:Nat):Int) from u32_mod (limb V (j+k)+c)]
       refine ⟨⟨by omega,by omega⟩,?_⟩
       simp only [toNat_cast,rowAdd_eq,Nat.zero_add]
       conv=>whnf
       refine ⟨by show j+k < m; omega,?_⟩
       conv=>whnf
       simp only [ep,u32_mod,hqm2]
       rw [limbRow_set (Nat.mod_lt _ (by decide)),hfin]
       exact wres_digit (i:=⟨X,m,cx,D,cd,j⟩) rfl hq3 rfl
    skip
    skip
   ·rw [show (((((q - 1) / B:Nat):Int) == 0):Bool)=false by show decide ((((q - 1) / 4294967296:Nat):Int)=0)=false; exact decide_eq_false (by omega)]
    conv=>whnf
    refine .inr ⟨[0,1],[0,1,2,6,7,9,10],?_⟩
    conv=>whnf
    intro _
    conv=>whnf
    refine ⟨_,?_,q - 1,r+d1,(.keep (.keep (.keep (.sk 3 (.keep (.keep (.sk 1 (.keep (.keep (.sk 183 .nil rfl))) rfl))) rfl)))),rfl,rfl,?_⟩
    ·omega
    ·exact ⟨he2,by omega,by omega⟩
end Go.Proofs.YtppeponndkfbkaaGreat
/- Contracts of bigint: division. -/
set_option maxRecDepth 20000
set_option maxHeartbeats 4000000
namespace Go.Proofs.YtppeponndkfbkaaGreat
open Go Go.Ae
def Eh:Env:=En [(145,.q trimS),(125,.q compareS),(165,.q shortS),(167,.q shiftS),(169,.q unshiftS),(166,.p lz32S)] [(168,wFT digitS)]
theorem Ehok:EnvOk Tryz.prog Eh:=Enk ⟨trim_ok,compare_ok,short_ok,shift_ok,unshift_ok,lz32_ok,trivial⟩ ⟨digit_ok,trivial⟩
theorem divide_ok:FTOk Tryz.prog 147 (wFT divideS):=by
 refine wft_of Ehok Dok Tryz.func147 (enters_of Tryz.func147 (by kernel_rfl) rfl) ?_
 intro ⟨A,ca,D,cd⟩ hp
 have hp:(nl A≤137438953472∧nl D≤137438953472)∧D≠0:=hp
 conv=>whnf
 refine ⟨(A,ca,D,cd),[0,1],rfl,hp.1,?_⟩
 conv=>whnf
 refine ⟨BlkLe.flat_flat (fun h=>h) (fun r hr=>rfl),?_⟩
 conv=>whnf
 refine ⟨BlkLe.flat_flat (fun h=>h) (fun r hr=>rfl),?_⟩
 conv=>whnf
 refine ⟨_,rfl,?_⟩
 conv=>whnf
 refine br_intro (fun h0=>?_) (fun h0=>?_)
 ·have h0:A < D:=by
   have h0:cmpN A D < 0:=of_decide_eq_true h0
   rcases Nat.lt_or_ge A D with h | h
   ·exact h
   ·rw [cmpN,if_neg (by omega)] at h0
    split at h0 <;> omega
  conv=>whnf
  exact wres_div1 h0
 ·have h0:D≤A:=by
   have h0:¬ cmpN A D < 0:=of_decide_eq_false h0
   rcases Nat.lt_or_ge A D with h | h
   ·rw [cmpN,if_pos h] at h0
    omega
   ·exact h
  have hDp:0 < D:=Nat.pos_of_ne_zero hp.2
  conv=>whnf
  refine br_intro (fun h1=>?_) (fun h1=>?_)
  ·have h1:nl D=1:=by
    have h1:((nl D:Nat):Int)=1:=by simpa using h1
    omega
   obtain ⟨hl0,hlB,hl1⟩:=nl_one h1
   conv=>whnf
   refine ⟨⟨by omega,by show ((0:Nat):Int) < ((nl D:Nat):Int); omega⟩,?_⟩
   simp only [toNat_0,rowAdd_eq,Nat.zero_add]
   conv=>whnf
   refine ⟨by show 0 < nl D; omega,?_⟩
   conv=>whnf
   rw [hl0]
   refine ⟨(A,ca,D),[0],rfl,⟨hp.1.1,hl1,hlB⟩,?_⟩
   conv=>whnf
   refine ⟨BlkLe.flat_flat (fun h=>h) (fun r hr=>rfl),?_⟩
   conv=>whnf
   refine ⟨_,rfl,?_⟩
   conv=>whnf
   refine ⟨some (1,A % D,1),[3],rfl,⟨by rw [Nat.pow_one]; exact Nat.lt_trans (Nat.mod_lt _ hl1) hlB,by decide⟩,?_⟩
   conv=>whnf
   have hmB:A % D < 4294967296:=Nat.lt_trans (Nat.mod_lt _ hl1) hlB
   refine ⟨ble_expl1 hmB (Nat.le_refl _),?_⟩
   conv=>whnf
   refine ⟨_,rfl,?_⟩
   conv=>whnf
   refine wres_div2 (q:=2) (r:=3) h0 (by decide) (by decide) (by decide) rfl rfl rfl rfl ⟨(fun h=>by cases h),rfl,nl_mono (Nat.div_le_self _ _),fun _ _=>rfl,fun r hr v hv=>allS_spec (l:=limbRow (A / D) r) rfl v hv⟩ ?_
   exact ble_expl1 hmB (nl_le (n:=1) (by rw [Nat.pow_one]; exact hmB))
  ·have h1:nl D≠1:=by
    intro e
    have e2:((nl D:Nat):Int)=1:=by rw [e]; rfl
    simp [e2] at h1
   have hnD:=nl_mono h0
   have h2:2≤nl D:=by have:=nl_pos hp.2; omega
   obtain ⟨n,hn⟩:∃ n,n=nl D - 1:=⟨_,rfl⟩
   obtain ⟨s,hs⟩:∃ s,s=32 - blen (limb D n):=⟨_,rfl⟩
   obtain ⟨f1,f2,f3,f4,f5⟩:=norm_facts (D:=D) (n:=n) (s:=s) (by omega) hs
   obtain ⟨E,hE⟩:∃ E,E=D*2 ^ s:=⟨_,rfl⟩
   have hEp:0 < E:=by rw [hE]; exact Nat.mul_pos hDp (Nat.pow_pos (by decide))
   rw [← hE] at f3 f4 f5
   have hEn:nl E=nl D:=by omega
   have e1:IntKind.i64.wrap (((nl D:Nat):Int) - 1)=((n:Nat):Int):=by rw [wrapi64 (by omega) (by omega)]; omega
   conv=>whnf
   simp only [e1]
   refine ⟨⟨by omega,by show ((n:Nat):Int) < ((nl D:Nat):Int); omega⟩,?_⟩
   simp only [toNat_cast,rowAdd_eq,Nat.zero_add]
   conv=>whnf
   refine ⟨by show n < nl D; omega,?_⟩
   conv=>whnf
   refine ⟨limb D n,rfl,limb_lt D n,?_⟩
   simp only [lz32S,← hs]
   conv=>whnf
   refine ⟨(A,ca,s),[0],rfl,⟨hp.1.1,f1⟩,?_⟩
   conv=>whnf
   refine ⟨BlkLe.flat_flat (fun h=>h) (fun r hr=>rfl),?_⟩
   conv=>whnf
   refine ⟨_,rfl,?_⟩
   conv=>whnf
   refine ⟨(D,cd,s),[1],rfl,⟨hp.1.2,f1⟩,?_⟩
   conv=>whnf
   refine ⟨BlkLe.flat_flat (fun h=>h) (fun r hr=>rfl),?_⟩
   conv=>whnf
   refine ⟨_,rfl,?_⟩
   conv=>whnf
   rw [show (A,ca,s).1*2 ^ (A,ca,s).2.2=A*2 ^ s from rfl,show (D,cd,s).1*2 ^ (D,cd,s).2.2=E from hE.symm]
   have hElt:E < B ^ (nl D+1):=Nat.lt_of_lt_of_le (lt_nl E) (Nat.pow_le_pow_right (by decide) (by omega))
   refine ⟨some (nl D+1,E,nl D+1),[3],rfl,⟨hElt,by omega⟩,?_⟩
   conv=>whnf
   refine ⟨⟨(fun h=>by cases h),rfl,Nat.le_refl _,fun _ _=>rfl,fun r hr v hv=>allS_spec (l:=limbRow E r) rfl v hv⟩,?_⟩
   conv=>whnf
   refine ⟨_,rfl,?_⟩
   conv=>whnf
   obtain ⟨k,hk⟩:∃ k,k=nl A+1 - nl D:=⟨_,rfl⟩
   have e2:IntKind.i64.wrap (((nl A+1:Nat):Int) - ((nl E:Nat):Int))=((k:Nat):Int):=by rw [wrapi64 (by omega) (by omega)]; omega
   simp only [e2]
   refine ⟨⟨by omega,by omega,by show ((k:Nat):Int)*((4:Nat):Int)≤_; omega⟩,?_⟩
   simp only [toNat_cast,limbRow_zero]
   conv=>whnf
   refine .inl ⟨fun mm tz hz=>∃ (i:Nat) (U:Nat) (Q:Nat),Pat (nos 8 (some (.int .i64 s)::some (.slice (some ⟨2,0,none⟩) (nl A+1) (nl A+1))::some (.slice (some ⟨3,0,none⟩) (nl E) (nl D+1))::some (.slice (some ⟨4,0,none⟩) k k)::some (.int .i64 (IntKind.i64.wrap ((i:Int) - 1)))::nos 60 [])) tz∧hz=[some (.flat false (nl A) 1 (limbRow A)),some (.flat false (nl D) 1 (limbRow D)),some (.flat true (nl A+1) 1 (limbRow U)),some (.flat true (nl D+1) 1 (limbRow E)),some (.flat true k 1 (limbRow Q))]∧i=mm∧(i≤k∧Q*E+U=A*2 ^ s∧U < E*B ^ i∧Q % B ^ i=0),.inl ⟨_,k,A*2 ^ s,0,(.sk 8 (.keep (.keep (.keep (.keep (.keep (.sk 60 .nil rfl)))))) rfl),rfl,rfl,?_⟩,?_⟩
   ·exact ⟨Nat.le_refl _,by rw [Nat.zero_mul,Nat.zero_add],div_start f1 f5 (by omega) (by omega),Nat.zero_mod _⟩
   rintro mm tms _ ⟨i,U,Q,hpat,rfl,rfl,⟨hi,hQU,hU,hQm⟩⟩
   obtain ⟨az,rfl⟩:∃ az:Nat→Value,tms=zs az 0 8 (.int .i64 s::.slice (some ⟨2,0,none⟩) (nl A+1) (nl A+1)::.slice (some ⟨3,0,none⟩) (nl E) (nl D+1)::.slice (some ⟨4,0,none⟩) k k::.int .i64 (IntKind.i64.wrap ((i:Int) - 1))::zs az 13 60 []):=pat_fill hpat
   clear hpat
   conv=>whnf
   refine br_intro (fun h3=>?_) (fun h3=>?_)
   ·have h3:0 < i:=by
     rcases Nat.eq_zero_or_pos i with h | h
     ·subst h; revert h3; decide
     ·exact h
    obtain ⟨i,rfl⟩:∃ i',i=i'+1:=⟨i - 1,by omega⟩
    have ei:IntKind.i64.wrap (((i+1:Nat):Int) - 1)=((i:Nat):Int):=by rw [wrapi64 (by omega) (by omega)]; omega
    simp only [ei]
    obtain ⟨g1,g2,g3,g4⟩:=div_digit hEp hQU hU hQm
    conv=>whnf
    refine ⟨⟨U,nl A+1,nl A+1,E,nl D+1,i⟩,[2,3],rfl,⟨by show nl A+1≤_; omega,by show 2≤nl E; omega,by show 2147483648≤limb E (nl E - 1); rw [show nl E - 1=n by omega]; exact f4,by show i+nl E < nl A+1; omega,hU⟩,by decide,?_⟩
    conv=>whnf
    refine ⟨BlkLe.flat_flat (fun h=>h) (fun r hr=>rfl),?_⟩
    conv=>whnf
    refine ⟨⟨(fun h=>by cases h),rfl,by show nl E≤nl D+1; omega,fun _ _=>rfl,fun r hr v hv=>allS_spec (l:=limbRow E r) rfl v hv⟩,?_⟩
    conv=>whnf
    refine ⟨_,rfl,?_⟩
    conv=>whnf
    refine ⟨⟨by omega,by omega⟩,?_⟩
    simp only [toNat_cast,rowAdd_eq,Nat.zero_add]
    conv=>whnf
    refine ⟨by show i < k; omega,?_⟩
    conv=>whnf
    rw [limbRow_set g1]
    refine .inl ⟨_,?_,i,U % (E*B ^ i),setLimb Q i (U / (E*B ^ i)),(.sk 8 (.keep (.keep (.keep (.keep (.keep (.sk 60 .nil rfl)))))) rfl),rfl,rfl,?_⟩
    ·omega
    ·exact ⟨by omega,g2,g3,g4⟩
   ·have h3:i=0:=by
     rcases Nat.eq_zero_or_pos i with h | h
     ·exact h
     ·have e:IntKind.i64.wrap ((i:Int) - 1)=((i - 1:Nat):Int):=by rw [wrapi64 (by omega) (by omega)]; omega
      rw [e] at h3
      exact absurd h3 (by simp)
    subst h3
    rw [Nat.pow_zero,Nat.mul_one] at hU
    rw [hE] at hQU hU
    obtain ⟨g1,g2,g3⟩:=div_done hDp hQU hU
    have hUn:nl U≤nl E:=nl_mono (by rw [hE]; exact Nat.le_of_lt hU)
    have hUA:U < B ^ (nl A+1):=Nat.lt_of_lt_of_le (lt_nl U) (Nat.pow_le_pow_right (by decide) (by omega))
    have hQk:Q < B ^ k:=by
     rw [g1]
     refine (Nat.div_lt_iff_lt_mul hDp).2 ?_
     refine Nat.lt_of_lt_of_le (lt_nl A) ?_
     have h5:B ^ n≤D:=by rw [show n=nl D - 1 from hn]; exact pow_le_of_nl hp.2
     rw [show nl A=k+n by omega,Nat.pow_add]
     exact Nat.mul_le_mul_left _ h5
    have hQn:=nl_le hQk
    have hRn:nl (A % D)≤nl U:=by rw [← g3]; exact nl_mono (Nat.div_le_self _ _)
    conv=>whnf
    refine ⟨some (k,Q,k),[4],rfl,⟨hQk,by omega⟩,?_⟩
    conv=>whnf
    refine ⟨⟨(fun h=>by cases h),rfl,Nat.le_refl _,fun _ _=>rfl,fun r hr v hv=>allS_spec (l:=limbRow Q r) rfl v hv⟩,?_⟩
    conv=>whnf
    refine ⟨_,rfl,?_⟩
    conv=>whnf
    refine ⟨some (nl A+1,U,nl A+1),[2],rfl,⟨hUA,by omega⟩,?_⟩
    conv=>whnf
    refine ⟨⟨(fun h=>by cases h),rfl,Nat.le_refl _,fun _ _=>rfl,fun r hr v hv=>allS_spec (l:=limbRow U r) rfl v hv⟩,?_⟩
    conv=>whnf
    refine ⟨_,rfl,?_⟩
    conv=>whnf
    refine ⟨(U,nl A+1,s),[2],rfl,⟨by show nl U≤_; omega,f1⟩,?_⟩
    conv=>whnf
    refine ⟨⟨(fun h=>by cases h),rfl,by show nl U≤nl A+1; omega,fun _ _=>rfl,fun r hr v hv=>allS_spec (l:=limbRow U r) rfl v hv⟩,?_⟩
    conv=>whnf
    refine ⟨_,rfl,?_⟩
    conv=>whnf
    show wRes divideS (A,ca,D,cd) (.tuple ⟨[.slice (some ⟨4,0,none⟩) (nl Q) k,.slice (some ⟨5,0,none⟩) (nl (U / 2 ^ s)) capU]⟩) _
    rw [g3]
    clear g2 hQU hUA
    subst g1
    refine wres_div2 (q:=4) (r:=5) h0 (by decide) (by decide) (by decide) rfl rfl rfl rfl ⟨(fun h=>by cases h),rfl,hQn,fun _ _=>rfl,fun r hr v hv=>allS_spec (l:=limbRow (A / D) r) rfl v hv⟩ ⟨(fun h=>by cases h),rfl,hRn,fun r _=>by rw [← g3]; rfl,fun r hr v hv=>allS_spec (l:=limbRow (A % D) r) rfl v hv⟩
end Go.Proofs.YtppeponndkfbkaaGreat
/- Contracts of bigint: machine integers, products, signs. -/
set_option maxRecDepth 20000
set_option maxHeartbeats 1000000
namespace Go.Proofs.YtppeponndkfbkaaGreat
open Go Go.Ae
theorem little_ok:Snd Tryz.prog 157 littleS:=by
 refine snd_of Eaok Dok Tryz.func157 (enters_of Tryz.func157 (by kernel_rfl) rfl) (fun _=>rfl) (fun _=>rfl) ?_
 intro ⟨b,s⟩ hp
 have hp:s.size≤549755813888:=hp
 conv=>whnf
 refine br_intro (fun h1=>?_) (fun h1=>?_)
 ·have h1:¬ s.size≤7:=by
   have h1:=of_decide_eq_true h1
   have h1:((s.size:Nat):Int) > 7:=h1
   omega
  conv=>whnf
  simp only [littleS,h1,if_false,decide_false]
 ·have h1:s.size≤7:=by
   have h1:=of_decide_eq_false h1
   have h1:¬ ((s.size:Nat):Int) > 7:=h1
   omega
  have h1':=h1
  conv=>whnf
  refine .inl ⟨fun mm tz hz=>∃ (i:Nat) (N:Nat),Pat (nos 1 (some (.pointer (some ⟨0,0,none⟩))::some (.int .i64 0)::some (.bool false)::some (.int .i64 N)::nos 7 (some (.int .i64 s.size)::some (.int .i64 i)::nos 16 []))) tz∧hz=[some (.expl true 2 [[.bool b,.string s]])]∧s.size - i=mm∧(i≤s.size∧N=bnat s / C ^ (s.size - i)),.inl ⟨_,0,0,(.sk 1 (.keep (.keep (.keep (.keep (.sk 7 (.keep (.keep (.sk 16 .nil rfl))) rfl))))) rfl),rfl,rfl,?_⟩,?_⟩
  ·exact ⟨Nat.zero_le _,by rw [Nat.sub_zero,Nat.div_eq_of_lt (bnat_lt s)]⟩
  rintro mm tms _ ⟨i,N,hpat,rfl,rfl,⟨hi,hN⟩⟩
  obtain ⟨az,rfl⟩:∃ az:Nat→Value,tms=zs az 0 1 (.pointer (some ⟨0,0,none⟩)::.int .i64 0::.bool false::.int .i64 N::zs az 5 7 (.int .i64 s.size::.int .i64 i::zs az 14 16 [])):=pat_fill hpat
  clear hpat
  have hlt:=pre_lt s hi
  rw [← hN] at hlt
  have hlC:=hlt
  have hlt:=Nat.lt_of_lt_of_le hlt (pow7 (show i≤7 by omega))
  conv=>whnf
  refine br_intro (fun h2=>?_) (fun h2=>?_)
  ·have h2:i < s.size:=by simpa using h2
   have hst:=pre_step h2
   rw [← hN] at hst
   have hb:byteAt s i < 256:=byteAt_lt s i
   have eN:((N:Nat):Int)*256+((byteAt s i:Nat):Int)=((N*256+byteAt s i:Nat):Int):=by omega
   conv=>whnf
   refine ⟨⟨by omega,by omega⟩,?_⟩
   try simp (disch:=omega) only [wrapi64,wrapu64,wrapu32,wrapu8,shr_u64_32,shr_u64_31,shl_u64_32,shl_i64_8,shr_i64_8,shr_u32_8,shr_u32_16,shr_u32_24,or_word',or_byte',toNat_cast,rowAdd_eq,Nat.zero_add,capSub_zero,toNat_0,toNat_1,Nat.sub_zero,sub1c,add1c,subc,addc,tdiv4,tmod4,cast_mul8,mul8c]
   conv=>whnf
   have e3:IntKind.i64.wrap (((i:Nat):Int)+1)=((i+1:Nat):Int):=by rw [wrapi64 (by omega) (by omega)]; rfl
   have hl6:=Nat.lt_of_lt_of_le hlC (pow6 (show i≤6 by omega))
   rw [byte_in (by omega) hb,e3]
   refine .inl ⟨_,?_,i+1,N*256+byteAt s i,(.sk 1 (.keep (.keep (.keep (.keep (.sk 7 (.keep (.keep (.sk 16 .nil rfl))) rfl))))) rfl),rfl,rfl,?_⟩
   ·omega
   ·exact ⟨by omega,hst.symm⟩
  ·have h2:i=s.size:=by
    have h2:¬ i < s.size:=by simpa using h2
    omega
   subst h2
   rw [Nat.sub_self,Nat.pow_zero,Nat.div_one] at hN
   subst hN
   cases b with
   | true =>
    conv=>whnf
    try simp (disch:=omega) only [wrapi64,wrapu64,wrapu32,wrapu8,shr_u64_32,shr_u64_31,shl_u64_32,shl_i64_8,shr_i64_8,shr_u32_8,shr_u32_16,shr_u32_24,or_word',or_byte',toNat_cast,rowAdd_eq,Nat.zero_add,capSub_zero,toNat_0,toNat_1,Nat.sub_zero,sub1c,add1c,subc,addc,tdiv4,tmod4,cast_mul8,mul8c]
    have e:IV.z (true,s)=-(bnat s:Int):=rfl
    simp only [littleS,e,h1',if_true,decide_true,Int.zero_sub]
   | false =>
    conv=>whnf
    have e:IV.z (false,s)=(bnat s:Int):=rfl
    simp only [littleS,e,h1',if_true,decide_true]
def Ei:Env:=En [(116,.q packS),(124,.q loadS),(140,.q timesS),(125,.q compareS),(157,.p littleS)]
theorem Eiok:EnvOk Tryz.prog Ei:=Enk ⟨pack_ok,load_ok,times_ok,compare_ok,little_ok,trivial⟩ trivial
theorem of_ok:Snd Tryz.prog 81 ofS:=by
 refine snd_of Eiok Dok Tryz.func81 (enters_of Tryz.func81 (by kernel_rfl) rfl) (fun _=>rfl) (fun _=>rfl) ?_
 intro (n:Int) hp
 have hp:-9223372036854775808≤n∧n < 9223372036854775808:=hp
 conv=>whnf
 obtain ⟨N,hN⟩:∃ N:Nat,N=n.natAbs:=⟨_,rfl⟩
 have hNB:N < 18446744073709551616:=by omega
 have hl:=limb_u64 hNB
 refine br_intro (fun h1=>?_) (fun h1=>?_)
 ·have h1:n < 0:=of_decide_eq_true h1
  have e1:IntKind.u64.wrap (0 - IntKind.u64.wrap n)=(N:Int):=by
   rw [wrapu64',wrapu64']; omega
  conv=>whnf
  simp only [e1]
  refine ⟨(decide (n < 0),some (2,N,2)),[1],rfl,⟨nl_u64 hNB,by decide⟩,?_⟩
  conv=>whnf
  refine ⟨two_rows hNB,?_⟩
  conv=>whnf
  refine ⟨_,rfl,?_⟩
  conv=>whnf
  show encS (decide (n < 0)) N=encI n
  rw [encS_eq]
  congr 1
  simp only [valI,h1,decide_true,decide_false,if_true,Bool.false_eq_true,if_false]
  omega
 ·have h1:¬ n < 0:=of_decide_eq_false h1
  have e1:IntKind.u64.wrap n=(N:Int):=by
   rw [wrapu64']; omega
  conv=>whnf
  simp only [e1]
  refine ⟨(decide (n < 0),some (2,N,2)),[1],rfl,⟨nl_u64 hNB,by decide⟩,?_⟩
  conv=>whnf
  refine ⟨two_rows hNB,?_⟩
  conv=>whnf
  refine ⟨_,rfl,?_⟩
  conv=>whnf
  show encS (decide (n < 0)) N=encI n
  rw [encS_eq]
  congr 1
  simp only [valI,h1,decide_true,decide_false,if_true,Bool.false_eq_true,if_false]
  omega
theorem mul_ok:Snd Tryz.prog 98 mulS:=by
 refine snd_of Eiok Dok Tryz.func98 (enters_of Tryz.func98 (by kernel_rfl) rfl) (fun _=>rfl) (fun _=>rfl) ?_
 intro ⟨⟨b,s⟩,⟨c,t⟩⟩ hp
 have hp:s.size≤549755813888∧t.size≤549755813888:=hp
 conv=>whnf
 refine .inl ⟨12,[[],[0],[],[2],[0,1,2,3],[],[5],[5,6],[],[8],[5,6,7,8,9],[5,6,7,8,9,10],[0,1,2,3,4,5,6,7,8,9,10,11],[0,1,2,3,4,5,6,7,8,9,10,11,12]],by kernel_rfl,?_⟩
 conv=>whnf
 refine ⟨s,[],rfl,by show s.size≤1099511627776; omega,?_⟩
 conv=>whnf
 refine ⟨_,rfl,?_⟩
 conv=>whnf
 refine ⟨t,[],rfl,by show t.size≤1099511627776; omega,?_⟩
 conv=>whnf
 refine ⟨_,rfl,?_⟩
 conv=>whnf
 refine ⟨(bnat s,capU,bnat t,capU),[10,13],rfl,⟨IV.nl (i:=(b,s)) hp.1,IV.nl (i:=(c,t)) hp.2⟩,?_⟩
 conv=>whnf
 refine ⟨BlkLe.flat_flat (fun h=>h) (fun r hr=>rfl),?_⟩
 conv=>whnf
 refine ⟨BlkLe.flat_flat (fun h=>h) (fun r hr=>rfl),?_⟩
 conv=>whnf
 refine ⟨_,rfl,?_⟩
 conv=>whnf
 have hAn:=IV.nl (i:=(b,s)) hp.1
 have hDn:=IV.nl (i:=(c,t)) hp.2
 have hAn:nl (bnat s)≤137438953472:=hAn
 have hDn:nl (bnat t)≤137438953472:=hDn
 have hmul:=nl_mul_le (bnat s) (bnat t)
 refine ⟨(b != c,some (nl (bnat s*bnat t),bnat s*bnat t,capU)),[14],rfl,⟨lt_nl _,by omega⟩,?_⟩
 conv=>whnf
 refine ⟨BlkLe.flat_flat (fun h=>h) (fun r hr=>rfl),?_⟩
 conv=>whnf
 refine ⟨_,rfl,?_⟩
 conv=>whnf
 show encS (b != c) (bnat s*bnat t)=_
 rw [encS_eq,valI_mul]
 rfl
end Go.Proofs.YtppeponndkfbkaaGreat
/- Contracts of bigint: sum, difference, comparison. -/
set_option maxRecDepth 20000
set_option maxHeartbeats 1000000
namespace Go.Proofs.YtppeponndkfbkaaGreat
open Go Go.Ae
theorem neg_ok:Snd Tryz.prog 139 negS:=by
 refine snd_of Eiok Dok Tryz.func139 (enters_of Tryz.func139 (by kernel_rfl) rfl) (fun _=>rfl) (fun _=>rfl) ?_
 intro ⟨b,s⟩ hp
 have hp:s.size≤549755813888:=hp
 have hAn:nl (bnat s)≤137438953472:=IV.nl (i:=(b,s)) hp
 conv=>whnf
 refine .inl ⟨6,[[],[0],[0,1],[],[3],[3,4],[0,1,2,3,4,5],[0,1,2,3,4,5,6]],by kernel_rfl,?_⟩
 conv=>whnf
 refine ⟨s,[],rfl,by show s.size≤1099511627776; omega,?_⟩
 conv=>whnf
 refine ⟨_,rfl,?_⟩
 conv=>whnf
 refine ⟨(!b,some (nl (bnat s),bnat s,capU)),[7],rfl,⟨lt_nl _,by omega⟩,?_⟩
 conv=>whnf
 refine ⟨BlkLe.flat_flat (fun h=>h) (fun r hr=>rfl),?_⟩
 conv=>whnf
 refine ⟨_,rfl,?_⟩
 conv=>whnf
 show encS (!b) (bnat s)=_
 rw [encS_eq,valI_neg]
 rfl
def Ej:Env:=En [(116,.q packS),(124,.q loadS),(158,.q plusS),(159,.q minusS),(125,.q compareS),(157,.p littleS),(81,.p ofS)]
theorem Ejok:EnvOk Tryz.prog Ej:=Enk ⟨pack_ok,load_ok,plus_ok,minus_ok,compare_ok,little_ok,of_ok,trivial⟩ trivial
theorem add_ok:Snd Tryz.prog 132 addS:=by
 refine snd_of Ejok Dok Tryz.func132 (enters_of Tryz.func132 (by kernel_rfl) rfl) (fun _=>rfl) (fun _=>rfl) ?_
 intro ⟨⟨b,s⟩,⟨c,t⟩⟩ hp
 have hp:s.size≤549755813888∧t.size≤549755813888:=hp
 have hAn:nl (bnat s)≤137438953472:=IV.nl (i:=(b,s)) hp.1
 have hDn:nl (bnat t)≤137438953472:=IV.nl (i:=(c,t)) hp.2
 conv=>whnf
 refine ⟨(b,s),rfl,hp.1,?_⟩
 conv=>whnf
 refine br_intro (fun h1=>?_) (fun h1=>?_)
 ·have h1:s.size≤7:=of_decide_eq_true h1
  conv=>whnf
  refine ⟨(c,t),rfl,hp.2,?_⟩
  conv=>whnf
  refine br_intro (fun h2=>?_) (fun h2=>?_)
  ·have h2:t.size≤7:=of_decide_eq_true h2
   conv=>whnf
   have z1:=small_z (i:=(b,s)) h1
   have z2:=small_z (i:=(c,t)) h2
   have ew:IntKind.i64.wrap ((if (b,s).snd.size≤7 then IV.z (b,s) else 0)+if (c,t).snd.size≤7 then IV.z (c,t) else 0)=IV.z (b,s)+IV.z (c,t):=by
    rw [if_pos h1,if_pos h2]
    exact wrapi64 (by omega) (by omega)
   rw [ew]
   refine ⟨IV.z (b,s)+IV.z (c,t),rfl,⟨by omega,by omega⟩,?_⟩
   conv=>whnf
   rfl
  ·conv=>whnf
   refine .inl ⟨5,[[],[0],[0,1],[],[3],[0,1,2,3,4],[0,1,2,3,4,5],[0,1,2,3,4,5,6]],by kernel_rfl,?_⟩
   conv=>whnf
   refine ⟨s,[],rfl,by show s.size≤1099511627776; omega,?_⟩
   conv=>whnf
   refine ⟨_,rfl,?_⟩
   conv=>whnf
   refine ⟨t,[],rfl,by show t.size≤1099511627776; omega,?_⟩
   conv=>whnf
   refine ⟨_,rfl,?_⟩
   conv=>whnf
   refine br_intro (fun h5=>?_) (fun h5=>?_)
   ·have h5:b=c:=eq_of_beq h5
    conv=>whnf
    refine .inl ⟨5,[[],[0],[],[],[2,3],[0,1,2,3,4],[0,1,2,3,4,5]],by kernel_rfl,?_⟩
    conv=>whnf
    refine ⟨(bnat s,capU,bnat t,capU),[5,8],rfl,⟨hAn,hDn⟩,?_⟩
    conv=>whnf
    refine ⟨BlkLe.flat_flat (fun h=>h) (fun r hr=>rfl),?_⟩
    conv=>whnf
    refine ⟨BlkLe.flat_flat (fun h=>h) (fun r hr=>rfl),?_⟩
    conv=>whnf
    refine ⟨_,rfl,?_⟩
    conv=>whnf
    have hal:=nl_add_le (bnat s) (bnat t)
    refine ⟨(b,some (nl (bnat s+bnat t),bnat s+bnat t,capU)),[13],rfl,⟨lt_nl _,by omega⟩,?_⟩
    conv=>whnf
    refine ⟨BlkLe.flat_flat (fun h=>h) (fun r hr=>rfl),?_⟩
    conv=>whnf
    refine ⟨_,rfl,?_⟩
    conv=>whnf
    show encS b (bnat s+bnat t)=encI (IV.z (b,s)+IV.z (c,t))
    rw [encS_eq,valI_same,h5]
    rfl
   ·have h5:b≠c:=by
     intro e
     subst e
     cases b <;> cases h5
    conv=>whnf
    refine ⟨(bnat s,capU,bnat t,capU),[5,8],rfl,⟨hAn,hDn⟩,?_⟩
    conv=>whnf
    refine ⟨BlkLe.flat_flat (fun h=>h) (fun r hr=>rfl),?_⟩
    conv=>whnf
    refine ⟨BlkLe.flat_flat (fun h=>h) (fun r hr=>rfl),?_⟩
    conv=>whnf
    refine ⟨_,rfl,?_⟩
    conv=>whnf
    refine br_intro (fun h6=>?_) (fun h6=>?_)
    ·have h6:bnat s≤bnat t:=by
      have h6:cmpN (bnat s) (bnat t) < 0:=of_decide_eq_true h6
      unfold cmpN at h6
      split at h6
      ·omega
      ·split at h6 <;> omega
     have hml:=nl_mono (Nat.sub_le (bnat t) (bnat s))
     conv=>whnf
     refine .inl ⟨5,[[],[0],[],[],[2,3],[0,1,2,3,4],[0,1,2,3,4,5]],by kernel_rfl,?_⟩
     conv=>whnf
     refine ⟨(bnat t,capU,bnat s,capU),[8,5],rfl,⟨⟨hDn,hAn⟩,h6⟩,?_⟩
     conv=>whnf
     refine ⟨BlkLe.flat_flat (fun h=>h) (fun r hr=>rfl),?_⟩
     conv=>whnf
     refine ⟨BlkLe.flat_flat (fun h=>h) (fun r hr=>rfl),?_⟩
     conv=>whnf
     refine ⟨_,rfl,?_⟩
     conv=>whnf
     refine ⟨(c,some (nl (bnat t - bnat s),bnat t - bnat s,capU)),[13],rfl,⟨lt_nl _,by omega⟩,?_⟩
     conv=>whnf
     refine ⟨BlkLe.flat_flat (fun h=>h) (fun r hr=>rfl),?_⟩
     conv=>whnf
     refine ⟨_,rfl,?_⟩
     conv=>whnf
     show encS c (bnat t - bnat s)=encI (IV.z (b,s)+IV.z (c,t))
     rw [encS_eq,valI_diff (Ne.symm h5) h6,Int.add_comm]
     rfl
    ·have h6:bnat t≤bnat s:=by
      have h6:¬ cmpN (bnat s) (bnat t) < 0:=of_decide_eq_false h6
      unfold cmpN at h6
      split at h6
      ·omega
      ·split at h6 <;> omega
     have hml:=nl_mono (Nat.sub_le (bnat s) (bnat t))
     conv=>whnf
     refine .inl ⟨5,[[],[0],[],[],[2,3],[0,1,2,3,4],[0,1,2,3,4,5]],by kernel_rfl,?_⟩
     conv=>whnf
     refine ⟨(bnat s,capU,bnat t,capU),[5,8],rfl,⟨⟨hAn,hDn⟩,h6⟩,?_⟩
     conv=>whnf
     refine ⟨BlkLe.flat_flat (fun h=>h) (fun r hr=>rfl),?_⟩
     conv=>whnf
     refine ⟨BlkLe.flat_flat (fun h=>h) (fun r hr=>rfl),?_⟩
     conv=>whnf
     refine ⟨_,rfl,?_⟩
     conv=>whnf
     refine ⟨(b,some (nl (bnat s - bnat t),bnat s - bnat t,capU)),[13],rfl,⟨lt_nl _,by omega⟩,?_⟩
     conv=>whnf
     refine ⟨BlkLe.flat_flat (fun h=>h) (fun r hr=>rfl),?_⟩
     conv=>whnf
     refine ⟨_,rfl,?_⟩
     conv=>whnf
     show encS b (bnat s - bnat t)=encI (IV.z (b,s)+IV.z (c,t))
     rw [encS_eq,valI_diff h5 h6]
     rfl
 ·conv=>whnf
  refine .inl ⟨5,[[],[0],[0,1],[],[3],[0,1,2,3,4],[0,1,2,3,4,5],[0,1,2,3,4,5,6]],by kernel_rfl,?_⟩
  conv=>whnf
  refine ⟨s,[],rfl,by show s.size≤1099511627776; omega,?_⟩
  conv=>whnf
  refine ⟨_,rfl,?_⟩
  conv=>whnf
  refine ⟨t,[],rfl,by show t.size≤1099511627776; omega,?_⟩
  conv=>whnf
  refine ⟨_,rfl,?_⟩
  conv=>whnf
  refine br_intro (fun h5=>?_) (fun h5=>?_)
  ·have h5:b=c:=eq_of_beq h5
   conv=>whnf
   refine .inl ⟨5,[[],[0],[],[],[2,3],[0,1,2,3,4],[0,1,2,3,4,5]],by kernel_rfl,?_⟩
   conv=>whnf
   refine ⟨(bnat s,capU,bnat t,capU),[5,8],rfl,⟨hAn,hDn⟩,?_⟩
   conv=>whnf
   refine ⟨BlkLe.flat_flat (fun h=>h) (fun r hr=>rfl),?_⟩
   conv=>whnf
   refine ⟨BlkLe.flat_flat (fun h=>h) (fun r hr=>rfl),?_⟩
   conv=>whnf
   refine ⟨_,rfl,?_⟩
   conv=>whnf
   have hal:=nl_add_le (bnat s) (bnat t)
   refine ⟨(b,some (nl (bnat s+bnat t),bnat s+bnat t,capU)),[13],rfl,⟨lt_nl _,by omega⟩,?_⟩
   conv=>whnf
   refine ⟨BlkLe.flat_flat (fun h=>h) (fun r hr=>rfl),?_⟩
   conv=>whnf
   refine ⟨_,rfl,?_⟩
   conv=>whnf
   show encS b (bnat s+bnat t)=encI (IV.z (b,s)+IV.z (c,t))
   rw [encS_eq,valI_same,h5]
   rfl
  ·have h5:b≠c:=by
    intro e
    subst e
    cases b <;> cases h5
   conv=>whnf
   refine ⟨(bnat s,capU,bnat t,capU),[5,8],rfl,⟨hAn,hDn⟩,?_⟩
   conv=>whnf
   refine ⟨BlkLe.flat_flat (fun h=>h) (fun r hr=>rfl),?_⟩
   conv=>whnf
   refine ⟨BlkLe.flat_flat (fun h=>h) (fun r hr=>rfl),?_⟩
   conv=>whnf
   refine ⟨_,rfl,?_⟩
   conv=>whnf
   refine br_intro (fun h6=>?_) (fun h6=>?_)
   ·have h6:bnat s≤bnat t:=by
     have h6:cmpN (bnat s) (bnat t) < 0:=of_decide_eq_true h6
     unfold cmpN at h6
     split at h6
     ·omega
     ·split at h6 <;> omega
    have hml:=nl_mono (Nat.sub_le (bnat t) (bnat s))
    conv=>whnf
    refine .inl ⟨5,[[],[0],[],[],[2,3],[0,1,2,3,4],[0,1,2,3,4,5]],by kernel_rfl,?_⟩
    conv=>whnf
    refine ⟨(bnat t,capU,bnat s,capU),[8,5],rfl,⟨⟨hDn,hAn⟩,h6⟩,?_⟩
    conv=>whnf
    refine ⟨BlkLe.flat_flat (fun h=>h) (fun r hr=>rfl),?_⟩
    conv=>whnf
    refine ⟨BlkLe.flat_flat (fun h=>h) (fun r hr=>rfl),?_⟩
    conv=>whnf
    refine ⟨_,rfl,?_⟩
    conv=>whnf
    refine ⟨(c,some (nl (bnat t - bnat s),bnat t - bnat s,capU)),[13],rfl,⟨lt_nl _,by omega⟩,?_⟩
    conv=>whnf
    refine ⟨BlkLe.flat_flat (fun h=>h) (fun r hr=>rfl),?_⟩
    conv=>whnf
    refine ⟨_,rfl,?_⟩
    conv=>whnf
    show encS c (bnat t - bnat s)=encI (IV.z (b,s)+IV.z (c,t))
    rw [encS_eq,valI_diff (Ne.symm h5) h6,Int.add_comm]
    rfl
   ·have h6:bnat t≤bnat s:=by
     have h6:¬ cmpN (bnat s) (bnat t) < 0:=of_decide_eq_false h6
     unfold cmpN at h6
     split at h6
     ·omega
     ·split at h6 <;> omega
    have hml:=nl_mono (Nat.sub_le (bnat s) (bnat t))
    conv=>whnf
    refine .inl ⟨5,[[],[0],[],[],[2,3],[0,1,2,3,4],[0,1,2,3,4,5]],by kernel_rfl,?_⟩
    conv=>whnf
    refine ⟨(bnat s,capU,bnat t,capU),[5,8],rfl,⟨⟨hAn,hDn⟩,h6⟩,?_⟩
    conv=>whnf
    refine ⟨BlkLe.flat_flat (fun h=>h) (fun r hr=>rfl),?_⟩
    conv=>whnf
    refine ⟨BlkLe.flat_flat (fun h=>h) (fun r hr=>rfl),?_⟩
    conv=>whnf
    refine ⟨_,rfl,?_⟩
    conv=>whnf
    refine ⟨(b,some (nl (bnat s - bnat t),bnat s - bnat t,capU)),[13],rfl,⟨lt_nl _,by omega⟩,?_⟩
    conv=>whnf
    refine ⟨BlkLe.flat_flat (fun h=>h) (fun r hr=>rfl),?_⟩
    conv=>whnf
    refine ⟨_,rfl,?_⟩
    conv=>whnf
    show encS b (bnat s - bnat t)=encI (IV.z (b,s)+IV.z (c,t))
    rw [encS_eq,valI_diff h5 h6]
    rfl
def Ek:Env:=En [(132,.p addS)]
theorem Ekok:EnvOk Tryz.prog Ek:=Enk ⟨add_ok,trivial⟩ trivial
theorem sub_ok:Snd Tryz.prog 148 subS:=by
 refine snd_of Ekok Dok Tryz.func148 (enters_of Tryz.func148 (by kernel_rfl) rfl) (fun _=>rfl) (fun _=>rfl) ?_
 intro ⟨⟨b,s⟩,⟨c,t⟩⟩ hp
 have hp:s.size≤549755813888∧t.size≤549755813888:=hp
 conv=>whnf
 refine ⟨((b,s),(!c,t)),rfl,hp,?_⟩
 conv=>whnf
 show encI (IV.z (b,s)+valI (!c) (bnat t))=encI (IV.z (b,s) - IV.z (c,t))
 rw [valI_neg]
 rfl
theorem cmp_ok:Snd Tryz.prog 88 cmpS:=by
 refine snd_of Ejok Dok Tryz.func88 (enters_of Tryz.func88 (by kernel_rfl) rfl) (fun _=>rfl) (fun _=>rfl) ?_
 intro ⟨⟨b,s⟩,⟨c,t⟩⟩ hp
 have hp:s.size≤549755813888∧t.size≤549755813888:=hp
 have hAn:nl (bnat s)≤137438953472:=IV.nl (i:=(b,s)) hp.1
 have hDn:nl (bnat t)≤137438953472:=IV.nl (i:=(c,t)) hp.2
 conv=>whnf
 refine .inl ⟨5,[[],[0],[0,1],[],[3],[0,1,2,3,4],[0,1,2,3,4,5],[0,1,2,3,4,5,6]],by kernel_rfl,?_⟩
 conv=>whnf
 refine ⟨s,[],rfl,by show s.size≤1099511627776; omega,?_⟩
 conv=>whnf
 refine ⟨_,rfl,?_⟩
 conv=>whnf
 refine ⟨t,[],rfl,by show t.size≤1099511627776; omega,?_⟩
 conv=>whnf
 refine ⟨_,rfl,?_⟩
 conv=>whnf
 have fin:∀ (z:Int),z=cmpZ (IV.z (b,s)) (IV.z (c,t))→Value.int .i64 z=cmpS.val ((b,s),(c,t)):=fun z h=>by rw [h]; rfl
 cases b with
 | false =>
  conv=>whnf
  cases c with
  | false =>
   conv=>whnf
   refine ⟨(bnat s,capU,bnat t,capU),[4,7],rfl,⟨hAn,hDn⟩,?_⟩
   conv=>whnf
   refine ⟨BlkLe.flat_flat (fun h=>h) (fun r hr=>rfl),?_⟩
   conv=>whnf
   refine ⟨BlkLe.flat_flat (fun h=>h) (fun r hr=>rfl),?_⟩
   conv=>whnf
   refine ⟨_,rfl,?_⟩
   conv=>whnf
   exact fin _ (cmpZ_pos _ _).symm
  | true =>
   conv=>whnf
   rcases Nat.eq_zero_or_pos (bnat t) with h1 | h1
   ·rw [dnl_zero h1]
    conv=>whnf
    refine ⟨(bnat s,capU,bnat t,capU),[4,7],rfl,⟨hAn,hDn⟩,?_⟩
    conv=>whnf
    refine ⟨BlkLe.flat_flat (fun h=>h) (fun r hr=>rfl),?_⟩
    conv=>whnf
    refine ⟨BlkLe.flat_flat (fun h=>h) (fun r hr=>rfl),?_⟩
    conv=>whnf
    refine ⟨_,rfl,?_⟩
    conv=>whnf
    refine fin _ ?_
    show cmpN (bnat s) (bnat t)=cmpZ ((bnat s:Nat):Int) (-((bnat t:Nat):Int))
    rw [h1]
    exact (cmpZ_pos _ 0).symm
   ·rw [dnl_pos h1]
    conv=>whnf
    exact fin _ (cmpZ_gt (show -((bnat t:Nat):Int) < ((bnat s:Nat):Int) by omega)).symm
 | true =>
  conv=>whnf
  rcases Nat.eq_zero_or_pos (bnat s) with h2 | h2
  ·try rw [dnl_zero h2]
   cases c with
   | false =>
    conv=>whnf
    try rw [dnl_zero h2]
    conv=>whnf
    refine ⟨(bnat s,capU,bnat t,capU),[4,7],rfl,⟨hAn,hDn⟩,?_⟩
    conv=>whnf
    refine ⟨BlkLe.flat_flat (fun h=>h) (fun r hr=>rfl),?_⟩
    conv=>whnf
    refine ⟨BlkLe.flat_flat (fun h=>h) (fun r hr=>rfl),?_⟩
    conv=>whnf
    refine ⟨_,rfl,?_⟩
    conv=>whnf
    refine fin _ ?_
    show cmpN (bnat s) (bnat t)=cmpZ (-((bnat s:Nat):Int)) ((bnat t:Nat):Int)
    rw [h2]
    exact (cmpZ_pos 0 _).symm
   | true =>
    conv=>whnf
    try rw [dnl_zero h2]
    conv=>whnf
    rcases Nat.eq_zero_or_pos (bnat t) with h1 | h1
    ·rw [dnl_zero h1]
     conv=>whnf
     refine ⟨(bnat s,capU,bnat t,capU),[4,7],rfl,⟨hAn,hDn⟩,?_⟩
     conv=>whnf
     refine ⟨BlkLe.flat_flat (fun h=>h) (fun r hr=>rfl),?_⟩
     conv=>whnf
     refine ⟨BlkLe.flat_flat (fun h=>h) (fun r hr=>rfl),?_⟩
     conv=>whnf
     refine ⟨_,rfl,?_⟩
     conv=>whnf
     refine fin _ ?_
     show cmpN (bnat s) (bnat t)=cmpZ (-((bnat s:Nat):Int)) (-((bnat t:Nat):Int))
     rw [h1,h2]
     rfl
    ·rw [dnl_pos h1]
     conv=>whnf
     exact fin _ (cmpZ_gt (show -((bnat t:Nat):Int) < -((bnat s:Nat):Int) by omega)).symm
  ·try rw [dnl_pos h2]
   cases c with
   | false =>
    conv=>whnf
    try rw [dnl_pos h2]
    conv=>whnf
    exact fin _ (cmpZ_lt (show -((bnat s:Nat):Int) < ((bnat t:Nat):Int) by omega)).symm
   | true =>
    conv=>whnf
    try rw [dnl_pos h2]
    conv=>whnf
    rcases Nat.eq_zero_or_pos (bnat t) with h1 | h1
    ·rw [dnl_zero h1]
     conv=>whnf
     exact fin _ (cmpZ_lt (show -((bnat s:Nat):Int) < -((bnat t:Nat):Int) by omega)).symm
    ·rw [dnl_pos h1]
     conv=>whnf
     refine ⟨(bnat t,capU,bnat s,capU),[7,4],rfl,⟨hDn,hAn⟩,?_⟩
     conv=>whnf
     refine ⟨BlkLe.flat_flat (fun h=>h) (fun r hr=>rfl),?_⟩
     conv=>whnf
     refine ⟨BlkLe.flat_flat (fun h=>h) (fun r hr=>rfl),?_⟩
     conv=>whnf
     refine ⟨_,rfl,?_⟩
     conv=>whnf
     exact fin _ (cmpZ_neg _ _).symm
end Go.Proofs.YtppeponndkfbkaaGreat
/- Contracts of bigint: greatest divisor, division. -/
set_option maxRecDepth 20000
set_option maxHeartbeats 1000000
namespace Go.Proofs.YtppeponndkfbkaaGreat
open Go Go.Ae
def El:Env:=En [(116,.q packS),(124,.q loadS),(81,.p ofS),(132,.p addS),(148,.p subS)] [(147,wFT divideS)]
theorem Elok:EnvOk Tryz.prog El:=Enk ⟨pack_ok,load_ok,of_ok,add_ok,sub_ok,trivial⟩ ⟨divide_ok,trivial⟩
theorem gcd_ok:Snd Tryz.prog 118 gcdS:=by
 refine snd_of Elok Dok Tryz.func118 (enters_of Tryz.func118 (by kernel_rfl) rfl) (fun _=>rfl) (fun _=>rfl) ?_
 intro ⟨⟨b,s⟩,⟨c,t⟩⟩ hp
 have hp:s.size≤549755813888∧t.size≤549755813888:=hp
 have hAn:nl (bnat s)≤137438953472:=IV.nl (i:=(b,s)) hp.1
 have hDn:nl (bnat t)≤137438953472:=IV.nl (i:=(c,t)) hp.2
 conv=>whnf
 refine .inl ⟨5,[[],[0],[0,1],[],[3],[0,1,2,3,4],[0,1,2,3,4,5],[0,1,2,3,4,5,6]],by kernel_rfl,?_⟩
 conv=>whnf
 refine ⟨s,[],rfl,by show s.size≤1099511627776; omega,?_⟩
 conv=>whnf
 refine ⟨_,rfl,?_⟩
 conv=>whnf
 refine ⟨t,[],rfl,by show t.size≤1099511627776; omega,?_⟩
 conv=>whnf
 refine ⟨_,rfl,?_⟩
 conv=>whnf
 refine .inl ⟨fun mm tz hz=>∃ (A:Nat) (D:Nat) (ca:Nat) (cd:Nat),Pat (nos 4 (some (.pointer (some ⟨0,0,none⟩))::some (.slice (some ⟨1,0,none⟩) (nl A) ca)::some (.slice (some ⟨2,0,none⟩) (nl D) cd)::nos 21 [])) tz∧hz=[some (.expl true 2 [[.bool false,.string ⟨#[]⟩]]),some (newB A),some (newB D)]∧D=mm∧((nl A≤137438953472∧nl D≤137438953472)∧Nat.gcd A D=Nat.gcd (bnat s) (bnat t)),.inr ⟨[2,5,8],[4,5,6],?_⟩,?_⟩
 ·conv=>whnf
  intro _
  conv=>whnf
  refine ⟨_,bnat s,bnat t,capU,capU,(.sk 4 (.keep (.keep (.keep (.sk 21 .nil rfl)))) rfl),rfl,rfl,?_⟩
  exact ⟨⟨hAn,hDn⟩,rfl⟩
 rintro mm tms _ ⟨A,D,ca,cd,hpat,rfl,rfl,⟨hnl,hg⟩⟩
 obtain ⟨az,rfl⟩:∃ az:Nat→Value,tms=zs az 0 4 (.pointer (some ⟨0,0,none⟩)::.slice (some ⟨1,0,none⟩) (nl A) ca::.slice (some ⟨2,0,none⟩) (nl D) cd::zs az 7 21 []):=pat_fill hpat
 clear hpat
 conv=>whnf
 refine br_intro (fun h1=>?_) (fun h1=>?_)
 ·have h1:=nl_pos' (of_decide_eq_true h1)
  conv=>whnf
  refine ⟨(A,ca,D,cd),[1,2],rfl,⟨hnl,by show D≠0; omega⟩,by decide,?_⟩
  rcases Nat.lt_or_ge A D with h2 | h2
  ·have ev:divideS.val (A,ca,D,cd)=.tuple ⟨[.slice none 0 0,one A ca]⟩:=if_pos h2
   have en:divideS.new (A,ca,D,cd)=[]:=if_pos h2
   rw [ev,en]
   conv=>whnf
   refine ⟨BlkLe.flat_flat (fun h=>h) (fun r hr=>rfl),?_⟩
   conv=>whnf
   refine ⟨BlkLe.flat_flat (fun h=>h) (fun r hr=>rfl),?_⟩
   conv=>whnf
   refine ⟨_,rfl,?_⟩
   conv=>whnf
   refine .inr ⟨[0,2,1],[4,5,6],?_⟩
   conv=>whnf
   intro _
   conv=>whnf
   refine ⟨_,?_,D,A,cd,ca,(.sk 4 (.keep (.keep (.keep (.sk 21 .nil rfl)))) rfl),rfl,rfl,?_⟩
   ·omega
   ·exact ⟨⟨hnl.2,hnl.1⟩,by rw [Nat.gcd_comm]; exact hg⟩
  ·have ev:divideS.val (A,ca,D,cd)=.tuple ⟨[newN 2 (A / D),newN 3 (A % D)]⟩:=if_neg (Nat.not_lt.2 h2)
   have en:divideS.new (A,ca,D,cd)=[newB (A / D),newB (A % D)]:=if_neg (Nat.not_lt.2 h2)
   rw [ev,en]
   conv=>whnf
   refine ⟨BlkLe.flat_flat (fun h=>h) (fun r hr=>rfl),?_⟩
   conv=>whnf
   refine ⟨BlkLe.flat_flat (fun h=>h) (fun r hr=>rfl),?_⟩
   conv=>whnf
   refine ⟨_,rfl,?_⟩
   conv=>whnf
   have hm:=Nat.mod_lt A h1
   have hml:=nl_mono (Nat.le_of_lt hm)
   refine .inr ⟨[0,2,4],[4,5,6],?_⟩
   conv=>whnf
   intro _
   conv=>whnf
   refine ⟨_,?_,D,A % D,cd,capU,(.sk 4 (.keep (.keep (.keep (.sk 21 .nil rfl)))) rfl),rfl,rfl,?_⟩
   ·omega
   ·exact ⟨⟨hnl.2,by omega⟩,by rw [Nat.gcd_comm,← Nat.gcd_rec,Nat.gcd_comm]; exact hg⟩
 ·have h1:=nl_not_pos (of_decide_eq_false h1)
  subst h1
  rw [Nat.gcd_zero_right] at hg
  conv=>whnf
  refine ⟨(false,some (nl A,A,ca)),[1],rfl,⟨lt_nl _,by omega⟩,?_⟩
  conv=>whnf
  refine ⟨BlkLe.flat_flat (fun h=>h) (fun r hr=>rfl),?_⟩
  conv=>whnf
  refine ⟨_,rfl,?_⟩
  conv=>whnf
  show encS false A=encI ((Int.gcd (IV.z (b,s)) (IV.z (c,t)):Nat):Int)
  rw [encS_eq,hg]
  unfold Int.gcd IV.z
  rw [valI_abs,valI_abs]
  rfl
theorem div_ok:Snd Tryz.prog 119 divS:=by
 refine snd_of Elok Dok Tryz.func119 (enters_of Tryz.func119 (by kernel_rfl) rfl) (fun _=>rfl) (fun _=>rfl) ?_
 intro ⟨⟨b,s⟩,⟨c,t⟩⟩ hp
 have hp:s.size≤549755813888∧t.size≤549755813888:=hp
 have hAn:nl (bnat s)≤137438953472:=IV.nl (i:=(b,s)) hp.1
 have hDn:nl (bnat t)≤137438953472:=IV.nl (i:=(c,t)) hp.2
 conv=>whnf
 refine ⟨t,[],rfl,by show t.size≤1099511627776; omega,?_⟩
 conv=>whnf
 refine ⟨_,rfl,?_⟩
 conv=>whnf
 refine br_intro (fun h1=>?_) (fun h1=>?_)
 ·have h1:bnat t=0:=by
   have h1:((nl (bnat t):Nat):Int)=0:=by simpa using h1
   exact nl_eq_zero (by omega)
  have hz:IV.z (c,t)=0:=valI_zero.2 h1
  conv=>whnf
  have e:Int.fdiv (IV.z (b,s)) 0=0:=Int.fdiv_zero _
  simp only [divS,hz,e,if_true,encI_zero]
  rfl
 ·have h1:bnat t≠0:=by
   intro e
   rw [e,nl_zero] at h1
   cases h1
  conv=>whnf
  refine ⟨s,[],rfl,by show s.size≤1099511627776; omega,?_⟩
  conv=>whnf
  refine ⟨_,rfl,?_⟩
  conv=>whnf
  refine ⟨(bnat s,capU,bnat t,capU),[5,4],rfl,⟨⟨hAn,hDn⟩,h1⟩,by decide,?_⟩
  have hDp:0 < bnat t:=Nat.pos_of_ne_zero h1
  rcases Nat.lt_or_ge (bnat s) (bnat t) with h2 | h2
  ·rw [show divideS.val (bnat s,capU,bnat t,capU)=.tuple ⟨[.slice none 0 0,one (bnat s) capU]⟩ from if_pos h2,show divideS.new (bnat s,capU,bnat t,capU)=[] from if_pos h2]
   have hQ:0=bnat s / bnat t:=(Nat.div_eq_of_lt h2).symm
   have hR:bnat s=bnat s % bnat t:=(Nat.mod_eq_of_lt h2).symm
   conv=>whnf
   refine ⟨BlkLe.flat_flat (fun h=>h) (fun r hr=>rfl),?_⟩
   conv=>whnf
   refine ⟨BlkLe.flat_flat (fun h=>h) (fun r hr=>rfl),?_⟩
   conv=>whnf
   refine ⟨_,rfl,?_⟩
   conv=>whnf
   refine .inl ⟨13,[[],[0],[],[2],[0,1,2,3],[],[0,1,2,3,4,5],[],[7],[],[0,1,2,3,4,5,6,7,8,9],[],[],[0,1,2,3,4,5,6,7,8,9,10,11,12],[0,1,2,3,4,5,6,7,8,9,10,11,12,13]],by kernel_rfl,?_⟩
   conv=>whnf
   refine ⟨(b != c,none),[],rfl,trivial,?_⟩
   conv=>whnf
   skip
   conv=>whnf
   obtain ⟨qs,hqs⟩:∃ qs,qs=nb (0):=⟨_,rfl⟩
   obtain ⟨qb,hqb⟩:∃ qb:Bool,qb=((b != c) && (0) != 0):=⟨_,rfl⟩
   obtain ⟨rs,hrs⟩:∃ rs,rs=nb (bnat s):=⟨_,rfl⟩
   obtain ⟨rb,hrb⟩:∃ rb:Bool,rb=(b && (bnat s) != 0):=⟨_,rfl⟩
   refine ⟨.agg ⟨[.bool qb,.string qs]⟩,by rw [hqs,hqb]; rfl,?_⟩
   conv=>whnf
   refine ⟨(b,some (nl (bnat s),bnat s,capU)),[5],rfl,⟨lt_nl _,by omega⟩,?_⟩
   conv=>whnf
   refine ⟨BlkLe.flat_flat (fun h=>h) (fun r hr=>rfl),?_⟩
   conv=>whnf
   refine ⟨.agg ⟨[.bool rb,.string rs]⟩,by rw [hrs,hrb]; rfl,?_⟩
   conv=>whnf
   have eQ:Value.agg ⟨[.bool qb,.string qs]⟩=encI (valI (b != c) (bnat s / bnat t)):=by rw [hqs,hqb,← hQ]; exact encS_eq _ _
   have eR:Value.agg ⟨[.bool rb,.string rs]⟩=encI (valI b (bnat s % bnat t)):=by rw [hrs,hrb,← hR]; exact encS_eq _ _
   have fin:∀ (q r:Value),q=encI (Int.fdiv (IV.z (b,s)) (IV.z (c,t)))→r=encI (Int.fmod (IV.z (b,s)) (IV.z (c,t)))→Value.tuple ⟨[q,r,.int .i64 0]⟩=divS.val ((b,s),(c,t)):=fun q r hq hr=>by
    have hz:IV.z (c,t)≠0:=fun e=>h1 (valI_zero.1 e)
    simp only [divS,if_neg hz]
    rw [hq,hr]
   rcases Nat.eq_zero_or_pos (bnat s) with h3 | h3
   ·rw [show (!rs.toList == (⟨#[]⟩:ByteArray).toList)=false by rw [hrs]; exact mag_zero h3]
    conv=>whnf
    refine .inr (.inl ⟨(.br 0 (.br 1 (.br 2 (.br 3 (.br 4 .leaf .leaf) .leaf) .leaf) (.br 2 (.br 1 (.br 3 (.br 4 .leaf .leaf) .leaf) .leaf) .leaf)) (.br 1 (.br 0 (.br 2 (.br 3 (.br 4 .leaf .leaf) .leaf) .leaf) .leaf) .leaf)),by kernel_rfl,?_⟩)
    have f1:=div_floor (b:=b) (c:=c) hDp (.inl (show bnat s % bnat t=0 by rw [← hR]; exact h3))
    repeat' ((conv=>whnf); first | exact True.intro | refine And.intro ?_ ?_)
    all_goals conv=>whnf
    all_goals exact fin _ _ (eQ.trans (congrArg encI f1.1.symm)) (eR.trans (congrArg encI f1.2.symm))
   ·rw [show (!rs.toList == (⟨#[]⟩:ByteArray).toList)=true by rw [hrs]; exact mag_pos (Nat.ne_of_gt h3)]
    conv=>whnf
    refine br_intro (fun h4=>?_) (fun h4=>?_)
    ·conv=>whnf
     refine .inl ⟨5,[[],[],[0,1],[],[],[0,1,2,3,4],[0,1,2,3,4,5],[0,1,2,3,4,5,6]],by kernel_rfl,?_⟩
     conv=>whnf
     have h4:b≠c:=by
      intro e
      subst e
      cases b <;> cases h4
     have f1:=div_floor' (b:=b) (c:=c) hDp (show bnat s % bnat t≠0 by rw [← hR]; exact Nat.ne_of_gt h3) h4
     have hqz:IV.z (qb,qs)=valI (b != c) (bnat s / bnat t):=by rw [hqs,hqb,← hQ]; exact encS_z _ _
     have hrz:IV.z (rb,rs)=valI b (bnat s % bnat t):=by rw [hrs,hrb,← hR]; exact encS_z _ _
     have sq:qs.size≤s.size:=by rw [hqs,hQ]; exact nb_size_le (Nat.div_le_self _ _)
     have sr:rs.size≤s.size:=by rw [hrs,hR]; exact nb_size_le (Nat.mod_le _ _)
     have s1:=nb_one
     refine ⟨(1:Int),rfl,⟨by decide,by decide⟩,?_⟩
     obtain ⟨v1,hv1⟩:∃ v1,v1=nb 1:=⟨_,rfl⟩
     rw [show ofS.val (1:Int)=.agg ⟨[.bool false,.string v1]⟩ by rw [hv1]; rfl]
     rw [← hv1] at s1
     conv=>whnf
     refine ⟨((qb,qs),(false,v1)),rfl,⟨by show qs.size≤_; omega,by show v1.size≤_; omega⟩,?_⟩
     obtain ⟨q2,hq2⟩:∃ q2,q2=nb (IV.z (qb,qs) - IV.z (false,v1)).natAbs:=⟨_,rfl⟩
     obtain ⟨b2,hb2⟩:∃ b2:Bool,b2=decide (IV.z (qb,qs) - IV.z (false,v1) < 0):=⟨_,rfl⟩
     rw [show subS.val ((qb,qs),(false,v1))=.agg ⟨[.bool b2,.string q2]⟩ by rw [hq2,hb2]; rfl]
     conv=>whnf
     refine ⟨((rb,rs),(c,t)),rfl,⟨by show rs.size≤_; omega,hp.2⟩,?_⟩
     obtain ⟨q3,hq3⟩:∃ q3,q3=nb (IV.z (rb,rs)+IV.z (c,t)).natAbs:=⟨_,rfl⟩
     obtain ⟨b3,hb3⟩:∃ b3:Bool,b3=decide (IV.z (rb,rs)+IV.z (c,t) < 0):=⟨_,rfl⟩
     rw [show addS.val ((rb,rs),(c,t))=.agg ⟨[.bool b3,.string q3]⟩ by rw [hq3,hb3]; rfl]
     have e2:Value.agg ⟨[.bool b2,.string q2]⟩=encI (valI (b != c) (bnat s / bnat t) - 1):=by
      have:IV.z (false,v1)=1:=by rw [hv1]; show valI false (bnat (nb 1))=1; rw [bnat_nb]; rfl
      rw [hq2,hb2,hqz,this]; rfl
     have e3:Value.agg ⟨[.bool b3,.string q3]⟩=encI (valI b (bnat s % bnat t)+valI c (bnat t)):=by
      rw [hq3,hb3,hrz]; rfl
     conv=>whnf
     refine .inr (.inl ⟨(.br 0 (.br 1 (.br 2 (.br 3 (.br 4 .leaf .leaf) .leaf) .leaf) (.br 2 (.br 1 (.br 3 (.br 4 .leaf .leaf) .leaf) .leaf) .leaf)) (.br 1 (.br 0 (.br 2 (.br 3 (.br 4 .leaf .leaf) .leaf) .leaf) .leaf) .leaf)),by kernel_rfl,?_⟩)
     repeat' ((conv=>whnf); first | exact True.intro | refine And.intro ?_ ?_)
     all_goals conv=>whnf
     all_goals exact fin _ _ (e2.trans (congrArg encI f1.1.symm)) (e3.trans (congrArg encI f1.2.symm))
    ·conv=>whnf
     refine .inr (.inl ⟨(.br 0 (.br 1 (.br 2 (.br 3 (.br 4 .leaf .leaf) .leaf) .leaf) (.br 2 (.br 1 (.br 3 (.br 4 .leaf .leaf) .leaf) .leaf) .leaf)) (.br 1 (.br 0 (.br 2 (.br 3 (.br 4 .leaf .leaf) .leaf) .leaf) .leaf) .leaf)),by kernel_rfl,?_⟩)
     have h4:b=c:=by
      cases b <;> cases c <;> first | rfl | cases h4
     have f1:=div_floor (b:=b) (c:=c) (A:=bnat s) hDp (.inr h4)
     repeat' ((conv=>whnf); first | exact True.intro | refine And.intro ?_ ?_)
     all_goals conv=>whnf
     all_goals exact fin _ _ (eQ.trans (congrArg encI f1.1.symm)) (eR.trans (congrArg encI f1.2.symm))
  ·rw [show divideS.val (bnat s,capU,bnat t,capU)=.tuple ⟨[newN 2 (bnat s / bnat t),newN 3 (bnat s % bnat t)]⟩ from if_neg (Nat.not_lt.2 h2),show divideS.new (bnat s,capU,bnat t,capU)=[newB (bnat s / bnat t),newB (bnat s % bnat t)] from if_neg (Nat.not_lt.2 h2)]
   have hQ:bnat s / bnat t=bnat s / bnat t:=rfl
   have hR:bnat s % bnat t=bnat s % bnat t:=rfl
   conv=>whnf
   refine ⟨BlkLe.flat_flat (fun h=>h) (fun r hr=>rfl),?_⟩
   conv=>whnf
   refine ⟨BlkLe.flat_flat (fun h=>h) (fun r hr=>rfl),?_⟩
   conv=>whnf
   refine ⟨_,rfl,?_⟩
   conv=>whnf
   refine .inl ⟨13,[[],[0],[],[2],[0,1,2,3],[],[0,1,2,3,4,5],[],[7],[],[0,1,2,3,4,5,6,7,8,9],[],[],[0,1,2,3,4,5,6,7,8,9,10,11,12],[0,1,2,3,4,5,6,7,8,9,10,11,12,13]],by kernel_rfl,?_⟩
   conv=>whnf
   refine ⟨(b != c,some (nl (bnat s / bnat t),bnat s / bnat t,capU)),[6],rfl,⟨lt_nl _,by have:=nl_mono (Nat.div_le_self (bnat s) (bnat t)); omega⟩,?_⟩
   conv=>whnf
   refine ⟨BlkLe.flat_flat (fun h=>h) (fun r hr=>rfl),?_⟩
   conv=>whnf
   obtain ⟨qs,hqs⟩:∃ qs,qs=nb (bnat s / bnat t):=⟨_,rfl⟩
   obtain ⟨qb,hqb⟩:∃ qb:Bool,qb=((b != c) && (bnat s / bnat t) != 0):=⟨_,rfl⟩
   obtain ⟨rs,hrs⟩:∃ rs,rs=nb (bnat s % bnat t):=⟨_,rfl⟩
   obtain ⟨rb,hrb⟩:∃ rb:Bool,rb=(b && (bnat s % bnat t) != 0):=⟨_,rfl⟩
   refine ⟨.agg ⟨[.bool qb,.string qs]⟩,by rw [hqs,hqb]; rfl,?_⟩
   conv=>whnf
   refine ⟨(b,some (nl (bnat s % bnat t),bnat s % bnat t,capU)),[7],rfl,⟨lt_nl _,by have:=nl_mono (Nat.mod_le (bnat s) (bnat t)); omega⟩,?_⟩
   conv=>whnf
   refine ⟨BlkLe.flat_flat (fun h=>h) (fun r hr=>rfl),?_⟩
   conv=>whnf
   refine ⟨.agg ⟨[.bool rb,.string rs]⟩,by rw [hrs,hrb]; rfl,?_⟩
   conv=>whnf
   have eQ:Value.agg ⟨[.bool qb,.string qs]⟩=encI (valI (b != c) (bnat s / bnat t)):=by rw [hqs,hqb,← hQ]; exact encS_eq _ _
   have eR:Value.agg ⟨[.bool rb,.string rs]⟩=encI (valI b (bnat s % bnat t)):=by rw [hrs,hrb,← hR]; exact encS_eq _ _
   have fin:∀ (q r:Value),q=encI (Int.fdiv (IV.z (b,s)) (IV.z (c,t)))→r=encI (Int.fmod (IV.z (b,s)) (IV.z (c,t)))→Value.tuple ⟨[q,r,.int .i64 0]⟩=divS.val ((b,s),(c,t)):=fun q r hq hr=>by
    have hz:IV.z (c,t)≠0:=fun e=>h1 (valI_zero.1 e)
    simp only [divS,if_neg hz]
    rw [hq,hr]
   rcases Nat.eq_zero_or_pos (bnat s % bnat t) with h3 | h3
   ·rw [show (!rs.toList == (⟨#[]⟩:ByteArray).toList)=false by rw [hrs]; exact mag_zero h3]
    conv=>whnf
    refine .inr (.inl ⟨(.br 0 (.br 1 (.br 2 (.br 3 (.br 4 .leaf .leaf) .leaf) .leaf) (.br 2 (.br 1 (.br 3 (.br 4 .leaf .leaf) .leaf) .leaf) .leaf)) (.br 1 (.br 0 (.br 2 (.br 3 (.br 4 .leaf .leaf) .leaf) .leaf) .leaf) .leaf)),by kernel_rfl,?_⟩)
    have f1:=div_floor (b:=b) (c:=c) hDp (.inl (show bnat s % bnat t=0 by rw [← hR]; exact h3))
    repeat' ((conv=>whnf); first | exact True.intro | refine And.intro ?_ ?_)
    all_goals conv=>whnf
    all_goals exact fin _ _ (eQ.trans (congrArg encI f1.1.symm)) (eR.trans (congrArg encI f1.2.symm))
   ·rw [show (!rs.toList == (⟨#[]⟩:ByteArray).toList)=true by rw [hrs]; exact mag_pos (Nat.ne_of_gt h3)]
    conv=>whnf
    refine br_intro (fun h4=>?_) (fun h4=>?_)
    ·conv=>whnf
     refine .inl ⟨5,[[],[],[0,1],[],[],[0,1,2,3,4],[0,1,2,3,4,5],[0,1,2,3,4,5,6]],by kernel_rfl,?_⟩
     conv=>whnf
     have h4:b≠c:=by
      intro e
      subst e
      cases b <;> cases h4
     have f1:=div_floor' (b:=b) (c:=c) hDp (show bnat s % bnat t≠0 by rw [← hR]; exact Nat.ne_of_gt h3) h4
     have hqz:IV.z (qb,qs)=valI (b != c) (bnat s / bnat t):=by rw [hqs,hqb,← hQ]; exact encS_z _ _
     have hrz:IV.z (rb,rs)=valI b (bnat s % bnat t):=by rw [hrs,hrb,← hR]; exact encS_z _ _
     have sq:qs.size≤s.size:=by rw [hqs,hQ]; exact nb_size_le (Nat.div_le_self _ _)
     have sr:rs.size≤s.size:=by rw [hrs,hR]; exact nb_size_le (Nat.mod_le _ _)
     have s1:=nb_one
     refine ⟨(1:Int),rfl,⟨by decide,by decide⟩,?_⟩
     obtain ⟨v1,hv1⟩:∃ v1,v1=nb 1:=⟨_,rfl⟩
     rw [show ofS.val (1:Int)=.agg ⟨[.bool false,.string v1]⟩ by rw [hv1]; rfl]
     rw [← hv1] at s1
     conv=>whnf
     refine ⟨((qb,qs),(false,v1)),rfl,⟨by show qs.size≤_; omega,by show v1.size≤_; omega⟩,?_⟩
     obtain ⟨q2,hq2⟩:∃ q2,q2=nb (IV.z (qb,qs) - IV.z (false,v1)).natAbs:=⟨_,rfl⟩
     obtain ⟨b2,hb2⟩:∃ b2:Bool,b2=decide (IV.z (qb,qs) - IV.z (false,v1) < 0):=⟨_,rfl⟩
     rw [show subS.val ((qb,qs),(false,v1))=.agg ⟨[.bool b2,.string q2]⟩ by rw [hq2,hb2]; rfl]
     conv=>whnf
     refine ⟨((rb,rs),(c,t)),rfl,⟨by show rs.size≤_; omega,hp.2⟩,?_⟩
     obtain ⟨q3,hq3⟩:∃ q3,q3=nb (IV.z (rb,rs)+IV.z (c,t)).natAbs:=⟨_,rfl⟩
     obtain ⟨b3,hb3⟩:∃ b3:Bool,b3=decide (IV.z (rb,rs)+IV.z (c,t) < 0):=⟨_,rfl⟩
     rw [show addS.val ((rb,rs),(c,t))=.agg ⟨[.bool b3,.string q3]⟩ by rw [hq3,hb3]; rfl]
     have e2:Value.agg ⟨[.bool b2,.string q2]⟩=encI (valI (b != c) (bnat s / bnat t) - 1):=by
      have:IV.z (false,v1)=1:=by rw [hv1]; show valI false (bnat (nb 1))=1; rw [bnat_nb]; rfl
      rw [hq2,hb2,hqz,this]; rfl
     have e3:Value.agg ⟨[.bool b3,.string q3]⟩=encI (valI b (bnat s % bnat t)+valI c (bnat t)):=by
      rw [hq3,hb3,hrz]; rfl
     conv=>whnf
     refine .inr (.inl ⟨(.br 0 (.br 1 (.br 2 (.br 3 (.br 4 .leaf .leaf) .leaf) .leaf) (.br 2 (.br 1 (.br 3 (.br 4 .leaf .leaf) .leaf) .leaf) .leaf)) (.br 1 (.br 0 (.br 2 (.br 3 (.br 4 .leaf .leaf) .leaf) .leaf) .leaf) .leaf)),by kernel_rfl,?_⟩)
     repeat' ((conv=>whnf); first | exact True.intro | refine And.intro ?_ ?_)
     all_goals conv=>whnf
     all_goals exact fin _ _ (e2.trans (congrArg encI f1.1.symm)) (e3.trans (congrArg encI f1.2.symm))
    ·conv=>whnf
     refine .inr (.inl ⟨(.br 0 (.br 1 (.br 2 (.br 3 (.br 4 .leaf .leaf) .leaf) .leaf) (.br 2 (.br 1 (.br 3 (.br 4 .leaf .leaf) .leaf) .leaf) .leaf)) (.br 1 (.br 0 (.br 2 (.br 3 (.br 4 .leaf .leaf) .leaf) .leaf) .leaf) .leaf)),by kernel_rfl,?_⟩)
     have h4:b=c:=by
      cases b <;> cases c <;> first | rfl | cases h4
     have f1:=div_floor (b:=b) (c:=c) (A:=bnat s) hDp (.inr h4)
     repeat' ((conv=>whnf); first | exact True.intro | refine And.intro ?_ ?_)
     all_goals conv=>whnf
     all_goals exact fin _ _ (eQ.trans (congrArg encI f1.1.symm)) (eR.trans (congrArg encI f1.2.symm))
end Go.Proofs.YtppeponndkfbkaaGreat
/- Contracts of the reference integers: canonical digits, small numbers, comparison. -/
set_option maxRecDepth 20000
set_option maxHeartbeats 1000000
namespace Go.Proofs.YtppeponndkfbkaaGreat
open Go Go.Ae
theorem rtrim_ok:Snd Tryz.prog 160 stripS:=by
 refine snd_of E0ok Dok Tryz.func160 (enters_of Tryz.func160 (by kernel_rfl) rfl) (fun _=>rfl) (fun _=>rfl) ?_
 intro (s:ByteArray) (hs:s.size≤1099511627776)
 simp only [stripS]
 conv=>whnf
 refine .inl ⟨fun mm tz hz=>∃ (u:ByteArray),Pat (some (.string u)::nos 13 []) tz∧hz=[]∧u.size=mm∧(bnat u=bnat s∧u.size≤s.size),.inl ⟨_,s,(.keep (.sk 13 .nil rfl)),rfl,rfl,?_⟩,?_⟩
 ·exact ⟨rfl,Nat.le_refl _⟩
 rintro mm tms _ ⟨u,hpat,rfl,rfl,⟨hu,hle⟩⟩
 obtain ⟨az,rfl⟩:∃ az:Nat→Value,tms=.string u::zs az 1 13 []:=pat_fill hpat
 clear hpat
 conv=>whnf
 rcases Nat.eq_zero_or_pos u.size with h1 | h1
 ·rw [show decide (((u.size:Nat):Int) > 0)=false from decide_eq_false (by omega)]
  conv=>whnf
  rw [← hu,← eq_nb' (.inl h1)]
 ·rw [show decide (((u.size:Nat):Int) > 0)=true from decide_eq_true (by omega)]
  conv=>whnf
  refine ⟨⟨by omega,by omega⟩,?_⟩
  conv=>whnf
  refine br_intro (fun h2=>?_) (fun h2=>?_)
  ·have h2:byteAt u 0=0:=by
    have h2:((byteAt u 0:Nat):Int)=0:=by simpa using h2
    omega
   obtain ⟨d1,d2⟩:=drop_zero (by omega) h2
   conv=>whnf
   refine ⟨⟨by decide,by show (1:Int)≤((u.size:Nat):Int); omega,Int.le_refl _⟩,?_⟩
   conv=>whnf
   refine .inl ⟨_,?_,u.extract 1 u.size,(.keep (.sk 13 .nil rfl)),rfl,rfl,?_⟩
   ·rw [d2]; omega
   ·exact ⟨by rw [d1,hu],by rw [d2]; omega⟩
  ·have h2:byteAt u 0≠0:=by
    intro h
    have e:byteAt u (Int.toNat 0)=byteAt u 0:=rfl
    rw [e,h] at h2
    simp at h2
   conv=>whnf
   rw [← hu,← eq_nb' (.inr h2)]
def Era:Env:=En [(160,.p stripS)]
theorem Eraok:EnvOk Tryz.prog Era:=Enk ⟨rtrim_ok,trivial⟩ trivial
theorem rcanon_ok:Snd Tryz.prog 149 canonS:=by
 refine snd_of Eraok Dok Tryz.func149 (enters_of Tryz.func149 (by kernel_rfl) rfl) (fun _=>rfl) (fun _=>rfl) ?_
 intro ⟨b,s⟩ hp
 have hp:s.size≤549755813888:=hp
 obtain ⟨m,hm⟩:∃ m,m=nb (bnat s):=⟨_,rfl⟩
 have ecan:stripS.val s=.string m:=by rw [hm]; rfl
 have fin:Value.agg ⟨[.bool (b && bnat s != 0),.string m]⟩=encI (IV.z (b,s)):=by rw [hm]; exact encS_eq b (bnat s)
 conv=>whnf
 rcases Nat.eq_zero_or_pos s.size with h1 | h1
 ·rw [show decide ((((b,s).snd.size:Nat):Int) > 0)=false from decide_eq_false (by show ¬ (((s.size:Nat):Int) > 0); omega)]
  conv=>whnf
  refine ⟨s,rfl,by show s.size≤1099511627776; omega,?_⟩
  rw [ecan]
  cases b with
  | false =>
   conv=>whnf
   exact fin
  | true =>
   conv=>whnf
   refine Eq.trans ?_ fin
   rw [hm]
   show Value.agg ⟨[.bool (!(nb (bnat s)).toList == (⟨#[]⟩:ByteArray).toList),.string (nb (bnat s))]⟩=_
   rw [mag_bool,Bool.true_and]
 ·rw [show decide ((((b,s).snd.size:Nat):Int) > 0)=true from decide_eq_true (by show (((s.size:Nat):Int) > 0); omega)]
  conv=>whnf
  refine ⟨⟨by decide,by show (0:Int) < ((s.size:Nat):Int); omega⟩,?_⟩
  conv=>whnf
  refine br_intro (fun h2=>?_) (fun h2=>?_)
  ·have h2:byteAt s 0≠0:=by
    intro h
    have e:byteAt (b,s).snd (Int.toNat 0)=byteAt s 0:=rfl
    rw [e,h] at h2
    simp at h2
   conv=>whnf
   exact enc_canon h1 h2
  ·conv=>whnf
   refine ⟨s,rfl,by show s.size≤1099511627776; omega,?_⟩
   rw [ecan]
   cases b with
   | false =>
    conv=>whnf
    exact fin
   | true =>
    conv=>whnf
    refine Eq.trans ?_ fin
    rw [hm]
    show Value.agg ⟨[.bool (!(nb (bnat s)).toList == (⟨#[]⟩:ByteArray).toList),.string (nb (bnat s))]⟩=_
    rw [mag_bool,Bool.true_and]
theorem rsmall_ok:Snd Tryz.prog 162 smallS:=by
 refine snd_of Eraok Dok Tryz.func162 (enters_of Tryz.func162 (by kernel_rfl) rfl) (fun _=>rfl) (fun _=>rfl) ?_
 intro (s:ByteArray) (hp:s.size≤7)
 conv=>whnf
 refine .inl ⟨fun mm tz hz=>∃ (i:Nat) (N:Nat),Pat (some (.string s)::nos 2 (some (.int .i64 N)::some (.int .i64 i)::nos 14 [])) tz∧hz=[]∧s.size - i=mm∧(i≤s.size∧N=bnat s / C ^ (s.size - i)),.inl ⟨_,0,0,(.keep (.sk 2 (.keep (.keep (.sk 14 .nil rfl))) rfl)),rfl,rfl,?_⟩,?_⟩
 ·exact ⟨Nat.zero_le _,by rw [Nat.sub_zero,Nat.div_eq_of_lt (bnat_lt s)]⟩
 rintro mm tms _ ⟨i,N,hpat,rfl,rfl,⟨hi,hN⟩⟩
 obtain ⟨az,rfl⟩:∃ az:Nat→Value,tms=.string s::zs az 1 2 (.int .i64 N::.int .i64 i::zs az 5 14 []):=pat_fill hpat
 clear hpat
 have hlC:=pre_lt s hi
 rw [← hN] at hlC
 have hlt:=Nat.lt_of_lt_of_le hlC (pow7 (show i≤7 by omega))
 conv=>whnf
 refine br_intro (fun h2=>?_) (fun h2=>?_)
 ·have h2:i < s.size:=by simpa using h2
  have hst:=pre_step h2
  rw [← hN] at hst
  have hb:byteAt s i < 256:=byteAt_lt s i
  have e3:IntKind.i64.wrap (((i:Nat):Int)+1)=((i+1:Nat):Int):=by rw [wrapi64 (by omega) (by omega)]; rfl
  have hl6:=Nat.lt_of_lt_of_le hlC (pow6 (show i≤6 by omega))
  conv=>whnf
  refine ⟨⟨by omega,by omega⟩,?_⟩
  simp only [toNat_cast]
  conv=>whnf
  rw [byte_raw (by omega) hb,e3]
  refine .inl ⟨_,?_,i+1,N*256+byteAt s i,(.keep (.sk 2 (.keep (.keep (.sk 14 .nil rfl))) rfl)),rfl,rfl,?_⟩
  ·omega
  ·exact ⟨by omega,hst.symm⟩
 ·have h2:i=s.size:=by
   have h2:¬ i < s.size:=by simpa using h2
   omega
  subst h2
  rw [Nat.sub_self,Nat.pow_zero,Nat.div_one] at hN
  subst hN
  conv=>whnf
  rfl
def Erb:Env:=En [(162,.p smallS)]
theorem Erbok:EnvOk Tryz.prog Erb:=Enk ⟨rsmall_ok,trivial⟩ trivial
theorem rvalue_ok:Snd Tryz.prog 151 valueS:=by
 refine snd_of Erbok Dok Tryz.func151 (enters_of Tryz.func151 (by kernel_rfl) rfl) (fun _=>rfl) (fun _=>rfl) ?_
 intro ⟨b,s⟩ hp
 have hp:s.size≤7:=hp
 have hlt:=Nat.lt_of_lt_of_le (bnat_lt s) (pow7 hp)
 cases b with
 | true =>
  conv=>whnf
  refine ⟨s,rfl,hp,?_⟩
  conv=>whnf
  rw [wrapi64 (by omega) (by omega)]
  show Value.int .i64 (0 - (bnat s:Int))=.int .i64 (-(bnat s:Int))
  rw [Int.zero_sub]
 | false =>
  conv=>whnf
  refine ⟨s,rfl,hp,?_⟩
  conv=>whnf
  rfl
theorem rmag_ok:Snd Tryz.prog 136 magS:=by
 refine snd_of E0ok Dok Tryz.func136 (enters_of Tryz.func136 (by kernel_rfl) rfl) (fun _=>rfl) (fun _=>rfl) ?_
 intro (n:Nat) (hp:n < 9223372036854775808)
 conv=>whnf
 refine br_intro (fun h1=>?_) (fun h1=>?_)
 ·have h1:n < 256:=by
   have:=of_decide_eq_true h1
   omega
  conv=>whnf
  refine br_intro (fun h2=>?_) (fun h2=>?_)
  ·have h2:n=0:=by
    have h2:((n:Nat):Int)=0:=by simpa using h2
    omega
   subst h2
   conv=>whnf
   show Value.string ⟨#[]⟩=.string (nb 0)
   rw [nb_zero]
  ·have h2:n≠0:=by
    intro e
    subst e
    simp at h2
   conv=>whnf
   rw [u8_mod]
   refine ⟨⟨Nat.le_refl _,fun r hr=>by
    have h0:r=0:=by
     have hr:r < 1:=hr
     omega
    subst h0
    exact ⟨_,rfl⟩⟩,?_⟩
   have e:=bytesOf_from (g:=fun r=>[[Value.int .u8 ((n % C:Nat):Int)]].getD r []) (i:=0) (m:=1) (X:=n) (fun r hr=>by
    have:r=0:=by omega
    subst this
    show [Value.int .u8 ((n % C:Nat):Int)]=[Value.int .u8 ((n / C ^ 0 % C:Nat):Int)]
    rw [Nat.pow_zero,Nat.div_one])
   conv=>whnf
   show _=Value.string (nb n)
   rw [nb_be (N:=n) (n:=1) h1 (.inr (by show 1≤n; omega)),← e]
   rfl
 ·have h1:256≤n:=by
   have:=of_decide_eq_false h1
   omega
  conv=>whnf
  refine .inl ⟨fun mm tz hz=>∃ (i:Nat) (m:Nat) (g:Nat→List Value),Pat (some (.int .i64 m)::nos 2 (some (.pointer (some ⟨0,0,none⟩))::some (.int .i64 i)::nos 21 [])) tz∧hz=[some (.flat true 8 1 g)]∧m=mm∧((i≤8∧m=n / C ^ (8 - i))∧(i=8∨C ^ (8 - i - 1)≤n)∧(∀ r,i≤r→r < 8→g r=[.int .u8 ((n / C ^ (7 - r) % C:Nat):Int)])∧(∀ r,r < 8→∃ x:Int,g r=[.int .u8 x])),.inl ⟨_,8,n,_,(.keep (.sk 2 (.keep (.keep (.sk 21 .nil rfl))) rfl)),rfl,rfl,?_⟩,?_⟩
  ·exact ⟨⟨Nat.le_refl _,by simp⟩,.inl rfl,fun r h1 h2=>absurd h1 (by omega),fun r hr=>⟨0,rfl⟩⟩
  rintro mm tms _ ⟨i,m,g,hpat,rfl,rfl,⟨⟨hi,hm⟩,ho,hg,hall⟩⟩
  obtain ⟨az,rfl⟩:∃ az:Nat→Value,tms=.int .i64 m::zs az 1 2 (.pointer (some ⟨0,0,none⟩)::.int .i64 i::zs az 5 21 []):=pat_fill hpat
  clear hpat
  conv=>whnf
  refine br_intro (fun h2=>?_) (fun h2=>?_)
  ·have h2:0 < m:=by
    have:=of_decide_eq_true h2
    omega
   have hi0:0 < i:=by
    rcases Nat.eq_zero_or_pos i with h | h
    ·subst h
     rw [hm] at h2
     rw [mag8 hp] at h2
     exact absurd h2 (by decide)
    ·exact h
   obtain ⟨i,rfl⟩:∃ i',i=i'+1:=⟨i - 1,by omega⟩
   have ei:IntKind.i64.wrap (((i+1:Nat):Int) - 1)=((i:Nat):Int):=by rw [wrapi64 (by omega) (by omega)]; omega
   have hm2:m / 256=n / C ^ (8 - i):=by
    rw [hm,div_pow_succ,show 8 - (i+1)+1=8 - i by omega]
   have hlow:C ^ (8 - (i+1))≤n:=by
    rcases Nat.lt_or_ge n (C ^ (8 - (i+1))) with h | h
    ·rw [hm,Nat.div_eq_of_lt h] at h2
     exact absurd h2 (by decide)
    ·exact h
   conv=>whnf
   simp only [ei]
   refine ⟨⟨by omega,by omega⟩,?_⟩
   simp only [toNat_cast,rowAdd_eq,Nat.zero_add]
   conv=>whnf
   refine ⟨by show i < 8; omega,?_⟩
   conv=>whnf
   obtain ⟨x,hx⟩:=hall i (by omega)
   rw [hx]
   conv=>whnf
   rw [u8_mod,shr_i64_8,show ((m:Nat):Int) / 256=((m / 256:Nat):Int) from rfl]
   refine .inl ⟨_,?_,i,m / 256,_,(.keep (.sk 2 (.keep (.keep (.sk 21 .nil rfl))) rfl)),rfl,rfl,?_⟩
   ·omega
   ·refine ⟨⟨by omega,hm2⟩,.inr (by rw [show 8 - i - 1=8 - (i+1) by omega]; exact hlow),fun r hr1 hr2=>?_,fun r hr=>?_⟩
    rotate_left
    ·by_cases he:r=i
     ·exact ⟨_,if_pos he⟩
     ·rw [if_neg he]; exact hall r hr
    by_cases he:r=i
    ·subst he
     rw [if_pos rfl,hm,show 7 - r=8 - (r+1) by omega]
    ·rw [if_neg he]
     exact hg r (by omega) hr2
  ·have h2:m=0:=by
    have:=of_decide_eq_false h2
    omega
   have hlt:n < C ^ (8 - i):=by
    rw [h2] at hm
    have h3:=Nat.mod_lt n (Cpos (8 - i))
    have h4:=Nat.mod_add_div n (C ^ (8 - i))
    rw [← hm,Nat.mul_zero,Nat.add_zero] at h4
    rw [← h4]; exact h3
   obtain ⟨k,hk⟩:∃ k,8 - i=k+1:=⟨8 - i - 1,by
    rcases Nat.eq_zero_or_pos (8 - i) with h | h
    ·rw [h,Nat.pow_zero] at hlt; omega
    ·omega⟩
   rw [hk] at hlt
   have ho:C ^ k≤n:=by
    rcases ho with h | h
    ·omega
    ·rw [show 8 - i - 1=k by omega] at h; exact h
   have e:=bytesOf_from (g:=g) (i:=i) (m:=k+1) (X:=n) (fun r hr=>by
    rw [hg (i+r) (by omega) (by omega),show 7 - (i+r)=k+1 - 1 - r by omega])
   conv=>whnf
   refine ⟨⟨by omega,by omega,Int.le_refl _,Nat.le_refl _,rfl⟩,?_⟩
   simp only [toNat_cast,rowAdd_eq,Nat.zero_add,hk]
   conv=>whnf
   refine ⟨⟨by show i+(k+1)≤8; omega,fun r hr=>hall (i+r) (by omega)⟩,?_⟩
   conv=>whnf
   show Value.string ⟨⟨bytesOf g i (k+1)⟩⟩=Value.string (nb n)
   rw [e,nb_be hlt (.inr ho)]
theorem rcmpMag_ok:Snd Tryz.prog 150 cmpMagS:=by
 refine snd_of E0ok Dok Tryz.func150 (enters_of Tryz.func150 (by kernel_rfl) rfl) (fun _=>rfl) (fun _=>rfl) ?_
 intro ⟨A,D⟩ hp
 have hp:nby A≤1099511627776∧nby D≤1099511627776:=hp
 simp only [cmpMagS]
 obtain ⟨a,ha⟩:∃ a,a=nb A:=⟨_,rfl⟩
 obtain ⟨d,hd⟩:∃ d,d=nb D:=⟨_,rfl⟩
 rw [← ha,← hd]
 have l1:a.size=d.size→Op.bytesLess a.toList d.toList=decide (A < D):=fun h=>by rw [ha,hd] at h ⊢; exact cmpN_less h
 have l2:(a.toList == d.toList)=decide (A=D):=by rw [ha,hd]; exact cmpN_same
 have l3:a.size < d.size→A < D:=fun h=>by rw [ha,hd] at h; exact cmpN_size h
 have l4:d.size < a.size→D < A:=fun h=>by rw [ha,hd] at h; exact cmpN_size h
 conv=>whnf
 refine br_intro (fun h1=>?_) (fun h1=>?_)
 ·have h1:a.size≠d.size:=by
   intro e
   rw [e] at h1
   simp at h1
  conv=>whnf
  refine br_intro (fun h2=>?_) (fun h2=>?_)
  ·have h2:=l3 (by have:=of_decide_eq_true h2; omega)
   conv=>whnf
   rw [cmpN,if_pos h2]
  ·have h2:=l4 (by have:=of_decide_eq_false h2; omega)
   conv=>whnf
   rw [cmpN,if_neg (by omega),if_pos h2]
 ·have h1:a.size=d.size:=by
   have h1:((a.size:Nat):Int)=((d.size:Nat):Int):=by simpa using h1
   omega
  conv=>whnf
  rw [l1 h1]
  refine br_intro (fun h2=>?_) (fun h2=>?_)
  ·have h2:=of_decide_eq_true h2
   conv=>whnf
   rw [cmpN,if_pos h2]
  ·have h2:=of_decide_eq_false h2
   conv=>whnf
   rw [l1 h1,l2]
   refine br_intro (fun h3=>?_) (fun h3=>?_)
   ·have h3:D < A:=by
     simp [h2] at h3
     omega
    conv=>whnf
    rw [cmpN,if_neg h2,if_pos h3]
   ·have h3:A=D:=by
     simpa [h2] using h3
    conv=>whnf
    subst h3
    rw [cmpN,if_neg h2,if_neg h2]
end Go.Proofs.YtppeponndkfbkaaGreat
