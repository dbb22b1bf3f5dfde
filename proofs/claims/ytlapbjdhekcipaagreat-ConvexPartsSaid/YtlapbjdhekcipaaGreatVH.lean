import Derived.Test.YtlapbjdhekcipaaGreatVG
set_option linter.unusedVariables false
set_option linter.unusedSimpArgs false
set_option maxRecDepth 20000
set_option maxHeartbeats 1000000
namespace Go.Proofs.YtlapbjdhekcipaaGreat
open Go Go.Ae
def Erc:Env:=En [(191,.p kX),(177,.p HR),(179,.p jm),(180,.p r4)]
theorem Hn:EnvOk Tryz.prog Erc:=bI ⟨Bz,Yn,Fh,EJ,trivial⟩ trivial
theorem yS:bf Tryz.prog 155 eT:=by
 refine bk Hn aM Tryz.func155 (enters_of Tryz.func155 (by kernel_rfl) rfl) (fun _=>rfl) (fun _=>rfl) ?_
 intro (n:Int) hp;have hp:-9223372036854775808≤n∧n < 9223372036854775808:=hp;obtain ⟨k,hk⟩:∃ k:Nat,k=n.natAbs:=⟨_,rfl⟩;obtain ⟨v,hv⟩:∃ v,v=nb k:=⟨_,rfl⟩;have ev:HR.val k=.string v:=by rw [hv]; rfl
 conv=>whnf
 refine aI (fun h1=>?_) (fun h1=>?_)
 ·have h1:n=(k:Int):=by have:=of_decide_eq_true h1; omega
  conv=>whnf
  refine ⟨k,by rw [h1]; rfl,by show k < 9223372036854775808; omega,?_⟩
  rw [ev];conv=>whnf
  show Value.agg ⟨[.bool false,.string v]⟩=aD n
  rw [hv,h1];have:=jk false k;exact this
 ·have h1:n < 0:=by have:=of_decide_eq_false h1; omega
  conv=>whnf
  refine aI (fun J=>?_) (fun J=>?_)
  ·have J:n=-9223372036854775808:=by
    have J:n=IntKind.i64.wrap (0 - n):=by simpa using J
    rw [FA h1 hp.1] at J
    split at J <;> omega
   subst J;conv=>whnf
   exact U2.symm
  ·have J:IntKind.i64.wrap (0 - n)=(k:Int):=by
    have h3:=FA h1 hp.1
    split at h3
    ·rename_i e;rw [h3] at J;simp at J
    ·omega
   conv=>whnf
   rw [J];refine ⟨k,rfl,by
    show k < 9223372036854775808
    have h3:=FA h1 hp.1
    split at h3 <;> omega,?_⟩
   rw [ev];conv=>whnf
   show Value.agg ⟨[.bool true,.string v]⟩=aD n
   rw [hv,hk,vW h1]
theorem Gq:bf Tryz.prog 174 gR:=by
 refine bk Hn aM Tryz.func174 (enters_of Tryz.func174 (by kernel_rfl) rfl) (fun _=>rfl) (fun _=>rfl) ?_
 intro ⟨b,s⟩ hp;have hp:s.size≤549755813888:=hp;conv=>whnf
 refine ⟨(b,s),rfl,hp,?_⟩;obtain ⟨z,hz⟩:∃ z,z=IV.z (b,s):=⟨_,rfl⟩;obtain ⟨m,hm⟩:∃ m,m=nb z.natAbs:=⟨_,rfl⟩;have fin:∀ x:Value,x=aD (-z)→x=gR.val (b,s):=fun x h=>by rw [h,hz]; rfl
 rcases Int.lt_or_le z 0 with h | h
 ·rw [show jm.val (b,s)=.agg ⟨[.bool true,.string m]⟩ by show aD (IV.z (b,s))=_; rw [← hz,vW h,hm]]
  conv=>whnf
  refine fin _ ?_;rw [vX (by omega),Int.natAbs_neg,hm]
  rfl
 ·rw [show jm.val (b,s)=.agg ⟨[.bool false,.string m]⟩ by show aD (IV.z (b,s))=_; rw [← hz,vX h,hm]]
  conv=>whnf
  refine fin _ ?_;rcases Int.lt_or_eq_of_le h with h | h
  ·rw [vW (by omega),Int.natAbs_neg,← hm]
   show Value.agg ⟨[.bool (!m.toList == (⟨#[]⟩:ByteArray).toList),.string m]⟩=_
   rw [hm,wN (by omega)]
  ·rw [vX (by omega),Int.natAbs_neg,← hm]
   show Value.agg ⟨[.bool (!m.toList == (⟨#[]⟩:ByteArray).toList),.string m]⟩=_
   rw [hm,wF (by omega)]
theorem Yo:bf Tryz.prog 159 lX:=by
 refine bk Hn aM Tryz.func159 (enters_of Tryz.func159 (by kernel_rfl) rfl) (fun _=>rfl) (fun _=>rfl) ?_
 intro ⟨⟨b,s⟩,⟨c,t⟩⟩ hp;have hp:s.size≤549755813888∧t.size≤549755813888:=hp;obtain ⟨x,hx⟩:∃ x,x=IV.z (b,s):=⟨_,rfl⟩;obtain ⟨y,hy⟩:∃ y,y=IV.z (c,t):=⟨_,rfl⟩;obtain ⟨m,hm⟩:∃ m,m=nb x.natAbs:=⟨_,rfl⟩;obtain ⟨k,hk⟩:∃ k,k=nb y.natAbs:=⟨_,rfl⟩;have rE:aQ x.natAbs≤549755813888:=by rw [hx]; exact IV.aQ (i:=(b,s)) hp.1
 have xW:aQ y.natAbs≤549755813888:=by rw [hy]; exact IV.aQ (i:=(c,t)) hp.2
 have fin:∀ z:Int,z=dL x y→Value.int .i64 z=lX.val ((b,s),(c,t)):=fun z h=>by rw [h,hx,hy]; rfl
 rcases Int.lt_or_le x 0 with h1 | h1
 ·have e1:jm.val (b,s)=.agg ⟨[.bool true,.string m]⟩:=by show aD (IV.z (b,s))=_; rw [← hx,vW h1,hm]
  rcases Int.lt_or_le y 0 with J | J
  ·have e2:jm.val (c,t)=.agg ⟨[.bool true,.string k]⟩:=by show aD (IV.z (c,t))=_; rw [← hy,vW J,hk]
   conv=>whnf
   refine .inl ⟨3,[[],[0],[],[0,1,2],[0,1,2,3],[0,1,2,3,4]],by kernel_rfl,?_⟩
   conv=>whnf
   refine ⟨(b,s),rfl,hp.1,?_⟩;rw [e1];conv=>whnf
   refine ⟨(c,t),rfl,hp.2,?_⟩;rw [e2];conv=>whnf
   first
    | exact fin _ (tZ (by omega)).symm
    | (refine ⟨(y.natAbs,x.natAbs),by rw [hm,hk]; rfl,⟨by show aQ y.natAbs≤_; omega,by show aQ x.natAbs≤_; omega⟩,?_⟩
       conv=>whnf
       exact fin _ (Na h1 J).symm)
  ·have e2:jm.val (c,t)=.agg ⟨[.bool false,.string k]⟩:=by show aD (IV.z (c,t))=_; rw [← hy,vX J,hk]
   conv=>whnf
   refine .inl ⟨3,[[],[0],[],[0,1,2],[0,1,2,3],[0,1,2,3,4]],by kernel_rfl,?_⟩
   conv=>whnf
   refine ⟨(b,s),rfl,hp.1,?_⟩;rw [e1];conv=>whnf
   refine ⟨(c,t),rfl,hp.2,?_⟩;rw [e2];conv=>whnf
   first
    | exact fin _ (tY (by omega)).symm
    | (refine ⟨(x.natAbs,y.natAbs),by rw [hm,hk]; rfl,⟨by show aQ x.natAbs≤_; omega,by show aQ y.natAbs≤_; omega⟩,?_⟩
       conv=>whnf
       exact fin _ (M9 h1 J).symm)
 ·have e1:jm.val (b,s)=.agg ⟨[.bool false,.string m]⟩:=by show aD (IV.z (b,s))=_; rw [← hx,vX h1,hm]
  rcases Int.lt_or_le y 0 with J | J
  ·have e2:jm.val (c,t)=.agg ⟨[.bool true,.string k]⟩:=by show aD (IV.z (c,t))=_; rw [← hy,vW J,hk]
   conv=>whnf
   refine .inl ⟨3,[[],[0],[],[0,1,2],[0,1,2,3],[0,1,2,3,4]],by kernel_rfl,?_⟩
   conv=>whnf
   refine ⟨(b,s),rfl,hp.1,?_⟩;rw [e1];conv=>whnf
   refine ⟨(c,t),rfl,hp.2,?_⟩;rw [e2];conv=>whnf
   first
    | exact fin _ (tZ (by omega)).symm
    | (refine ⟨(y.natAbs,x.natAbs),by rw [hm,hk]; rfl,⟨by show aQ y.natAbs≤_; omega,by show aQ x.natAbs≤_; omega⟩,?_⟩
       conv=>whnf
       exact fin _ (Na h1 J).symm)
  ·have e2:jm.val (c,t)=.agg ⟨[.bool false,.string k]⟩:=by show aD (IV.z (c,t))=_; rw [← hy,vX J,hk]
   conv=>whnf
   refine .inl ⟨3,[[],[0],[],[0,1,2],[0,1,2,3],[0,1,2,3,4]],by kernel_rfl,?_⟩
   conv=>whnf
   refine ⟨(b,s),rfl,hp.1,?_⟩;rw [e1];conv=>whnf
   refine ⟨(c,t),rfl,hp.2,?_⟩;rw [e2];conv=>whnf
   first
    | exact fin _ (tY (by omega)).symm
    | (refine ⟨(x.natAbs,y.natAbs),by rw [hm,hk]; rfl,⟨by show aQ x.natAbs≤_; omega,by show aQ y.natAbs≤_; omega⟩,?_⟩
       conv=>whnf
       exact fin _ (M9 h1 J).symm)
open Go Go.Ae
theorem Lb:bf Tryz.prog 189 wP:=by
 refine bk zg aM Tryz.func189 (enters_of Tryz.func189 (by kernel_rfl) rfl) (fun _=>rfl) (fun _=>rfl) ?_
 intro ⟨s,t⟩ hp;have hp:s.size≤549755813896∧t.size≤549755813896:=hp;obtain ⟨m,hm⟩:∃ m:Nat,m=max s.size t.size:=⟨_,rfl⟩;obtain ⟨n,hn⟩:∃ n:Nat,n=m+1:=⟨_,rfl⟩;have em:(if ((t.size:Nat):Int) > ((s.size:Nat):Int) then ((t.size:Nat):Int) else ((s.size:Nat):Int))=(m:Int):=by split <;> omega
 have e1:IntKind.i64.wrap (((m:Nat):Int)+1)=((n:Nat):Int):=by rw [ar (by omega) (by omega)]; omega
 conv=>whnf
 rw [show (if (((s,t).snd.size:Nat):Int) > (((s,t).fst.size:Nat):Int) then (((s,t).snd.size:Nat):Int) else (((s,t).fst.size:Nat):Int))=(m:Int) from em,e1]
 refine ⟨⟨by omega,Int.le_refl _,by show ((n:Nat):Int)*((1:Nat):Int)≤_; omega⟩,?_⟩
 simp only [toNat_cast];conv=>whnf
 refine .inl ⟨fun mm tz hz=>∃ (j:Nat) (Y:Nat) (c:Nat) (g:Nat→List Value),bA (some (.string s)::some (.string t)::aB 3 (some (.int .i64 (n:Nat))::some (.slice (some ⟨0,0,none⟩) n n)::some (.int .i64 c)::some (.int .i64 ((j+1:Nat):Int))::aB 51 [])) tz∧hz=[some (.flat true n 1 g)]∧n - j=mm∧((j≤n∧c≤1)∧yL (ab s) (ab t) j Y c∧mZ g n j Y),.inl ⟨_,0,0,0,_,(.aa (.aa (.sk 3 (.aa (.aa (.aa (.aa (.sk 51 .nil rfl))))) rfl))),rfl,rfl,?_⟩,?_⟩
 ·exact ⟨⟨Nat.zero_le _,by decide⟩,Re _ _,JL _⟩
 rintro mm aS _ ⟨j,Y,c,g,au,rfl,rfl,⟨⟨hj,hc⟩,hY,hg⟩⟩
 obtain ⟨az,rfl⟩:∃ az:Nat→Value,aS=.string s::.string t::zs az 2 3 (.int .i64 (n:Nat)::.slice (some ⟨0,0,none⟩) n n::.int .i64 c::.int .i64 ((j+1:Nat):Int)::zs az 9 51 []):=bJ au;clear au;conv=>whnf
 refine aI (fun h1=>?_) (fun h1=>?_)
 ·have h1:j < n:=by
   have:=of_decide_eq_true h1;omega
  obtain ⟨u,hu⟩:∃ u,u=c+bR (ab s) j:=⟨_,rfl⟩;obtain ⟨t',ht⟩:∃ t',t'=u+bR (ab t) j:=⟨_,rfl⟩;obtain ⟨da,pR⟩:∃ da,da=bR (ab s) j:=⟨_,rfl⟩;obtain ⟨dd,c6⟩:∃ dd,dd=bR (ab t) j:=⟨_,rfl⟩;have b1:bR (ab s) j < 256:=qn _ _;have b2:bR (ab t) j < 256:=qn _ _;obtain ⟨Y',ao,aX⟩:=RH (t:=t') hY hg h1 (by rw [ht,hu])
  obtain ⟨q,hq⟩:∃ q,q=n - (j+1):=⟨_,rfl⟩;rw [← hq] at aX;obtain ⟨x,hx⟩:=hg.1 q (by omega)
  rw [← pR] at hu b1;rw [← c6] at ht b2;have ea:IntKind.i64.wrap ((c:Int)+IntKind.i64.wrap (da:Int))=(u:Int):=by rw [ar (x:=(da:Int)) (by omega) (by omega),ar (by omega) (by omega)]; omega
  have ed:IntKind.i64.wrap ((u:Int)+IntKind.i64.wrap (dd:Int))=(t':Int):=by rw [ar (x:=(dd:Int)) (by omega) (by omega),ar (by omega) (by omega)]; omega
  have ej:IntKind.i64.wrap (((n:Nat):Int) - ((j+1:Nat):Int))=((q:Nat):Int):=by rw [ar (by omega) (by omega)]; omega
  have e7:IntKind.i64.wrap (((j+1:Nat):Int)+1)=((j+1+1:Nat):Int):=by rw [ar (by omega) (by omega)]; rfl
  have ediv:((t':Nat):Int) / 256=((t' / C:Nat):Int):=rfl;have Dr:t'≤511:=by omega
  obtain ⟨tt,adF⟩:∃ tt,tt=t:=⟨_,rfl⟩;obtain ⟨t,rfl⟩:∃ vn,vn=t':=⟨_,rfl⟩;subst adF;conv=>whnf
  refine aI (fun J=>?_) (fun J=>?_)
  ·have J:j < s.size:=by
    have h4:((j+1:Nat):Int)≤((s.size:Nat):Int):=of_decide_eq_true J;omega
   have hb:=tI J;have ei:IntKind.i64.wrap (((s.size:Nat):Int) - ((j+1:Nat):Int))=((s.size - (j+1):Nat):Int):=by rw [ar (by omega) (by omega)]; omega
   conv=>whnf
   simp only [ei];refine ⟨⟨by omega,by omega⟩,?_⟩
   simp only [toNat_cast];conv=>whnf
   rw [hb,← pR,ea];refine aI (fun h3=>?_) (fun h3=>?_)
   ·have h3:j < tt.size:=by
     have:=of_decide_eq_true h3;have h4:((j+1:Nat):Int)≤((tt.size:Nat):Int):=this;omega
    have hb:=tI h3;have ei:IntKind.i64.wrap (((tt.size:Nat):Int) - ((j+1:Nat):Int))=((tt.size - (j+1):Nat):Int):=by rw [ar (by omega) (by omega)]; omega
    conv=>whnf
    simp only [ei];refine ⟨⟨by omega,by omega⟩,?_⟩
    simp only [toNat_cast];conv=>whnf
    rw [hb,← c6,ed];simp only [ej];refine ⟨⟨by omega,by omega⟩,?_⟩
    simp only [toNat_cast,ax,Nat.zero_add];conv=>whnf
    refine ⟨by show q < n; omega,?_⟩
    conv=>whnf
    rw [hx];conv=>whnf
    simp only [qm,c0,ediv,e7];refine .inl ⟨_,?_,j+1,Y',t / C,_,(.aa (.aa (.sk 3 (.aa (.aa (.aa (.aa (.sk 51 .nil rfl))))) rfl))),rfl,rfl,?_⟩
    ·omega
    ·exact ⟨⟨by omega,by show t / 256≤1; omega⟩,ao,aX⟩
   ·have h3:tt.size≤j:=by
     have h4:¬ ((j+1:Nat):Int)≤((tt.size:Nat):Int):=of_decide_eq_false h3;omega
    have h0:=Bt h3;rw [c6,h0,Nat.add_zero] at ht;conv=>whnf
    rw [← ht];simp only [ej];refine ⟨⟨by omega,by omega⟩,?_⟩
    simp only [toNat_cast,ax,Nat.zero_add];conv=>whnf
    refine ⟨by show q < n; omega,?_⟩
    conv=>whnf
    rw [hx];conv=>whnf
    simp only [qm,c0,ediv,e7];refine .inl ⟨_,?_,j+1,Y',t / C,_,(.aa (.aa (.sk 3 (.aa (.aa (.aa (.aa (.sk 51 .nil rfl))))) rfl))),rfl,rfl,?_⟩
    ·omega
    ·exact ⟨⟨by omega,by show t / 256≤1; omega⟩,ao,aX⟩
  ·have J:s.size≤j:=by
    have h4:¬ ((j+1:Nat):Int)≤((s.size:Nat):Int):=of_decide_eq_false J;omega
   have h0:=Bt J;rw [pR,h0,Nat.add_zero] at hu;conv=>whnf
   rw [← hu];refine aI (fun h3=>?_) (fun h3=>?_)
   ·have h3:j < tt.size:=by
     have:=of_decide_eq_true h3;have h4:((j+1:Nat):Int)≤((tt.size:Nat):Int):=this;omega
    have hb:=tI h3;have ei:IntKind.i64.wrap (((tt.size:Nat):Int) - ((j+1:Nat):Int))=((tt.size - (j+1):Nat):Int):=by rw [ar (by omega) (by omega)]; omega
    conv=>whnf
    simp only [ei];refine ⟨⟨by omega,by omega⟩,?_⟩
    simp only [toNat_cast];conv=>whnf
    rw [hb,← c6,ed];simp only [ej];refine ⟨⟨by omega,by omega⟩,?_⟩
    simp only [toNat_cast,ax,Nat.zero_add];conv=>whnf
    refine ⟨by show q < n; omega,?_⟩
    conv=>whnf
    rw [hx];conv=>whnf
    simp only [qm,c0,ediv,e7];refine .inl ⟨_,?_,j+1,Y',t / C,_,(.aa (.aa (.sk 3 (.aa (.aa (.aa (.aa (.sk 51 .nil rfl))))) rfl))),rfl,rfl,?_⟩
    ·omega
    ·exact ⟨⟨by omega,by show t / 256≤1; omega⟩,ao,aX⟩
   ·have h3:tt.size≤j:=by
     have h4:¬ ((j+1:Nat):Int)≤((tt.size:Nat):Int):=of_decide_eq_false h3;omega
    have h0:=Bt h3;rw [c6,h0,Nat.add_zero] at ht;conv=>whnf
    rw [← ht];simp only [ej];refine ⟨⟨by omega,by omega⟩,?_⟩
    simp only [toNat_cast,ax,Nat.zero_add];conv=>whnf
    refine ⟨by show q < n; omega,?_⟩
    conv=>whnf
    rw [hx];conv=>whnf
    simp only [qm,c0,ediv,e7];refine .inl ⟨_,?_,j+1,Y',t / C,_,(.aa (.aa (.sk 3 (.aa (.aa (.aa (.aa (.sk 51 .nil rfl))))) rfl))),rfl,rfl,?_⟩
    ·omega
    ·exact ⟨⟨by omega,by show t / 256≤1; omega⟩,ao,aX⟩
 ·have h1:j=n:=by
   have h4:¬ ((j+1:Nat):Int)≤((n:Nat):Int):=of_decide_eq_false h1;omega
  subst h1;obtain ⟨v,hv,fp,pS⟩:=Ss hY hg ⟨by omega,by omega⟩
  subst hn;conv=>whnf
  refine ⟨⟨by show 0+(m+1)≤m+1; omega,fun r hr=>by show ∃ x,g (0+r)=_; rw [Nat.zero_add]; exact hg.1 r hr⟩,?_⟩
  rw [show (ah.flat true (m+1) 1 g).row=g from rfl,hv]
  conv=>whnf
  refine ⟨v,rfl,by show v.size≤_; omega,?_⟩
  conv=>whnf
  show Value.string (nb (ab v))=_
  rw [pS]
  rfl
open Go Go.Ae
theorem Lc:bf Tryz.prog 190 r6:=by
 refine bk zg aM Tryz.func190 (enters_of Tryz.func190 (by kernel_rfl) rfl) (fun _=>rfl) (fun _=>rfl) ?_
 intro ⟨s,t⟩ hp;have hp:(s.size≤549755813896∧t.size≤549755813896)∧ab t≤ab s:=hp;obtain ⟨n,hn⟩:∃ n:Nat,n=s.size:=⟨_,rfl⟩;conv=>whnf
 rw [show ((s,t).fst.size:Nat)=n from hn.symm]
 refine ⟨⟨by omega,Int.le_refl _,by show ((n:Nat):Int)*((1:Nat):Int)≤_; omega⟩,?_⟩
 simp only [toNat_cast];conv=>whnf
 refine .inl ⟨fun mm tz hz=>∃ (j:Nat) (Y:Nat) (c:Nat) (g:Nat→List Value),bA (some (.string s)::some (.string t)::aB 3 (some (.slice (some ⟨0,0,none⟩) n n)::some (.int .i64 c)::some (.int .i64 ((j+1:Nat):Int))::aB 47 [])) tz∧hz=[some (.flat true n 1 g)]∧n - j=mm∧((j≤n∧c≤1)∧yM (ab s) (ab t) j Y c∧mZ g n j Y),.inl ⟨_,0,0,0,_,(.aa (.aa (.sk 3 (.aa (.aa (.aa (.sk 47 .nil rfl)))) rfl))),rfl,rfl,?_⟩,?_⟩
 ·exact ⟨⟨Nat.zero_le _,by decide⟩,Rf _ _,JL _⟩
 rintro mm aS _ ⟨j,Y,c,g,au,rfl,rfl,⟨⟨hj,hc⟩,hY,hg⟩⟩
 obtain ⟨az,rfl⟩:∃ az:Nat→Value,aS=.string s::.string t::zs az 2 3 (.slice (some ⟨0,0,none⟩) n n::.int .i64 c::.int .i64 ((j+1:Nat):Int)::zs az 8 47 []):=bJ au;clear au;conv=>whnf
 rw [← hn];refine aI (fun h1=>?_) (fun h1=>?_)
 ·have h1:j < n:=by
   have:=of_decide_eq_true h1;omega
  obtain ⟨da,pR⟩:∃ da,da=bR (ab s) j:=⟨_,rfl⟩;obtain ⟨dd,c6⟩:∃ dd,dd=bR (ab t) j:=⟨_,rfl⟩;have b1:da < 256:=by rw [pR]; exact qn _ _
  have b2:dd < 256:=by rw [c6]; exact qn _ _
  obtain ⟨q,hq⟩:∃ q,q=n - (j+1):=⟨_,rfl⟩;obtain ⟨x,hx⟩:=hg.1 q (by omega)
  have ej:IntKind.i64.wrap ((n:Int) - ((j+1:Nat):Int))=((q:Nat):Int):=by rw [ar (by omega) (by omega)]; omega
  have e7:IntKind.i64.wrap (((j+1:Nat):Int)+1)=((j+1+1:Nat):Int):=by rw [ar (by omega) (by omega)]; rfl
  have hb:bX s q=da:=by rw [pR,hq,hn]; exact tI (by omega)
  have ea:IntKind.i64.wrap (IntKind.i64.wrap (da:Int) - (c:Int))=(da:Int) - c:=by rw [ar (x:=(da:Int)) (by omega) (by omega),ar (by omega) (by omega)]
  conv=>whnf
  rw [← hn,ej];refine ⟨⟨by omega,by omega⟩,?_⟩
  simp only [toNat_cast];conv=>whnf
  rw [hb,ea];refine aI (fun h3=>?_) (fun h3=>?_)
  ·have h3:j < t.size:=by
    have h4:((j+1:Nat):Int)≤((t.size:Nat):Int):=of_decide_eq_true h3;omega
   have dC:=tI h3;rw [← c6] at dC;have ei:IntKind.i64.wrap (((t.size:Nat):Int) - ((j+1:Nat):Int))=((t.size - (j+1):Nat):Int):=by rw [ar (by omega) (by omega)]; omega
   obtain ⟨w,hw⟩:∃ w:Int,w=(da:Int) - c - dd:=⟨_,rfl⟩;have ed:IntKind.i64.wrap (((da:Int) - c) - IntKind.i64.wrap (dd:Int))=w:=by rw [ar (x:=(dd:Int)) (by omega) (by omega),ar (by omega) (by omega),hw]
   conv=>whnf
   simp only [ei];refine ⟨⟨by omega,by omega⟩,?_⟩
   simp only [toNat_cast];conv=>whnf
   rw [dC,ed];rcases Int.lt_or_le w 0 with hw | hw
   ·obtain ⟨e,c',he,cC,hs,lF⟩:∃ e c':Nat,e < 256∧c'≤1∧e+c+dd=da+256*c'∧(w+256=(e:Int)∧c'=1):=⟨(w+256).toNat,1,by omega,by omega,by omega,by omega,rfl⟩
    have ew:IntKind.i64.wrap (w+256)=(e:Int):=by rw [ar (by omega) (by omega)]; exact lF.1
    have e0:=lF.2;subst e0;obtain ⟨Y',ao,aX⟩:=AT hY hg h1 he (by rw [← pR,← c6]; exact hs)
    rw [← hq] at aX;refine m8 ?_ ?_
    ·exact decide_eq_true hw
    conv=>whnf
    rw [ew];simp only [← hn,ej];refine ⟨⟨by omega,by omega⟩,?_⟩
    simp only [toNat_cast,ax,Nat.zero_add];conv=>whnf
    refine ⟨by show q < n; omega,?_⟩
    conv=>whnf
    rw [hx];conv=>whnf
    simp only [uJ he,e7];refine .inl ⟨_,?_,j+1,Y',_,_,(.aa (.aa (.sk 3 (.aa (.aa (.aa (.sk 47 .nil rfl)))) rfl))),rfl,rfl,?_⟩
    ·omega
    ·exact ⟨⟨by omega,cC⟩,ao,aX⟩
   ·obtain ⟨e,c',he,cC,hs,lF⟩:∃ e c':Nat,e < 256∧c'≤1∧e+c+dd=da+256*c'∧(w=(e:Int)∧c'=0):=⟨w.toNat,0,by omega,by omega,by omega,by omega,rfl⟩
    have ew:w=(e:Int):=lF.1;have e0:=lF.2;subst e0;obtain ⟨Y',ao,aX⟩:=AT hY hg h1 he (by rw [← pR,← c6]; exact hs)
    rw [← hq] at aX;refine aI (fun h=>absurd (of_decide_eq_true h) (by omega)) (fun _=>?_)
    conv=>whnf
    rw [ew];simp only [← hn,ej];refine ⟨⟨by omega,by omega⟩,?_⟩
    simp only [toNat_cast,ax,Nat.zero_add];conv=>whnf
    refine ⟨by show q < n; omega,?_⟩
    conv=>whnf
    rw [hx];conv=>whnf
    simp only [uJ he,e7];refine .inl ⟨_,?_,j+1,Y',_,_,(.aa (.aa (.sk 3 (.aa (.aa (.aa (.sk 47 .nil rfl)))) rfl))),rfl,rfl,?_⟩
    ·omega
    ·exact ⟨⟨by omega,cC⟩,ao,aX⟩
  ·have h3:t.size≤j:=by
    have h4:¬ ((j+1:Nat):Int)≤((t.size:Nat):Int):=of_decide_eq_false h3;omega
   have h0:=Bt h3;obtain ⟨w,hw⟩:∃ w:Int,w=(da:Int) - c:=⟨_,rfl⟩;rw [← c6] at h0;conv=>whnf
   rw [← hw];rcases Int.lt_or_le w 0 with hw | hw
   ·obtain ⟨e,c',he,cC,hs,lF⟩:∃ e c':Nat,e < 256∧c'≤1∧e+c+dd=da+256*c'∧(w+256=(e:Int)∧c'=1):=⟨(w+256).toNat,1,by omega,by omega,by omega,by omega,rfl⟩
    have ew:IntKind.i64.wrap (w+256)=(e:Int):=by rw [ar (by omega) (by omega)]; exact lF.1
    have e0:=lF.2;subst e0;obtain ⟨Y',ao,aX⟩:=AT hY hg h1 he (by rw [← pR,← c6]; exact hs)
    rw [← hq] at aX;refine m8 ?_ ?_
    ·exact decide_eq_true hw
    conv=>whnf
    rw [ew];simp only [← hn,ej];refine ⟨⟨by omega,by omega⟩,?_⟩
    simp only [toNat_cast,ax,Nat.zero_add];conv=>whnf
    refine ⟨by show q < n; omega,?_⟩
    conv=>whnf
    rw [hx];conv=>whnf
    simp only [uJ he,e7];refine .inl ⟨_,?_,j+1,Y',_,_,(.aa (.aa (.sk 3 (.aa (.aa (.aa (.sk 47 .nil rfl)))) rfl))),rfl,rfl,?_⟩
    ·omega
    ·exact ⟨⟨by omega,cC⟩,ao,aX⟩
   ·obtain ⟨e,c',he,cC,hs,lF⟩:∃ e c':Nat,e < 256∧c'≤1∧e+c+dd=da+256*c'∧(w=(e:Int)∧c'=0):=⟨w.toNat,0,by omega,by omega,by omega,by omega,rfl⟩
    have ew:w=(e:Int):=lF.1;have e0:=lF.2;subst e0;obtain ⟨Y',ao,aX⟩:=AT hY hg h1 he (by rw [← pR,← c6]; exact hs)
    rw [← hq] at aX;refine aI (fun h=>absurd (of_decide_eq_true h) (by omega)) (fun _=>?_)
    conv=>whnf
    rw [ew];simp only [← hn,ej];refine ⟨⟨by omega,by omega⟩,?_⟩
    simp only [toNat_cast,ax,Nat.zero_add];conv=>whnf
    refine ⟨by show q < n; omega,?_⟩
    conv=>whnf
    rw [hx];conv=>whnf
    simp only [uJ he,e7];refine .inl ⟨_,?_,j+1,Y',_,_,(.aa (.aa (.sk 3 (.aa (.aa (.aa (.sk 47 .nil rfl)))) rfl))),rfl,rfl,?_⟩
    ·omega
    ·exact ⟨⟨by omega,cC⟩,ao,aX⟩
 ·have h1:j=n:=by
   have h4:¬ ((j+1:Nat):Int)≤((n:Nat):Int):=of_decide_eq_false h1;omega
  subst h1;obtain ⟨v,hv,fp,pS⟩:=Su (g:=g) (by rw [← hn]; exact hY) hp.2 (by rw [← hn]; exact hg)
  rw [← hn] at hv fp;conv=>whnf
  rcases Nat.eq_zero_or_pos j with h0 | h0
  ·subst h0;conv=>whnf
   have e0:v=⟨#[]⟩:=hv.symm;subst e0;refine ⟨⟨#[]⟩,rfl,Nat.zero_le _,?_⟩;conv=>whnf
   show Value.string (nb (ab ⟨#[]⟩))=_
   rw [pS]
   rfl
  ·obtain ⟨k,rfl⟩:∃ k,j=k+1:=⟨j - 1,by omega⟩
   conv=>whnf
   refine ⟨⟨by show 0+(k+1)≤k+1; omega,fun r hr=>by show ∃ x,g (0+r)=_; rw [Nat.zero_add]; exact hg.1 r hr⟩,?_⟩
   rw [show (ah.flat true (k+1) 1 g).row=g from rfl,hv]
   conv=>whnf
   refine ⟨v,rfl,by show v.size≤_; omega,?_⟩
   conv=>whnf
   show Value.string (nb (ab v))=_
   rw [pS]
   rfl
open Go Go.Ae
theorem S7:bf Tryz.prog 182 Gc:=by
 refine bk zg aM Tryz.func182 (enters_of Tryz.func182 (by kernel_rfl) rfl) (fun _=>rfl) (fun _=>rfl) ?_
 intro ⟨s,t⟩ hp;have hp:s.size≤549755813888∧t.size≤549755813888:=hp;obtain ⟨a,ha⟩:∃ n:Nat,n=s.size:=⟨_,rfl⟩;obtain ⟨b,hb⟩:∃ n:Nat,n=t.size:=⟨_,rfl⟩;obtain ⟨n,hn⟩:∃ n:Nat,n=a+b:=⟨_,rfl⟩;have e1:IntKind.i64.wrap (((a:Nat):Int)+((b:Nat):Int))=((n:Nat):Int):=by rw [ar (by omega) (by omega)]; omega
 conv=>whnf
 rw [show ((s,t).fst.size:Nat)=a from ha.symm,show ((s,t).snd.size:Nat)=b from hb.symm,e1]
 refine ⟨⟨by omega,Int.le_refl _,by show ((n:Nat):Int)*((8:Nat):Int)≤_; omega⟩,?_⟩
 simp only [toNat_cast];conv=>whnf
 rw [show ((s,t).fst.size:Nat)=a from ha.symm]
 refine .inl ⟨fun mm tz hz=>∃ (u:Nat) (p:Nat) (Z:Nat) (g:Nat→List Value),bA (some (.string s)::some (.string t)::aB 3 (some (.slice (some ⟨0,0,none⟩) n n)::some (.int .i64 (IntKind.i64.wrap (((u:Nat):Int) - 1)))::aB 80 [])) tz∧hz=[some (.flat true n 1 g)]∧u=mm∧((u+p=a)∧yO (ab s) (ab t) p b Z∧qH g n Z),.inr ⟨[0],[0,1,5,6],?_⟩,?_⟩
 ·conv=>whnf
  intro _;conv=>whnf
  refine ⟨_,a,0,0,_,(.aa (.aa (.sk 3 (.aa (.aa (.sk 80 .nil rfl))) rfl))),rfl,rfl,?_⟩;exact ⟨by omega,Rg _ _ _,RI _⟩
 rintro mm aS _ ⟨u,p,Z,g,au,rfl,rfl,⟨hu,hY,hg⟩⟩
 obtain ⟨az,rfl⟩:∃ az:Nat→Value,aS=.string s::.string t::zs az 2 3 (.slice (some ⟨0,0,none⟩) n n::.int .i64 (IntKind.i64.wrap (((u:Nat):Int) - 1))::zs az 7 80 []):=bJ au;clear au;conv=>whnf
 refine aI (fun h1=>?_) (fun h1=>?_)
 ·obtain ⟨i,rfl⟩:∃ i,u=i+1:=by
   rcases Nat.eq_zero_or_pos u with h | h
   ·subst h; exact absurd h1 (by decide)
   ·exact ⟨u - 1,by omega⟩
  have ei:IntKind.i64.wrap (((i+1:Nat):Int) - 1)=(i:Int):=by rw [ar (by omega) (by omega)]; omega
  rw [ei];conv=>whnf
  rw [← hb];refine .inl ⟨fun mm tz hz=>∃ (v:Nat) (q:Nat) (Z:Nat) (c:Nat) (g:Nat→List Value),bA (some (.string s)::some (.string t)::aB 3 (some (.slice (some ⟨0,0,none⟩) n n)::some (.int .i64 i)::some (.int .i64 c)::some (.int .i64 (IntKind.i64.wrap (((v:Nat):Int) - 1)))::aB 78 [])) tz∧hz=[some (.flat true n 1 g)]∧v=mm∧((v+q=b∧c < 256)∧yN (ab s) (ab t) p b q Z c∧qH g n Z),.inr ⟨[0],[0,1,5,6,7,8],?_⟩,?_⟩
  ·conv=>whnf
   intro _;conv=>whnf
   refine ⟨_,b,0,Z,0,g,(.aa (.aa (.sk 3 (.aa (.aa (.aa (.aa (.sk 78 .nil rfl))))) rfl))),rfl,rfl,?_⟩;exact ⟨⟨by omega,by decide⟩,Rh hY,hg⟩
  rintro mm aS _ ⟨v,q,Z,c,g,au,rfl,rfl,⟨⟨hv,hc⟩,hI,hg⟩⟩
  obtain ⟨az,rfl⟩:∃ az:Nat→Value,aS=.string s::.string t::zs az 2 3 (.slice (some ⟨0,0,none⟩) n n::.int .i64 i::.int .i64 c::.int .i64 (IntKind.i64.wrap (((v:Nat):Int) - 1))::zs az 9 78 []):=bJ au;clear au;clear hY;conv=>whnf
  refine aI (fun J=>?_) (fun J=>?_)
  ·obtain ⟨k,rfl⟩:∃ k,v=k+1:=by
    rcases Nat.eq_zero_or_pos v with h | h
    ·subst h; exact absurd J (by decide)
    ·exact ⟨v - 1,by omega⟩
   have ek:IntKind.i64.wrap (((k+1:Nat):Int) - 1)=(k:Int):=by rw [ar (by omega) (by omega)]; omega
   rw [ek];obtain ⟨x,hx⟩:∃ x,x=bR (ab s) p:=⟨_,rfl⟩;obtain ⟨y,hy⟩:∃ y,y=bR (ab t) q:=⟨_,rfl⟩;obtain ⟨z,hz⟩:∃ z,z=bR Z (p+q):=⟨_,rfl⟩;obtain ⟨w,hw⟩:∃ w,w=c+(x*y+z):=⟨_,rfl⟩;obtain ⟨r,hr⟩:∃ r,r=i+k+1:=⟨_,rfl⟩;have xb:x < 256:=by rw [hx]; exact qn _ _
   have yb:y < 256:=by rw [hy]; exact qn _ _
   have zb:z < 256:=by rw [hz]; exact qn _ _
   have er:r=n - 1 - (p+q):=by omega
   obtain ⟨Z',ao,aX⟩:=RJ (t:=w) hI hg (by omega) (by omega) (by rw [hw,hx,hy,hz])
   rw [← er] at aX;have pT:=hg r (by omega)
   rw [show n - 1 - r=p+q by omega,← hz] at pT
   have DA:bX s i=x:=by
    have:=tI (s:=s) (j:=p) (by omega)
    rw [show s.size - (p+1)=i by omega,← hx] at this
    exact this
   have Ak:bX t k=y:=by
    have:=tI (s:=t) (j:=q) (by omega)
    rw [show t.size - (q+1)=k by omega,← hy] at this
    exact this
   have vf:=Wj hc xb yb zb hw;obtain ⟨hwC,hw6⟩:=Sx hc xb yb zb hw;have hand:=Wk hw6;have erw:IntKind.i64.wrap (IntKind.i64.wrap ((i:Int)+(k:Int))+1)=(r:Int):=by rw [ar (x:=(i:Int)+(k:Int)) (by omega) (by omega),ar (by omega) (by omega)]; omega
   conv=>whnf
   refine .inl ⟨18,[[],[],[],[],[2,3],[2,3,4],[1,2,3,4,5],[1,2,3,4,5,6],[],[],[8,9],[8,9,10],[],[],[12,13],[12,13,14],[8,9,10,11,12,13,14,15],[1,2,3,4,5,6,7,8,9,10,11,12,13,14,15,16],[0,1,2,3,4,5,6,7,8,9,10,11,12,13,14,15,16,17],[0,1,2,3,4,5,6,7,8,9,10,11,12,13,14,15,16,17,18]],by kernel_rfl,?_⟩
   conv=>whnf
   simp only [erw,toNat_cast];refine ⟨⟨by omega,by omega⟩,?_⟩
   simp only [toNat_cast,ax,Nat.zero_add];conv=>whnf
   refine ⟨by show r < n; omega,?_⟩
   conv=>whnf
   rw [pT];conv=>whnf
   refine ⟨⟨by omega,by omega⟩,?_⟩
   simp only [toNat_cast];conv=>whnf
   rw [DA];refine ⟨⟨by omega,by omega⟩,?_⟩
   simp only [toNat_cast];conv=>whnf
   rw [Ak];simp only [vf,erw];refine ⟨⟨by omega,by omega⟩,?_⟩
   simp only [toNat_cast,ax,Nat.zero_add];conv=>whnf
   refine ⟨by show r < n; omega,?_⟩
   conv=>whnf
   rw [pT];conv=>whnf
   have hwm:w % C < 256:=Nat.mod_lt _ (by decide)
   have ewm:IntKind.i64.wrap ((w % C:Nat):Int)=((w % C:Nat):Int):=by
    obtain ⟨k,hk⟩:∃ k,k=w % C:=⟨_,rfl⟩;rw [← hk] at hwm ⊢;exact ar (by omega) (by omega)
   simp only [c0,hand,ewm];rw [show ((w:Nat):Int) / 256=((w / C:Nat):Int) from rfl]
   refine .inr ⟨[0],[0,1,5,6,7,8],?_⟩;conv=>whnf
   intro _;conv=>whnf
   refine ⟨_,?_,k,q+1,Z',w / C,_,(.aa (.aa (.sk 3 (.aa (.aa (.aa (.aa (.sk 78 .nil rfl))))) rfl))),rfl,rfl,?_⟩
   ·omega
   ·exact ⟨⟨by omega,hwC⟩,ao,aX⟩
  ·have J:v=0:=by
    have:=of_decide_eq_false J;rcases Nat.eq_zero_or_pos v with h | h
    ·exact h
    ·rw [ar (by omega) (by omega)] at this
     omega
   subst J;have hq:q=b:=by omega
   subst hq;obtain ⟨h0,Z',ao,aX⟩:=Sv (n:=n) hI (by rw [hb]; exact gu t) hg (by omega) hc
   have er:i=n - 1 - (p+q):=by omega
   have pT:=hg i (by omega)
   rw [show n - 1 - i=p+q by omega,h0] at pT
   rw [← er] at aX;have ec:IntKind.i64.wrap (((0:Nat):Int)+(c:Int))=(c:Int):=by rw [ar (by omega) (by omega)]; omega
   conv=>whnf
   refine ⟨⟨by omega,by omega⟩,?_⟩
   simp only [toNat_cast,ax,Nat.zero_add];conv=>whnf
   refine ⟨by show i < n; omega,?_⟩
   conv=>whnf
   rw [pT];conv=>whnf
   refine ⟨⟨by omega,by omega⟩,?_⟩
   simp only [toNat_cast,ax,Nat.zero_add];conv=>whnf
   refine ⟨by show i < n; omega,?_⟩
   conv=>whnf
   rw [pT];conv=>whnf
   simp only [ec]
   skip
   refine .inr ⟨[0],[0,1,5,6],?_⟩;conv=>whnf
   intro _;conv=>whnf
   refine ⟨_,?_,i,p+1,Z',_,(.aa (.aa (.sk 3 (.aa (.aa (.sk 80 .nil rfl))) rfl))),rfl,rfl,?_⟩
   ·omega
   ·exact ⟨by omega,ao,aX⟩
 ·have h1:u=0:=by
   have:=of_decide_eq_false h1;rcases Nat.eq_zero_or_pos u with h | h
   ·exact h
   ·rw [ar (by omega) (by omega)] at this
    omega
  subst h1;have rl:p=a:=by omega
  subst rl;have hZ:Z=ab s*ab t:=Sw hY (by rw [ha]; exact gu s)
  have adG:Z < C ^ n:=by rw [hZ,hn,ha,hb]; exact U3
  clear hY;conv=>whnf
  refine ⟨⟨by omega,Int.le_refl _,by show ((n:Nat):Int)*((1:Nat):Int)≤_; omega⟩,?_⟩
  simp only [toNat_cast];conv=>whnf
  refine .inl ⟨fun mm tz hz=>∃ (i:Nat) (e:Nat→List Value),bA (aB 5 (some (.slice (some ⟨0,0,none⟩) n n)::aB 3 (some (.slice (some ⟨1,0,none⟩) n n)::some (.int .i64 i)::aB 76 []))) tz∧hz=[some (.flat true n 1 g),some (.flat true n 1 e)]∧n - i=mm∧(i≤n∧wG e n i Z),.inl ⟨_,0,_,(.sk 5 (.aa (.sk 3 (.aa (.aa (.sk 76 .nil rfl))) rfl)) rfl),rfl,rfl,?_⟩,?_⟩
  ·exact ⟨Nat.zero_le _,QU _ _⟩
  rintro mm aS _ ⟨i,e,au,rfl,rfl,⟨hi,he⟩⟩
  obtain ⟨az,rfl⟩:∃ az:Nat→Value,aS=zs az 0 5 (.slice (some ⟨0,0,none⟩) n n::zs az 6 3 (.slice (some ⟨1,0,none⟩) n n::.int .i64 i::zs az 11 76 [])):=bJ au;clear au;conv=>whnf
  refine aI (fun J=>?_) (fun J=>?_)
  ·have J:i < n:=by
    have:=of_decide_eq_true J;omega
   obtain ⟨z,hz⟩:∃ z,z=bR Z (n - 1 - i):=⟨_,rfl⟩;have zb:z < 256:=by rw [hz]; exact qn _ _
   have pT:=hg i J;rw [← hz] at pT;have ao:=QY he J;rw [← hz] at ao;obtain ⟨x,hx⟩:=he.1 i J;have e7:IntKind.i64.wrap ((i:Int)+1)=((i+1:Nat):Int):=by rw [ar (by omega) (by omega)]; rfl
   conv=>whnf
   refine ⟨⟨by omega,by omega⟩,?_⟩
   simp only [toNat_cast,ax,Nat.zero_add];conv=>whnf
   refine ⟨by show i < n; omega,?_⟩
   conv=>whnf
   rw [pT];conv=>whnf
   refine ⟨⟨by omega,by omega⟩,?_⟩
   simp only [toNat_cast,ax,Nat.zero_add];conv=>whnf
   refine ⟨by show i < n; omega,?_⟩
   conv=>whnf
   rw [hx];conv=>whnf
   simp only [uJ zb,e7];refine .inl ⟨_,?_,i+1,_,(.sk 5 (.aa (.sk 3 (.aa (.aa (.sk 76 .nil rfl))) rfl)) rfl),rfl,rfl,?_⟩
   ·omega
   ·exact ⟨by omega,ao⟩
  ·have J:i=n:=by
    have:=of_decide_eq_false J;omega
   subst J;obtain ⟨v,hv,fp,pS⟩:=Rj he adG;conv=>whnf
   rcases Nat.eq_zero_or_pos i with h0 | h0
   ·subst h0;conv=>whnf
    have e0:v=⟨#[]⟩:=hv.symm;subst e0;refine ⟨⟨#[]⟩,rfl,Nat.zero_le _,?_⟩;conv=>whnf
    show Value.string (nb (ab ⟨#[]⟩))=_
    rw [pS,hZ]
    rfl
   ·obtain ⟨k,rfl⟩:∃ k,i=k+1:=⟨i - 1,by omega⟩
    conv=>whnf
    refine ⟨⟨by show 0+(k+1)≤k+1; omega,fun r hr=>by show ∃ x,e (0+r)=_; rw [Nat.zero_add]; exact he.1 r hr⟩,?_⟩
    rw [show (ah.flat true (k+1) 1 e).row=e from rfl,hv]
    conv=>whnf
    refine ⟨v,rfl,by show v.size≤_; omega,?_⟩
    conv=>whnf
    show Value.string (nb (ab v))=_
    rw [pS,hZ]
    rfl
open Go Go.Ae
def Erf:Env:=En [(191,.p kX),(189,.p wP),(190,.p r6),(180,.p r4)]
theorem abT:EnvOk Tryz.prog Erf:=bI ⟨Bz,Lb,Lc,EJ,trivial⟩ trivial
theorem Ld:bf Tryz.prog 192 p8:=by
 refine bk abT aM Tryz.func192 (enters_of Tryz.func192 (by kernel_rfl) rfl) (fun _=>rfl) (fun _=>rfl) ?_
 intro ⟨s,D⟩ hp;have hp:s.size≤549755813888∧aQ D≤549755813888∧D≠0:=hp;obtain ⟨n,hn⟩:∃ n:Nat,n=s.size:=⟨_,rfl⟩;obtain ⟨b,hb⟩:∃ b,b=nb D:=⟨_,rfl⟩;have ht:=QQ D;rw [← hb] at ht;conv=>whnf
 rw [show nb (s,D).snd=b from hb.symm]
 refine ⟨⟨by decide,by decide⟩,?_⟩
 conv=>whnf
 refine ⟨by decide,?_⟩
 conv=>whnf
 refine .inl ⟨fun mm tz hz=>∃ (i:Nat) (g:Nat→List Value),bA (some (.string s)::aB 5 (some (.pointer (some ⟨0,0,none⟩))::some (.int .i64 ((i+1:Nat):Int))::aB 68 [])) tz∧hz=[some (.flat true 8 1 g)]∧7 - i=mm∧(i≤7∧Bd g (i+1) D),.inr ⟨[0],[0,6,7],?_⟩,?_⟩
 ·conv=>whnf
  intro _;conv=>whnf
  refine ⟨_,0,_,(.aa (.sk 5 (.aa (.aa (.sk 68 .nil rfl))) rfl)),rfl,rfl,?_⟩;exact ⟨by decide,ht⟩
 rintro mm aS _ ⟨i,g,au,rfl,rfl,⟨hi,ht⟩⟩
 obtain ⟨az,rfl⟩:∃ az:Nat→Value,aS=.string s::zs az 1 5 (.pointer (some ⟨0,0,none⟩)::.int .i64 ((i+1:Nat):Int)::zs az 8 68 []):=bJ au;clear au;conv=>whnf
 refine aI (fun h1=>?_) (fun h1=>?_)
 ·have h1:i+1 < 8:=by
   have:=of_decide_eq_true h1;omega
  obtain ⟨x,hx⟩:∃ x,x=nb (2 ^ i*D):=⟨_,rfl⟩;have Je:=ht.2 i (by omega)
  rw [← hx] at Je;have nH:x.size≤549755813889:=by
   rw [hx,gE]; exact Nat.le_trans (E5 (by omega)) (by omega)
  have rE:ab x=2 ^ i*D:=by rw [hx,ia]
  obtain ⟨v,hv⟩:∃ v,v=nb (ab x+ab x):=⟨_,rfl⟩;have ao:=QV (v:=v) ht h1 (by rw [hv,rE])
  obtain ⟨y,hy⟩:=ht.1 (i+1) (by omega)
  have ei:IntKind.i64.wrap (((i+1:Nat):Int) - 1)=(i:Int):=by rw [ar (by omega) (by omega)]; omega
  obtain ⟨j,hj⟩:∃ j,j=i+1:=⟨_,rfl⟩;rw [← hj] at hy ao ei;rw [← hj];have e7:IntKind.i64.wrap ((j:Int)+1)=((j+1:Nat):Int):=by rw [ar (by omega) (by omega)]; rfl
  conv=>whnf
  refine .inl ⟨10,[[],[],[1],[1,2],[1,2,3],[],[5],[5,6],[5,6,7],[1,2,3,4,5,6,7,8],[0,1,2,3,4,5,6,7,8,9],[0,1,2,3,4,5,6,7,8,9,10]],by kernel_rfl,?_⟩
  conv=>whnf
  rw [ei];refine ⟨⟨by omega,by omega⟩,?_⟩
  simp only [toNat_cast,ax,Nat.zero_add];conv=>whnf
  refine ⟨by show i < 8; omega,?_⟩
  conv=>whnf
  rw [Je];conv=>whnf
  rw [ei];refine ⟨⟨by omega,by omega⟩,?_⟩
  simp only [toNat_cast,ax,Nat.zero_add];conv=>whnf
  refine ⟨by show i < 8; omega,?_⟩
  conv=>whnf
  rw [Je];conv=>whnf
  refine ⟨(x,x),rfl,⟨by show x.size≤_; omega,by show x.size≤_; omega⟩,?_⟩
  rw [show wP.val (x,x)=.string v from by rw [hv]; rfl]
  conv=>whnf
  refine ⟨⟨by omega,by omega⟩,?_⟩
  simp only [toNat_cast,ax,Nat.zero_add];conv=>whnf
  refine ⟨by show j < 8; omega,?_⟩
  conv=>whnf
  rw [hy];conv=>whnf
  simp only [e7];refine .inr ⟨[0],[0,6,7],?_⟩;conv=>whnf
  intro _;conv=>whnf
  refine ⟨_,?_,j,_,(.aa (.sk 5 (.aa (.aa (.sk 68 .nil rfl))) rfl)),rfl,rfl,?_⟩
  ·omega
  ·exact ⟨by omega,ao⟩
 ·have h1:i=7:=by
   have:=of_decide_eq_false h1;omega
  subst h1;conv=>whnf
  rw [← hn];refine ⟨⟨by omega,Int.le_refl _,by show ((n:Nat):Int)*((1:Nat):Int)≤_; omega⟩,?_⟩
  simp only [toNat_cast];conv=>whnf
  rw [← oS];refine .inl ⟨fun mm tz hz=>∃ (i:Nat) (Q:Nat) (R:Nat) (e:Nat→List Value),bA (some (.string s)::aB 5 (some (.pointer (some ⟨0,0,none⟩))::aB 1 (some (.slice (some ⟨1,0,none⟩) n n)::some (.string (nb R))::some (.int .i64 i)::aB 65 []))) tz∧hz=[some (.flat true 8 1 g),some (.flat true n 1 e)]∧n - i=mm∧(i≤n∧xd s D i Q R∧za e n i Q),.inr ⟨[0,1],[0,6,8,9,10],?_⟩,?_⟩
  ·conv=>whnf
   intro _;conv=>whnf
   refine ⟨_,0,0,0,_,(.aa (.sk 5 (.aa (.sk 1 (.aa (.aa (.aa (.sk 65 .nil rfl)))) rfl)) rfl)),rfl,rfl,?_⟩;exact ⟨Nat.zero_le _,Rk _ hp.2.2,RM _⟩
  rintro mm aS _ ⟨i,Q,R,e,au,rfl,rfl,⟨hi,hI,he⟩⟩
  obtain ⟨az,rfl⟩:∃ az:Nat→Value,aS=.string s::zs az 1 5 (.pointer (some ⟨0,0,none⟩)::zs az 7 1 (.slice (some ⟨1,0,none⟩) n n::.string (nb R)::.int .i64 i::zs az 11 65 [])):=bJ au;clear au;obtain ⟨x,hx⟩:∃ x,x=nb R:=⟨_,rfl⟩;have nH:x.size≤549755813888:=by
   rw [hx,gE]; exact Nat.le_trans (iO (Nat.le_of_lt hI.lt)) hp.2.1
  rw [← hx];conv=>whnf
  rw [← hn];refine aI (fun J=>?_) (fun J=>?_)
  ·have J:i < n:=by
    have:=of_decide_eq_true J;omega
   have e7:IntKind.i64.wrap ((i:Int)+1)=((i+1:Nat):Int):=by rw [ar (by omega) (by omega)]; rfl
   obtain ⟨y,hy⟩:∃ y,y=s.extract i (i+1):=⟨_,rfl⟩;obtain ⟨pI,q8⟩:=TR R (s:=s) (i:=i) (by omega)
   obtain ⟨R',Qm⟩:∃ R',R'=R*256+bX s i:=⟨_,rfl⟩;have hS:=QZ hI (by omega)
   rw [← Qm] at pI hS;rw [← hy,← hx] at pI q8;have cR:aQ R≤549755813888:=by rw [← gE,← hx]; exact nH
   have Dl:y.size=1:=by
    have:(x++y).size=x.size+y.size:=ByteArray.size_append;have hxR:x.size=aQ R:=by rw [hx,gE]
    omega
   conv=>whnf
   rw [e7];refine ⟨⟨by omega,by omega,by omega⟩,?_⟩
   simp only [toNat_cast];conv=>whnf
   rw [← hy];refine ⟨by omega,?_⟩
   conv=>whnf
   refine ⟨x++y,rfl,by show (x++y).size≤_; omega,?_⟩
   rw [show kX.val (x++y)=.string (nb R') from by rw [← pI]; rfl]
   conv=>whnf
   have hRs:aQ R'≤549755813889:=Nat.le_trans (iO (Nat.le_of_lt hS.lt)) (Nat.le_trans (E5 (Nat.le_refl _)) (by omega))
   refine .inl ⟨fun mm tz hz=>∃ (k:Nat) (d:Nat) (R:Nat),bA (some (.string s)::aB 5 (some (.pointer (some ⟨0,0,none⟩))::aB 1 (some (.slice (some ⟨1,0,none⟩) n n)::some (.string (nb R))::some (.int .i64 i)::some (.int .i64 d)::some (.int .i64 (IntKind.i64.wrap ((k:Int) - 1)))::aB 63 []))) tz∧hz=[some (.flat true 8 1 g),some (.flat true n 1 e)]∧k=mm∧(k≤8∧ua D R' k d R),.inr ⟨[0,1],[0,6,8,9,10,11,12],?_⟩,?_⟩
   ·conv=>whnf
    intro _;conv=>whnf
    refine ⟨_,8,0,R',(.aa (.sk 5 (.aa (.sk 1 (.aa (.aa (.aa (.aa (.aa (.sk 63 .nil rfl)))))) rfl)) rfl)),rfl,rfl,?_⟩;exact ⟨Nat.le_refl _,hS⟩
   rintro mm aS _ ⟨k,d,R,au,rfl,rfl,⟨hk,hS⟩⟩
   obtain ⟨az,rfl⟩:∃ az:Nat→Value,aS=.string s::zs az 1 5 (.pointer (some ⟨0,0,none⟩)::zs az 7 1 (.slice (some ⟨1,0,none⟩) n n::.string (nb R)::.int .i64 i::.int .i64 d::.int .i64 (IntKind.i64.wrap ((k:Int) - 1))::zs az 13 63 [])):=bJ au;clear au;obtain ⟨x,hx⟩:∃ x,x=nb R:=⟨_,rfl⟩;have nH:x.size≤549755813889:=by
    rw [hx,gE];exact Nat.le_trans (iO (by have:=hS.eq; omega)) hRs
   rw [← hx];conv=>whnf
   refine aI (fun h3=>?_) (fun h3=>?_)
   ·obtain ⟨j,rfl⟩:∃ j,k=j+1:=by
     rcases Nat.eq_zero_or_pos k with h | h
     ·subst h; exact absurd h3 (by decide)
     ·exact ⟨k - 1,by omega⟩
    have ek:IntKind.i64.wrap (((j+1:Nat):Int) - 1)=(j:Int):=by rw [ar (by omega) (by omega)]; omega
    rw [ek];obtain ⟨T,hT⟩:∃ T,T=2 ^ j*D:=⟨_,rfl⟩;obtain ⟨y,hy⟩:∃ y,y=nb T:=⟨_,rfl⟩;have Dl:y.size≤549755813889:=by
     rw [hy,hT,gE]; exact Nat.le_trans (E5 (by omega)) (by omega)
    have Jf:=ht.2 j (by omega)
    rw [← hT,← hy] at Jf;obtain ⟨p,rl⟩:∃ p,p=2 ^ j:=⟨_,rfl⟩;have oC:=ac9 (k:=j) (by omega)
    rw [← rl] at oC;have lG:d+p≤256:=by
     have:=hS.d;rw [rl];rw [Nat.pow_succ] at this;omega
    have ed:IntKind.i64.wrap ((d:Int)+(p:Int))=((d+p:Nat):Int):=by rw [ar (by omega) (by omega)]; omega
    conv=>whnf
    refine ⟨⟨by omega,by omega⟩,?_⟩
    simp only [toNat_cast,ax,Nat.zero_add];conv=>whnf
    refine ⟨by show j < 8; omega,?_⟩
    conv=>whnf
    rw [Jf];conv=>whnf
    refine ⟨(R,T),by rw [hx,hy]; rfl,⟨by rw [← gE,← hx]; omega,by show aQ T≤_; rw [← gE,← hy]; omega⟩,?_⟩
    obtain ⟨c,hc⟩:∃ c,c=cM R T:=⟨_,rfl⟩;rw [show r4.val (R,T)=.int .i64 c from by rw [hc]; rfl]
    conv=>whnf
    refine aI (fun h4=>?_) (fun h4=>?_)
    ·have h4:T≤R:=by
      have:=of_decide_eq_true h4;rw [hc] at this;unfold cM at this
      split at this
      ·omega
      ·omega
     have ao:=RK hS (by rw [← hT]; exact h4)
     rw [← hT,← rl] at ao;conv=>whnf
     refine ⟨⟨by omega,by omega⟩,?_⟩
     simp only [toNat_cast,ax,Nat.zero_add];conv=>whnf
     refine ⟨by show j < 8; omega,?_⟩
     conv=>whnf
     rw [Jf];conv=>whnf
     refine ⟨(x,y),rfl,⟨⟨by show x.size≤_; omega,by show y.size≤_; omega⟩,by show ab y≤ab x; rw [hx,hy,ia,ia]; exact h4⟩,?_⟩
     rw [show r6.val (x,y)=.string (nb (R - T)) from by show Value.string (nb (ab x - ab y))=_; rw [hx,hy,ia,ia]]
     conv=>whnf
     simp only [oC,ed];refine .inr ⟨[0,1],[0,6,8,9,10,11,12],?_⟩;conv=>whnf
     intro _;conv=>whnf
     refine ⟨_,?_,j,d+p,R - T,(.aa (.sk 5 (.aa (.sk 1 (.aa (.aa (.aa (.aa (.aa (.sk 63 .nil rfl)))))) rfl)) rfl)),rfl,rfl,?_⟩
     ·omega
     ·exact ⟨by omega,ao⟩
    ·have h4:R < T:=by
      have:=of_decide_eq_false h4;rw [hc] at this;unfold cM at this
      split at this
      ·assumption
      ·split at this <;> omega
     have ao:=Sy hS (by rw [← hT]; exact h4)
     conv=>whnf
     rw [hx];refine .inr ⟨[0,1],[0,6,8,9,10,11,12],?_⟩;conv=>whnf
     intro _;conv=>whnf
     refine ⟨_,?_,j,d,R,(.aa (.sk 5 (.aa (.sk 1 (.aa (.aa (.aa (.aa (.aa (.sk 63 .nil rfl)))))) rfl)) rfl)),rfl,rfl,?_⟩
     ·omega
     ·exact ⟨by omega,ao⟩
   ·have h3:k=0:=by
     have:=of_decide_eq_false h3;rcases Nat.eq_zero_or_pos k with h | h
     ·exact h
     ·rw [ar (by omega) (by omega)] at this
      omega
    subst h3;have hd:d < 256:=by have:=hS.d; omega
    have ao:=RL hI (by omega) (by rw [← Qm]; exact hS)
    have aX:=SA he J hd;obtain ⟨y,hy⟩:=he.1 i J;conv=>whnf
    refine ⟨⟨by omega,by omega⟩,?_⟩
    simp only [toNat_cast,ax,Nat.zero_add];conv=>whnf
    refine ⟨by show i < n; omega,?_⟩
    conv=>whnf
    rw [hy];conv=>whnf
    simp only [uJ hd,e7];rw [hx]
    skip
    refine .inr ⟨[0,1],[0,6,8,9,10],?_⟩;conv=>whnf
    intro _;conv=>whnf
    refine ⟨_,?_,i+1,Q*256+d,R,_,(.aa (.sk 5 (.aa (.sk 1 (.aa (.aa (.aa (.sk 65 .nil rfl)))) rfl)) rfl)),rfl,rfl,?_⟩
    ·omega
    ·exact ⟨by omega,ao,aX⟩
  ·have J:i=n:=by
    have:=of_decide_eq_false J;omega
   subst J;obtain ⟨hQ,hR⟩:=Sz (by rw [← hn]; exact hI)
   obtain ⟨v,hv,fp,pS⟩:=TS he hI.q;conv=>whnf
   have fin:Value.tuple ⟨[.string (nb Q),.string x]⟩=p8.val (s,D):=by rw [hx,hQ,hR]; rfl
   rcases Nat.eq_zero_or_pos i with h0 | h0
   ·subst h0;conv=>whnf
    have e0:v=⟨#[]⟩:=hv.symm;subst e0;refine ⟨⟨#[]⟩,rfl,Nat.zero_le _,?_⟩;rw [show kX.val ⟨#[]⟩=.string (nb Q) from by show Value.string (nb (ab ⟨#[]⟩))=_; rw [pS]]
    conv=>whnf
    exact fin
   ·obtain ⟨k,rfl⟩:∃ k,i=k+1:=⟨i - 1,by omega⟩
    conv=>whnf
    refine ⟨⟨by show 0+(k+1)≤k+1; omega,fun r hr=>by show ∃ x,e (0+r)=_; rw [Nat.zero_add]; exact he.1 r hr⟩,?_⟩
    rw [show (ah.flat true (k+1) 1 e).row=e from rfl,hv]
    conv=>whnf
    refine ⟨v,rfl,by show v.size≤_; omega,?_⟩
    rw [show kX.val v=.string (nb Q) from by show Value.string (nb (ab v))=_; rw [pS]]
    conv=>whnf
    exact fin
open Go Go.Ae
def Erg:Env:=En [(179,.p jm),(181,.p xc),(155,.p eT),(189,.p wP),(190,.p r6),(180,.p r4),(182,.p Gc)]
theorem OC:EnvOk Tryz.prog Erg:=bI ⟨Fh,Ui,yS,Lb,Lc,EJ,S7,trivial⟩ trivial
theorem Gr:bf Tryz.prog 173 iW:=by
 refine bk OC aM Tryz.func173 (enters_of Tryz.func173 (by kernel_rfl) rfl) (fun _=>rfl) (fun _=>rfl) ?_
 intro ⟨⟨b,s⟩,⟨c,t⟩⟩ hp;have hp:s.size≤549755813888∧t.size≤549755813888:=hp;obtain ⟨x,hx⟩:∃ x,x=IV.z (b,s):=⟨_,rfl⟩;obtain ⟨y,hy⟩:∃ y,y=IV.z (c,t):=⟨_,rfl⟩;have rE:aQ x.natAbs≤549755813888:=by rw [hx]; exact IV.aQ (i:=(b,s)) hp.1
 have xW:aQ y.natAbs≤549755813888:=by rw [hy]; exact IV.aQ (i:=(c,t)) hp.2
 obtain ⟨B,m,hE⟩:=EI.mk' x;obtain ⟨D,k,hF⟩:=EI.mk' y;have rk:=hE.size;have jB:=hF.size;have ec:jm.val (b,s)=.agg ⟨[.bool B,.string m]⟩:=by show aD (IV.z (b,s))=_; rw [← hx,hE.enc]
 have ed:jm.val (c,t)=.agg ⟨[.bool D,.string k]⟩:=by show aD (IV.z (c,t))=_; rw [← hy,hF.enc]
 have fin:∀ v:Value,v=aD (x+y)→v=iW.val ((b,s),(c,t)):=fun v h=>by rw [h,hx,hy]; rfl
 conv=>whnf
 refine .inl ⟨3,[[],[0],[],[0,1,2],[0,1,2,3],[0,1,2,3,4]],by kernel_rfl,?_⟩
 conv=>whnf
 refine ⟨(b,s),rfl,hp.1,?_⟩;rw [ec];conv=>whnf
 refine ⟨(c,t),rfl,hp.2,?_⟩;rw [ed];conv=>whnf
 by_cases h1:m.size < 8
 ·rw [show decide (((m.size:Nat):Int) < 8)=true from decide_eq_true (by omega)]
  conv=>whnf
  by_cases J:k.size < 8
  ·rw [show decide (((k.size:Nat):Int) < 8)=true from decide_eq_true (by omega)]
   conv=>whnf
   refine .inl ⟨3,[[],[0],[],[0,1,2],[0,1,2,3],[0,1,2,3,4],[0,1,2,3,4,5]],by kernel_rfl,?_⟩
   conv=>whnf
   refine ⟨(B,m),rfl,by show m.size≤7; omega,?_⟩
   rw [show xc.val (B,m)=.int .i64 x from by show Value.int .i64 (IV.z (B,m))=_; rw [hE.val]]
   conv=>whnf
   refine ⟨(D,k),rfl,by show k.size≤7; omega,?_⟩
   rw [show xc.val (D,k)=.int .i64 y from by show Value.int .i64 (IV.z (D,k))=_; rw [hF.val]]
   conv=>whnf
   have z1:=hE.small (by omega)
   have z2:=hF.small (by omega)
   rw [show IntKind.i64.wrap (x+y)=x+y from ar (by omega) (by omega)]
   refine ⟨x+y,rfl,⟨by omega,by omega⟩,?_⟩
   conv=>whnf
   exact fin _ rfl
  ·rw [show decide (((k.size:Nat):Int) < 8)=false from decide_eq_false (by omega)]
   conv=>whnf
   refine aI (fun h3=>?_) (fun h3=>?_)
   ·have h3:B=D:=eq_of_beq h3;have e:=hE.same hF h3;obtain ⟨v,hv⟩:∃ v,v=nb (ab m+ab k):=⟨_,rfl⟩;rw [← hv] at e;conv=>whnf
    refine .inl ⟨7,[[],[0],[],[2],[],[4],[2,3,4,5],[0,1,2,3,4,5,6],[0,1,2,3,4,5,6,7]],by kernel_rfl,?_⟩
    conv=>whnf
    refine ⟨(m,k),rfl,⟨by show m.size≤_; omega,by show k.size≤_; omega⟩,?_⟩
    rw [show wP.val (m,k)=.string v from by rw [hv]; rfl]
    conv=>whnf
    exact fin _ e
   ·have h3:B≠D:=by
     intro e;subst e;cases B <;> cases h3
    obtain ⟨q,hq⟩:∃ q,q=cM (ab m) (ab k):=⟨_,rfl⟩;conv=>whnf
    refine ⟨(ab m,ab k),by show [Value.string (nb (ab m)),Value.string (nb (ab k))]=[Value.string m,Value.string k]; rw [← hE.eta,← hF.eta],⟨by show aQ (ab m)≤_; exact Nat.le_trans (jg _) (by omega),by show aQ (ab k)≤_; exact Nat.le_trans (jg _) (by omega)⟩,?_⟩
    rw [show r4.val (ab m,ab k)=.int .i64 q from by rw [hq]; rfl]
    conv=>whnf
    refine aI (fun h4=>?_) (fun h4=>?_)
    ·have h4:ab k=ab m:=by
      have h4:q=0:=by simpa using h4
      rw [hq] at h4;unfold cM at h4
      split at h4
      ·omega
      ·split at h4 <;> omega
     have e:=hE.equal hF h3 h4;conv=>whnf
     exact fin _ (by rw [e]; exact wk.symm)
    ·have rh:ab k≠ab m:=by
      intro h5;have h6:q=0:=by rw [hq,h5]; unfold cM; simp
      subst h6;simp at h4
     conv=>whnf
     refine aI (fun h5=>?_) (fun h5=>?_)
     ·have h5:ab k < ab m:=by
       have h5:=of_decide_eq_true h5;rw [hq] at h5;unfold cM at h5
       split at h5
       ·omega
       ·split at h5 <;> omega
      have e:=hE.differ hF h3 h5;obtain ⟨v,hv⟩:∃ v,v=nb (ab m - ab k):=⟨_,rfl⟩;rw [← hv] at e;conv=>whnf
      refine .inl ⟨7,[[],[0],[],[2],[],[4],[2,3,4,5],[0,1,2,3,4,5,6],[0,1,2,3,4,5,6,7]],by kernel_rfl,?_⟩
      conv=>whnf
      refine ⟨(m,k),rfl,⟨⟨by show m.size≤_; omega,by show k.size≤_; omega⟩,Nat.le_of_lt h5⟩,?_⟩
      rw [show r6.val (m,k)=.string v from by rw [hv]; rfl]
      conv=>whnf
      exact fin _ e
     ·have h5:ab m < ab k:=by
       have h5:=of_decide_eq_false h5;rw [hq] at h5;unfold cM at h5
       split at h5
       ·omega
       ·split at h5 <;> omega
      have e:=hF.differ hE (Ne.symm h3) h5;rw [Int.add_comm] at e;obtain ⟨v,hv⟩:∃ v,v=nb (ab k - ab m):=⟨_,rfl⟩;rw [← hv] at e;conv=>whnf
      refine .inl ⟨7,[[],[0],[],[2],[],[4],[2,3,4,5],[0,1,2,3,4,5,6],[0,1,2,3,4,5,6,7]],by kernel_rfl,?_⟩
      conv=>whnf
      refine ⟨(k,m),rfl,⟨⟨by show k.size≤_; omega,by show m.size≤_; omega⟩,Nat.le_of_lt h5⟩,?_⟩
      rw [show r6.val (k,m)=.string v from by rw [hv]; rfl]
      conv=>whnf
      exact fin _ e
 ·rw [show decide (((m.size:Nat):Int) < 8)=false from decide_eq_false (by omega)]
  conv=>whnf
  refine aI (fun h3=>?_) (fun h3=>?_)
  ·have h3:B=D:=eq_of_beq h3;have e:=hE.same hF h3;obtain ⟨v,hv⟩:∃ v,v=nb (ab m+ab k):=⟨_,rfl⟩;rw [← hv] at e;conv=>whnf
   refine .inl ⟨7,[[],[0],[],[2],[],[4],[2,3,4,5],[0,1,2,3,4,5,6],[0,1,2,3,4,5,6,7]],by kernel_rfl,?_⟩
   conv=>whnf
   refine ⟨(m,k),rfl,⟨by show m.size≤_; omega,by show k.size≤_; omega⟩,?_⟩
   rw [show wP.val (m,k)=.string v from by rw [hv]; rfl]
   conv=>whnf
   exact fin _ e
  ·have h3:B≠D:=by
    intro e;subst e;cases B <;> cases h3
   obtain ⟨q,hq⟩:∃ q,q=cM (ab m) (ab k):=⟨_,rfl⟩;conv=>whnf
   refine ⟨(ab m,ab k),by show [Value.string (nb (ab m)),Value.string (nb (ab k))]=[Value.string m,Value.string k]; rw [← hE.eta,← hF.eta],⟨by show aQ (ab m)≤_; exact Nat.le_trans (jg _) (by omega),by show aQ (ab k)≤_; exact Nat.le_trans (jg _) (by omega)⟩,?_⟩
   rw [show r4.val (ab m,ab k)=.int .i64 q from by rw [hq]; rfl]
   conv=>whnf
   refine aI (fun h4=>?_) (fun h4=>?_)
   ·have h4:ab k=ab m:=by
     have h4:q=0:=by simpa using h4
     rw [hq] at h4;unfold cM at h4
     split at h4
     ·omega
     ·split at h4 <;> omega
    have e:=hE.equal hF h3 h4;conv=>whnf
    exact fin _ (by rw [e]; exact wk.symm)
   ·have rh:ab k≠ab m:=by
     intro h5;have h6:q=0:=by rw [hq,h5]; unfold cM; simp
     subst h6;simp at h4
    conv=>whnf
    refine aI (fun h5=>?_) (fun h5=>?_)
    ·have h5:ab k < ab m:=by
      have h5:=of_decide_eq_true h5;rw [hq] at h5;unfold cM at h5
      split at h5
      ·omega
      ·split at h5 <;> omega
     have e:=hE.differ hF h3 h5;obtain ⟨v,hv⟩:∃ v,v=nb (ab m - ab k):=⟨_,rfl⟩;rw [← hv] at e;conv=>whnf
     refine .inl ⟨7,[[],[0],[],[2],[],[4],[2,3,4,5],[0,1,2,3,4,5,6],[0,1,2,3,4,5,6,7]],by kernel_rfl,?_⟩
     conv=>whnf
     refine ⟨(m,k),rfl,⟨⟨by show m.size≤_; omega,by show k.size≤_; omega⟩,Nat.le_of_lt h5⟩,?_⟩
     rw [show r6.val (m,k)=.string v from by rw [hv]; rfl]
     conv=>whnf
     exact fin _ e
    ·have h5:ab m < ab k:=by
      have h5:=of_decide_eq_false h5;rw [hq] at h5;unfold cM at h5
      split at h5
      ·omega
      ·split at h5 <;> omega
     have e:=hF.differ hE (Ne.symm h3) h5;rw [Int.add_comm] at e;obtain ⟨v,hv⟩:∃ v,v=nb (ab k - ab m):=⟨_,rfl⟩;rw [← hv] at e;conv=>whnf
     refine .inl ⟨7,[[],[0],[],[2],[],[4],[2,3,4,5],[0,1,2,3,4,5,6],[0,1,2,3,4,5,6,7]],by kernel_rfl,?_⟩
     conv=>whnf
     refine ⟨(k,m),rfl,⟨⟨by show k.size≤_; omega,by show m.size≤_; omega⟩,Nat.le_of_lt h5⟩,?_⟩
     rw [show r6.val (k,m)=.string v from by rw [hv]; rfl]
     conv=>whnf
     exact fin _ e
def Erh:Env:=En [(174,.p gR),(173,.p iW)]
theorem abU:EnvOk Tryz.prog Erh:=bI ⟨Gq,Gr,trivial⟩ trivial
theorem Yp:bf Tryz.prog 194 mJ:=by
 refine bk abU aM Tryz.func194 (enters_of Tryz.func194 (by kernel_rfl) rfl) (fun _=>rfl) (fun _=>rfl) ?_
 intro ⟨⟨b,s⟩,⟨c,t⟩⟩ hp;have hp:s.size≤549755813888∧t.size≤549755813888:=hp;obtain ⟨y,hy⟩:∃ y,y=IV.z (c,t):=⟨_,rfl⟩;have xW:aQ y.natAbs≤549755813888:=by rw [hy]; exact IV.aQ (i:=(c,t)) hp.2
 obtain ⟨D,k,hF⟩:=EI.mk' (-y);have jB:=hF.size;rw [Int.natAbs_neg] at jB;conv=>whnf
 refine .inl ⟨3,[[],[],[1],[0,1,2],[0,1,2,3]],by kernel_rfl,?_⟩
 conv=>whnf
 refine ⟨(c,t),rfl,hp.2,?_⟩;rw [show gR.val (c,t)=.agg ⟨[.bool D,.string k]⟩ from by show aD (-IV.z (c,t))=_; rw [← hy,hF.enc]]
 conv=>whnf
 refine ⟨((b,s),(D,k)),rfl,⟨hp.1,by show k.size≤_; omega⟩,?_⟩
 obtain ⟨V,n,hG⟩:=EI.mk' (IV.z (b,s)+-y);rw [show iW.val ((b,s),(D,k))=.agg ⟨[.bool V,.string n]⟩ from by show aD (IV.z (b,s)+IV.z (D,k))=_; rw [hF.val,hG.enc]]
 conv=>whnf
 rw [show mJ.val ((b,s),(c,t))=.agg ⟨[.bool V,.string n]⟩ from by show aD (IV.z (b,s) - IV.z (c,t))=_; rw [← hy,Int.sub_eq_add_neg,hG.enc]]
 rfl
theorem Yq:bf Tryz.prog 160 fg:=by
 refine bk OC aM Tryz.func160 (enters_of Tryz.func160 (by kernel_rfl) rfl) (fun _=>rfl) (fun _=>rfl) ?_
 intro ⟨⟨b,s⟩,⟨c,t⟩⟩ hp;have hp:s.size≤549755813888∧t.size≤549755813888:=hp;obtain ⟨x,hx⟩:∃ x,x=IV.z (b,s):=⟨_,rfl⟩;obtain ⟨y,hy⟩:∃ y,y=IV.z (c,t):=⟨_,rfl⟩;have rE:aQ x.natAbs≤549755813888:=by rw [hx]; exact IV.aQ (i:=(b,s)) hp.1
 have xW:aQ y.natAbs≤549755813888:=by rw [hy]; exact IV.aQ (i:=(c,t)) hp.2
 obtain ⟨B,m,hE⟩:=EI.mk' x;obtain ⟨D,k,hF⟩:=EI.mk' y;have rk:=hE.size;have jB:=hF.size;have ec:jm.val (b,s)=.agg ⟨[.bool B,.string m]⟩:=by show aD (IV.z (b,s))=_; rw [← hx,hE.enc]
 have ed:jm.val (c,t)=.agg ⟨[.bool D,.string k]⟩:=by show aD (IV.z (c,t))=_; rw [← hy,hF.enc]
 have fin:∀ v:Value,v=aD (x*y)→v=fg.val ((b,s),(c,t)):=fun v h=>by rw [h,hx,hy]; rfl
 have ew:IntKind.i64.wrap (((m.size:Nat):Int)+((k.size:Nat):Int))=((m.size+k.size:Nat):Int):=by rw [ar (by omega) (by omega)]; omega
 conv=>whnf
 refine .inl ⟨3,[[],[0],[],[0,1,2],[0,1,2,3],[0,1,2,3,4]],by kernel_rfl,?_⟩
 conv=>whnf
 refine ⟨(b,s),rfl,hp.1,?_⟩;rw [ec];conv=>whnf
 refine ⟨(c,t),rfl,hp.2,?_⟩;rw [ed];conv=>whnf
 by_cases h1:x=0
 ·rw [show (m.toList == (⟨#[]⟩:ByteArray).toList)=true from by rw [hE.nil,decide_eq_true h1]]
  conv=>whnf
  exact fin _ (by rw [h1,Int.zero_mul]; exact wk.symm)
 ·rw [show (m.toList == (⟨#[]⟩:ByteArray).toList)=false from by rw [hE.nil,decide_eq_false h1]]
  conv=>whnf
  by_cases J:y=0
  ·rw [show (k.toList == (⟨#[]⟩:ByteArray).toList)=true from by rw [hF.nil,decide_eq_true J]]
   conv=>whnf
   exact fin _ (by rw [J,Int.mul_zero]; exact wk.symm)
  ·rw [show (k.toList == (⟨#[]⟩:ByteArray).toList)=false from by rw [hF.nil,decide_eq_false J]]
   conv=>whnf
   by_cases h3:m.size+k.size < 8
   ·refine m8 ?_ ?_
    ·exact decide_eq_true (by rw [ew]; omega)
    conv=>whnf
    refine .inl ⟨3,[[],[0],[],[0,1,2],[0,1,2,3],[0,1,2,3,4],[0,1,2,3,4,5]],by kernel_rfl,?_⟩
    conv=>whnf
    refine ⟨(B,m),rfl,by show m.size≤7; omega,?_⟩
    rw [show xc.val (B,m)=.int .i64 x from by show Value.int .i64 (IV.z (B,m))=_; rw [hE.val]]
    conv=>whnf
    refine ⟨(D,k),rfl,by show k.size≤7; omega,?_⟩
    rw [show xc.val (D,k)=.int .i64 y from by show Value.int .i64 (IV.z (D,k))=_; rw [hF.val]]
    conv=>whnf
    have hb:=Q0 (x:=x) (y:=y) (by omega)
    obtain ⟨w,hw⟩:∃ w,w=x*y:=⟨_,rfl⟩;rw [← hw] at hb;rw [show IntKind.i64.wrap (x*y)=w from by rw [← hw]; exact ar hb.1 hb.2]
    refine ⟨w,rfl,hb,?_⟩;obtain ⟨V,n,hG⟩:=EI.mk' w;rw [show eT.val w=.agg ⟨[.bool V,.string n]⟩ from hG.enc]
    conv=>whnf
    exact fin _ (by rw [← hw,hG.enc]; rfl)
   ·refine aI (fun h=>absurd (of_decide_eq_true h) (by rw [ew]; omega)) (fun _=>?_)
    obtain ⟨v,hv⟩:∃ v,v=nb (ab m*ab k):=⟨_,rfl⟩;have e:=hE.mul hF h1 J;rw [← hv] at e;conv=>whnf
    refine .inl ⟨10,[[],[0],[],[2],[0,1,2,3],[],[5],[],[7],[5,6,7,8],[0,1,2,3,4,5,6,7,8,9],[0,1,2,3,4,5,6,7,8,9,10]],by kernel_rfl,?_⟩
    conv=>whnf
    refine ⟨(m,k),rfl,⟨by show m.size≤_; omega,by show k.size≤_; omega⟩,?_⟩
    rw [show Gc.val (m,k)=.string v from by rw [hv]; rfl]
    conv=>whnf
    exact fin _ e
open Go Go.Ae
def Eri:Env:=En [(191,.p kX),(193,.p km),(155,.p eT),(192,.p p8)]
theorem abV:EnvOk Tryz.prog Eri:=bI ⟨Bz,Fi,yS,Ld,trivial⟩ trivial
theorem Yr:bf Tryz.prog 175 uX:=by
 refine bk abV aM Tryz.func175 (enters_of Tryz.func175 (by kernel_rfl) rfl) (fun _=>rfl) (fun _=>rfl) ?_
 intro ⟨⟨b,s⟩,⟨c,t⟩⟩ hp;have hp:s.size≤549755813888∧t.size≤549755813888:=hp;have hA:=jg s;have hD:=jg t;obtain ⟨G,hG⟩:∃ G,G=Nat.gcd (ab s) (ab t):=⟨_,rfl⟩;have fin:∀ v:Value,v=aD ((G:Nat):Int)→v=uX.val ((b,s),(c,t)):=fun v h=>by
  rw [h,hG];show _=aD ((Int.gcd (IV.z (b,s)) (IV.z (c,t)):Nat):Int)
  unfold Int.gcd IV.z;rw [tU,tU]
 conv=>whnf
 refine .inl ⟨5,[[],[0],[0,1],[],[3],[0,1,2,3,4],[0,1,2,3,4,5],[0,1,2,3,4,5,6]],by kernel_rfl,?_⟩
 conv=>whnf
 refine ⟨s,rfl,by show s.size≤_; omega,?_⟩
 conv=>whnf
 refine ⟨t,rfl,by show t.size≤_; omega,?_⟩
 conv=>whnf
 refine .inl ⟨fun mm tz hz=>∃ (A:Nat) (D:Nat),bA (aB 4 (some (.pointer (some ⟨0,0,none⟩))::some (.string (nb A))::some (.string (nb D))::aB 46 [])) tz∧hz=[some (.aL true 2 [[.bool false,.string ⟨#[]⟩]])]∧D=mm∧((aQ A≤549755813888∧aQ D≤549755813888)∧Nat.gcd A D=G),.inr ⟨[2],[4,5,6],?_⟩,?_⟩
 ·conv=>whnf
  intro _;conv=>whnf
  refine ⟨_,ab s,ab t,(.sk 4 (.aa (.aa (.aa (.sk 46 .nil rfl)))) rfl),rfl,rfl,?_⟩;exact ⟨⟨by omega,by omega⟩,hG.symm⟩
 rintro mm aS _ ⟨A,D,au,rfl,rfl,⟨cD,hg⟩⟩
 obtain ⟨az,rfl⟩:∃ az:Nat→Value,aS=zs az 0 4 (.pointer (some ⟨0,0,none⟩)::.string (nb A)::.string (nb D)::zs az 7 46 []):=bJ au;clear au;obtain ⟨x,hx⟩:∃ x,x=nb A:=⟨_,rfl⟩;obtain ⟨y,hy⟩:∃ y,y=nb D:=⟨_,rfl⟩;have nH:x.size=aQ A:=by rw [hx,gE]
 have Dl:y.size=aQ D:=by rw [hy,gE]
 have rE:ab x=A:=by rw [hx,ia]
 have xW:ab y=D:=by rw [hy,ia]
 rw [← hx,← hy];conv=>whnf
 by_cases h1:D=0
 ·rw [show (!y.toList == (⟨#[]⟩:ByteArray).toList)=false from by rw [hy]; exact wF h1]
  conv=>whnf
  rw [show (y.toList == (⟨#[]⟩:ByteArray).toList)=true from by
   have:=wF h1;rw [← hy] at this
   simpa using this]
  conv=>whnf
  rw [h1,Nat.gcd_zero_right] at hg;exact fin _ (by rw [hx,← hg]; exact wQ (decide_eq_false (by omega)).symm (by omega))
 ·rw [show (!y.toList == (⟨#[]⟩:ByteArray).toList)=true from by rw [hy]; exact wN h1]
  conv=>whnf
  by_cases J:x.size > 7
  ·rw [show decide (((x.size:Nat):Int) > 7)=true from decide_eq_true (by omega)]
   conv=>whnf
   obtain ⟨q,hq⟩:∃ q,q=nb (A / D):=⟨_,rfl⟩;obtain ⟨r,hr⟩:∃ r,r=nb (A % D):=⟨_,rfl⟩;refine ⟨(x,D),by rw [hy]; rfl,⟨by show x.size≤_; omega,by show aQ D≤_; omega,h1⟩,?_⟩
   rw [show p8.val (x,D)=.tuple ⟨[.string q,.string r]⟩ from by show Value.tuple ⟨[.string (nb (ab x / D)),.string (nb (ab x % D))]⟩=_; rw [rE,hq,hr]]
   conv=>whnf
   rw [hy,hr];have lH:aQ (A % D)≤aQ D:=iO (Nat.le_of_lt (Nat.mod_lt _ (by omega)))
   refine .inr ⟨[0],[4,5,6],?_⟩;conv=>whnf
   intro _;conv=>whnf
   refine ⟨_,?_,D,A % D,(.sk 4 (.aa (.aa (.aa (.sk 46 .nil rfl)))) rfl),rfl,rfl,?_⟩
   ·exact Nat.mod_lt _ (by omega)
   ·exact ⟨⟨cD.2,by omega⟩,by rw [Nat.gcd_comm,← Nat.gcd_rec,Nat.gcd_comm]; exact hg⟩
  ·rw [show decide (((x.size:Nat):Int) > 7)=false from decide_eq_false (by omega)]
   conv=>whnf
   by_cases h3:y.size > 7
   ·rw [show decide (((y.size:Nat):Int) > 7)=true from decide_eq_true (by omega)]
    conv=>whnf
    obtain ⟨q,hq⟩:∃ q,q=nb (A / D):=⟨_,rfl⟩;obtain ⟨r,hr⟩:∃ r,r=nb (A % D):=⟨_,rfl⟩;refine ⟨(x,D),by rw [hy]; rfl,⟨by show x.size≤_; omega,by show aQ D≤_; omega,h1⟩,?_⟩
    rw [show p8.val (x,D)=.tuple ⟨[.string q,.string r]⟩ from by show Value.tuple ⟨[.string (nb (ab x / D)),.string (nb (ab x % D))]⟩=_; rw [rE,hq,hr]]
    conv=>whnf
    rw [hy,hr];have lH:aQ (A % D)≤aQ D:=iO (Nat.le_of_lt (Nat.mod_lt _ (by omega)))
    refine .inr ⟨[0],[4,5,6],?_⟩;conv=>whnf
    intro _;conv=>whnf
    refine ⟨_,?_,D,A % D,(.sk 4 (.aa (.aa (.aa (.sk 46 .nil rfl)))) rfl),rfl,rfl,?_⟩
    ·exact Nat.mod_lt _ (by omega)
    ·exact ⟨⟨cD.2,by omega⟩,by rw [Nat.gcd_comm,← Nat.gcd_rec,Nat.gcd_comm]; exact hg⟩
   ·rw [show decide (((y.size:Nat):Int) > 7)=false from decide_eq_false (by omega)]
    conv=>whnf
    rw [show (y.toList == (⟨#[]⟩:ByteArray).toList)=false from by
     have:=wN h1;rw [← hy] at this
     simpa using this]
    conv=>whnf
    refine ⟨x,rfl,by show x.size≤7; omega,?_⟩
    rw [show km.val x=.int .i64 A from by show Value.int .i64 (ab x:Nat)=_; rw [rE]]
    conv=>whnf
    refine ⟨y,rfl,by show y.size≤7; omega,?_⟩
    rw [show km.val y=.int .i64 D from by show Value.int .i64 (ab y:Nat)=_; rw [xW]]
    conv=>whnf
    have lA:A < 72057594037927936:=Nat.lt_of_lt_of_le (lL A) (ob (by omega))
    have lD:D < 72057594037927936:=Nat.lt_of_lt_of_le (lL D) (ob (by omega))
    refine .inl ⟨fun mm tz hz=>∃ (m:Nat) (n:Nat),bA (aB 4 (some (.pointer (some ⟨0,0,none⟩))::aB 4 (some (.int .i64 m)::some (.int .i64 n)::aB 42 []))) tz∧hz=[some (.aL true 2 [[.bool false,.string ⟨#[]⟩]])]∧n=mm∧((m < 72057594037927936∧n < 72057594037927936)∧Nat.gcd m n=G),.inr ⟨[0],[4,9,10],?_⟩,?_⟩
    ·conv=>whnf
     intro _;conv=>whnf
     refine ⟨_,A,D,(.sk 4 (.aa (.sk 4 (.aa (.aa (.sk 42 .nil rfl))) rfl)) rfl),rfl,rfl,?_⟩;exact ⟨⟨lA,lD⟩,hg⟩
    rintro mm aS _ ⟨m,n,au,rfl,rfl,⟨hmn,xX⟩⟩
    obtain ⟨az,rfl⟩:∃ az:Nat→Value,aS=zs az 0 4 (.pointer (some ⟨0,0,none⟩)::zs az 5 4 (.int .i64 m::.int .i64 n::zs az 11 42 [])):=bJ au;clear au;conv=>whnf
    refine aI (fun h4=>?_) (fun h4=>?_)
    ·have h4:0 < n:=by
      have:=of_decide_eq_true h4;omega
     have ak:=Nat.mod_lt m h4;conv=>whnf
     refine .inl ⟨5,[[],[],[],[1,2],[0,1],[0,1,2,3,4]],by kernel_rfl,?_⟩
     conv=>whnf
     rw [show decide (((n:Nat):Int)≠0)=true from decide_eq_true (by omega)]
     conv=>whnf
     rw [show Int.tmod ((m:Nat):Int) ((n:Nat):Int)=((m % n:Nat):Int) from rfl]
     refine .inr ⟨[0],[4,9,10],?_⟩;conv=>whnf
     intro _;conv=>whnf
     refine ⟨_,?_,n,m % n,(.sk 4 (.aa (.sk 4 (.aa (.aa (.sk 42 .nil rfl))) rfl)) rfl),rfl,rfl,?_⟩
     ·exact ak
     ·exact ⟨⟨hmn.2,by omega⟩,by rw [Nat.gcd_comm,← Nat.gcd_rec,Nat.gcd_comm]; exact xX⟩
    ·have h4:n=0:=by
      have:=of_decide_eq_false h4;omega
     subst h4;rw [Nat.gcd_zero_right] at xX;conv=>whnf
     refine ⟨((m:Nat):Int),rfl,⟨by omega,by omega⟩,?_⟩
     obtain ⟨V,n,hV⟩:=EI.mk' ((m:Nat):Int);rw [show eT.val ((m:Nat):Int)=.agg ⟨[.bool V,.string n]⟩ from hV.enc]
     conv=>whnf
     exact fin _ (by rw [← xX,hV.enc]; rfl)
def Erj:Env:=En [(179,.p jm),(193,.p km),(155,.p eT),(192,.p p8),(174,.p gR),(194,.p mJ)]
theorem abW:EnvOk Tryz.prog Erj:=bI ⟨Fh,Fi,yS,Ld,Gq,Yp,trivial⟩ trivial
theorem Ys:bf Tryz.prog 176 iH:=by
 refine bk abW aM Tryz.func176 (enters_of Tryz.func176 (by kernel_rfl) rfl) (fun _=>rfl) (fun _=>rfl) ?_
 intro ⟨⟨b,s⟩,⟨c,t⟩⟩ hp;have hp:s.size≤549755813888∧t.size≤549755813888:=hp;obtain ⟨x,hx⟩:∃ x,x=IV.z (b,s):=⟨_,rfl⟩;obtain ⟨y,hy⟩:∃ y,y=IV.z (c,t):=⟨_,rfl⟩;have rE:aQ x.natAbs≤549755813888:=by rw [hx]; exact IV.aQ (i:=(b,s)) hp.1
 have xW:aQ y.natAbs≤549755813888:=by rw [hy]; exact IV.aQ (i:=(c,t)) hp.2
 obtain ⟨B,m,hE⟩:=EI.mk' x;obtain ⟨D,k,hF⟩:=EI.mk' y;have rk:=hE.size;have jB:=hF.size;have ec:jm.val (b,s)=.agg ⟨[.bool B,.string m]⟩:=by show aD (IV.z (b,s))=_; rw [← hx,hE.enc]
 have ed:jm.val (c,t)=.agg ⟨[.bool D,.string k]⟩:=by show aD (IV.z (c,t))=_; rw [← hy,hF.enc]
 conv=>whnf
 refine .inl ⟨3,[[],[0],[],[0,1,2],[0,1,2,3],[0,1,2,3,4]],by kernel_rfl,?_⟩
 conv=>whnf
 refine ⟨(b,s),rfl,hp.1,?_⟩;rw [ec];conv=>whnf
 refine ⟨(c,t),rfl,hp.2,?_⟩;rw [ed];conv=>whnf
 by_cases J:y=0
 ·rw [show (k.toList == (⟨#[]⟩:ByteArray).toList)=true from by rw [hF.nil,decide_eq_true J]]
  conv=>whnf
  have e:Int.fdiv (IV.z (b,s)) 0=0:=Int.fdiv_zero _;have hz:IV.z (c,t)=0:=by rw [← hy]; exact J
  simp only [iH,hz,e,if_true,wk]
  rfl
 ·rw [show (k.toList == (⟨#[]⟩:ByteArray).toList)=false from by rw [hF.nil,decide_eq_false J]]
  have fin:∀ (q r:Value),q=aD (Int.fdiv x y)→r=aD (Int.fmod x y)→Value.tuple ⟨[q,r,.int .i64 0]⟩=iH.val ((b,s),(c,t)):=fun q r hq hr=>by
   rw [hx,hy] at hq hr;have hz:IV.z (c,t)≠0:=by rw [← hy]; exact J
   simp only [iH,if_neg hz];rw [hq,hr]
  obtain ⟨zq,mT⟩:∃ z:Int,z=((ab m / ab k:Nat):Int):=⟨_,rfl⟩;obtain ⟨zr,mU⟩:∃ z:Int,z=((ab m % ab k:Nat):Int):=⟨_,rfl⟩;obtain ⟨adH,ad2⟩:0≤zq∧zq≤ab m:=by rw [mT]; exact ⟨Int.natCast_nonneg _,Int.ofNat_le.2 (Nat.div_le_self _ _)⟩
  obtain ⟨qs,hq⟩:=EI.iR adH;obtain ⟨rs,hr⟩:=EI.iR (show 0≤zr by rw [mU]; exact Int.natCast_nonneg _)
  have s9:ab k≠0:=by rw [hF.abs]; omega
  have pF:0≤zr∧zr < ab k:=by
   have:=Nat.mod_lt (ab m) (Nat.pos_of_ne_zero s9);omega
  have DH:aQ zq.natAbs≤549755813888:=by
   have h3:=iO (Nat.div_le_self (ab m) (ab k));have h4:=jg m;have:zq.natAbs=ab m / ab k:=by rw [mT]; rfl
   rw [this];omega
  have pQ:aQ zr.natAbs≤549755813888:=by
   have h3:=iO (Nat.mod_le (ab m) (ab k));have h4:=jg m;have:zr.natAbs=ab m % ab k:=by rw [mU]; rfl
   rw [this];omega
  conv=>whnf
  by_cases h3:m.size < 8∧k.size < 8
  ·have lm:ab m < 72057594037927936:=Nat.lt_of_lt_of_le (gu m) (ob (by omega))
   have lk:ab k < 72057594037927936:=Nat.lt_of_lt_of_le (gu k) (ob (by omega))
   obtain ⟨M,hM⟩:∃ M,M=ab m:=⟨_,rfl⟩;obtain ⟨N,hN⟩:∃ N,N=ab k:=⟨_,rfl⟩;rw [show decide (((m.size:Nat):Int) < 8)=true from decide_eq_true (by omega)]
   conv=>whnf
   rw [show decide (((k.size:Nat):Int) < 8)=true from decide_eq_true (by omega)]
   conv=>whnf
   refine .inl ⟨5,[[],[0],[0,1],[],[3],[0,1,2,3,4],[0,1,2,3,4,5],[0,1,2,3,4,5,6]],by kernel_rfl,?_⟩
   conv=>whnf
   refine ⟨m,rfl,by show m.size≤7; omega,?_⟩
   rw [show km.val m=.int .i64 M from by rw [hM]; rfl]
   conv=>whnf
   refine ⟨k,rfl,by show k.size≤7; omega,?_⟩
   rw [show km.val k=.int .i64 N from by rw [hN]; rfl]
   conv=>whnf
   refine .inl ⟨7,[[],[],[0,1],[0,1,2],[],[],[4,5],[0,1,2,3,4,5,6],[0,1,2,3,4,5,6,7],[0,1,2,3,4,5,6,7,8]],by kernel_rfl,?_⟩
   have eq:IntKind.i64.wrap (Int.tdiv (M:Int) (N:Int))=zq:=by
    rw [Fx,mT,hM,hN];exact Mr (Nat.lt_of_le_of_lt (Nat.div_le_self _ _) lm)
   have er:Int.tmod (M:Int) (N:Int)=zr:=by rw [Ml,mU,hM,hN]
   conv=>whnf
   rw [show decide (((N:Nat):Int)≠0)=true from decide_eq_true (by omega)]
   conv=>whnf
   rw [eq];refine ⟨zq,rfl,?_,?_⟩
   ·exact ⟨by omega,by omega⟩
   rw [show eT.val zq=.agg ⟨[.bool false,.string qs]⟩ from hq.enc]
   conv=>whnf
   rw [show decide (((N:Nat):Int)≠0)=true from decide_eq_true (by omega)]
   conv=>whnf
   rw [er];refine ⟨zr,rfl,⟨by omega,by omega⟩,?_⟩
   rw [show eT.val zr=.agg ⟨[.bool false,.string rs]⟩ from hr.enc]
   conv=>whnf
   refine aI (fun h5=>?_) (fun h5=>?_)
   ·have h5:B≠D:=by
     intro e;subst e;cases B <;> cases h5
    obtain ⟨jE,iM,fi⟩:=EI.mk' (-zq);have zC:=fi.size;rw [Int.natAbs_neg] at zC;conv=>whnf
    refine ⟨(false,qs),rfl,by show qs.size≤_; rw [hq.size]; omega,?_⟩
    rw [show gR.val (false,qs)=.agg ⟨[.bool jE,.string iM]⟩ from by show aD (-IV.z (false,qs))=_; rw [hq.val,fi.enc]]
    conv=>whnf
    by_cases h6:zr=0
    ·rw [show (!rs.toList == (⟨#[]⟩:ByteArray).toList)=false from by rw [hr.nn]; exact decide_eq_false (by omega)]
     obtain ⟨hz,hw⟩:=E6 hE hF J h5 mT mU h6;clear hq;have hq:=fi;conv=>whnf
     refine aI (fun h9=>?_) (fun h9=>?_)
     ·have cT:=hq.enc.symm.trans (congrArg aD hz);rw [h9,if_pos rfl] at hw;conv=>whnf
      refine ⟨(false,rs),rfl,by show rs.size≤_; rw [hr.size]; omega,?_⟩
      obtain ⟨V,n,hV⟩:=EI.mk' (-zr);rw [show gR.val (false,rs)=.agg ⟨[.bool V,.string n]⟩ from by show aD (-IV.z (false,rs))=_; rw [hr.val,hV.enc]]
      have cm:=hV.enc.symm.trans (congrArg aD hw);conv=>whnf
      refine .inr (.inl ⟨(.br 0 (.br 1 (.br 2 (.br 3 (.br 4 .leaf .leaf) .leaf) .leaf) (.br 2 (.br 1 (.br 3 (.br 4 .leaf .leaf) .leaf) .leaf) .leaf)) (.br 1 (.br 0 (.br 2 (.br 3 (.br 4 .leaf .leaf) .leaf) .leaf) .leaf) .leaf)),by kernel_rfl,?_⟩)
      repeat' ((conv=>whnf); first | exact True.intro | refine And.intro ?_ ?_)
      all_goals conv=>whnf
      all_goals exact fin _ _ cT cm
     ·have cT:=hq.enc.symm.trans (congrArg aD hz);rw [h9,if_neg (by decide)] at hw
      have cm:=hr.enc.symm.trans (congrArg aD hw);conv=>whnf
      refine .inr (.inl ⟨(.br 0 (.br 1 (.br 2 (.br 3 (.br 4 .leaf .leaf) .leaf) .leaf) (.br 2 (.br 1 (.br 3 (.br 4 .leaf .leaf) .leaf) .leaf) .leaf)) (.br 1 (.br 0 (.br 2 (.br 3 (.br 4 .leaf .leaf) .leaf) .leaf) .leaf) .leaf)),by kernel_rfl,?_⟩)
      repeat' ((conv=>whnf); first | exact True.intro | refine And.intro ?_ ?_)
      all_goals conv=>whnf
      all_goals exact fin _ _ cT cm
    ·rw [show (!rs.toList == (⟨#[]⟩:ByteArray).toList)=true from by rw [hr.nn]; exact decide_eq_true (by omega)]
     obtain ⟨hz,hw⟩:=FC hE hF J h5 mT mU h6;obtain ⟨vb,v1,oD⟩:=EI.mk' 1;have Qn:=oD.size;have zL:aQ (Int.natAbs 1)≤1:=fj (by decide)
     have Pt:IV.z (jE,iM)=-zq:=fi.val;conv=>whnf
     refine .inl ⟨2,[[],[],[0,1],[0,1,2]],by kernel_rfl,?_⟩
     conv=>whnf
     refine ⟨(1:Int),rfl,⟨by decide,by decide⟩,?_⟩
     rw [show eT.val (1:Int)=.agg ⟨[.bool vb,.string v1]⟩ from oD.enc]
     conv=>whnf
     refine ⟨((jE,iM),(vb,v1)),rfl,⟨by show iM.size≤_; omega,by show v1.size≤_; omega⟩,?_⟩
     obtain ⟨Ao,Ap,g8⟩:=EI.mk' (-zq - 1);rw [show mJ.val ((jE,iM),(vb,v1))=.agg ⟨[.bool Ao,.string Ap]⟩ from by show aD (IV.z (jE,iM) - IV.z (vb,v1))=_; rw [fi.val,oD.val,g8.enc]]
     conv=>whnf
     refine ⟨((false,k),(false,rs)),rfl,⟨by show k.size≤_; omega,by show rs.size≤_; rw [hr.size]; omega⟩,?_⟩
     obtain ⟨tq,tv,oE⟩:=EI.mk' (((ab k:Nat):Int) - zr);rw [show mJ.val ((false,k),(false,rs))=.agg ⟨[.bool tq,.string tv]⟩ from by show aD (IV.z (false,k) - IV.z (false,rs))=_; rw [hr.val,show IV.z (false,k)=((ab k:Nat):Int) from rfl,oE.enc]]
     have tw:aQ (((ab k:Nat):Int) - zr).natAbs≤549755813888:=by
      have jC:=jg k;have:=iO (show (((ab k:Nat):Int) - zr).natAbs≤ab k by have:=hF.abs; omega)
      omega
     clear hq hr pQ;have hq:=g8;clear pF;obtain ⟨zr,Aq⟩:∃ z,z=((ab k:Nat):Int) - zr:=⟨_,rfl⟩;rw [← Aq] at oE hw tw;obtain ⟨rb,rfl⟩:∃ q',q'=tq:=⟨_,rfl⟩;obtain ⟨rs,rfl⟩:∃ q',q'=tv:=⟨_,rfl⟩;have hr:=oE;have pQ:=tw;conv=>whnf
     refine aI (fun h9=>?_) (fun h9=>?_)
     ·have cT:=hq.enc.symm.trans (congrArg aD hz);rw [h9,if_pos rfl] at hw;conv=>whnf
      refine ⟨(rb,rs),rfl,by show rs.size≤_; rw [hr.size]; omega,?_⟩
      obtain ⟨V,n,hV⟩:=EI.mk' (-zr);rw [show gR.val (rb,rs)=.agg ⟨[.bool V,.string n]⟩ from by show aD (-IV.z (rb,rs))=_; rw [hr.val,hV.enc]]
      have cm:=hV.enc.symm.trans (congrArg aD hw);conv=>whnf
      refine .inr (.inl ⟨(.br 0 (.br 1 (.br 2 (.br 3 (.br 4 .leaf .leaf) .leaf) .leaf) (.br 2 (.br 1 (.br 3 (.br 4 .leaf .leaf) .leaf) .leaf) .leaf)) (.br 1 (.br 0 (.br 2 (.br 3 (.br 4 .leaf .leaf) .leaf) .leaf) .leaf) .leaf)),by kernel_rfl,?_⟩)
      repeat' ((conv=>whnf); first | exact True.intro | refine And.intro ?_ ?_)
      all_goals conv=>whnf
      all_goals exact fin _ _ cT cm
     ·have cT:=hq.enc.symm.trans (congrArg aD hz);rw [h9,if_neg (by decide)] at hw
      have cm:=hr.enc.symm.trans (congrArg aD hw);conv=>whnf
      refine .inr (.inl ⟨(.br 0 (.br 1 (.br 2 (.br 3 (.br 4 .leaf .leaf) .leaf) .leaf) (.br 2 (.br 1 (.br 3 (.br 4 .leaf .leaf) .leaf) .leaf) .leaf)) (.br 1 (.br 0 (.br 2 (.br 3 (.br 4 .leaf .leaf) .leaf) .leaf) .leaf) .leaf)),by kernel_rfl,?_⟩)
      repeat' ((conv=>whnf); first | exact True.intro | refine And.intro ?_ ?_)
      all_goals conv=>whnf
      all_goals exact fin _ _ cT cm
   ·have h5:B=D:=by
     cases B <;> cases D <;> first | rfl | cases h5
    obtain ⟨hz,hw⟩:=FB hE hF J h5 mT mU;conv=>whnf
    refine aI (fun h9=>?_) (fun h9=>?_)
    ·have cT:=hq.enc.symm.trans (congrArg aD hz);rw [h9,if_pos rfl] at hw;conv=>whnf
     refine ⟨(false,rs),rfl,by show rs.size≤_; rw [hr.size]; omega,?_⟩
     obtain ⟨V,n,hV⟩:=EI.mk' (-zr);rw [show gR.val (false,rs)=.agg ⟨[.bool V,.string n]⟩ from by show aD (-IV.z (false,rs))=_; rw [hr.val,hV.enc]]
     have cm:=hV.enc.symm.trans (congrArg aD hw);conv=>whnf
     refine .inr (.inl ⟨(.br 0 (.br 1 (.br 2 (.br 3 (.br 4 .leaf .leaf) .leaf) .leaf) (.br 2 (.br 1 (.br 3 (.br 4 .leaf .leaf) .leaf) .leaf) .leaf)) (.br 1 (.br 0 (.br 2 (.br 3 (.br 4 .leaf .leaf) .leaf) .leaf) .leaf) .leaf)),by kernel_rfl,?_⟩)
     repeat' ((conv=>whnf); first | exact True.intro | refine And.intro ?_ ?_)
     all_goals conv=>whnf
     all_goals exact fin _ _ cT cm
    ·have cT:=hq.enc.symm.trans (congrArg aD hz);rw [h9,if_neg (by decide)] at hw
     have cm:=hr.enc.symm.trans (congrArg aD hw);conv=>whnf
     refine .inr (.inl ⟨(.br 0 (.br 1 (.br 2 (.br 3 (.br 4 .leaf .leaf) .leaf) .leaf) (.br 2 (.br 1 (.br 3 (.br 4 .leaf .leaf) .leaf) .leaf) .leaf)) (.br 1 (.br 0 (.br 2 (.br 3 (.br 4 .leaf .leaf) .leaf) .leaf) .leaf) .leaf)),by kernel_rfl,?_⟩)
     repeat' ((conv=>whnf); first | exact True.intro | refine And.intro ?_ ?_)
     all_goals conv=>whnf
     all_goals exact fin _ _ cT cm
  ·have ev:p8.val (m,ab k)=.tuple ⟨[.string qs,.string rs]⟩:=by
    show Value.tuple ⟨[.string (nb (ab m / ab k)),.string (nb (ab m % ab k))]⟩=_
    rw [hq.nL,hr.nL,mT,mU]
    rfl
   have ei:p8.args (m,ab k)=[.string m,.string k]:=by
    show [Value.string m,.string (nb (ab k))]=_
    rw [← hF.eta]
   have Pu:p8.pre (m,ab k):=⟨by show m.size≤_; omega,by show aQ (ab k)≤_; rw [hF.abs]; omega,s9⟩
   by_cases h4:m.size < 8
   ·rw [show decide (((m.size:Nat):Int) < 8)=true from decide_eq_true (by omega)]
    conv=>whnf
    rw [show decide (((k.size:Nat):Int) < 8)=false from decide_eq_false (by omega)]
    conv=>whnf
    refine ⟨(m,ab k),ei,Pu,?_⟩;rw [ev];conv=>whnf
    refine aI (fun h5=>?_) (fun h5=>?_)
    ·have h5:B≠D:=by
      intro e;subst e;cases B <;> cases h5
     obtain ⟨jE,iM,fi⟩:=EI.mk' (-zq);have zC:=fi.size;rw [Int.natAbs_neg] at zC;conv=>whnf
     refine ⟨(false,qs),rfl,by show qs.size≤_; rw [hq.size]; omega,?_⟩
     rw [show gR.val (false,qs)=.agg ⟨[.bool jE,.string iM]⟩ from by show aD (-IV.z (false,qs))=_; rw [hq.val,fi.enc]]
     conv=>whnf
     by_cases h6:zr=0
     ·rw [show (!rs.toList == (⟨#[]⟩:ByteArray).toList)=false from by rw [hr.nn]; exact decide_eq_false (by omega)]
      obtain ⟨hz,hw⟩:=E6 hE hF J h5 mT mU h6;clear hq;have hq:=fi;conv=>whnf
      refine aI (fun h9=>?_) (fun h9=>?_)
      ·have cT:=hq.enc.symm.trans (congrArg aD hz);rw [h9,if_pos rfl] at hw;conv=>whnf
       refine ⟨(false,rs),rfl,by show rs.size≤_; rw [hr.size]; omega,?_⟩
       obtain ⟨V,n,hV⟩:=EI.mk' (-zr);rw [show gR.val (false,rs)=.agg ⟨[.bool V,.string n]⟩ from by show aD (-IV.z (false,rs))=_; rw [hr.val,hV.enc]]
       have cm:=hV.enc.symm.trans (congrArg aD hw);conv=>whnf
       refine .inr (.inl ⟨(.br 0 (.br 1 (.br 2 (.br 3 (.br 4 .leaf .leaf) .leaf) .leaf) (.br 2 (.br 1 (.br 3 (.br 4 .leaf .leaf) .leaf) .leaf) .leaf)) (.br 1 (.br 0 (.br 2 (.br 3 (.br 4 .leaf .leaf) .leaf) .leaf) .leaf) .leaf)),by kernel_rfl,?_⟩)
       repeat' ((conv=>whnf); first | exact True.intro | refine And.intro ?_ ?_)
       all_goals conv=>whnf
       all_goals exact fin _ _ cT cm
      ·have cT:=hq.enc.symm.trans (congrArg aD hz);rw [h9,if_neg (by decide)] at hw
       have cm:=hr.enc.symm.trans (congrArg aD hw);conv=>whnf
       refine .inr (.inl ⟨(.br 0 (.br 1 (.br 2 (.br 3 (.br 4 .leaf .leaf) .leaf) .leaf) (.br 2 (.br 1 (.br 3 (.br 4 .leaf .leaf) .leaf) .leaf) .leaf)) (.br 1 (.br 0 (.br 2 (.br 3 (.br 4 .leaf .leaf) .leaf) .leaf) .leaf) .leaf)),by kernel_rfl,?_⟩)
       repeat' ((conv=>whnf); first | exact True.intro | refine And.intro ?_ ?_)
       all_goals conv=>whnf
       all_goals exact fin _ _ cT cm
     ·rw [show (!rs.toList == (⟨#[]⟩:ByteArray).toList)=true from by rw [hr.nn]; exact decide_eq_true (by omega)]
      obtain ⟨hz,hw⟩:=FC hE hF J h5 mT mU h6;obtain ⟨vb,v1,oD⟩:=EI.mk' 1;have Qn:=oD.size;have zL:aQ (Int.natAbs 1)≤1:=fj (by decide)
      have Pt:IV.z (jE,iM)=-zq:=fi.val;conv=>whnf
      refine .inl ⟨2,[[],[],[0,1],[0,1,2]],by kernel_rfl,?_⟩
      conv=>whnf
      refine ⟨(1:Int),rfl,⟨by decide,by decide⟩,?_⟩
      rw [show eT.val (1:Int)=.agg ⟨[.bool vb,.string v1]⟩ from oD.enc]
      conv=>whnf
      refine ⟨((jE,iM),(vb,v1)),rfl,⟨by show iM.size≤_; omega,by show v1.size≤_; omega⟩,?_⟩
      obtain ⟨Ao,Ap,g8⟩:=EI.mk' (-zq - 1);rw [show mJ.val ((jE,iM),(vb,v1))=.agg ⟨[.bool Ao,.string Ap]⟩ from by show aD (IV.z (jE,iM) - IV.z (vb,v1))=_; rw [fi.val,oD.val,g8.enc]]
      conv=>whnf
      refine ⟨((false,k),(false,rs)),rfl,⟨by show k.size≤_; omega,by show rs.size≤_; rw [hr.size]; omega⟩,?_⟩
      obtain ⟨tq,tv,oE⟩:=EI.mk' (((ab k:Nat):Int) - zr);rw [show mJ.val ((false,k),(false,rs))=.agg ⟨[.bool tq,.string tv]⟩ from by show aD (IV.z (false,k) - IV.z (false,rs))=_; rw [hr.val,show IV.z (false,k)=((ab k:Nat):Int) from rfl,oE.enc]]
      have tw:aQ (((ab k:Nat):Int) - zr).natAbs≤549755813888:=by
       have jC:=jg k;have:=iO (show (((ab k:Nat):Int) - zr).natAbs≤ab k by have:=hF.abs; omega)
       omega
      clear hq hr pQ;have hq:=g8;clear pF;obtain ⟨zr,Aq⟩:∃ z,z=((ab k:Nat):Int) - zr:=⟨_,rfl⟩;rw [← Aq] at oE hw tw;obtain ⟨rb,rfl⟩:∃ q',q'=tq:=⟨_,rfl⟩;obtain ⟨rs,rfl⟩:∃ q',q'=tv:=⟨_,rfl⟩;have hr:=oE;have pQ:=tw;conv=>whnf
      refine aI (fun h9=>?_) (fun h9=>?_)
      ·have cT:=hq.enc.symm.trans (congrArg aD hz);rw [h9,if_pos rfl] at hw;conv=>whnf
       refine ⟨(rb,rs),rfl,by show rs.size≤_; rw [hr.size]; omega,?_⟩
       obtain ⟨V,n,hV⟩:=EI.mk' (-zr);rw [show gR.val (rb,rs)=.agg ⟨[.bool V,.string n]⟩ from by show aD (-IV.z (rb,rs))=_; rw [hr.val,hV.enc]]
       have cm:=hV.enc.symm.trans (congrArg aD hw);conv=>whnf
       refine .inr (.inl ⟨(.br 0 (.br 1 (.br 2 (.br 3 (.br 4 .leaf .leaf) .leaf) .leaf) (.br 2 (.br 1 (.br 3 (.br 4 .leaf .leaf) .leaf) .leaf) .leaf)) (.br 1 (.br 0 (.br 2 (.br 3 (.br 4 .leaf .leaf) .leaf) .leaf) .leaf) .leaf)),by kernel_rfl,?_⟩)
       repeat' ((conv=>whnf); first | exact True.intro | refine And.intro ?_ ?_)
       all_goals conv=>whnf
       all_goals exact fin _ _ cT cm
      ·have cT:=hq.enc.symm.trans (congrArg aD hz);rw [h9,if_neg (by decide)] at hw
       have cm:=hr.enc.symm.trans (congrArg aD hw);conv=>whnf
       refine .inr (.inl ⟨(.br 0 (.br 1 (.br 2 (.br 3 (.br 4 .leaf .leaf) .leaf) .leaf) (.br 2 (.br 1 (.br 3 (.br 4 .leaf .leaf) .leaf) .leaf) .leaf)) (.br 1 (.br 0 (.br 2 (.br 3 (.br 4 .leaf .leaf) .leaf) .leaf) .leaf) .leaf)),by kernel_rfl,?_⟩)
       repeat' ((conv=>whnf); first | exact True.intro | refine And.intro ?_ ?_)
       all_goals conv=>whnf
       all_goals exact fin _ _ cT cm
    ·have h5:B=D:=by
      cases B <;> cases D <;> first | rfl | cases h5
     obtain ⟨hz,hw⟩:=FB hE hF J h5 mT mU;conv=>whnf
     refine aI (fun h9=>?_) (fun h9=>?_)
     ·have cT:=hq.enc.symm.trans (congrArg aD hz);rw [h9,if_pos rfl] at hw;conv=>whnf
      refine ⟨(false,rs),rfl,by show rs.size≤_; rw [hr.size]; omega,?_⟩
      obtain ⟨V,n,hV⟩:=EI.mk' (-zr);rw [show gR.val (false,rs)=.agg ⟨[.bool V,.string n]⟩ from by show aD (-IV.z (false,rs))=_; rw [hr.val,hV.enc]]
      have cm:=hV.enc.symm.trans (congrArg aD hw);conv=>whnf
      refine .inr (.inl ⟨(.br 0 (.br 1 (.br 2 (.br 3 (.br 4 .leaf .leaf) .leaf) .leaf) (.br 2 (.br 1 (.br 3 (.br 4 .leaf .leaf) .leaf) .leaf) .leaf)) (.br 1 (.br 0 (.br 2 (.br 3 (.br 4 .leaf .leaf) .leaf) .leaf) .leaf) .leaf)),by kernel_rfl,?_⟩)
      repeat' ((conv=>whnf); first | exact True.intro | refine And.intro ?_ ?_)
      all_goals conv=>whnf
      all_goals exact fin _ _ cT cm
     ·have cT:=hq.enc.symm.trans (congrArg aD hz);rw [h9,if_neg (by decide)] at hw
      have cm:=hr.enc.symm.trans (congrArg aD hw);conv=>whnf
      refine .inr (.inl ⟨(.br 0 (.br 1 (.br 2 (.br 3 (.br 4 .leaf .leaf) .leaf) .leaf) (.br 2 (.br 1 (.br 3 (.br 4 .leaf .leaf) .leaf) .leaf) .leaf)) (.br 1 (.br 0 (.br 2 (.br 3 (.br 4 .leaf .leaf) .leaf) .leaf) .leaf) .leaf)),by kernel_rfl,?_⟩)
      repeat' ((conv=>whnf); first | exact True.intro | refine And.intro ?_ ?_)
      all_goals conv=>whnf
      all_goals exact fin _ _ cT cm
   ·rw [show decide (((m.size:Nat):Int) < 8)=false from decide_eq_false (by omega)]
    conv=>whnf
    refine ⟨(m,ab k),ei,Pu,?_⟩;rw [ev];conv=>whnf
    refine aI (fun h5=>?_) (fun h5=>?_)
    ·have h5:B≠D:=by
      intro e;subst e;cases B <;> cases h5
     obtain ⟨jE,iM,fi⟩:=EI.mk' (-zq);have zC:=fi.size;rw [Int.natAbs_neg] at zC;conv=>whnf
     refine ⟨(false,qs),rfl,by show qs.size≤_; rw [hq.size]; omega,?_⟩
     rw [show gR.val (false,qs)=.agg ⟨[.bool jE,.string iM]⟩ from by show aD (-IV.z (false,qs))=_; rw [hq.val,fi.enc]]
     conv=>whnf
     by_cases h6:zr=0
     ·rw [show (!rs.toList == (⟨#[]⟩:ByteArray).toList)=false from by rw [hr.nn]; exact decide_eq_false (by omega)]
      obtain ⟨hz,hw⟩:=E6 hE hF J h5 mT mU h6;clear hq;have hq:=fi;conv=>whnf
      refine aI (fun h9=>?_) (fun h9=>?_)
      ·have cT:=hq.enc.symm.trans (congrArg aD hz);rw [h9,if_pos rfl] at hw;conv=>whnf
       refine ⟨(false,rs),rfl,by show rs.size≤_; rw [hr.size]; omega,?_⟩
       obtain ⟨V,n,hV⟩:=EI.mk' (-zr);rw [show gR.val (false,rs)=.agg ⟨[.bool V,.string n]⟩ from by show aD (-IV.z (false,rs))=_; rw [hr.val,hV.enc]]
       have cm:=hV.enc.symm.trans (congrArg aD hw);conv=>whnf
       refine .inr (.inl ⟨(.br 0 (.br 1 (.br 2 (.br 3 (.br 4 .leaf .leaf) .leaf) .leaf) (.br 2 (.br 1 (.br 3 (.br 4 .leaf .leaf) .leaf) .leaf) .leaf)) (.br 1 (.br 0 (.br 2 (.br 3 (.br 4 .leaf .leaf) .leaf) .leaf) .leaf) .leaf)),by kernel_rfl,?_⟩)
       repeat' ((conv=>whnf); first | exact True.intro | refine And.intro ?_ ?_)
       all_goals conv=>whnf
       all_goals exact fin _ _ cT cm
      ·have cT:=hq.enc.symm.trans (congrArg aD hz);rw [h9,if_neg (by decide)] at hw
       have cm:=hr.enc.symm.trans (congrArg aD hw);conv=>whnf
       refine .inr (.inl ⟨(.br 0 (.br 1 (.br 2 (.br 3 (.br 4 .leaf .leaf) .leaf) .leaf) (.br 2 (.br 1 (.br 3 (.br 4 .leaf .leaf) .leaf) .leaf) .leaf)) (.br 1 (.br 0 (.br 2 (.br 3 (.br 4 .leaf .leaf) .leaf) .leaf) .leaf) .leaf)),by kernel_rfl,?_⟩)
       repeat' ((conv=>whnf); first | exact True.intro | refine And.intro ?_ ?_)
       all_goals conv=>whnf
       all_goals exact fin _ _ cT cm
     ·rw [show (!rs.toList == (⟨#[]⟩:ByteArray).toList)=true from by rw [hr.nn]; exact decide_eq_true (by omega)]
      obtain ⟨hz,hw⟩:=FC hE hF J h5 mT mU h6;obtain ⟨vb,v1,oD⟩:=EI.mk' 1;have Qn:=oD.size;have zL:aQ (Int.natAbs 1)≤1:=fj (by decide)
      have Pt:IV.z (jE,iM)=-zq:=fi.val;conv=>whnf
      refine .inl ⟨2,[[],[],[0,1],[0,1,2]],by kernel_rfl,?_⟩
      conv=>whnf
      refine ⟨(1:Int),rfl,⟨by decide,by decide⟩,?_⟩
      rw [show eT.val (1:Int)=.agg ⟨[.bool vb,.string v1]⟩ from oD.enc]
      conv=>whnf
      refine ⟨((jE,iM),(vb,v1)),rfl,⟨by show iM.size≤_; omega,by show v1.size≤_; omega⟩,?_⟩
      obtain ⟨Ao,Ap,g8⟩:=EI.mk' (-zq - 1);rw [show mJ.val ((jE,iM),(vb,v1))=.agg ⟨[.bool Ao,.string Ap]⟩ from by show aD (IV.z (jE,iM) - IV.z (vb,v1))=_; rw [fi.val,oD.val,g8.enc]]
      conv=>whnf
      refine ⟨((false,k),(false,rs)),rfl,⟨by show k.size≤_; omega,by show rs.size≤_; rw [hr.size]; omega⟩,?_⟩
      obtain ⟨tq,tv,oE⟩:=EI.mk' (((ab k:Nat):Int) - zr);rw [show mJ.val ((false,k),(false,rs))=.agg ⟨[.bool tq,.string tv]⟩ from by show aD (IV.z (false,k) - IV.z (false,rs))=_; rw [hr.val,show IV.z (false,k)=((ab k:Nat):Int) from rfl,oE.enc]]
      have tw:aQ (((ab k:Nat):Int) - zr).natAbs≤549755813888:=by
       have jC:=jg k;have:=iO (show (((ab k:Nat):Int) - zr).natAbs≤ab k by have:=hF.abs; omega)
       omega
      clear hq hr pQ;have hq:=g8;clear pF;obtain ⟨zr,Aq⟩:∃ z,z=((ab k:Nat):Int) - zr:=⟨_,rfl⟩;rw [← Aq] at oE hw tw;obtain ⟨rb,rfl⟩:∃ q',q'=tq:=⟨_,rfl⟩;obtain ⟨rs,rfl⟩:∃ q',q'=tv:=⟨_,rfl⟩;have hr:=oE;have pQ:=tw;conv=>whnf
      refine aI (fun h9=>?_) (fun h9=>?_)
      ·have cT:=hq.enc.symm.trans (congrArg aD hz);rw [h9,if_pos rfl] at hw;conv=>whnf
       refine ⟨(rb,rs),rfl,by show rs.size≤_; rw [hr.size]; omega,?_⟩
       obtain ⟨V,n,hV⟩:=EI.mk' (-zr);rw [show gR.val (rb,rs)=.agg ⟨[.bool V,.string n]⟩ from by show aD (-IV.z (rb,rs))=_; rw [hr.val,hV.enc]]
       have cm:=hV.enc.symm.trans (congrArg aD hw);conv=>whnf
       refine .inr (.inl ⟨(.br 0 (.br 1 (.br 2 (.br 3 (.br 4 .leaf .leaf) .leaf) .leaf) (.br 2 (.br 1 (.br 3 (.br 4 .leaf .leaf) .leaf) .leaf) .leaf)) (.br 1 (.br 0 (.br 2 (.br 3 (.br 4 .leaf .leaf) .leaf) .leaf) .leaf) .leaf)),by kernel_rfl,?_⟩)
       repeat' ((conv=>whnf); first | exact True.intro | refine And.intro ?_ ?_)
       all_goals conv=>whnf
       all_goals exact fin _ _ cT cm
      ·have cT:=hq.enc.symm.trans (congrArg aD hz);rw [h9,if_neg (by decide)] at hw
       have cm:=hr.enc.symm.trans (congrArg aD hw);conv=>whnf
       refine .inr (.inl ⟨(.br 0 (.br 1 (.br 2 (.br 3 (.br 4 .leaf .leaf) .leaf) .leaf) (.br 2 (.br 1 (.br 3 (.br 4 .leaf .leaf) .leaf) .leaf) .leaf)) (.br 1 (.br 0 (.br 2 (.br 3 (.br 4 .leaf .leaf) .leaf) .leaf) .leaf) .leaf)),by kernel_rfl,?_⟩)
       repeat' ((conv=>whnf); first | exact True.intro | refine And.intro ?_ ?_)
       all_goals conv=>whnf
       all_goals exact fin _ _ cT cm
    ·have h5:B=D:=by
      cases B <;> cases D <;> first | rfl | cases h5
     obtain ⟨hz,hw⟩:=FB hE hF J h5 mT mU;conv=>whnf
     refine aI (fun h9=>?_) (fun h9=>?_)
     ·have cT:=hq.enc.symm.trans (congrArg aD hz);rw [h9,if_pos rfl] at hw;conv=>whnf
      refine ⟨(false,rs),rfl,by show rs.size≤_; rw [hr.size]; omega,?_⟩
      obtain ⟨V,n,hV⟩:=EI.mk' (-zr);rw [show gR.val (false,rs)=.agg ⟨[.bool V,.string n]⟩ from by show aD (-IV.z (false,rs))=_; rw [hr.val,hV.enc]]
      have cm:=hV.enc.symm.trans (congrArg aD hw);conv=>whnf
      refine .inr (.inl ⟨(.br 0 (.br 1 (.br 2 (.br 3 (.br 4 .leaf .leaf) .leaf) .leaf) (.br 2 (.br 1 (.br 3 (.br 4 .leaf .leaf) .leaf) .leaf) .leaf)) (.br 1 (.br 0 (.br 2 (.br 3 (.br 4 .leaf .leaf) .leaf) .leaf) .leaf) .leaf)),by kernel_rfl,?_⟩)
      repeat' ((conv=>whnf); first | exact True.intro | refine And.intro ?_ ?_)
      all_goals conv=>whnf
      all_goals exact fin _ _ cT cm
     ·have cT:=hq.enc.symm.trans (congrArg aD hz);rw [h9,if_neg (by decide)] at hw
      have cm:=hr.enc.symm.trans (congrArg aD hw);conv=>whnf
      refine .inr (.inl ⟨(.br 0 (.br 1 (.br 2 (.br 3 (.br 4 .leaf .leaf) .leaf) .leaf) (.br 2 (.br 1 (.br 3 (.br 4 .leaf .leaf) .leaf) .leaf) .leaf)) (.br 1 (.br 0 (.br 2 (.br 3 (.br 4 .leaf .leaf) .leaf) .leaf) .leaf) .leaf)),by kernel_rfl,?_⟩)
      repeat' ((conv=>whnf); first | exact True.intro | refine And.intro ?_ ?_)
      all_goals conv=>whnf
      all_goals exact fin _ _ cT cm
open Go Go.Ae
def H9:List TypeId:=[24,26,121,40]
theorem aaS:∀ t∈H9,∀ ti,tt t=some ti→xD Tryz.prog t ti.zero:=by
 intro t ht ti h;simp only [H9,List.mem_cons,List.mem_nil_iff,or_false] at ht;rcases ht with rfl | rfl | rfl | rfl
 all_goals cases h; exact ac7 (by kernel_rfl) (by kernel_rfl)
def tx (cs:List (Nat × uy)) (fs:List (Nat × FT):=[]) (is:List (Nat × (Nat→FT→Nu→FT)):=[]) (ig:Bool:=false):Env:={ tt:=tt,eqs:=H9,ig:=ig,Φ:=qC cs,Ψ:=qC fs,It:=qC is }
theorem vg {cs:List (Nat × uy)} {fs:List (Nat × FT)} {is:List (Nat × (Nat→FT→Nu→FT))} {ig:Bool} (h:uT (CJ Tryz.prog) cs) (J:uT (gi Tryz.prog) fs):EnvOk Tryz.prog (tx cs fs is ig):=⟨uO,aaS,fun _ _=>wx h,fun _ _=>wx J⟩
theorem S8:bf Tryz.prog 166 km:=by
 refine bk l6 aM Tryz.func166 (enters_of Tryz.func166 (by kernel_rfl) rfl) (fun _=>rfl) (fun _=>rfl) ?_
 intro (s:ByteArray) hp;have hp:s.size≤7:=hp;conv=>whnf
 refine .inl ⟨fun mm tz hz=>∃ (i:Nat) (N:Nat),bA (some (.string s)::aB 2 (some (.int .i64 N)::aB 2 (some (.int .i64 s.size)::some (.int .i64 i)::aB 11 []))) tz∧hz=[]∧s.size - i=mm∧(i≤s.size∧N=ab s / C ^ (s.size - i)),.inl ⟨_,0,0,(.aa (.sk 2 (.aa (.sk 2 (.aa (.aa (.sk 11 .nil rfl))) rfl)) rfl)),rfl,rfl,?_⟩,?_⟩
 ·exact ⟨Nat.zero_le _,by rw [Nat.sub_zero,Nat.div_eq_of_lt (gu s)]⟩
 rintro mm aS _ ⟨i,N,au,rfl,rfl,⟨hi,hN⟩⟩
 obtain ⟨az,rfl⟩:∃ az:Nat→Value,aS=.string s::zs az 1 2 (.int .i64 N::zs az 4 2 (.int .i64 s.size::.int .i64 i::zs az 8 11 [])):=bJ au;clear au;have mS:=Ch s hi;rw [← hN] at mS;have ak:=Nat.lt_of_lt_of_le mS (ob (show i≤7 by omega))
 conv=>whnf
 refine aI (fun J=>?_) (fun J=>?_)
 ·have J:i < s.size:=by simpa using J
  have ao:=yo J;rw [← hN] at ao;have hb:bX s i < 256:=wj s i;have e3:IntKind.i64.wrap (((i:Nat):Int)+1)=((i+1:Nat):Int):=by rw [ar (by omega) (by omega)]; rfl
  have Jd:=Nat.lt_of_lt_of_le mS (CY (show i≤6 by omega))
  conv=>whnf
  refine ⟨⟨by omega,by omega⟩,?_⟩
  simp only [toNat_cast];conv=>whnf
  rw [Mp (by omega) hb,e3]
  refine .inl ⟨_,?_,i+1,N*256+bX s i,(.aa (.sk 2 (.aa (.sk 2 (.aa (.aa (.sk 11 .nil rfl))) rfl)) rfl)),rfl,rfl,?_⟩
  ·omega
  ·exact ⟨by omega,ao.symm⟩
 ·have J:i=s.size:=by
   have J:¬ i < s.size:=by simpa using J
   omega
  subst J;rw [Nat.sub_self,Nat.pow_zero,Nat.div_one] at hN;subst hN;conv=>whnf
  rfl
theorem S9:bf Tryz.prog 178 km:=by
 refine bk l6 aM Tryz.func178 (enters_of Tryz.func178 (by kernel_rfl) rfl) (fun _=>rfl) (fun _=>rfl) ?_
 intro (s:ByteArray) hp;have hp:s.size≤7:=hp;conv=>whnf
 refine .inl ⟨fun mm tz hz=>∃ (i:Nat) (N:Nat),bA (some (.string s)::aB 2 (some (.int .i64 N)::some (.int .i64 i)::aB 14 [])) tz∧hz=[]∧s.size - i=mm∧(i≤s.size∧N=ab s / C ^ (s.size - i)),.inl ⟨_,0,0,(.aa (.sk 2 (.aa (.aa (.sk 14 .nil rfl))) rfl)),rfl,rfl,?_⟩,?_⟩
 ·exact ⟨Nat.zero_le _,by rw [Nat.sub_zero,Nat.div_eq_of_lt (gu s)]⟩
 rintro mm aS _ ⟨i,N,au,rfl,rfl,⟨hi,hN⟩⟩
 obtain ⟨az,rfl⟩:∃ az:Nat→Value,aS=.string s::zs az 1 2 (.int .i64 N::.int .i64 i::zs az 5 14 []):=bJ au;clear au;have mS:=Ch s hi;rw [← hN] at mS;have ak:=Nat.lt_of_lt_of_le mS (ob (show i≤7 by omega))
 conv=>whnf
 refine aI (fun J=>?_) (fun J=>?_)
 ·have J:i < s.size:=by simpa using J
  have ao:=yo J;rw [← hN] at ao;have hb:bX s i < 256:=wj s i;have e3:IntKind.i64.wrap (((i:Nat):Int)+1)=((i+1:Nat):Int):=by rw [ar (by omega) (by omega)]; rfl
  have Jd:=Nat.lt_of_lt_of_le mS (CY (show i≤6 by omega))
  obtain ⟨b,Qo⟩:∃ b,b=bX s i:=⟨_,rfl⟩;rw [← Qo] at hb ao;have ev:IntKind.i64.wrap (IntKind.i64.wrap (256*(N:Int))+IntKind.i64.wrap (b:Int))=((N*256+b:Nat):Int):=by
   rw [ar (x:=256*(N:Int)) (by omega) (by omega),ar (x:=(b:Int)) (by omega) (by omega),ar (by omega) (by omega)]; omega
  conv=>whnf
  refine ⟨⟨by omega,by omega⟩,?_⟩
  simp only [toNat_cast];conv=>whnf
  rw [← Qo,ev,e3];refine .inl ⟨_,?_,i+1,N*256+b,(.aa (.sk 2 (.aa (.aa (.sk 14 .nil rfl))) rfl)),rfl,rfl,?_⟩
  ·omega
  ·exact ⟨by omega,ao.symm⟩
 ·have J:i=s.size:=by
   have J:¬ i < s.size:=by simpa using J
   omega
  subst J;rw [Nat.sub_self,Nat.pow_zero,Nat.div_one] at hN;subst hN;conv=>whnf
  rfl
def Ema:Env:=En [(166,.p km),(178,.p km)]
theorem OD:EnvOk Tryz.prog Ema:=bI ⟨S8,S9,trivial⟩ trivial
theorem Yt:bf Tryz.prog 138 bE:=by
 refine bk OD aM Tryz.func138 (enters_of Tryz.func138 (by kernel_rfl) rfl) (fun _=>rfl) (fun _=>rfl) ?_
 intro ⟨b,s,t⟩ _;have od:¬ RV.fN (b,s,t)→Value.tuple ⟨[.int .i64 0,.int .i64 0,.bool false]⟩=bE.val (b,s,t):=fun h=>by
  simp only [bE,if_neg h,decide_eq_false h]
 have mM:RV.fN (b,s,t)→∀ x y:Int,x=RV.n (b,s,t)→y=(RV.d (b,s,t):Int)→Value.tuple ⟨[.int .i64 x,.int .i64 y,.bool true]⟩=bE.val (b,s,t):=fun h x y hx hy=>by
  simp only [bE,if_pos h,decide_eq_true h,hx,hy]
 conv=>whnf
 by_cases h1:s.size≤3
 ·rw [show decide (((s.size:Nat):Int) > 3)=false from decide_eq_false (by omega)]
  conv=>whnf
  by_cases J:t.size≤3
  ·rw [show decide (((t.size:Nat):Int) > 3)=false from decide_eq_false (by omega)]
   have ht:RV.fN (b,s,t):=⟨h1,J⟩;obtain ⟨N,hN⟩:∃ N,N=ab s:=⟨_,rfl⟩;obtain ⟨D,hD⟩:∃ D,D=ab t:=⟨_,rfl⟩;have hn:=RV.GL ht;have hd:=RV.GM ht;conv=>whnf
   refine .inl ⟨5,[[],[0],[0,1],[],[3],[0,1,2,3,4],[0,1,2,3,4,5],[0,1,2,3,4,5,6]],by kernel_rfl,?_⟩
   conv=>whnf
   refine ⟨s,rfl,by show s.size≤7; omega,?_⟩
   rw [show km.val s=.int .i64 N from by rw [hN]; rfl]
   conv=>whnf
   refine ⟨t,rfl,by show t.size≤7; omega,?_⟩
   rw [show km.val t=.int .i64 D from by rw [hD]; rfl]
   conv=>whnf
   have bQ:(RV.d (b,s,t):Int)=if D=0 then 1 else D:=by
    show (((if ab t=0 then 1 else ab t):Nat):Int)=_
    rw [← hD]
   refine aI (fun h3=>?_) (fun h3=>?_)
   ·have bN:RV.n (b,s,t)=-(N:Int):=by
     have h3:b=true:=h3;show aY b (ab s)=_
     rw [h3,← hN]; rfl
    have en:IntKind.i64.wrap (0 - (N:Int))=-(N:Int):=by rw [ar (by omega) (by omega)]; omega
    conv=>whnf
    exact mM ht _ _ (by rw [bN]; exact en) (by rw [bQ]; split <;> split <;> omega)
   ·have bN:RV.n (b,s,t)=(N:Int):=by
     have h3:b=false:=h3;show aY b (ab s)=_
     rw [h3,← hN]; rfl
    conv=>whnf
    exact mM ht _ _ (by rw [bN]) (by rw [bQ]; split <;> split <;> omega)
  ·rw [show decide (((t.size:Nat):Int) > 3)=true from decide_eq_true (by omega)]
   conv=>whnf
   exact od (fun h=>J h.2)
 ·rw [show decide (((s.size:Nat):Int) > 3)=true from decide_eq_true (by omega)]
  conv=>whnf
  exact od (fun h=>h1 h.1)
theorem VP:bf Tryz.prog 158 bE:=by
 refine bk OD aM Tryz.func158 (enters_of Tryz.func158 (by kernel_rfl) rfl) (fun _=>rfl) (fun _=>rfl) ?_
 intro ⟨b,s,t⟩ _;have od:¬ RV.fN (b,s,t)→Value.tuple ⟨[.int .i64 0,.int .i64 0,.bool false]⟩=bE.val (b,s,t):=fun h=>by
  simp only [bE,if_neg h,decide_eq_false h]
 have mM:RV.fN (b,s,t)→∀ x y:Int,x=RV.n (b,s,t)→y=(RV.d (b,s,t):Int)→Value.tuple ⟨[.int .i64 x,.int .i64 y,.bool true]⟩=bE.val (b,s,t):=fun h x y hx hy=>by
  simp only [bE,if_pos h,decide_eq_true h,hx,hy]
 conv=>whnf
 by_cases h1:s.size≤3
 ·rw [show decide (((s.size:Nat):Int) > 3)=false from decide_eq_false (by omega)]
  conv=>whnf
  by_cases J:t.size≤3
  ·rw [show decide (((t.size:Nat):Int) > 3)=false from decide_eq_false (by omega)]
   have ht:RV.fN (b,s,t):=⟨h1,J⟩;obtain ⟨N,hN⟩:∃ N,N=ab s:=⟨_,rfl⟩;obtain ⟨D,hD⟩:∃ D,D=ab t:=⟨_,rfl⟩;have hn:=RV.GL ht;have hd:=RV.GM ht;conv=>whnf
   refine .inl ⟨5,[[],[0],[0,1],[],[3],[0,1,2,3,4],[0,1,2,3,4,5],[0,1,2,3,4,5,6]],by kernel_rfl,?_⟩
   conv=>whnf
   refine ⟨s,rfl,by show s.size≤7; omega,?_⟩
   rw [show km.val s=.int .i64 N from by rw [hN]; rfl]
   conv=>whnf
   refine ⟨t,rfl,by show t.size≤7; omega,?_⟩
   rw [show km.val t=.int .i64 D from by rw [hD]; rfl]
   conv=>whnf
   have bQ:(RV.d (b,s,t):Int)=if D=0 then 1 else D:=by
    show (((if ab t=0 then 1 else ab t):Nat):Int)=_
    rw [← hD]
   refine aI (fun h4=>?_) (fun h4=>?_)
   ·have h4:D=0:=by
     have h4:((D:Nat):Int)=0:=by simpa using h4
     omega
    rw [if_pos h4] at bQ;conv=>whnf
    refine aI (fun h3=>?_) (fun h3=>?_)
    ·have bN:RV.n (b,s,t)=-(N:Int):=by
      have h3:b=true:=h3;show aY b (ab s)=_
      rw [h3,← hN]; rfl
     have en:IntKind.i64.wrap (0 - (N:Int))=-(N:Int):=by rw [ar (by omega) (by omega)]; omega
     conv=>whnf
     exact mM ht _ _ (by rw [bN]; exact en) (by rw [bQ]; first | done | rfl)
    ·have bN:RV.n (b,s,t)=(N:Int):=by
      have h3:b=false:=h3;show aY b (ab s)=_
      rw [h3,← hN]; rfl
     conv=>whnf
     exact mM ht _ _ (by rw [bN]) (by rw [bQ]; first | done | rfl)
   ·have h4:D≠0:=by
     intro e;subst e;simp at h4
    rw [if_neg h4] at bQ;conv=>whnf
    refine aI (fun h3=>?_) (fun h3=>?_)
    ·have bN:RV.n (b,s,t)=-(N:Int):=by
      have h3:b=true:=h3;show aY b (ab s)=_
      rw [h3,← hN]; rfl
     have en:IntKind.i64.wrap (0 - (N:Int))=-(N:Int):=by rw [ar (by omega) (by omega)]; omega
     conv=>whnf
     exact mM ht _ _ (by rw [bN]; exact en) (by rw [bQ]; first | done | rfl)
    ·have bN:RV.n (b,s,t)=(N:Int):=by
      have h3:b=false:=h3;show aY b (ab s)=_
      rw [h3,← hN]; rfl
     conv=>whnf
     exact mM ht _ _ (by rw [bN]) (by rw [bQ]; first | done | rfl)
  ·rw [show decide (((t.size:Nat):Int) > 3)=true from decide_eq_true (by omega)]
   conv=>whnf
   exact od (fun h=>J h.2)
 ·rw [show decide (((s.size:Nat):Int) > 3)=true from decide_eq_true (by omega)]
  conv=>whnf
  exact od (fun h=>h1 h.1)
open Go Go.Ae
theorem Yu:bf Tryz.prog 140 sF:=by
 refine bk l6 aM Tryz.func140 (enters_of Tryz.func140 (by kernel_rfl) rfl) (fun _=>rfl) (fun _=>rfl) ?_
 intro (n:Nat) hp;have hp:n < 72057594037927936:=hp;conv=>whnf
 refine .inl ⟨fun mm tz hz=>∃ (i:Nat) (m:Nat) (g:Nat→List Value),bA (some (.int .i64 m)::aB 2 (some (.pointer (some ⟨0,0,none⟩))::some (.int .i64 i)::aB 13 [])) tz∧hz=[some (.flat true 8 1 g)]∧m=mm∧((i≤8∧m=n / C ^ (8 - i))∧(i=8∨C ^ (8 - i - 1)≤n)∧(∀ r,i≤r→r < 8→g r=[.int .u8 ((n / C ^ (7 - r) % C:Nat):Int)])∧(∀ r,r < 8→∃ x:Int,g r=[.int .u8 x])),.inl ⟨_,8,n,_,(.aa (.sk 2 (.aa (.aa (.sk 13 .nil rfl))) rfl)),rfl,rfl,?_⟩,?_⟩
 ·exact ⟨⟨Nat.le_refl _,by simp⟩,.inl rfl,fun r h1 J=>absurd h1 (by omega),fun r hr=>⟨0,rfl⟩⟩
 rintro mm aS _ ⟨i,m,g,au,rfl,rfl,⟨⟨hi,hm⟩,ho,hg,cW⟩⟩
 obtain ⟨az,rfl⟩:∃ az:Nat→Value,aS=.int .i64 m::zs az 1 2 (.pointer (some ⟨0,0,none⟩)::.int .i64 i::zs az 5 13 []):=bJ au;clear au;conv=>whnf
 refine aI (fun J=>?_) (fun J=>?_)
 ·have J:0 < m:=by
   have:=of_decide_eq_true J;omega
  have gz:0 < i:=by
   rcases Nat.eq_zero_or_pos i with h | h
   ·subst h;rw [hm] at J;rw [Pb (by omega)] at J
    exact absurd J (by decide)
   ·exact h
  obtain ⟨i,rfl⟩:∃ i',i=i'+1:=⟨i - 1,by omega⟩
  have ei:IntKind.i64.wrap (((i+1:Nat):Int) - 1)=((i:Nat):Int):=by rw [ar (by omega) (by omega)]; omega
  have eU:m / 256=n / C ^ (8 - i):=by
   rw [hm,D1,show 8 - (i+1)+1=8 - i by omega]
  have H8:C ^ (8 - (i+1))≤n:=by
   rcases Nat.lt_or_ge n (C ^ (8 - (i+1))) with h | h
   ·rw [hm,Nat.div_eq_of_lt h] at J;exact absurd J (by decide)
   ·exact h
  conv=>whnf
  simp only [ei];refine ⟨⟨by omega,by omega⟩,?_⟩
  simp only [toNat_cast,ax,Nat.zero_add];conv=>whnf
  refine ⟨by show i < 8; omega,?_⟩
  conv=>whnf
  obtain ⟨x,hx⟩:=cW i (by omega)
  rw [hx];conv=>whnf
  rw [qm,c0,show ((m:Nat):Int) / 256=((m / 256:Nat):Int) from rfl]
  refine .inl ⟨_,?_,i,m / 256,_,(.aa (.sk 2 (.aa (.aa (.sk 13 .nil rfl))) rfl)),rfl,rfl,?_⟩
  ·omega
  ·refine ⟨⟨by omega,eU⟩,.inr (by rw [show 8 - i - 1=8 - (i+1) by omega]; exact H8),fun r iA e9=>?_,fun r hr=>?_⟩
   rotate_left
   ·by_cases he:r=i
    ·exact ⟨_,if_pos he⟩
    ·rw [if_neg he]; exact cW r hr
   by_cases he:r=i
   ·subst he;rw [if_pos rfl,hm,show 7 - r=8 - (r+1) by omega]
   ·rw [if_neg he];exact hg r (by omega) e9
 ·have J:m=0:=by
   have:=of_decide_eq_false J;omega
  have ak:n < C ^ (8 - i):=by
   rw [J] at hm;have h3:=Nat.mod_lt n (gQ (8 - i));have h4:=Nat.mod_add_div n (C ^ (8 - i));rw [← hm,Nat.mul_zero,Nat.add_zero] at h4;rw [← h4]; exact h3
  rcases Nat.eq_zero_or_pos (8 - i) with hz | hz
  ·have h0:n=0:=by
    rw [hz,Nat.pow_zero] at ak; omega
   obtain rfl:i=8:=by omega
   subst h0;conv=>whnf
   refine ⟨⟨by omega,by omega,Int.le_refl _,Nat.le_refl _,rfl⟩,?_⟩
   conv=>whnf
   show Value.string ⟨#[]⟩=Value.string (nb 0)
   rw [oS]
  ·obtain ⟨k,hk⟩:∃ k,8 - i=k+1:=⟨8 - i - 1,by omega⟩
   rw [hk] at ak;have ho:C ^ k≤n:=by
    rcases ho with h | h
    ·omega
    ·rw [show 8 - i - 1=k by omega] at h; exact h
   have e:=D0 (g:=g) (i:=i) (m:=k+1) (X:=n) (fun r hr=>by
    rw [hg (i+r) (by omega) (by omega),show 7 - (i+r)=k+1 - 1 - r by omega])
   conv=>whnf
   refine ⟨⟨by omega,by omega,Int.le_refl _,Nat.le_refl _,rfl⟩,?_⟩
   simp only [toNat_cast,ax,Nat.zero_add,hk];conv=>whnf
   refine ⟨⟨by show i+(k+1)≤8; omega,fun r hr=>cW (i+r) (by omega)⟩,?_⟩
   conv=>whnf
   show Value.string ⟨⟨bytesOf g i (k+1)⟩⟩=Value.string (nb n)
   rw [e,xt ak (.inr ho)]
theorem Ta:bf Tryz.prog 188 sF:=by
 refine bk l6 aM Tryz.func188 (enters_of Tryz.func188 (by kernel_rfl) rfl) (fun _=>rfl) (fun _=>rfl) ?_
 intro (n:Nat) hp;have hp:n < 72057594037927936:=hp;conv=>whnf
 refine .inl ⟨fun mm tz hz=>∃ (e:Nat) (k:Int) (out:Value) (hp:aw),bA (some (.int .i64 n)::aB 2 (some (out)::some (.int .i64 k)::aB 25 [])) tz∧hz=hp∧e=mm∧((e≤7∧k=8*(e:Int) - 8)∧((out=.slice none 0 0∧hp=[]∧n / C ^ e=0)∨(∃ m g,out=.slice (some ⟨0,0,none⟩) m aK∧hp=[some (.flat true m 1 g)]∧(1≤m∧m≤7 - e)∧n / C ^ e < C ^ m∧C ^ (m - 1)≤n / C ^ e∧∀ r,r < m→g r=[.int .u8 ((n / C ^ e / C ^ (m - 1 - r) % C:Nat):Int)]))),.inl ⟨_,7,48,.slice none 0 0,[],(.aa (.sk 2 (.aa (.aa (.sk 25 .nil rfl))) rfl)),rfl,rfl,?_⟩,?_⟩
 ·exact ⟨⟨Nat.le_refl _,rfl⟩,.inl ⟨rfl,rfl,abz hp⟩⟩
 rintro mm aS _ ⟨e,k,out,hp,au,rfl,rfl,⟨⟨he,hk⟩,h⟩⟩
 obtain ⟨az,rfl⟩:∃ az:Nat→Value,aS=.int .i64 n::zs az 1 2 (out::.int .i64 k::zs az 5 25 []):=bJ au;clear au;rcases h with ⟨rfl,rfl,hz⟩ | ⟨m,g,rfl,rfl,hm,pG,ja,hg⟩
 ·conv=>whnf
  refine aI (fun h1=>?_) (fun h1=>?_)
  ·have h1:=of_decide_eq_true h1;obtain ⟨e,rfl⟩:∃ e',e=e'+1:=⟨e - 1,by omega⟩
   have oC:=Pe (n:=n) k (e:=e) (by omega) (by omega)
   obtain ⟨P,hP⟩:∃ P,P=n / C ^ e:=⟨_,rfl⟩;rw [← hP] at oC;obtain ⟨D,hD⟩:∃ D,D=P % 256:=⟨_,rfl⟩;have ed:Int.tmod ((P:Nat):Int) 256=((D:Nat):Int):=by rw [hD]; rfl
   have rB:=Kp n e;rw [hz,← hP,← hD] at rB;have jC:IntKind.i64.wrap (k - 8)=8*(e:Int) - 8:=by rw [ar (by omega) (by omega)]; omega
   conv=>whnf
   rw [show decide (0≤k)=true from decide_eq_true (by omega)]
   conv=>whnf
   rw [oC,ed];by_cases J:0 < D
   ·rw [show decide (((D:Nat):Int) > 0)=true from decide_eq_true (by omega)]
    conv=>whnf
    rw [show decide (0≤k)=true from decide_eq_true (by omega)]
    conv=>whnf
    rw [oC,uJ (show P < 256 by omega)]
    refine ⟨by decide,?_⟩
    conv=>whnf
    rw [jC];refine .inr ⟨[1],[0,3,4],?_⟩;conv=>whnf
    intro _;conv=>whnf
    refine ⟨_,?_,e,8*(e:Int) - 8,.slice (some ⟨0,0,none⟩) 1 aK,[some (.flat true 1 1 _)],(.aa (.sk 2 (.aa (.aa (.sk 25 .nil rfl))) rfl)),rfl,rfl,?_⟩
    ·omega
    ·refine ⟨⟨by omega,rfl⟩,.inr ⟨1,_,rfl,rfl,⟨Nat.le_refl _,by omega⟩,by rw [← hP]; show P < 256; omega,by rw [← hP]; show 1≤P; omega,fun r hr=>?_⟩⟩
     have h0:r=0:=by omega
     subst h0;rw [← hP];have:P / C ^ (1 - 1 - 0) % C=P:=by
      show P / 1 % 256=P
      omega
     rw [this]
     rfl
   ·rw [show decide (((D:Nat):Int) > 0)=false from decide_eq_false (by omega)]
    conv=>whnf
    rw [jC];refine .inl ⟨_,?_,e,8*(e:Int) - 8,.slice none 0 0,[],(.aa (.sk 2 (.aa (.aa (.sk 25 .nil rfl))) rfl)),rfl,rfl,?_⟩
    ·omega
    ·exact ⟨⟨by omega,rfl⟩,.inl ⟨rfl,rfl,by rw [← hP]; omega⟩⟩
  ·have h1:=of_decide_eq_false h1;obtain rfl:e=0:=by omega
   have bM:n=0:=by simpa using hz
   subst bM;conv=>whnf
   show Value.string ⟨#[]⟩=Value.string (nb 0)
   rw [oS]
 ·conv=>whnf
  refine aI (fun h1=>?_) (fun h1=>?_)
  ·have h1:=of_decide_eq_true h1;obtain ⟨e,rfl⟩:∃ e',e=e'+1:=⟨e - 1,by omega⟩
   have oC:=Pe (n:=n) k (e:=e) (by omega) (by omega)
   obtain ⟨P,hP⟩:∃ P,P=n / C ^ e:=⟨_,rfl⟩;obtain ⟨Q,hQ⟩:∃ Q,Q=n / C ^ (e+1):=⟨_,rfl⟩;rw [← hP] at oC;obtain ⟨D,hD⟩:∃ D,D=P % 256:=⟨_,rfl⟩;have ed:Int.tmod ((P:Nat):Int) 256=((D:Nat):Int):=by rw [hD]; rfl
   have lB:D < 256:=by omega
   have rB:=Kp n e;rw [← hP,← hD,← hQ] at rB;rw [← hQ] at pG ja hg;have g1:=Wl pG lB;have g2:=Wm (d:=D) ja hm.1;rw [← rB] at g1 g2;have jC:IntKind.i64.wrap (k - 8)=8*(e:Int) - 8:=by rw [ar (by omega) (by omega)]; omega
   conv=>whnf
   rw [show decide (0≤k)=true from decide_eq_true (by omega)]
   conv=>whnf
   rw [oC,ed];by_cases J:0 < D
   ·rw [show decide (((D:Nat):Int) > 0)=true from decide_eq_true (by omega)]
    conv=>whnf
    rw [show decide (0≤k)=true from decide_eq_true (by omega)]
    conv=>whnf
    rw [oC,qm];refine ⟨⟨by decide,rfl,?_⟩,?_⟩
    ·show (m+1)*1≤_
     omega
    conv=>whnf
    refine ⟨[0,4],?_⟩;conv=>whnf
    intro _;conv=>whnf
    rw [jC];refine .inr ⟨[0],[0,3,4],?_⟩;conv=>whnf
    intro _;conv=>whnf
    refine ⟨_,?_,e,8*(e:Int) - 8,.slice (some ⟨0,0,none⟩) (m+1) aK,[some (.flat true (m+1) 1 _)],(.aa (.sk 2 (.aa (.aa (.sk 25 .nil rfl))) rfl)),rfl,rfl,?_⟩
    ·omega
    ·refine ⟨⟨by omega,rfl⟩,.inr ⟨m+1,_,rfl,rfl,⟨by omega,by omega⟩,by rw [← hP]; exact g1,by rw [← hP]; exact g2,fun r hr=>?_⟩⟩
     rw [← hP];exact LK rB lB hg r hr
   ·rw [show decide (((D:Nat):Int) > 0)=false from decide_eq_false (by omega)]
    conv=>whnf
    refine m8 ?_ ?_
    ·exact decide_eq_true (by omega)
    conv=>whnf
    rw [show decide (0≤k)=true from decide_eq_true (by omega)]
    conv=>whnf
    rw [oC,qm];refine ⟨⟨by decide,rfl,?_⟩,?_⟩
    ·show (m+1)*1≤_
     omega
    conv=>whnf
    refine ⟨[0,4],?_⟩;conv=>whnf
    intro _;conv=>whnf
    rw [jC];refine .inr ⟨[0],[0,3,4],?_⟩;conv=>whnf
    intro _;conv=>whnf
    refine ⟨_,?_,e,8*(e:Int) - 8,.slice (some ⟨0,0,none⟩) (m+1) aK,[some (.flat true (m+1) 1 _)],(.aa (.sk 2 (.aa (.aa (.sk 25 .nil rfl))) rfl)),rfl,rfl,?_⟩
    ·omega
    ·refine ⟨⟨by omega,rfl⟩,.inr ⟨m+1,_,rfl,rfl,⟨by omega,by omega⟩,by rw [← hP]; exact g1,by rw [← hP]; exact g2,fun r hr=>?_⟩⟩
     rw [← hP];exact LK rB lB hg r hr
  ·have h1:=of_decide_eq_false h1;obtain rfl:e=0:=by omega
   rw [Nat.pow_zero,Nat.div_one] at pG ja hg;obtain ⟨m,rfl⟩:∃ m',m=m'+1:=⟨m - 1,by omega⟩
   have hs:=v8 hg;conv=>whnf
   refine ⟨⟨by show 0+(m+1)≤m+1; omega,fun r hr=>⟨_,by show g (0+r)=_; rw [Nat.zero_add]; exact hg r hr⟩⟩,?_⟩
   rw [show (ah.flat true (m+1) 1 g).row=g from rfl,hs]
   conv=>whnf
   show Value.string (be (m+1) n)=Value.string (nb n)
   rw [xt pG (.inr (by rw [show m+1 - 1=m by omega] at ja; exact ja))]
end Go.Proofs.YtlapbjdhekcipaaGreat
