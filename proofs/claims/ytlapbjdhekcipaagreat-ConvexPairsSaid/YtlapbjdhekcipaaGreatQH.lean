import Derived.Test.YtlapbjdhekcipaaGreatQG
set_option linter.unusedVariables false
set_option linter.unusedSimpArgs false
/- Contracts of the reference integers: machine integers, signs, comparison. -/
set_option maxRecDepth 20000
set_option maxHeartbeats 1000000
namespace Go.Proofs.YtlapbjdhekcipaaGreat
open Go Go.Ae
def Erc:Env:=En [(191,.p kC),(177,.p Hr),(179,.p jh),(180,.p rj)]
theorem GU:EnvOk Tryz.prog Erc:=bL ⟨A6,XM,EE,DX,trivial⟩ trivial
theorem yp:bm Tryz.prog 155 eZ:=by
 refine bt GU aO Tryz.func155 (enters_of Tryz.func155 (by kernel_rfl) rfl) (fun _=>rfl) (fun _=>rfl) ?_
 intro (n:Int) hp
 have hp:-9223372036854775808≤n∧n < 9223372036854775808:=hp
 obtain ⟨k,hk⟩:∃ k:Nat,k=n.natAbs:=⟨_,rfl⟩
 obtain ⟨v,hv⟩:∃ v,v=nb k:=⟨_,rfl⟩
 have ev:Hr.val k=.string v:=by rw [hv]; rfl
 conv=>whnf
 refine aL (fun h1=>?_) (fun h1=>?_)
 ·have h1:n=(k:Int):=by have:=of_decide_eq_true h1; omega
  conv=>whnf
  refine ⟨k,by rw [h1]; rfl,by show k < 9223372036854775808; omega,?_⟩
  rw [ev]
  conv=>whnf
  show Value.agg ⟨[.bool false,.string v]⟩=aF n
  rw [hv,h1]
  have:=jf false k
  exact this
 ·have h1:n < 0:=by have:=of_decide_eq_false h1; omega
  conv=>whnf
  refine aL (fun J=>?_) (fun J=>?_)
  ·have J:n=-9223372036854775808:=by
    have J:n=IntKind.i64.wrap (0 - n):=by simpa using J
    rw [EX h1 hp.1] at J
    split at J <;> omega
   subst J
   conv=>whnf
   exact Uq.symm
  ·have J:IntKind.i64.wrap (0 - n)=(k:Int):=by
    have h3:=EX h1 hp.1
    split at h3
    ·rename_i e
     rw [h3] at J
     simp at J
    ·omega
   conv=>whnf
   rw [J]
   refine ⟨k,rfl,by
    show k < 9223372036854775808
    have h3:=EX h1 hp.1
    split at h3 <;> omega,?_⟩
   rw [ev]
   conv=>whnf
   show Value.agg ⟨[.bool true,.string v]⟩=aF n
   rw [hv,hk,vi h1]
theorem FU:bm Tryz.prog 174 gV:=by
 refine bt GU aO Tryz.func174 (enters_of Tryz.func174 (by kernel_rfl) rfl) (fun _=>rfl) (fun _=>rfl) ?_
 intro ⟨b,s⟩ hp
 have hp:s.size≤549755813888:=hp
 conv=>whnf
 refine ⟨(b,s),rfl,hp,?_⟩
 obtain ⟨z,hz⟩:∃ z,z=IV.z (b,s):=⟨_,rfl⟩
 obtain ⟨m,hm⟩:∃ m,m=nb z.natAbs:=⟨_,rfl⟩
 have fin:∀ x:Value,x=aF (-z)→x=gV.val (b,s):=fun x h=>by rw [h,hz]; rfl
 rcases Int.lt_or_le z 0 with h | h
 ·rw [show jh.val (b,s)=.agg ⟨[.bool true,.string m]⟩ by show aF (IV.z (b,s))=_; rw [← hz,vi h,hm]]
  conv=>whnf
  refine fin _ ?_
  rw [vj (by omega),Int.natAbs_neg,hm]
  rfl
 ·rw [show jh.val (b,s)=.agg ⟨[.bool false,.string m]⟩ by show aF (IV.z (b,s))=_; rw [← hz,vj h,hm]]
  conv=>whnf
  refine fin _ ?_
  rcases Int.lt_or_eq_of_le h with h | h
  ·rw [vi (by omega),Int.natAbs_neg,← hm]
   show Value.agg ⟨[.bool (!m.toList == (⟨#[]⟩:ByteArray).toList),.string m]⟩=_
   rw [hm,vV (by omega)]
  ·rw [vj (by omega),Int.natAbs_neg,← hm]
   show Value.agg ⟨[.bool (!m.toList == (⟨#[]⟩:ByteArray).toList),.string m]⟩=_
   rw [hm,vM (by omega)]
theorem XN:bm Tryz.prog 159 lE:=by
 refine bt GU aO Tryz.func159 (enters_of Tryz.func159 (by kernel_rfl) rfl) (fun _=>rfl) (fun _=>rfl) ?_
 intro ⟨⟨b,s⟩,⟨c,t⟩⟩ hp
 have hp:s.size≤549755813888∧t.size≤549755813888:=hp
 obtain ⟨x,hx⟩:∃ x,x=IV.z (b,s):=⟨_,rfl⟩
 obtain ⟨y,hy⟩:∃ y,y=IV.z (c,t):=⟨_,rfl⟩
 obtain ⟨m,hm⟩:∃ m,m=nb x.natAbs:=⟨_,rfl⟩
 obtain ⟨k,hk⟩:∃ k,k=nb y.natAbs:=⟨_,rfl⟩
 have qK:aR x.natAbs≤549755813888:=by rw [hx]; exact IV.aR (i:=(b,s)) hp.1
 have xq:aR y.natAbs≤549755813888:=by rw [hy]; exact IV.aR (i:=(c,t)) hp.2
 have fin:∀ z:Int,z=dP x y→Value.int .i64 z=lE.val ((b,s),(c,t)):=fun z h=>by rw [h,hx,hy]; rfl
 rcases Int.lt_or_le x 0 with h1 | h1
 ·have e1:jh.val (b,s)=.agg ⟨[.bool true,.string m]⟩:=by show aF (IV.z (b,s))=_; rw [← hx,vi h1,hm]
  rcases Int.lt_or_le y 0 with J | J
  ·have e2:jh.val (c,t)=.agg ⟨[.bool true,.string k]⟩:=by show aF (IV.z (c,t))=_; rw [← hy,vi J,hk]
   conv=>whnf
   refine .inl ⟨3,[[],[0],[],[0,1,2],[0,1,2,3],[0,1,2,3,4]],by kernel_rfl,?_⟩
   conv=>whnf
   refine ⟨(b,s),rfl,hp.1,?_⟩
   rw [e1]
   conv=>whnf
   refine ⟨(c,t),rfl,hp.2,?_⟩
   rw [e2]
   conv=>whnf
   first
    | exact fin _ (tq (by omega)).symm
    | (refine ⟨(y.natAbs,x.natAbs),by rw [hm,hk]; rfl,⟨by show aR y.natAbs≤_; omega,by show aR x.natAbs≤_; omega⟩,?_⟩
       conv=>whnf
       exact fin _ (ME h1 J).symm)
  ·have e2:jh.val (c,t)=.agg ⟨[.bool false,.string k]⟩:=by show aF (IV.z (c,t))=_; rw [← hy,vj J,hk]
   conv=>whnf
   refine .inl ⟨3,[[],[0],[],[0,1,2],[0,1,2,3],[0,1,2,3,4]],by kernel_rfl,?_⟩
   conv=>whnf
   refine ⟨(b,s),rfl,hp.1,?_⟩
   rw [e1]
   conv=>whnf
   refine ⟨(c,t),rfl,hp.2,?_⟩
   rw [e2]
   conv=>whnf
   first
    | exact fin _ (tj (by omega)).symm
    | (refine ⟨(x.natAbs,y.natAbs),by rw [hm,hk]; rfl,⟨by show aR x.natAbs≤_; omega,by show aR y.natAbs≤_; omega⟩,?_⟩
       conv=>whnf
       exact fin _ (MD h1 J).symm)
 ·have e1:jh.val (b,s)=.agg ⟨[.bool false,.string m]⟩:=by show aF (IV.z (b,s))=_; rw [← hx,vj h1,hm]
  rcases Int.lt_or_le y 0 with J | J
  ·have e2:jh.val (c,t)=.agg ⟨[.bool true,.string k]⟩:=by show aF (IV.z (c,t))=_; rw [← hy,vi J,hk]
   conv=>whnf
   refine .inl ⟨3,[[],[0],[],[0,1,2],[0,1,2,3],[0,1,2,3,4]],by kernel_rfl,?_⟩
   conv=>whnf
   refine ⟨(b,s),rfl,hp.1,?_⟩
   rw [e1]
   conv=>whnf
   refine ⟨(c,t),rfl,hp.2,?_⟩
   rw [e2]
   conv=>whnf
   first
    | exact fin _ (tq (by omega)).symm
    | (refine ⟨(y.natAbs,x.natAbs),by rw [hm,hk]; rfl,⟨by show aR y.natAbs≤_; omega,by show aR x.natAbs≤_; omega⟩,?_⟩
       conv=>whnf
       exact fin _ (ME h1 J).symm)
  ·have e2:jh.val (c,t)=.agg ⟨[.bool false,.string k]⟩:=by show aF (IV.z (c,t))=_; rw [← hy,vj J,hk]
   conv=>whnf
   refine .inl ⟨3,[[],[0],[],[0,1,2],[0,1,2,3],[0,1,2,3,4]],by kernel_rfl,?_⟩
   conv=>whnf
   refine ⟨(b,s),rfl,hp.1,?_⟩
   rw [e1]
   conv=>whnf
   refine ⟨(c,t),rfl,hp.2,?_⟩
   rw [e2]
   conv=>whnf
   first
    | exact fin _ (tj (by omega)).symm
    | (refine ⟨(x.natAbs,y.natAbs),by rw [hm,hk]; rfl,⟨by show aR x.natAbs≤_; omega,by show aR y.natAbs≤_; omega⟩,?_⟩
       conv=>whnf
       exact fin _ (MD h1 J).symm)
end Go.Proofs.YtlapbjdhekcipaaGreat
/- Contracts of the reference integers: digit arithmetic. -/
set_option maxRecDepth 20000
set_option maxHeartbeats 1000000
namespace Go.Proofs.YtlapbjdhekcipaaGreat
open Go Go.Ae
theorem KJ:bm Tryz.prog 189 vX:=by
 refine bt yL aO Tryz.func189 (enters_of Tryz.func189 (by kernel_rfl) rfl) (fun _=>rfl) (fun _=>rfl) ?_
 intro ⟨s,t⟩ hp
 have hp:s.size≤549755813896∧t.size≤549755813896:=hp
 obtain ⟨m,hm⟩:∃ m:Nat,m=max s.size t.size:=⟨_,rfl⟩
 obtain ⟨n,hn⟩:∃ n:Nat,n=m+1:=⟨_,rfl⟩
 have em:(if ((t.size:Nat):Int) > ((s.size:Nat):Int) then ((t.size:Nat):Int) else ((s.size:Nat):Int))=(m:Int):=by split <;> omega
 have e1:IntKind.i64.wrap (((m:Nat):Int)+1)=((n:Nat):Int):=by rw [au (by omega) (by omega)]; omega
 conv=>whnf
 rw [show (if (((s,t).snd.size:Nat):Int) > (((s,t).fst.size:Nat):Int) then (((s,t).snd.size:Nat):Int) else (((s,t).fst.size:Nat):Int))=(m:Int) from em,e1]
 refine ⟨⟨by omega,Int.le_refl _,by show ((n:Nat):Int)*((1:Nat):Int)≤_; omega⟩,?_⟩
 simp only [toNat_cast]
 conv=>whnf
 refine .inl ⟨fun mm tz hz=>∃ (j:Nat) (Y:Nat) (c:Nat) (g:Nat→List Value),bE (some (.string s)::some (.string t)::aD 3 (some (.int .i64 (n:Nat))::some (.slice (some ⟨0,0,none⟩) n n)::some (.int .i64 c)::some (.int .i64 ((j+1:Nat):Int))::aD 51 [])) tz∧hz=[some (.flat true n 1 g)]∧n - j=mm∧((j≤n∧c≤1)∧yh (ab s) (ab t) j Y c∧mH g n j Y),.inl ⟨_,0,0,0,_,(.aa (.aa (.sk 3 (.aa (.aa (.aa (.aa (.sk 51 .nil rfl))))) rfl))),rfl,rfl,?_⟩,?_⟩
 ·exact ⟨⟨Nat.zero_le _,by decide⟩,Qw _ _,Ji _⟩
 rintro mm aT _ ⟨j,Y,c,g,ar,rfl,rfl,⟨⟨hj,hc⟩,hY,hg⟩⟩
 obtain ⟨az,rfl⟩:∃ az:Nat→Value,aT=.string s::.string t::zs az 2 3 (.int .i64 (n:Nat)::.slice (some ⟨0,0,none⟩) n n::.int .i64 c::.int .i64 ((j+1:Nat):Int)::zs az 9 51 []):=bK ar
 clear ar
 conv=>whnf
 refine aL (fun h1=>?_) (fun h1=>?_)
 ·have h1:j < n:=by
   have:=of_decide_eq_true h1
   omega
  obtain ⟨u,hu⟩:∃ u,u=c+bW (ab s) j:=⟨_,rfl⟩
  obtain ⟨t',ht⟩:∃ t',t'=u+bW (ab t) j:=⟨_,rfl⟩
  obtain ⟨da,oV⟩:∃ da,da=bW (ab s) j:=⟨_,rfl⟩
  obtain ⟨dd,dj⟩:∃ dd,dd=bW (ab t) j:=⟨_,rfl⟩
  have b1:bW (ab s) j < 256:=pE _ _
  have b2:bW (ab t) j < 256:=pE _ _
  obtain ⟨Y',ao,a9⟩:=Q1 (t:=t') hY hg h1 (by rw [ht,hu])
  obtain ⟨q,hq⟩:∃ q,q=n - (j+1):=⟨_,rfl⟩
  rw [← hq] at a9
  obtain ⟨x,hx⟩:=hg.1 q (by omega)
  rw [← oV] at hu b1
  rw [← dj] at ht b2
  have ea:IntKind.i64.wrap ((c:Int)+IntKind.i64.wrap (da:Int))=(u:Int):=by rw [au (x:=(da:Int)) (by omega) (by omega),au (by omega) (by omega)]; omega
  have ed:IntKind.i64.wrap ((u:Int)+IntKind.i64.wrap (dd:Int))=(t':Int):=by rw [au (x:=(dd:Int)) (by omega) (by omega),au (by omega) (by omega)]; omega
  have ej:IntKind.i64.wrap (((n:Nat):Int) - ((j+1:Nat):Int))=((q:Nat):Int):=by rw [au (by omega) (by omega)]; omega
  have e7:IntKind.i64.wrap (((j+1:Nat):Int)+1)=((j+1+1:Nat):Int):=by rw [au (by omega) (by omega)]; rfl
  have ediv:((t':Nat):Int) / 256=((t' / C:Nat):Int):=rfl
  have CS:t'≤511:=by omega
  obtain ⟨tt,acU⟩:∃ tt,tt=t:=⟨_,rfl⟩
  obtain ⟨t,rfl⟩:∃ uH,uH=t':=⟨_,rfl⟩
  subst acU
  conv=>whnf
  refine aL (fun J=>?_) (fun J=>?_)
  ·have J:j < s.size:=by
    have h4:((j+1:Nat):Int)≤((s.size:Nat):Int):=of_decide_eq_true J
    omega
   have hb:=sW J
   have ei:IntKind.i64.wrap (((s.size:Nat):Int) - ((j+1:Nat):Int))=((s.size - (j+1):Nat):Int):=by rw [au (by omega) (by omega)]; omega
   conv=>whnf
   simp only [ei]
   refine ⟨⟨by omega,by omega⟩,?_⟩
   simp only [toNat_cast]
   conv=>whnf
   rw [hb,← oV,ea]
   refine aL (fun h3=>?_) (fun h3=>?_)
   ·have h3:j < tt.size:=by
     have:=of_decide_eq_true h3
     have h4:((j+1:Nat):Int)≤((tt.size:Nat):Int):=this
     omega
    have hb:=sW h3
    have ei:IntKind.i64.wrap (((tt.size:Nat):Int) - ((j+1:Nat):Int))=((tt.size - (j+1):Nat):Int):=by rw [au (by omega) (by omega)]; omega
    conv=>whnf
    simp only [ei]
    refine ⟨⟨by omega,by omega⟩,?_⟩
    simp only [toNat_cast]
    conv=>whnf
    rw [hb,← dj,ed]
    simp only [ej]
    refine ⟨⟨by omega,by omega⟩,?_⟩
    simp only [toNat_cast,aq,Nat.zero_add]
    conv=>whnf
    refine ⟨by show q < n; omega,?_⟩
    conv=>whnf
    rw [hx]
    conv=>whnf
    simp only [pD,dc,ediv,e7]
    refine .inl ⟨_,?_,j+1,Y',t / C,_,(.aa (.aa (.sk 3 (.aa (.aa (.aa (.aa (.sk 51 .nil rfl))))) rfl))),rfl,rfl,?_⟩
    ·omega
    ·exact ⟨⟨by omega,by show t / 256≤1; omega⟩,ao,a9⟩
   ·have h3:tt.size≤j:=by
     have h4:¬ ((j+1:Nat):Int)≤((tt.size:Nat):Int):=of_decide_eq_false h3
     omega
    have h0:=A1 h3
    rw [dj,h0,Nat.add_zero] at ht
    conv=>whnf
    rw [← ht]
    simp only [ej]
    refine ⟨⟨by omega,by omega⟩,?_⟩
    simp only [toNat_cast,aq,Nat.zero_add]
    conv=>whnf
    refine ⟨by show q < n; omega,?_⟩
    conv=>whnf
    rw [hx]
    conv=>whnf
    simp only [pD,dc,ediv,e7]
    refine .inl ⟨_,?_,j+1,Y',t / C,_,(.aa (.aa (.sk 3 (.aa (.aa (.aa (.aa (.sk 51 .nil rfl))))) rfl))),rfl,rfl,?_⟩
    ·omega
    ·exact ⟨⟨by omega,by show t / 256≤1; omega⟩,ao,a9⟩
  ·have J:s.size≤j:=by
    have h4:¬ ((j+1:Nat):Int)≤((s.size:Nat):Int):=of_decide_eq_false J
    omega
   have h0:=A1 J
   rw [oV,h0,Nat.add_zero] at hu
   conv=>whnf
   rw [← hu]
   refine aL (fun h3=>?_) (fun h3=>?_)
   ·have h3:j < tt.size:=by
     have:=of_decide_eq_true h3
     have h4:((j+1:Nat):Int)≤((tt.size:Nat):Int):=this
     omega
    have hb:=sW h3
    have ei:IntKind.i64.wrap (((tt.size:Nat):Int) - ((j+1:Nat):Int))=((tt.size - (j+1):Nat):Int):=by rw [au (by omega) (by omega)]; omega
    conv=>whnf
    simp only [ei]
    refine ⟨⟨by omega,by omega⟩,?_⟩
    simp only [toNat_cast]
    conv=>whnf
    rw [hb,← dj,ed]
    simp only [ej]
    refine ⟨⟨by omega,by omega⟩,?_⟩
    simp only [toNat_cast,aq,Nat.zero_add]
    conv=>whnf
    refine ⟨by show q < n; omega,?_⟩
    conv=>whnf
    rw [hx]
    conv=>whnf
    simp only [pD,dc,ediv,e7]
    refine .inl ⟨_,?_,j+1,Y',t / C,_,(.aa (.aa (.sk 3 (.aa (.aa (.aa (.aa (.sk 51 .nil rfl))))) rfl))),rfl,rfl,?_⟩
    ·omega
    ·exact ⟨⟨by omega,by show t / 256≤1; omega⟩,ao,a9⟩
   ·have h3:tt.size≤j:=by
     have h4:¬ ((j+1:Nat):Int)≤((tt.size:Nat):Int):=of_decide_eq_false h3
     omega
    have h0:=A1 h3
    rw [dj,h0,Nat.add_zero] at ht
    conv=>whnf
    rw [← ht]
    simp only [ej]
    refine ⟨⟨by omega,by omega⟩,?_⟩
    simp only [toNat_cast,aq,Nat.zero_add]
    conv=>whnf
    refine ⟨by show q < n; omega,?_⟩
    conv=>whnf
    rw [hx]
    conv=>whnf
    simp only [pD,dc,ediv,e7]
    refine .inl ⟨_,?_,j+1,Y',t / C,_,(.aa (.aa (.sk 3 (.aa (.aa (.aa (.aa (.sk 51 .nil rfl))))) rfl))),rfl,rfl,?_⟩
    ·omega
    ·exact ⟨⟨by omega,by show t / 256≤1; omega⟩,ao,a9⟩
 ·have h1:j=n:=by
   have h4:¬ ((j+1:Nat):Int)≤((n:Nat):Int):=of_decide_eq_false h1
   omega
  subst h1
  obtain ⟨v,hv,fA,oW⟩:=RL hY hg ⟨by omega,by omega⟩
  subst hn
  conv=>whnf
  refine ⟨⟨by show 0+(m+1)≤m+1; omega,fun r hr=>by show ∃ x,g (0+r)=_; rw [Nat.zero_add]; exact hg.1 r hr⟩,?_⟩
  rw [show (ai.flat true (m+1) 1 g).row=g from rfl,hv]
  conv=>whnf
  refine ⟨v,rfl,by show v.size≤_; omega,?_⟩
  conv=>whnf
  show Value.string (nb (ab v))=_
  rw [oW]
  rfl
end Go.Proofs.YtlapbjdhekcipaaGreat
/- Contracts of the reference integers: difference of digits. -/
set_option maxRecDepth 20000
set_option maxHeartbeats 1000000
namespace Go.Proofs.YtlapbjdhekcipaaGreat
open Go Go.Ae
theorem KK:bm Tryz.prog 190 rk:=by
 refine bt yL aO Tryz.func190 (enters_of Tryz.func190 (by kernel_rfl) rfl) (fun _=>rfl) (fun _=>rfl) ?_
 intro ⟨s,t⟩ hp
 have hp:(s.size≤549755813896∧t.size≤549755813896)∧ab t≤ab s:=hp
 obtain ⟨n,hn⟩:∃ n:Nat,n=s.size:=⟨_,rfl⟩
 conv=>whnf
 rw [show ((s,t).fst.size:Nat)=n from hn.symm]
 refine ⟨⟨by omega,Int.le_refl _,by show ((n:Nat):Int)*((1:Nat):Int)≤_; omega⟩,?_⟩
 simp only [toNat_cast]
 conv=>whnf
 refine .inl ⟨fun mm tz hz=>∃ (j:Nat) (Y:Nat) (c:Nat) (g:Nat→List Value),bE (some (.string s)::some (.string t)::aD 3 (some (.slice (some ⟨0,0,none⟩) n n)::some (.int .i64 c)::some (.int .i64 ((j+1:Nat):Int))::aD 47 [])) tz∧hz=[some (.flat true n 1 g)]∧n - j=mm∧((j≤n∧c≤1)∧yi (ab s) (ab t) j Y c∧mH g n j Y),.inl ⟨_,0,0,0,_,(.aa (.aa (.sk 3 (.aa (.aa (.aa (.sk 47 .nil rfl)))) rfl))),rfl,rfl,?_⟩,?_⟩
 ·exact ⟨⟨Nat.zero_le _,by decide⟩,Qx _ _,Ji _⟩
 rintro mm aT _ ⟨j,Y,c,g,ar,rfl,rfl,⟨⟨hj,hc⟩,hY,hg⟩⟩
 obtain ⟨az,rfl⟩:∃ az:Nat→Value,aT=.string s::.string t::zs az 2 3 (.slice (some ⟨0,0,none⟩) n n::.int .i64 c::.int .i64 ((j+1:Nat):Int)::zs az 8 47 []):=bK ar
 clear ar
 conv=>whnf
 rw [← hn]
 refine aL (fun h1=>?_) (fun h1=>?_)
 ·have h1:j < n:=by
   have:=of_decide_eq_true h1
   omega
  obtain ⟨da,oV⟩:∃ da,da=bW (ab s) j:=⟨_,rfl⟩
  obtain ⟨dd,dj⟩:∃ dd,dd=bW (ab t) j:=⟨_,rfl⟩
  have b1:da < 256:=by rw [oV]; exact pE _ _
  have b2:dd < 256:=by rw [dj]; exact pE _ _
  obtain ⟨q,hq⟩:∃ q,q=n - (j+1):=⟨_,rfl⟩
  obtain ⟨x,hx⟩:=hg.1 q (by omega)
  have ej:IntKind.i64.wrap ((n:Int) - ((j+1:Nat):Int))=((q:Nat):Int):=by rw [au (by omega) (by omega)]; omega
  have e7:IntKind.i64.wrap (((j+1:Nat):Int)+1)=((j+1+1:Nat):Int):=by rw [au (by omega) (by omega)]; rfl
  have hb:cf s q=da:=by rw [oV,hq,hn]; exact sW (by omega)
  have ea:IntKind.i64.wrap (IntKind.i64.wrap (da:Int) - (c:Int))=(da:Int) - c:=by rw [au (x:=(da:Int)) (by omega) (by omega),au (by omega) (by omega)]
  conv=>whnf
  rw [← hn,ej]
  refine ⟨⟨by omega,by omega⟩,?_⟩
  simp only [toNat_cast]
  conv=>whnf
  rw [hb,ea]
  refine aL (fun h3=>?_) (fun h3=>?_)
  ·have h3:j < t.size:=by
    have h4:((j+1:Nat):Int)≤((t.size:Nat):Int):=of_decide_eq_true h3
    omega
   have dJ:=sW h3
   rw [← dj] at dJ
   have ei:IntKind.i64.wrap (((t.size:Nat):Int) - ((j+1:Nat):Int))=((t.size - (j+1):Nat):Int):=by rw [au (by omega) (by omega)]; omega
   obtain ⟨w,hw⟩:∃ w:Int,w=(da:Int) - c - dd:=⟨_,rfl⟩
   have ed:IntKind.i64.wrap (((da:Int) - c) - IntKind.i64.wrap (dd:Int))=w:=by rw [au (x:=(dd:Int)) (by omega) (by omega),au (by omega) (by omega),hw]
   conv=>whnf
   simp only [ei]
   refine ⟨⟨by omega,by omega⟩,?_⟩
   simp only [toNat_cast]
   conv=>whnf
   rw [dJ,ed]
   rcases Int.lt_or_le w 0 with hw | hw
   ·obtain ⟨e,c',he,cK,hs,kO⟩:∃ e c':Nat,e < 256∧c'≤1∧e+c+dd=da+256*c'∧(w+256=(e:Int)∧c'=1):=⟨(w+256).toNat,1,by omega,by omega,by omega,by omega,rfl⟩
    have ew:IntKind.i64.wrap (w+256)=(e:Int):=by rw [au (by omega) (by omega)]; exact kO.1
    have e0:=kO.2
    subst e0
    obtain ⟨Y',ao,a9⟩:=Ar hY hg h1 he (by rw [← oV,← dj]; exact hs)
    rw [← hq] at a9
    refine mK ?_ ?_
    ·exact decide_eq_true hw
    conv=>whnf
    rw [ew]
    simp only [← hn,ej]
    refine ⟨⟨by omega,by omega⟩,?_⟩
    simp only [toNat_cast,aq,Nat.zero_add]
    conv=>whnf
    refine ⟨by show q < n; omega,?_⟩
    conv=>whnf
    rw [hx]
    conv=>whnf
    simp only [tX he,e7]
    refine .inl ⟨_,?_,j+1,Y',_,_,(.aa (.aa (.sk 3 (.aa (.aa (.aa (.sk 47 .nil rfl)))) rfl))),rfl,rfl,?_⟩
    ·omega
    ·exact ⟨⟨by omega,cK⟩,ao,a9⟩
   ·obtain ⟨e,c',he,cK,hs,kO⟩:∃ e c':Nat,e < 256∧c'≤1∧e+c+dd=da+256*c'∧(w=(e:Int)∧c'=0):=⟨w.toNat,0,by omega,by omega,by omega,by omega,rfl⟩
    have ew:w=(e:Int):=kO.1
    have e0:=kO.2
    subst e0
    obtain ⟨Y',ao,a9⟩:=Ar hY hg h1 he (by rw [← oV,← dj]; exact hs)
    rw [← hq] at a9
    refine aL (fun h=>absurd (of_decide_eq_true h) (by omega)) (fun _=>?_)
    conv=>whnf
    rw [ew]
    simp only [← hn,ej]
    refine ⟨⟨by omega,by omega⟩,?_⟩
    simp only [toNat_cast,aq,Nat.zero_add]
    conv=>whnf
    refine ⟨by show q < n; omega,?_⟩
    conv=>whnf
    rw [hx]
    conv=>whnf
    simp only [tX he,e7]
    refine .inl ⟨_,?_,j+1,Y',_,_,(.aa (.aa (.sk 3 (.aa (.aa (.aa (.sk 47 .nil rfl)))) rfl))),rfl,rfl,?_⟩
    ·omega
    ·exact ⟨⟨by omega,cK⟩,ao,a9⟩
  ·have h3:t.size≤j:=by
    have h4:¬ ((j+1:Nat):Int)≤((t.size:Nat):Int):=of_decide_eq_false h3
    omega
   have h0:=A1 h3
   obtain ⟨w,hw⟩:∃ w:Int,w=(da:Int) - c:=⟨_,rfl⟩
   rw [← dj] at h0
   conv=>whnf
   rw [← hw]
   rcases Int.lt_or_le w 0 with hw | hw
   ·obtain ⟨e,c',he,cK,hs,kO⟩:∃ e c':Nat,e < 256∧c'≤1∧e+c+dd=da+256*c'∧(w+256=(e:Int)∧c'=1):=⟨(w+256).toNat,1,by omega,by omega,by omega,by omega,rfl⟩
    have ew:IntKind.i64.wrap (w+256)=(e:Int):=by rw [au (by omega) (by omega)]; exact kO.1
    have e0:=kO.2
    subst e0
    obtain ⟨Y',ao,a9⟩:=Ar hY hg h1 he (by rw [← oV,← dj]; exact hs)
    rw [← hq] at a9
    refine mK ?_ ?_
    ·exact decide_eq_true hw
    conv=>whnf
    rw [ew]
    simp only [← hn,ej]
    refine ⟨⟨by omega,by omega⟩,?_⟩
    simp only [toNat_cast,aq,Nat.zero_add]
    conv=>whnf
    refine ⟨by show q < n; omega,?_⟩
    conv=>whnf
    rw [hx]
    conv=>whnf
    simp only [tX he,e7]
    refine .inl ⟨_,?_,j+1,Y',_,_,(.aa (.aa (.sk 3 (.aa (.aa (.aa (.sk 47 .nil rfl)))) rfl))),rfl,rfl,?_⟩
    ·omega
    ·exact ⟨⟨by omega,cK⟩,ao,a9⟩
   ·obtain ⟨e,c',he,cK,hs,kO⟩:∃ e c':Nat,e < 256∧c'≤1∧e+c+dd=da+256*c'∧(w=(e:Int)∧c'=0):=⟨w.toNat,0,by omega,by omega,by omega,by omega,rfl⟩
    have ew:w=(e:Int):=kO.1
    have e0:=kO.2
    subst e0
    obtain ⟨Y',ao,a9⟩:=Ar hY hg h1 he (by rw [← oV,← dj]; exact hs)
    rw [← hq] at a9
    refine aL (fun h=>absurd (of_decide_eq_true h) (by omega)) (fun _=>?_)
    conv=>whnf
    rw [ew]
    simp only [← hn,ej]
    refine ⟨⟨by omega,by omega⟩,?_⟩
    simp only [toNat_cast,aq,Nat.zero_add]
    conv=>whnf
    refine ⟨by show q < n; omega,?_⟩
    conv=>whnf
    rw [hx]
    conv=>whnf
    simp only [tX he,e7]
    refine .inl ⟨_,?_,j+1,Y',_,_,(.aa (.aa (.sk 3 (.aa (.aa (.aa (.sk 47 .nil rfl)))) rfl))),rfl,rfl,?_⟩
    ·omega
    ·exact ⟨⟨by omega,cK⟩,ao,a9⟩
 ·have h1:j=n:=by
   have h4:¬ ((j+1:Nat):Int)≤((n:Nat):Int):=of_decide_eq_false h1
   omega
  subst h1
  obtain ⟨v,hv,fA,oW⟩:=RN (g:=g) (by rw [← hn]; exact hY) hp.2 (by rw [← hn]; exact hg)
  rw [← hn] at hv fA
  conv=>whnf
  rcases Nat.eq_zero_or_pos j with h0 | h0
  ·subst h0
   conv=>whnf
   have e0:v=⟨#[]⟩:=hv.symm
   subst e0
   refine ⟨⟨#[]⟩,rfl,Nat.zero_le _,?_⟩
   conv=>whnf
   show Value.string (nb (ab ⟨#[]⟩))=_
   rw [oW]
   rfl
  ·obtain ⟨k,rfl⟩:∃ k,j=k+1:=⟨j - 1,by omega⟩
   conv=>whnf
   refine ⟨⟨by show 0+(k+1)≤k+1; omega,fun r hr=>by show ∃ x,g (0+r)=_; rw [Nat.zero_add]; exact hg.1 r hr⟩,?_⟩
   rw [show (ai.flat true (k+1) 1 g).row=g from rfl,hv]
   conv=>whnf
   refine ⟨v,rfl,by show v.size≤_; omega,?_⟩
   conv=>whnf
   show Value.string (nb (ab v))=_
   rw [oW]
   rfl
end Go.Proofs.YtlapbjdhekcipaaGreat
/- Contracts of the reference integers: product of digits. -/
set_option maxRecDepth 20000
set_option maxHeartbeats 1000000
namespace Go.Proofs.YtlapbjdhekcipaaGreat
open Go Go.Ae
theorem So:bm Tryz.prog 182 FE:=by
 refine bt yL aO Tryz.func182 (enters_of Tryz.func182 (by kernel_rfl) rfl) (fun _=>rfl) (fun _=>rfl) ?_
 intro ⟨s,t⟩ hp
 have hp:s.size≤549755813888∧t.size≤549755813888:=hp
 obtain ⟨a,ha⟩:∃ n:Nat,n=s.size:=⟨_,rfl⟩
 obtain ⟨b,hb⟩:∃ n:Nat,n=t.size:=⟨_,rfl⟩
 obtain ⟨n,hn⟩:∃ n:Nat,n=a+b:=⟨_,rfl⟩
 have e1:IntKind.i64.wrap (((a:Nat):Int)+((b:Nat):Int))=((n:Nat):Int):=by rw [au (by omega) (by omega)]; omega
 conv=>whnf
 rw [show ((s,t).fst.size:Nat)=a from ha.symm,show ((s,t).snd.size:Nat)=b from hb.symm,e1]
 refine ⟨⟨by omega,Int.le_refl _,by show ((n:Nat):Int)*((8:Nat):Int)≤_; omega⟩,?_⟩
 simp only [toNat_cast]
 conv=>whnf
 rw [show ((s,t).fst.size:Nat)=a from ha.symm]
 refine .inl ⟨fun mm tz hz=>∃ (u:Nat) (p:Nat) (Z:Nat) (g:Nat→List Value),bE (some (.string s)::some (.string t)::aD 3 (some (.slice (some ⟨0,0,none⟩) n n)::some (.int .i64 (IntKind.i64.wrap (((u:Nat):Int) - 1)))::aD 80 [])) tz∧hz=[some (.flat true n 1 g)]∧u=mm∧((u+p=a)∧yk (ab s) (ab t) p b Z∧pM g n Z),.inr ⟨[0],[0,1,5,6],?_⟩,?_⟩
 ·conv=>whnf
  intro _
  conv=>whnf
  refine ⟨_,a,0,0,_,(.aa (.aa (.sk 3 (.aa (.aa (.sk 80 .nil rfl))) rfl))),rfl,rfl,?_⟩
  exact ⟨by omega,Qy _ _ _,Q5 _⟩
 rintro mm aT _ ⟨u,p,Z,g,ar,rfl,rfl,⟨hu,hY,hg⟩⟩
 obtain ⟨az,rfl⟩:∃ az:Nat→Value,aT=.string s::.string t::zs az 2 3 (.slice (some ⟨0,0,none⟩) n n::.int .i64 (IntKind.i64.wrap (((u:Nat):Int) - 1))::zs az 7 80 []):=bK ar
 clear ar
 conv=>whnf
 refine aL (fun h1=>?_) (fun h1=>?_)
 ·obtain ⟨i,rfl⟩:∃ i,u=i+1:=by
   rcases Nat.eq_zero_or_pos u with h | h
   ·subst h; exact absurd h1 (by decide)
   ·exact ⟨u - 1,by omega⟩
  have ei:IntKind.i64.wrap (((i+1:Nat):Int) - 1)=(i:Int):=by rw [au (by omega) (by omega)]; omega
  rw [ei]
  conv=>whnf
  rw [← hb]
  refine .inl ⟨fun mm tz hz=>∃ (v:Nat) (q:Nat) (Z:Nat) (c:Nat) (g:Nat→List Value),bE (some (.string s)::some (.string t)::aD 3 (some (.slice (some ⟨0,0,none⟩) n n)::some (.int .i64 i)::some (.int .i64 c)::some (.int .i64 (IntKind.i64.wrap (((v:Nat):Int) - 1)))::aD 78 [])) tz∧hz=[some (.flat true n 1 g)]∧v=mm∧((v+q=b∧c < 256)∧yj (ab s) (ab t) p b q Z c∧pM g n Z),.inr ⟨[0],[0,1,5,6,7,8],?_⟩,?_⟩
  ·conv=>whnf
   intro _
   conv=>whnf
   refine ⟨_,b,0,Z,0,g,(.aa (.aa (.sk 3 (.aa (.aa (.aa (.aa (.sk 78 .nil rfl))))) rfl))),rfl,rfl,?_⟩
   exact ⟨⟨by omega,by decide⟩,Qz hY,hg⟩
  rintro mm aT _ ⟨v,q,Z,c,g,ar,rfl,rfl,⟨⟨hv,hc⟩,hI,hg⟩⟩
  obtain ⟨az,rfl⟩:∃ az:Nat→Value,aT=.string s::.string t::zs az 2 3 (.slice (some ⟨0,0,none⟩) n n::.int .i64 i::.int .i64 c::.int .i64 (IntKind.i64.wrap (((v:Nat):Int) - 1))::zs az 9 78 []):=bK ar
  clear ar
  clear hY
  conv=>whnf
  refine aL (fun J=>?_) (fun J=>?_)
  ·obtain ⟨k,rfl⟩:∃ k,v=k+1:=by
    rcases Nat.eq_zero_or_pos v with h | h
    ·subst h; exact absurd J (by decide)
    ·exact ⟨v - 1,by omega⟩
   have ek:IntKind.i64.wrap (((k+1:Nat):Int) - 1)=(k:Int):=by rw [au (by omega) (by omega)]; omega
   rw [ek]
   obtain ⟨x,hx⟩:∃ x,x=bW (ab s) p:=⟨_,rfl⟩
   obtain ⟨y,hy⟩:∃ y,y=bW (ab t) q:=⟨_,rfl⟩
   obtain ⟨z,hz⟩:∃ z,z=bW Z (p+q):=⟨_,rfl⟩
   obtain ⟨w,hw⟩:∃ w,w=c+(x*y+z):=⟨_,rfl⟩
   obtain ⟨r,hr⟩:∃ r,r=i+k+1:=⟨_,rfl⟩
   have xb:x < 256:=by rw [hx]; exact pE _ _
   have yb:y < 256:=by rw [hy]; exact pE _ _
   have zb:z < 256:=by rw [hz]; exact pE _ _
   have er:r=n - 1 - (p+q):=by omega
   obtain ⟨Z',ao,a9⟩:=Q6 (t:=w) hI hg (by omega) (by omega) (by rw [hw,hx,hy,hz])
   rw [← er] at a9
   have oX:=hg r (by omega)
   rw [show n - 1 - r=p+q by omega,← hz] at oX
   have C1:cf s i=x:=by
    have:=sW (s:=s) (j:=p) (by omega)
    rw [show s.size - (p+1)=i by omega,← hx] at this
    exact this
   have zN:cf t k=y:=by
    have:=sW (s:=t) (j:=q) (by omega)
    rw [show t.size - (q+1)=k by omega,← hy] at this
    exact this
   have yY:=VL hc xb yb zb hw
   obtain ⟨hwC,hw6⟩:=RQ hc xb yb zb hw
   have hand:=VM hw6
   have erw:IntKind.i64.wrap (IntKind.i64.wrap ((i:Int)+(k:Int))+1)=(r:Int):=by rw [au (x:=(i:Int)+(k:Int)) (by omega) (by omega),au (by omega) (by omega)]; omega
   conv=>whnf
   refine .inl ⟨18,[[],[],[],[],[2,3],[2,3,4],[1,2,3,4,5],[1,2,3,4,5,6],[],[],[8,9],[8,9,10],[],[],[12,13],[12,13,14],[8,9,10,11,12,13,14,15],[1,2,3,4,5,6,7,8,9,10,11,12,13,14,15,16],[0,1,2,3,4,5,6,7,8,9,10,11,12,13,14,15,16,17],[0,1,2,3,4,5,6,7,8,9,10,11,12,13,14,15,16,17,18]],by kernel_rfl,?_⟩
   conv=>whnf
   simp only [erw,toNat_cast]
   refine ⟨⟨by omega,by omega⟩,?_⟩
   simp only [toNat_cast,aq,Nat.zero_add]
   conv=>whnf
   refine ⟨by show r < n; omega,?_⟩
   conv=>whnf
   rw [oX]
   conv=>whnf
   refine ⟨⟨by omega,by omega⟩,?_⟩
   simp only [toNat_cast]
   conv=>whnf
   rw [C1]
   refine ⟨⟨by omega,by omega⟩,?_⟩
   simp only [toNat_cast]
   conv=>whnf
   rw [zN]
   simp only [yY,erw]
   refine ⟨⟨by omega,by omega⟩,?_⟩
   simp only [toNat_cast,aq,Nat.zero_add]
   conv=>whnf
   refine ⟨by show r < n; omega,?_⟩
   conv=>whnf
   rw [oX]
   conv=>whnf
   have hwm:w % C < 256:=Nat.mod_lt _ (by decide)
   have ewm:IntKind.i64.wrap ((w % C:Nat):Int)=((w % C:Nat):Int):=by
    obtain ⟨k,hk⟩:∃ k,k=w % C:=⟨_,rfl⟩
    rw [← hk] at hwm ⊢
    exact au (by omega) (by omega)
   simp only [dc,hand,ewm]
   rw [show ((w:Nat):Int) / 256=((w / C:Nat):Int) from rfl]
   refine .inr ⟨[0],[0,1,5,6,7,8],?_⟩
   conv=>whnf
   intro _
   conv=>whnf
   refine ⟨_,?_,k,q+1,Z',w / C,_,(.aa (.aa (.sk 3 (.aa (.aa (.aa (.aa (.sk 78 .nil rfl))))) rfl))),rfl,rfl,?_⟩
   ·omega
   ·exact ⟨⟨by omega,hwC⟩,ao,a9⟩
  ·have J:v=0:=by
    have:=of_decide_eq_false J
    rcases Nat.eq_zero_or_pos v with h | h
    ·exact h
    ·rw [au (by omega) (by omega)] at this
     omega
   subst J
   have hq:q=b:=by omega
   subst hq
   obtain ⟨h0,Z',ao,a9⟩:=RO (n:=n) hI (by rw [hb]; exact gw t) hg (by omega) hc
   have er:i=n - 1 - (p+q):=by omega
   have oX:=hg i (by omega)
   rw [show n - 1 - i=p+q by omega,h0] at oX
   rw [← er] at a9
   have ec:IntKind.i64.wrap (((0:Nat):Int)+(c:Int))=(c:Int):=by rw [au (by omega) (by omega)]; omega
   conv=>whnf
   refine ⟨⟨by omega,by omega⟩,?_⟩
   simp only [toNat_cast,aq,Nat.zero_add]
   conv=>whnf
   refine ⟨by show i < n; omega,?_⟩
   conv=>whnf
   rw [oX]
   conv=>whnf
   refine ⟨⟨by omega,by omega⟩,?_⟩
   simp only [toNat_cast,aq,Nat.zero_add]
   conv=>whnf
   refine ⟨by show i < n; omega,?_⟩
   conv=>whnf
   rw [oX]
   conv=>whnf
   simp only [ec]
   skip
   refine .inr ⟨[0],[0,1,5,6],?_⟩
   conv=>whnf
   intro _
   conv=>whnf
   refine ⟨_,?_,i,p+1,Z',_,(.aa (.aa (.sk 3 (.aa (.aa (.sk 80 .nil rfl))) rfl))),rfl,rfl,?_⟩
   ·omega
   ·exact ⟨by omega,ao,a9⟩
 ·have h1:u=0:=by
   have:=of_decide_eq_false h1
   rcases Nat.eq_zero_or_pos u with h | h
   ·exact h
   ·rw [au (by omega) (by omega)] at this
    omega
  subst h1
  have qB:p=a:=by omega
  subst qB
  have hZ:Z=ab s*ab t:=RP hY (by rw [ha]; exact gw s)
  have acV:Z < C ^ n:=by rw [hZ,hn,ha,hb]; exact Ur
  clear hY
  conv=>whnf
  refine ⟨⟨by omega,Int.le_refl _,by show ((n:Nat):Int)*((1:Nat):Int)≤_; omega⟩,?_⟩
  simp only [toNat_cast]
  conv=>whnf
  refine .inl ⟨fun mm tz hz=>∃ (i:Nat) (e:Nat→List Value),bE (aD 5 (some (.slice (some ⟨0,0,none⟩) n n)::aD 3 (some (.slice (some ⟨1,0,none⟩) n n)::some (.int .i64 i)::aD 76 []))) tz∧hz=[some (.flat true n 1 g),some (.flat true n 1 e)]∧n - i=mm∧(i≤n∧vN e n i Z),.inl ⟨_,0,_,(.sk 5 (.aa (.sk 3 (.aa (.aa (.sk 76 .nil rfl))) rfl)) rfl),rfl,rfl,?_⟩,?_⟩
  ·exact ⟨Nat.zero_le _,Qf _ _⟩
  rintro mm aT _ ⟨i,e,ar,rfl,rfl,⟨hi,he⟩⟩
  obtain ⟨az,rfl⟩:∃ az:Nat→Value,aT=zs az 0 5 (.slice (some ⟨0,0,none⟩) n n::zs az 6 3 (.slice (some ⟨1,0,none⟩) n n::.int .i64 i::zs az 11 76 [])):=bK ar
  clear ar
  conv=>whnf
  refine aL (fun J=>?_) (fun J=>?_)
  ·have J:i < n:=by
    have:=of_decide_eq_true J
    omega
   obtain ⟨z,hz⟩:∃ z,z=bW Z (n - 1 - i):=⟨_,rfl⟩
   have zb:z < 256:=by rw [hz]; exact pE _ _
   have oX:=hg i J
   rw [← hz] at oX
   have ao:=Qj he J
   rw [← hz] at ao
   obtain ⟨x,hx⟩:=he.1 i J
   have e7:IntKind.i64.wrap ((i:Int)+1)=((i+1:Nat):Int):=by rw [au (by omega) (by omega)]; rfl
   conv=>whnf
   refine ⟨⟨by omega,by omega⟩,?_⟩
   simp only [toNat_cast,aq,Nat.zero_add]
   conv=>whnf
   refine ⟨by show i < n; omega,?_⟩
   conv=>whnf
   rw [oX]
   conv=>whnf
   refine ⟨⟨by omega,by omega⟩,?_⟩
   simp only [toNat_cast,aq,Nat.zero_add]
   conv=>whnf
   refine ⟨by show i < n; omega,?_⟩
   conv=>whnf
   rw [hx]
   conv=>whnf
   simp only [tX zb,e7]
   refine .inl ⟨_,?_,i+1,_,(.sk 5 (.aa (.sk 3 (.aa (.aa (.sk 76 .nil rfl))) rfl)) rfl),rfl,rfl,?_⟩
   ·omega
   ·exact ⟨by omega,ao⟩
  ·have J:i=n:=by
    have:=of_decide_eq_false J
    omega
   subst J
   obtain ⟨v,hv,fA,oW⟩:=QC he acV
   conv=>whnf
   rcases Nat.eq_zero_or_pos i with h0 | h0
   ·subst h0
    conv=>whnf
    have e0:v=⟨#[]⟩:=hv.symm
    subst e0
    refine ⟨⟨#[]⟩,rfl,Nat.zero_le _,?_⟩
    conv=>whnf
    show Value.string (nb (ab ⟨#[]⟩))=_
    rw [oW,hZ]
    rfl
   ·obtain ⟨k,rfl⟩:∃ k,i=k+1:=⟨i - 1,by omega⟩
    conv=>whnf
    refine ⟨⟨by show 0+(k+1)≤k+1; omega,fun r hr=>by show ∃ x,e (0+r)=_; rw [Nat.zero_add]; exact he.1 r hr⟩,?_⟩
    rw [show (ai.flat true (k+1) 1 e).row=e from rfl,hv]
    conv=>whnf
    refine ⟨v,rfl,by show v.size≤_; omega,?_⟩
    conv=>whnf
    show Value.string (nb (ab v))=_
    rw [oW,hZ]
    rfl
end Go.Proofs.YtlapbjdhekcipaaGreat
/- Contracts of the reference integers: quotient of digits. -/
set_option maxRecDepth 20000
set_option maxHeartbeats 1000000
namespace Go.Proofs.YtlapbjdhekcipaaGreat
open Go Go.Ae
def Erf:Env:=En [(191,.p kC),(189,.p vX),(190,.p rk),(180,.p rj)]
theorem abg:EnvOk Tryz.prog Erf:=bL ⟨A6,KJ,KK,DX,trivial⟩ trivial
theorem KL:bm Tryz.prog 192 pg:=by
 refine bt abg aO Tryz.func192 (enters_of Tryz.func192 (by kernel_rfl) rfl) (fun _=>rfl) (fun _=>rfl) ?_
 intro ⟨s,D⟩ hp
 have hp:s.size≤549755813888∧aR D≤549755813888∧D≠0:=hp
 obtain ⟨n,hn⟩:∃ n:Nat,n=s.size:=⟨_,rfl⟩
 obtain ⟨b,hb⟩:∃ b,b=nb D:=⟨_,rfl⟩
 have ht:=Qb D
 rw [← hb] at ht
 conv=>whnf
 rw [show nb (s,D).snd=b from hb.symm]
 refine ⟨⟨by decide,by decide⟩,?_⟩
 conv=>whnf
 refine ⟨by decide,?_⟩
 conv=>whnf
 refine .inl ⟨fun mm tz hz=>∃ (i:Nat) (g:Nat→List Value),bE (some (.string s)::aD 5 (some (.pointer (some ⟨0,0,none⟩))::some (.int .i64 ((i+1:Nat):Int))::aD 68 [])) tz∧hz=[some (.flat true 8 1 g)]∧7 - i=mm∧(i≤7∧AM g (i+1) D),.inr ⟨[0],[0,6,7],?_⟩,?_⟩
 ·conv=>whnf
  intro _
  conv=>whnf
  refine ⟨_,0,_,(.aa (.sk 5 (.aa (.aa (.sk 68 .nil rfl))) rfl)),rfl,rfl,?_⟩
  exact ⟨by decide,ht⟩
 rintro mm aT _ ⟨i,g,ar,rfl,rfl,⟨hi,ht⟩⟩
 obtain ⟨az,rfl⟩:∃ az:Nat→Value,aT=.string s::zs az 1 5 (.pointer (some ⟨0,0,none⟩)::.int .i64 ((i+1:Nat):Int)::zs az 8 68 []):=bK ar
 clear ar
 conv=>whnf
 refine aL (fun h1=>?_) (fun h1=>?_)
 ·have h1:i+1 < 8:=by
   have:=of_decide_eq_true h1
   omega
  obtain ⟨x,hx⟩:∃ x,x=nb (2 ^ i*D):=⟨_,rfl⟩
  have IL:=ht.2 i (by omega)
  rw [← hx] at IL
  have m7:x.size≤549755813889:=by
   rw [hx,gD]; exact Nat.le_trans (Er (by omega)) (by omega)
  have qK:ab x=2 ^ i*D:=by rw [hx,ia]
  obtain ⟨v,hv⟩:∃ v,v=nb (ab x+ab x):=⟨_,rfl⟩
  have ao:=Qg (v:=v) ht h1 (by rw [hv,qK])
  obtain ⟨y,hy⟩:=ht.1 (i+1) (by omega)
  have ei:IntKind.i64.wrap (((i+1:Nat):Int) - 1)=(i:Int):=by rw [au (by omega) (by omega)]; omega
  obtain ⟨j,hj⟩:∃ j,j=i+1:=⟨_,rfl⟩
  rw [← hj] at hy ao ei
  rw [← hj]
  have e7:IntKind.i64.wrap ((j:Int)+1)=((j+1:Nat):Int):=by rw [au (by omega) (by omega)]; rfl
  conv=>whnf
  refine .inl ⟨10,[[],[],[1],[1,2],[1,2,3],[],[5],[5,6],[5,6,7],[1,2,3,4,5,6,7,8],[0,1,2,3,4,5,6,7,8,9],[0,1,2,3,4,5,6,7,8,9,10]],by kernel_rfl,?_⟩
  conv=>whnf
  rw [ei]
  refine ⟨⟨by omega,by omega⟩,?_⟩
  simp only [toNat_cast,aq,Nat.zero_add]
  conv=>whnf
  refine ⟨by show i < 8; omega,?_⟩
  conv=>whnf
  rw [IL]
  conv=>whnf
  rw [ei]
  refine ⟨⟨by omega,by omega⟩,?_⟩
  simp only [toNat_cast,aq,Nat.zero_add]
  conv=>whnf
  refine ⟨by show i < 8; omega,?_⟩
  conv=>whnf
  rw [IL]
  conv=>whnf
  refine ⟨(x,x),rfl,⟨by show x.size≤_; omega,by show x.size≤_; omega⟩,?_⟩
  rw [show vX.val (x,x)=.string v from by rw [hv]; rfl]
  conv=>whnf
  refine ⟨⟨by omega,by omega⟩,?_⟩
  simp only [toNat_cast,aq,Nat.zero_add]
  conv=>whnf
  refine ⟨by show j < 8; omega,?_⟩
  conv=>whnf
  rw [hy]
  conv=>whnf
  simp only [e7]
  refine .inr ⟨[0],[0,6,7],?_⟩
  conv=>whnf
  intro _
  conv=>whnf
  refine ⟨_,?_,j,_,(.aa (.sk 5 (.aa (.aa (.sk 68 .nil rfl))) rfl)),rfl,rfl,?_⟩
  ·omega
  ·exact ⟨by omega,ao⟩
 ·have h1:i=7:=by
   have:=of_decide_eq_false h1
   omega
  subst h1
  conv=>whnf
  rw [← hn]
  refine ⟨⟨by omega,Int.le_refl _,by show ((n:Nat):Int)*((1:Nat):Int)≤_; omega⟩,?_⟩
  simp only [toNat_cast]
  conv=>whnf
  rw [← pf]
  refine .inl ⟨fun mm tz hz=>∃ (i:Nat) (Q:Nat) (R:Nat) (e:Nat→List Value),bE (some (.string s)::aD 5 (some (.pointer (some ⟨0,0,none⟩))::aD 1 (some (.slice (some ⟨1,0,none⟩) n n)::some (.string (nb R))::some (.int .i64 i)::aD 65 []))) tz∧hz=[some (.flat true 8 1 g),some (.flat true n 1 e)]∧n - i=mm∧(i≤n∧wk s D i Q R∧yF e n i Q),.inr ⟨[0,1],[0,6,8,9,10],?_⟩,?_⟩
  ·conv=>whnf
   intro _
   conv=>whnf
   refine ⟨_,0,0,0,_,(.aa (.sk 5 (.aa (.sk 1 (.aa (.aa (.aa (.sk 65 .nil rfl)))) rfl)) rfl)),rfl,rfl,?_⟩
   exact ⟨Nat.zero_le _,QD _ hp.2.2,Q9 _⟩
  rintro mm aT _ ⟨i,Q,R,e,ar,rfl,rfl,⟨hi,hI,he⟩⟩
  obtain ⟨az,rfl⟩:∃ az:Nat→Value,aT=.string s::zs az 1 5 (.pointer (some ⟨0,0,none⟩)::zs az 7 1 (.slice (some ⟨1,0,none⟩) n n::.string (nb R)::.int .i64 i::zs az 11 65 [])):=bK ar
  clear ar
  obtain ⟨x,hx⟩:∃ x,x=nb R:=⟨_,rfl⟩
  have m7:x.size≤549755813888:=by
   rw [hx,gD]; exact Nat.le_trans (iO (Nat.le_of_lt hI.lt)) hp.2.1
  rw [← hx]
  conv=>whnf
  rw [← hn]
  refine aL (fun J=>?_) (fun J=>?_)
  ·have J:i < n:=by
    have:=of_decide_eq_true J
    omega
   have e7:IntKind.i64.wrap ((i:Int)+1)=((i+1:Nat):Int):=by rw [au (by omega) (by omega)]; rfl
   obtain ⟨y,hy⟩:∃ y,y=s.extract i (i+1):=⟨_,rfl⟩
   obtain ⟨oN,p9⟩:=Ta R (s:=s) (i:=i) (by omega)
   obtain ⟨R',PJ⟩:∃ R',R'=R*256+cf s i:=⟨_,rfl⟩
   have hS:=Qk hI (by omega)
   rw [← PJ] at oN hS
   rw [← hy,← hx] at oN p9
   have cD:aR R≤549755813888:=by rw [← gD,← hx]; exact m7
   have CM:y.size=1:=by
    have:(x++y).size=x.size+y.size:=ByteArray.size_append
    have hxR:x.size=aR R:=by rw [hx,gD]
    omega
   conv=>whnf
   rw [e7]
   refine ⟨⟨by omega,by omega,by omega⟩,?_⟩
   simp only [toNat_cast]
   conv=>whnf
   rw [← hy]
   refine ⟨by omega,?_⟩
   conv=>whnf
   refine ⟨x++y,rfl,by show (x++y).size≤_; omega,?_⟩
   rw [show kC.val (x++y)=.string (nb R') from by rw [← oN]; rfl]
   conv=>whnf
   have hRs:aR R'≤549755813889:=Nat.le_trans (iO (Nat.le_of_lt hS.lt)) (Nat.le_trans (Er (Nat.le_refl _)) (by omega))
   refine .inl ⟨fun mm tz hz=>∃ (k:Nat) (d:Nat) (R:Nat),bE (some (.string s)::aD 5 (some (.pointer (some ⟨0,0,none⟩))::aD 1 (some (.slice (some ⟨1,0,none⟩) n n)::some (.string (nb R))::some (.int .i64 i)::some (.int .i64 d)::some (.int .i64 (IntKind.i64.wrap ((k:Int) - 1)))::aD 63 []))) tz∧hz=[some (.flat true 8 1 g),some (.flat true n 1 e)]∧k=mm∧(k≤8∧tv D R' k d R),.inr ⟨[0,1],[0,6,8,9,10,11,12],?_⟩,?_⟩
   ·conv=>whnf
    intro _
    conv=>whnf
    refine ⟨_,8,0,R',(.aa (.sk 5 (.aa (.sk 1 (.aa (.aa (.aa (.aa (.aa (.sk 63 .nil rfl)))))) rfl)) rfl)),rfl,rfl,?_⟩
    exact ⟨Nat.le_refl _,hS⟩
   rintro mm aT _ ⟨k,d,R,ar,rfl,rfl,⟨hk,hS⟩⟩
   obtain ⟨az,rfl⟩:∃ az:Nat→Value,aT=.string s::zs az 1 5 (.pointer (some ⟨0,0,none⟩)::zs az 7 1 (.slice (some ⟨1,0,none⟩) n n::.string (nb R)::.int .i64 i::.int .i64 d::.int .i64 (IntKind.i64.wrap ((k:Int) - 1))::zs az 13 63 [])):=bK ar
   clear ar
   obtain ⟨x,hx⟩:∃ x,x=nb R:=⟨_,rfl⟩
   have m7:x.size≤549755813889:=by
    rw [hx,gD]
    exact Nat.le_trans (iO (by have:=hS.eq; omega)) hRs
   rw [← hx]
   conv=>whnf
   refine aL (fun h3=>?_) (fun h3=>?_)
   ·obtain ⟨j,rfl⟩:∃ j,k=j+1:=by
     rcases Nat.eq_zero_or_pos k with h | h
     ·subst h; exact absurd h3 (by decide)
     ·exact ⟨k - 1,by omega⟩
    have ek:IntKind.i64.wrap (((j+1:Nat):Int) - 1)=(j:Int):=by rw [au (by omega) (by omega)]; omega
    rw [ek]
    obtain ⟨T,hT⟩:∃ T,T=2 ^ j*D:=⟨_,rfl⟩
    obtain ⟨y,hy⟩:∃ y,y=nb T:=⟨_,rfl⟩
    have CM:y.size≤549755813889:=by
     rw [hy,hT,gD]; exact Nat.le_trans (Er (by omega)) (by omega)
    have IM:=ht.2 j (by omega)
    rw [← hT,← hy] at IM
    obtain ⟨p,qB⟩:∃ p,p=2 ^ j:=⟨_,rfl⟩
    have n3:=acr (k:=j) (by omega)
    rw [← qB] at n3
    have kP:d+p≤256:=by
     have:=hS.d
     rw [qB]
     rw [Nat.pow_succ] at this
     omega
    have ed:IntKind.i64.wrap ((d:Int)+(p:Int))=((d+p:Nat):Int):=by rw [au (by omega) (by omega)]; omega
    conv=>whnf
    refine ⟨⟨by omega,by omega⟩,?_⟩
    simp only [toNat_cast,aq,Nat.zero_add]
    conv=>whnf
    refine ⟨by show j < 8; omega,?_⟩
    conv=>whnf
    rw [IM]
    conv=>whnf
    refine ⟨(R,T),by rw [hx,hy]; rfl,⟨by rw [← gD,← hx]; omega,by show aR T≤_; rw [← gD,← hy]; omega⟩,?_⟩
    obtain ⟨c,hc⟩:∃ c,c=cS R T:=⟨_,rfl⟩
    rw [show rj.val (R,T)=.int .i64 c from by rw [hc]; rfl]
    conv=>whnf
    refine aL (fun h4=>?_) (fun h4=>?_)
    ·have h4:T≤R:=by
      have:=of_decide_eq_true h4
      rw [hc] at this
      unfold cS at this
      split at this
      ·omega
      ·omega
     have ao:=Q7 hS (by rw [← hT]; exact h4)
     rw [← hT,← qB] at ao
     conv=>whnf
     refine ⟨⟨by omega,by omega⟩,?_⟩
     simp only [toNat_cast,aq,Nat.zero_add]
     conv=>whnf
     refine ⟨by show j < 8; omega,?_⟩
     conv=>whnf
     rw [IM]
     conv=>whnf
     refine ⟨(x,y),rfl,⟨⟨by show x.size≤_; omega,by show y.size≤_; omega⟩,by show ab y≤ab x; rw [hx,hy,ia,ia]; exact h4⟩,?_⟩
     rw [show rk.val (x,y)=.string (nb (R - T)) from by show Value.string (nb (ab x - ab y))=_; rw [hx,hy,ia,ia]]
     conv=>whnf
     simp only [n3,ed]
     refine .inr ⟨[0,1],[0,6,8,9,10,11,12],?_⟩
     conv=>whnf
     intro _
     conv=>whnf
     refine ⟨_,?_,j,d+p,R - T,(.aa (.sk 5 (.aa (.sk 1 (.aa (.aa (.aa (.aa (.aa (.sk 63 .nil rfl)))))) rfl)) rfl)),rfl,rfl,?_⟩
     ·omega
     ·exact ⟨by omega,ao⟩
    ·have h4:R < T:=by
      have:=of_decide_eq_false h4
      rw [hc] at this
      unfold cS at this
      split at this
      ·assumption
      ·split at this <;> omega
     have ao:=RR hS (by rw [← hT]; exact h4)
     conv=>whnf
     rw [hx]
     refine .inr ⟨[0,1],[0,6,8,9,10,11,12],?_⟩
     conv=>whnf
     intro _
     conv=>whnf
     refine ⟨_,?_,j,d,R,(.aa (.sk 5 (.aa (.sk 1 (.aa (.aa (.aa (.aa (.aa (.sk 63 .nil rfl)))))) rfl)) rfl)),rfl,rfl,?_⟩
     ·omega
     ·exact ⟨by omega,ao⟩
   ·have h3:k=0:=by
     have:=of_decide_eq_false h3
     rcases Nat.eq_zero_or_pos k with h | h
     ·exact h
     ·rw [au (by omega) (by omega)] at this
      omega
    subst h3
    have hd:d < 256:=by have:=hS.d; omega
    have ao:=Q8 hI (by omega) (by rw [← PJ]; exact hS)
    have a9:=RT he J hd
    obtain ⟨y,hy⟩:=he.1 i J
    conv=>whnf
    refine ⟨⟨by omega,by omega⟩,?_⟩
    simp only [toNat_cast,aq,Nat.zero_add]
    conv=>whnf
    refine ⟨by show i < n; omega,?_⟩
    conv=>whnf
    rw [hy]
    conv=>whnf
    simp only [tX hd,e7]
    rw [hx]
    skip
    refine .inr ⟨[0,1],[0,6,8,9,10],?_⟩
    conv=>whnf
    intro _
    conv=>whnf
    refine ⟨_,?_,i+1,Q*256+d,R,_,(.aa (.sk 5 (.aa (.sk 1 (.aa (.aa (.aa (.sk 65 .nil rfl)))) rfl)) rfl)),rfl,rfl,?_⟩
    ·omega
    ·exact ⟨by omega,ao,a9⟩
  ·have J:i=n:=by
    have:=of_decide_eq_false J
    omega
   subst J
   obtain ⟨hQ,hR⟩:=RS (by rw [← hn]; exact hI)
   obtain ⟨v,hv,fA,oW⟩:=Tb he hI.q
   conv=>whnf
   have fin:Value.tuple ⟨[.string (nb Q),.string x]⟩=pg.val (s,D):=by rw [hx,hQ,hR]; rfl
   rcases Nat.eq_zero_or_pos i with h0 | h0
   ·subst h0
    conv=>whnf
    have e0:v=⟨#[]⟩:=hv.symm
    subst e0
    refine ⟨⟨#[]⟩,rfl,Nat.zero_le _,?_⟩
    rw [show kC.val ⟨#[]⟩=.string (nb Q) from by show Value.string (nb (ab ⟨#[]⟩))=_; rw [oW]]
    conv=>whnf
    exact fin
   ·obtain ⟨k,rfl⟩:∃ k,i=k+1:=⟨i - 1,by omega⟩
    conv=>whnf
    refine ⟨⟨by show 0+(k+1)≤k+1; omega,fun r hr=>by show ∃ x,e (0+r)=_; rw [Nat.zero_add]; exact he.1 r hr⟩,?_⟩
    rw [show (ai.flat true (k+1) 1 e).row=e from rfl,hv]
    conv=>whnf
    refine ⟨v,rfl,by show v.size≤_; omega,?_⟩
    rw [show kC.val v=.string (nb Q) from by show Value.string (nb (ab v))=_; rw [oW]]
    conv=>whnf
    exact fin
end Go.Proofs.YtlapbjdhekcipaaGreat
/- Contracts of the reference integers: sum, difference, product. -/
set_option maxRecDepth 20000
set_option maxHeartbeats 1000000
namespace Go.Proofs.YtlapbjdhekcipaaGreat
open Go Go.Ae
def Erg:Env:=En [(179,.p jh),(181,.p wj),(155,.p eZ),(189,.p vX),(190,.p rk),(180,.p rj),(182,.p FE)]
theorem NY:EnvOk Tryz.prog Erg:=bL ⟨EE,Tz,yp,KJ,KK,DX,So,trivial⟩ trivial
theorem FW:bm Tryz.prog 173 iW:=by
 refine bt NY aO Tryz.func173 (enters_of Tryz.func173 (by kernel_rfl) rfl) (fun _=>rfl) (fun _=>rfl) ?_
 intro ⟨⟨b,s⟩,⟨c,t⟩⟩ hp
 have hp:s.size≤549755813888∧t.size≤549755813888:=hp
 obtain ⟨x,hx⟩:∃ x,x=IV.z (b,s):=⟨_,rfl⟩
 obtain ⟨y,hy⟩:∃ y,y=IV.z (c,t):=⟨_,rfl⟩
 have qK:aR x.natAbs≤549755813888:=by rw [hx]; exact IV.aR (i:=(b,s)) hp.1
 have xq:aR y.natAbs≤549755813888:=by rw [hy]; exact IV.aR (i:=(c,t)) hp.2
 obtain ⟨B,m,hE⟩:=EI.mk' x
 obtain ⟨D,k,hF⟩:=EI.mk' y
 have qA:=hE.size
 have jw:=hF.size
 have ec:jh.val (b,s)=.agg ⟨[.bool B,.string m]⟩:=by show aF (IV.z (b,s))=_; rw [← hx,hE.enc]
 have ed:jh.val (c,t)=.agg ⟨[.bool D,.string k]⟩:=by show aF (IV.z (c,t))=_; rw [← hy,hF.enc]
 have fin:∀ v:Value,v=aF (x+y)→v=iW.val ((b,s),(c,t)):=fun v h=>by rw [h,hx,hy]; rfl
 conv=>whnf
 refine .inl ⟨3,[[],[0],[],[0,1,2],[0,1,2,3],[0,1,2,3,4]],by kernel_rfl,?_⟩
 conv=>whnf
 refine ⟨(b,s),rfl,hp.1,?_⟩
 rw [ec]
 conv=>whnf
 refine ⟨(c,t),rfl,hp.2,?_⟩
 rw [ed]
 conv=>whnf
 by_cases h1:m.size < 8
 ·rw [show decide (((m.size:Nat):Int) < 8)=true from decide_eq_true (by omega)]
  conv=>whnf
  by_cases J:k.size < 8
  ·rw [show decide (((k.size:Nat):Int) < 8)=true from decide_eq_true (by omega)]
   conv=>whnf
   refine .inl ⟨3,[[],[0],[],[0,1,2],[0,1,2,3],[0,1,2,3,4],[0,1,2,3,4,5]],by kernel_rfl,?_⟩
   conv=>whnf
   refine ⟨(B,m),rfl,by show m.size≤7; omega,?_⟩
   rw [show wj.val (B,m)=.int .i64 x from by show Value.int .i64 (IV.z (B,m))=_; rw [hE.val]]
   conv=>whnf
   refine ⟨(D,k),rfl,by show k.size≤7; omega,?_⟩
   rw [show wj.val (D,k)=.int .i64 y from by show Value.int .i64 (IV.z (D,k))=_; rw [hF.val]]
   conv=>whnf
   have z1:=hE.small (by omega)
   have z2:=hF.small (by omega)
   rw [show IntKind.i64.wrap (x+y)=x+y from au (by omega) (by omega)]
   refine ⟨x+y,rfl,⟨by omega,by omega⟩,?_⟩
   conv=>whnf
   exact fin _ rfl
  ·rw [show decide (((k.size:Nat):Int) < 8)=false from decide_eq_false (by omega)]
   conv=>whnf
   refine aL (fun h3=>?_) (fun h3=>?_)
   ·have h3:B=D:=eq_of_beq h3
    have e:=hE.same hF h3
    obtain ⟨v,hv⟩:∃ v,v=nb (ab m+ab k):=⟨_,rfl⟩
    rw [← hv] at e
    conv=>whnf
    refine .inl ⟨7,[[],[0],[],[2],[],[4],[2,3,4,5],[0,1,2,3,4,5,6],[0,1,2,3,4,5,6,7]],by kernel_rfl,?_⟩
    conv=>whnf
    refine ⟨(m,k),rfl,⟨by show m.size≤_; omega,by show k.size≤_; omega⟩,?_⟩
    rw [show vX.val (m,k)=.string v from by rw [hv]; rfl]
    conv=>whnf
    exact fin _ e
   ·have h3:B≠D:=by
     intro e
     subst e
     cases B <;> cases h3
    obtain ⟨q,hq⟩:∃ q,q=cS (ab m) (ab k):=⟨_,rfl⟩
    conv=>whnf
    refine ⟨(ab m,ab k),by show [Value.string (nb (ab m)),Value.string (nb (ab k))]=[Value.string m,Value.string k]; rw [← hE.eta,← hF.eta],⟨by show aR (ab m)≤_; exact Nat.le_trans (jb _) (by omega),by show aR (ab k)≤_; exact Nat.le_trans (jb _) (by omega)⟩,?_⟩
    rw [show rj.val (ab m,ab k)=.int .i64 q from by rw [hq]; rfl]
    conv=>whnf
    refine aL (fun h4=>?_) (fun h4=>?_)
    ·have h4:ab k=ab m:=by
      have h4:q=0:=by simpa using h4
      rw [hq] at h4
      unfold cS at h4
      split at h4
      ·omega
      ·split at h4 <;> omega
     have e:=hE.equal hF h3 h4
     conv=>whnf
     exact fin _ (by rw [e]; exact vB.symm)
    ·have qi:ab k≠ab m:=by
      intro h5
      have h6:q=0:=by rw [hq,h5]; unfold cS; simp
      subst h6
      simp at h4
     conv=>whnf
     refine aL (fun h5=>?_) (fun h5=>?_)
     ·have h5:ab k < ab m:=by
       have h5:=of_decide_eq_true h5
       rw [hq] at h5
       unfold cS at h5
       split at h5
       ·omega
       ·split at h5 <;> omega
      have e:=hE.differ hF h3 h5
      obtain ⟨v,hv⟩:∃ v,v=nb (ab m - ab k):=⟨_,rfl⟩
      rw [← hv] at e
      conv=>whnf
      refine .inl ⟨7,[[],[0],[],[2],[],[4],[2,3,4,5],[0,1,2,3,4,5,6],[0,1,2,3,4,5,6,7]],by kernel_rfl,?_⟩
      conv=>whnf
      refine ⟨(m,k),rfl,⟨⟨by show m.size≤_; omega,by show k.size≤_; omega⟩,Nat.le_of_lt h5⟩,?_⟩
      rw [show rk.val (m,k)=.string v from by rw [hv]; rfl]
      conv=>whnf
      exact fin _ e
     ·have h5:ab m < ab k:=by
       have h5:=of_decide_eq_false h5
       rw [hq] at h5
       unfold cS at h5
       split at h5
       ·omega
       ·split at h5 <;> omega
      have e:=hF.differ hE (Ne.symm h3) h5
      rw [Int.add_comm] at e
      obtain ⟨v,hv⟩:∃ v,v=nb (ab k - ab m):=⟨_,rfl⟩
      rw [← hv] at e
      conv=>whnf
      refine .inl ⟨7,[[],[0],[],[2],[],[4],[2,3,4,5],[0,1,2,3,4,5,6],[0,1,2,3,4,5,6,7]],by kernel_rfl,?_⟩
      conv=>whnf
      refine ⟨(k,m),rfl,⟨⟨by show k.size≤_; omega,by show m.size≤_; omega⟩,Nat.le_of_lt h5⟩,?_⟩
      rw [show rk.val (k,m)=.string v from by rw [hv]; rfl]
      conv=>whnf
      exact fin _ e
 ·rw [show decide (((m.size:Nat):Int) < 8)=false from decide_eq_false (by omega)]
  conv=>whnf
  refine aL (fun h3=>?_) (fun h3=>?_)
  ·have h3:B=D:=eq_of_beq h3
   have e:=hE.same hF h3
   obtain ⟨v,hv⟩:∃ v,v=nb (ab m+ab k):=⟨_,rfl⟩
   rw [← hv] at e
   conv=>whnf
   refine .inl ⟨7,[[],[0],[],[2],[],[4],[2,3,4,5],[0,1,2,3,4,5,6],[0,1,2,3,4,5,6,7]],by kernel_rfl,?_⟩
   conv=>whnf
   refine ⟨(m,k),rfl,⟨by show m.size≤_; omega,by show k.size≤_; omega⟩,?_⟩
   rw [show vX.val (m,k)=.string v from by rw [hv]; rfl]
   conv=>whnf
   exact fin _ e
  ·have h3:B≠D:=by
    intro e
    subst e
    cases B <;> cases h3
   obtain ⟨q,hq⟩:∃ q,q=cS (ab m) (ab k):=⟨_,rfl⟩
   conv=>whnf
   refine ⟨(ab m,ab k),by show [Value.string (nb (ab m)),Value.string (nb (ab k))]=[Value.string m,Value.string k]; rw [← hE.eta,← hF.eta],⟨by show aR (ab m)≤_; exact Nat.le_trans (jb _) (by omega),by show aR (ab k)≤_; exact Nat.le_trans (jb _) (by omega)⟩,?_⟩
   rw [show rj.val (ab m,ab k)=.int .i64 q from by rw [hq]; rfl]
   conv=>whnf
   refine aL (fun h4=>?_) (fun h4=>?_)
   ·have h4:ab k=ab m:=by
     have h4:q=0:=by simpa using h4
     rw [hq] at h4
     unfold cS at h4
     split at h4
     ·omega
     ·split at h4 <;> omega
    have e:=hE.equal hF h3 h4
    conv=>whnf
    exact fin _ (by rw [e]; exact vB.symm)
   ·have qi:ab k≠ab m:=by
     intro h5
     have h6:q=0:=by rw [hq,h5]; unfold cS; simp
     subst h6
     simp at h4
    conv=>whnf
    refine aL (fun h5=>?_) (fun h5=>?_)
    ·have h5:ab k < ab m:=by
      have h5:=of_decide_eq_true h5
      rw [hq] at h5
      unfold cS at h5
      split at h5
      ·omega
      ·split at h5 <;> omega
     have e:=hE.differ hF h3 h5
     obtain ⟨v,hv⟩:∃ v,v=nb (ab m - ab k):=⟨_,rfl⟩
     rw [← hv] at e
     conv=>whnf
     refine .inl ⟨7,[[],[0],[],[2],[],[4],[2,3,4,5],[0,1,2,3,4,5,6],[0,1,2,3,4,5,6,7]],by kernel_rfl,?_⟩
     conv=>whnf
     refine ⟨(m,k),rfl,⟨⟨by show m.size≤_; omega,by show k.size≤_; omega⟩,Nat.le_of_lt h5⟩,?_⟩
     rw [show rk.val (m,k)=.string v from by rw [hv]; rfl]
     conv=>whnf
     exact fin _ e
    ·have h5:ab m < ab k:=by
      have h5:=of_decide_eq_false h5
      rw [hq] at h5
      unfold cS at h5
      split at h5
      ·omega
      ·split at h5 <;> omega
     have e:=hF.differ hE (Ne.symm h3) h5
     rw [Int.add_comm] at e
     obtain ⟨v,hv⟩:∃ v,v=nb (ab k - ab m):=⟨_,rfl⟩
     rw [← hv] at e
     conv=>whnf
     refine .inl ⟨7,[[],[0],[],[2],[],[4],[2,3,4,5],[0,1,2,3,4,5,6],[0,1,2,3,4,5,6,7]],by kernel_rfl,?_⟩
     conv=>whnf
     refine ⟨(k,m),rfl,⟨⟨by show k.size≤_; omega,by show m.size≤_; omega⟩,Nat.le_of_lt h5⟩,?_⟩
     rw [show rk.val (k,m)=.string v from by rw [hv]; rfl]
     conv=>whnf
     exact fin _ e
def Erh:Env:=En [(174,.p gV),(173,.p iW)]
theorem abh:EnvOk Tryz.prog Erh:=bL ⟨FU,FW,trivial⟩ trivial
theorem XO:bm Tryz.prog 194 mq:=by
 refine bt abh aO Tryz.func194 (enters_of Tryz.func194 (by kernel_rfl) rfl) (fun _=>rfl) (fun _=>rfl) ?_
 intro ⟨⟨b,s⟩,⟨c,t⟩⟩ hp
 have hp:s.size≤549755813888∧t.size≤549755813888:=hp
 obtain ⟨y,hy⟩:∃ y,y=IV.z (c,t):=⟨_,rfl⟩
 have xq:aR y.natAbs≤549755813888:=by rw [hy]; exact IV.aR (i:=(c,t)) hp.2
 obtain ⟨D,k,hF⟩:=EI.mk' (-y)
 have jw:=hF.size
 rw [Int.natAbs_neg] at jw
 conv=>whnf
 refine .inl ⟨3,[[],[],[1],[0,1,2],[0,1,2,3]],by kernel_rfl,?_⟩
 conv=>whnf
 refine ⟨(c,t),rfl,hp.2,?_⟩
 rw [show gV.val (c,t)=.agg ⟨[.bool D,.string k]⟩ from by show aF (-IV.z (c,t))=_; rw [← hy,hF.enc]]
 conv=>whnf
 refine ⟨((b,s),(D,k)),rfl,⟨hp.1,by show k.size≤_; omega⟩,?_⟩
 obtain ⟨V,n,hG⟩:=EI.mk' (IV.z (b,s)+-y)
 rw [show iW.val ((b,s),(D,k))=.agg ⟨[.bool V,.string n]⟩ from by show aF (IV.z (b,s)+IV.z (D,k))=_; rw [hF.val,hG.enc]]
 conv=>whnf
 rw [show mq.val ((b,s),(c,t))=.agg ⟨[.bool V,.string n]⟩ from by show aF (IV.z (b,s) - IV.z (c,t))=_; rw [← hy,Int.sub_eq_add_neg,hG.enc]]
 rfl
theorem XP:bm Tryz.prog 160 fm:=by
 refine bt NY aO Tryz.func160 (enters_of Tryz.func160 (by kernel_rfl) rfl) (fun _=>rfl) (fun _=>rfl) ?_
 intro ⟨⟨b,s⟩,⟨c,t⟩⟩ hp
 have hp:s.size≤549755813888∧t.size≤549755813888:=hp
 obtain ⟨x,hx⟩:∃ x,x=IV.z (b,s):=⟨_,rfl⟩
 obtain ⟨y,hy⟩:∃ y,y=IV.z (c,t):=⟨_,rfl⟩
 have qK:aR x.natAbs≤549755813888:=by rw [hx]; exact IV.aR (i:=(b,s)) hp.1
 have xq:aR y.natAbs≤549755813888:=by rw [hy]; exact IV.aR (i:=(c,t)) hp.2
 obtain ⟨B,m,hE⟩:=EI.mk' x
 obtain ⟨D,k,hF⟩:=EI.mk' y
 have qA:=hE.size
 have jw:=hF.size
 have ec:jh.val (b,s)=.agg ⟨[.bool B,.string m]⟩:=by show aF (IV.z (b,s))=_; rw [← hx,hE.enc]
 have ed:jh.val (c,t)=.agg ⟨[.bool D,.string k]⟩:=by show aF (IV.z (c,t))=_; rw [← hy,hF.enc]
 have fin:∀ v:Value,v=aF (x*y)→v=fm.val ((b,s),(c,t)):=fun v h=>by rw [h,hx,hy]; rfl
 have ew:IntKind.i64.wrap (((m.size:Nat):Int)+((k.size:Nat):Int))=((m.size+k.size:Nat):Int):=by rw [au (by omega) (by omega)]; omega
 conv=>whnf
 refine .inl ⟨3,[[],[0],[],[0,1,2],[0,1,2,3],[0,1,2,3,4]],by kernel_rfl,?_⟩
 conv=>whnf
 refine ⟨(b,s),rfl,hp.1,?_⟩
 rw [ec]
 conv=>whnf
 refine ⟨(c,t),rfl,hp.2,?_⟩
 rw [ed]
 conv=>whnf
 by_cases h1:x=0
 ·rw [show (m.toList == (⟨#[]⟩:ByteArray).toList)=true from by rw [hE.nil,decide_eq_true h1]]
  conv=>whnf
  exact fin _ (by rw [h1,Int.zero_mul]; exact vB.symm)
 ·rw [show (m.toList == (⟨#[]⟩:ByteArray).toList)=false from by rw [hE.nil,decide_eq_false h1]]
  conv=>whnf
  by_cases J:y=0
  ·rw [show (k.toList == (⟨#[]⟩:ByteArray).toList)=true from by rw [hF.nil,decide_eq_true J]]
   conv=>whnf
   exact fin _ (by rw [J,Int.mul_zero]; exact vB.symm)
  ·rw [show (k.toList == (⟨#[]⟩:ByteArray).toList)=false from by rw [hF.nil,decide_eq_false J]]
   conv=>whnf
   by_cases h3:m.size+k.size < 8
   ·refine mK ?_ ?_
    ·exact decide_eq_true (by rw [ew]; omega)
    conv=>whnf
    refine .inl ⟨3,[[],[0],[],[0,1,2],[0,1,2,3],[0,1,2,3,4],[0,1,2,3,4,5]],by kernel_rfl,?_⟩
    conv=>whnf
    refine ⟨(B,m),rfl,by show m.size≤7; omega,?_⟩
    rw [show wj.val (B,m)=.int .i64 x from by show Value.int .i64 (IV.z (B,m))=_; rw [hE.val]]
    conv=>whnf
    refine ⟨(D,k),rfl,by show k.size≤7; omega,?_⟩
    rw [show wj.val (D,k)=.int .i64 y from by show Value.int .i64 (IV.z (D,k))=_; rw [hF.val]]
    conv=>whnf
    have hb:=Ql (x:=x) (y:=y) (by omega)
    obtain ⟨w,hw⟩:∃ w,w=x*y:=⟨_,rfl⟩
    rw [← hw] at hb
    rw [show IntKind.i64.wrap (x*y)=w from by rw [← hw]; exact au hb.1 hb.2]
    refine ⟨w,rfl,hb,?_⟩
    obtain ⟨V,n,hG⟩:=EI.mk' w
    rw [show eZ.val w=.agg ⟨[.bool V,.string n]⟩ from hG.enc]
    conv=>whnf
    exact fin _ (by rw [← hw,hG.enc]; rfl)
   ·refine aL (fun h=>absurd (of_decide_eq_true h) (by rw [ew]; omega)) (fun _=>?_)
    obtain ⟨v,hv⟩:∃ v,v=nb (ab m*ab k):=⟨_,rfl⟩
    have e:=hE.mul hF h1 J
    rw [← hv] at e
    conv=>whnf
    refine .inl ⟨10,[[],[0],[],[2],[0,1,2,3],[],[5],[],[7],[5,6,7,8],[0,1,2,3,4,5,6,7,8,9],[0,1,2,3,4,5,6,7,8,9,10]],by kernel_rfl,?_⟩
    conv=>whnf
    refine ⟨(m,k),rfl,⟨by show m.size≤_; omega,by show k.size≤_; omega⟩,?_⟩
    rw [show FE.val (m,k)=.string v from by rw [hv]; rfl]
    conv=>whnf
    exact fin _ e
end Go.Proofs.YtlapbjdhekcipaaGreat
/- Contracts of the reference integers: greatest divisor, division. -/
set_option maxRecDepth 20000
set_option maxHeartbeats 1000000
namespace Go.Proofs.YtlapbjdhekcipaaGreat
open Go Go.Ae
def Eri:Env:=En [(191,.p kC),(193,.p j7),(155,.p eZ),(192,.p pg)]
theorem abi:EnvOk Tryz.prog Eri:=bL ⟨A6,EF,yp,KL,trivial⟩ trivial
theorem XQ:bm Tryz.prog 175 um:=by
 refine bt abi aO Tryz.func175 (enters_of Tryz.func175 (by kernel_rfl) rfl) (fun _=>rfl) (fun _=>rfl) ?_
 intro ⟨⟨b,s⟩,⟨c,t⟩⟩ hp
 have hp:s.size≤549755813888∧t.size≤549755813888:=hp
 have hA:=jb s
 have hD:=jb t
 obtain ⟨G,hG⟩:∃ G,G=Nat.gcd (ab s) (ab t):=⟨_,rfl⟩
 have fin:∀ v:Value,v=aF ((G:Nat):Int)→v=um.val ((b,s),(c,t)):=fun v h=>by
  rw [h,hG]
  show _=aF ((Int.gcd (IV.z (b,s)) (IV.z (c,t)):Nat):Int)
  unfold Int.gcd IV.z
  rw [tb,tb]
 conv=>whnf
 refine .inl ⟨5,[[],[0],[0,1],[],[3],[0,1,2,3,4],[0,1,2,3,4,5],[0,1,2,3,4,5,6]],by kernel_rfl,?_⟩
 conv=>whnf
 refine ⟨s,rfl,by show s.size≤_; omega,?_⟩
 conv=>whnf
 refine ⟨t,rfl,by show t.size≤_; omega,?_⟩
 conv=>whnf
 refine .inl ⟨fun mm tz hz=>∃ (A:Nat) (D:Nat),bE (aD 4 (some (.pointer (some ⟨0,0,none⟩))::some (.string (nb A))::some (.string (nb D))::aD 46 [])) tz∧hz=[some (.aQ true 2 [[.bool false,.string ⟨#[]⟩]])]∧D=mm∧((aR A≤549755813888∧aR D≤549755813888)∧Nat.gcd A D=G),.inr ⟨[2],[4,5,6],?_⟩,?_⟩
 ·conv=>whnf
  intro _
  conv=>whnf
  refine ⟨_,ab s,ab t,(.sk 4 (.aa (.aa (.aa (.sk 46 .nil rfl)))) rfl),rfl,rfl,?_⟩
  exact ⟨⟨by omega,by omega⟩,hG.symm⟩
 rintro mm aT _ ⟨A,D,ar,rfl,rfl,⟨cl,hg⟩⟩
 obtain ⟨az,rfl⟩:∃ az:Nat→Value,aT=zs az 0 4 (.pointer (some ⟨0,0,none⟩)::.string (nb A)::.string (nb D)::zs az 7 46 []):=bK ar
 clear ar
 obtain ⟨x,hx⟩:∃ x,x=nb A:=⟨_,rfl⟩
 obtain ⟨y,hy⟩:∃ y,y=nb D:=⟨_,rfl⟩
 have m7:x.size=aR A:=by rw [hx,gD]
 have CM:y.size=aR D:=by rw [hy,gD]
 have qK:ab x=A:=by rw [hx,ia]
 have xq:ab y=D:=by rw [hy,ia]
 rw [← hx,← hy]
 conv=>whnf
 by_cases h1:D=0
 ·rw [show (!y.toList == (⟨#[]⟩:ByteArray).toList)=false from by rw [hy]; exact vM h1]
  conv=>whnf
  rw [show (y.toList == (⟨#[]⟩:ByteArray).toList)=true from by
   have:=vM h1
   rw [← hy] at this
   simpa using this]
  conv=>whnf
  rw [h1,Nat.gcd_zero_right] at hg
  exact fin _ (by rw [hx,← hg]; exact vY (decide_eq_false (by omega)).symm (by omega))
 ·rw [show (!y.toList == (⟨#[]⟩:ByteArray).toList)=true from by rw [hy]; exact vV h1]
  conv=>whnf
  by_cases J:x.size > 7
  ·rw [show decide (((x.size:Nat):Int) > 7)=true from decide_eq_true (by omega)]
   conv=>whnf
   obtain ⟨q,hq⟩:∃ q,q=nb (A / D):=⟨_,rfl⟩
   obtain ⟨r,hr⟩:∃ r,r=nb (A % D):=⟨_,rfl⟩
   refine ⟨(x,D),by rw [hy]; rfl,⟨by show x.size≤_; omega,by show aR D≤_; omega,h1⟩,?_⟩
   rw [show pg.val (x,D)=.tuple ⟨[.string q,.string r]⟩ from by show Value.tuple ⟨[.string (nb (ab x / D)),.string (nb (ab x % D))]⟩=_; rw [qK,hq,hr]]
   conv=>whnf
   rw [hy,hr]
   have kQ:aR (A % D)≤aR D:=iO (Nat.le_of_lt (Nat.mod_lt _ (by omega)))
   refine .inr ⟨[0],[4,5,6],?_⟩
   conv=>whnf
   intro _
   conv=>whnf
   refine ⟨_,?_,D,A % D,(.sk 4 (.aa (.aa (.aa (.sk 46 .nil rfl)))) rfl),rfl,rfl,?_⟩
   ·exact Nat.mod_lt _ (by omega)
   ·exact ⟨⟨cl.2,by omega⟩,by rw [Nat.gcd_comm,← Nat.gcd_rec,Nat.gcd_comm]; exact hg⟩
  ·rw [show decide (((x.size:Nat):Int) > 7)=false from decide_eq_false (by omega)]
   conv=>whnf
   by_cases h3:y.size > 7
   ·rw [show decide (((y.size:Nat):Int) > 7)=true from decide_eq_true (by omega)]
    conv=>whnf
    obtain ⟨q,hq⟩:∃ q,q=nb (A / D):=⟨_,rfl⟩
    obtain ⟨r,hr⟩:∃ r,r=nb (A % D):=⟨_,rfl⟩
    refine ⟨(x,D),by rw [hy]; rfl,⟨by show x.size≤_; omega,by show aR D≤_; omega,h1⟩,?_⟩
    rw [show pg.val (x,D)=.tuple ⟨[.string q,.string r]⟩ from by show Value.tuple ⟨[.string (nb (ab x / D)),.string (nb (ab x % D))]⟩=_; rw [qK,hq,hr]]
    conv=>whnf
    rw [hy,hr]
    have kQ:aR (A % D)≤aR D:=iO (Nat.le_of_lt (Nat.mod_lt _ (by omega)))
    refine .inr ⟨[0],[4,5,6],?_⟩
    conv=>whnf
    intro _
    conv=>whnf
    refine ⟨_,?_,D,A % D,(.sk 4 (.aa (.aa (.aa (.sk 46 .nil rfl)))) rfl),rfl,rfl,?_⟩
    ·exact Nat.mod_lt _ (by omega)
    ·exact ⟨⟨cl.2,by omega⟩,by rw [Nat.gcd_comm,← Nat.gcd_rec,Nat.gcd_comm]; exact hg⟩
   ·rw [show decide (((y.size:Nat):Int) > 7)=false from decide_eq_false (by omega)]
    conv=>whnf
    rw [show (y.toList == (⟨#[]⟩:ByteArray).toList)=false from by
     have:=vV h1
     rw [← hy] at this
     simpa using this]
    conv=>whnf
    refine ⟨x,rfl,by show x.size≤7; omega,?_⟩
    rw [show j7.val x=.int .i64 A from by show Value.int .i64 (ab x:Nat)=_; rw [qK]]
    conv=>whnf
    refine ⟨y,rfl,by show y.size≤7; omega,?_⟩
    rw [show j7.val y=.int .i64 D from by show Value.int .i64 (ab y:Nat)=_; rw [xq]]
    conv=>whnf
    have lA:A < 72057594037927936:=Nat.lt_of_lt_of_le (kW A) (nI (by omega))
    have lD:D < 72057594037927936:=Nat.lt_of_lt_of_le (kW D) (nI (by omega))
    refine .inl ⟨fun mm tz hz=>∃ (m:Nat) (n:Nat),bE (aD 4 (some (.pointer (some ⟨0,0,none⟩))::aD 4 (some (.int .i64 m)::some (.int .i64 n)::aD 42 []))) tz∧hz=[some (.aQ true 2 [[.bool false,.string ⟨#[]⟩]])]∧n=mm∧((m < 72057594037927936∧n < 72057594037927936)∧Nat.gcd m n=G),.inr ⟨[0],[4,9,10],?_⟩,?_⟩
    ·conv=>whnf
     intro _
     conv=>whnf
     refine ⟨_,A,D,(.sk 4 (.aa (.sk 4 (.aa (.aa (.sk 42 .nil rfl))) rfl)) rfl),rfl,rfl,?_⟩
     exact ⟨⟨lA,lD⟩,hg⟩
    rintro mm aT _ ⟨m,n,ar,rfl,rfl,⟨hmn,kR⟩⟩
    obtain ⟨az,rfl⟩:∃ az:Nat→Value,aT=zs az 0 4 (.pointer (some ⟨0,0,none⟩)::zs az 5 4 (.int .i64 m::.int .i64 n::zs az 11 42 [])):=bK ar
    clear ar
    conv=>whnf
    refine aL (fun h4=>?_) (fun h4=>?_)
    ·have h4:0 < n:=by
      have:=of_decide_eq_true h4
      omega
     have ak:=Nat.mod_lt m h4
     conv=>whnf
     refine .inl ⟨5,[[],[],[],[1,2],[0,1],[0,1,2,3,4]],by kernel_rfl,?_⟩
     conv=>whnf
     rw [show decide (((n:Nat):Int)≠0)=true from decide_eq_true (by omega)]
     conv=>whnf
     rw [show Int.tmod ((m:Nat):Int) ((n:Nat):Int)=((m % n:Nat):Int) from rfl]
     refine .inr ⟨[0],[4,9,10],?_⟩
     conv=>whnf
     intro _
     conv=>whnf
     refine ⟨_,?_,n,m % n,(.sk 4 (.aa (.sk 4 (.aa (.aa (.sk 42 .nil rfl))) rfl)) rfl),rfl,rfl,?_⟩
     ·exact ak
     ·exact ⟨⟨hmn.2,by omega⟩,by rw [Nat.gcd_comm,← Nat.gcd_rec,Nat.gcd_comm]; exact kR⟩
    ·have h4:n=0:=by
      have:=of_decide_eq_false h4
      omega
     subst h4
     rw [Nat.gcd_zero_right] at kR
     conv=>whnf
     refine ⟨((m:Nat):Int),rfl,⟨by omega,by omega⟩,?_⟩
     obtain ⟨V,n,hV⟩:=EI.mk' ((m:Nat):Int)
     rw [show eZ.val ((m:Nat):Int)=.agg ⟨[.bool V,.string n]⟩ from hV.enc]
     conv=>whnf
     exact fin _ (by rw [← kR,hV.enc]; rfl)
def Erj:Env:=En [(179,.p jh),(193,.p j7),(155,.p eZ),(192,.p pg),(174,.p gV),(194,.p mq)]
theorem abj:EnvOk Tryz.prog Erj:=bL ⟨EE,EF,yp,KL,FU,XO,trivial⟩ trivial
theorem XR:bm Tryz.prog 176 iH:=by
 refine bt abj aO Tryz.func176 (enters_of Tryz.func176 (by kernel_rfl) rfl) (fun _=>rfl) (fun _=>rfl) ?_
 intro ⟨⟨b,s⟩,⟨c,t⟩⟩ hp
 have hp:s.size≤549755813888∧t.size≤549755813888:=hp
 obtain ⟨x,hx⟩:∃ x,x=IV.z (b,s):=⟨_,rfl⟩
 obtain ⟨y,hy⟩:∃ y,y=IV.z (c,t):=⟨_,rfl⟩
 have qK:aR x.natAbs≤549755813888:=by rw [hx]; exact IV.aR (i:=(b,s)) hp.1
 have xq:aR y.natAbs≤549755813888:=by rw [hy]; exact IV.aR (i:=(c,t)) hp.2
 obtain ⟨B,m,hE⟩:=EI.mk' x
 obtain ⟨D,k,hF⟩:=EI.mk' y
 have qA:=hE.size
 have jw:=hF.size
 have ec:jh.val (b,s)=.agg ⟨[.bool B,.string m]⟩:=by show aF (IV.z (b,s))=_; rw [← hx,hE.enc]
 have ed:jh.val (c,t)=.agg ⟨[.bool D,.string k]⟩:=by show aF (IV.z (c,t))=_; rw [← hy,hF.enc]
 conv=>whnf
 refine .inl ⟨3,[[],[0],[],[0,1,2],[0,1,2,3],[0,1,2,3,4]],by kernel_rfl,?_⟩
 conv=>whnf
 refine ⟨(b,s),rfl,hp.1,?_⟩
 rw [ec]
 conv=>whnf
 refine ⟨(c,t),rfl,hp.2,?_⟩
 rw [ed]
 conv=>whnf
 by_cases J:y=0
 ·rw [show (k.toList == (⟨#[]⟩:ByteArray).toList)=true from by rw [hF.nil,decide_eq_true J]]
  conv=>whnf
  have e:Int.fdiv (IV.z (b,s)) 0=0:=Int.fdiv_zero _
  have hz:IV.z (c,t)=0:=by rw [← hy]; exact J
  simp only [iH,hz,e,if_true,vB]
  rfl
 ·rw [show (k.toList == (⟨#[]⟩:ByteArray).toList)=false from by rw [hF.nil,decide_eq_false J]]
  have fin:∀ (q r:Value),q=aF (Int.fdiv x y)→r=aF (Int.fmod x y)→Value.tuple ⟨[q,r,.int .i64 0]⟩=iH.val ((b,s),(c,t)):=fun q r hq hr=>by
   rw [hx,hy] at hq hr
   have hz:IV.z (c,t)≠0:=by rw [← hy]; exact J
   simp only [iH,if_neg hz]
   rw [hq,hr]
  obtain ⟨zq,mE⟩:∃ z:Int,z=((ab m / ab k:Nat):Int):=⟨_,rfl⟩
  obtain ⟨zr,mF⟩:∃ z:Int,z=((ab m % ab k:Nat):Int):=⟨_,rfl⟩
  obtain ⟨acW,adh⟩:0≤zq∧zq≤ab m:=by rw [mE]; exact ⟨Int.natCast_nonneg _,Int.ofNat_le.2 (Nat.div_le_self _ _)⟩
  obtain ⟨qs,hq⟩:=EI.iS acW
  obtain ⟨rs,hr⟩:=EI.iS (show 0≤zr by rw [mF]; exact Int.natCast_nonneg _)
  have sC:ab k≠0:=by rw [hF.abs]; omega
  have oK:0≤zr∧zr < ab k:=by
   have:=Nat.mod_lt (ab m) (Nat.pos_of_ne_zero sC)
   omega
  have C7:aR zq.natAbs≤549755813888:=by
   have h3:=iO (Nat.div_le_self (ab m) (ab k))
   have h4:=jb m
   have:zq.natAbs=ab m / ab k:=by rw [mE]; rfl
   rw [this]
   omega
  have oU:aR zr.natAbs≤549755813888:=by
   have h3:=iO (Nat.mod_le (ab m) (ab k))
   have h4:=jb m
   have:zr.natAbs=ab m % ab k:=by rw [mF]; rfl
   rw [this]
   omega
  conv=>whnf
  by_cases h3:m.size < 8∧k.size < 8
  ·have lm:ab m < 72057594037927936:=Nat.lt_of_lt_of_le (gw m) (nI (by omega))
   have lk:ab k < 72057594037927936:=Nat.lt_of_lt_of_le (gw k) (nI (by omega))
   obtain ⟨M,hM⟩:∃ M,M=ab m:=⟨_,rfl⟩
   obtain ⟨N,hN⟩:∃ N,N=ab k:=⟨_,rfl⟩
   rw [show decide (((m.size:Nat):Int) < 8)=true from decide_eq_true (by omega)]
   conv=>whnf
   rw [show decide (((k.size:Nat):Int) < 8)=true from decide_eq_true (by omega)]
   conv=>whnf
   refine .inl ⟨5,[[],[0],[0,1],[],[3],[0,1,2,3,4],[0,1,2,3,4,5],[0,1,2,3,4,5,6]],by kernel_rfl,?_⟩
   conv=>whnf
   refine ⟨m,rfl,by show m.size≤7; omega,?_⟩
   rw [show j7.val m=.int .i64 M from by rw [hM]; rfl]
   conv=>whnf
   refine ⟨k,rfl,by show k.size≤7; omega,?_⟩
   rw [show j7.val k=.int .i64 N from by rw [hN]; rfl]
   conv=>whnf
   refine .inl ⟨7,[[],[],[0,1],[0,1,2],[],[],[4,5],[0,1,2,3,4,5,6],[0,1,2,3,4,5,6,7],[0,1,2,3,4,5,6,7,8]],by kernel_rfl,?_⟩
   have eq:IntKind.i64.wrap (Int.tdiv (M:Int) (N:Int))=zq:=by
    rw [EU,mE,hM,hN]
    exact LR (Nat.lt_of_le_of_lt (Nat.div_le_self _ _) lm)
   have er:Int.tmod (M:Int) (N:Int)=zr:=by rw [LK,mF,hM,hN]
   conv=>whnf
   rw [show decide (((N:Nat):Int)≠0)=true from decide_eq_true (by omega)]
   conv=>whnf
   rw [eq]
   refine ⟨zq,rfl,?_,?_⟩
   ·exact ⟨by omega,by omega⟩
   rw [show eZ.val zq=.agg ⟨[.bool false,.string qs]⟩ from hq.enc]
   conv=>whnf
   rw [show decide (((N:Nat):Int)≠0)=true from decide_eq_true (by omega)]
   conv=>whnf
   rw [er]
   refine ⟨zr,rfl,⟨by omega,by omega⟩,?_⟩
   rw [show eZ.val zr=.agg ⟨[.bool false,.string rs]⟩ from hr.enc]
   conv=>whnf
   refine aL (fun h5=>?_) (fun h5=>?_)
   ·have h5:B≠D:=by
     intro e
     subst e
     cases B <;> cases h5
    obtain ⟨jz,iM,fu⟩:=EI.mk' (-zq)
    have yZ:=fu.size
    rw [Int.natAbs_neg] at yZ
    conv=>whnf
    refine ⟨(false,qs),rfl,by show qs.size≤_; rw [hq.size]; omega,?_⟩
    rw [show gV.val (false,qs)=.agg ⟨[.bool jz,.string iM]⟩ from by show aF (-IV.z (false,qs))=_; rw [hq.val,fu.enc]]
    conv=>whnf
    by_cases h6:zr=0
    ·rw [show (!rs.toList == (⟨#[]⟩:ByteArray).toList)=false from by rw [hr.nn]; exact decide_eq_false (by omega)]
     obtain ⟨hz,hw⟩:=Es hE hF J h5 mE mF h6
     clear hq
     have hq:=fu
     conv=>whnf
     refine aL (fun h9=>?_) (fun h9=>?_)
     ·have c4:=hq.enc.symm.trans (congrArg aF hz)
      rw [h9,if_pos rfl] at hw
      conv=>whnf
      refine ⟨(false,rs),rfl,by show rs.size≤_; rw [hr.size]; omega,?_⟩
      obtain ⟨V,n,hV⟩:=EI.mk' (-zr)
      rw [show gV.val (false,rs)=.agg ⟨[.bool V,.string n]⟩ from by show aF (-IV.z (false,rs))=_; rw [hr.val,hV.enc]]
      have cH:=hV.enc.symm.trans (congrArg aF hw)
      conv=>whnf
      refine .inr (.inl ⟨(.br 0 (.br 1 (.br 2 (.br 3 (.br 4 .leaf .leaf) .leaf) .leaf) (.br 2 (.br 1 (.br 3 (.br 4 .leaf .leaf) .leaf) .leaf) .leaf)) (.br 1 (.br 0 (.br 2 (.br 3 (.br 4 .leaf .leaf) .leaf) .leaf) .leaf) .leaf)),by kernel_rfl,?_⟩)
      repeat' ((conv=>whnf); first | exact True.intro | refine And.intro ?_ ?_)
      all_goals conv=>whnf
      all_goals exact fin _ _ c4 cH
     ·have c4:=hq.enc.symm.trans (congrArg aF hz)
      rw [h9,if_neg (by decide)] at hw
      have cH:=hr.enc.symm.trans (congrArg aF hw)
      conv=>whnf
      refine .inr (.inl ⟨(.br 0 (.br 1 (.br 2 (.br 3 (.br 4 .leaf .leaf) .leaf) .leaf) (.br 2 (.br 1 (.br 3 (.br 4 .leaf .leaf) .leaf) .leaf) .leaf)) (.br 1 (.br 0 (.br 2 (.br 3 (.br 4 .leaf .leaf) .leaf) .leaf) .leaf) .leaf)),by kernel_rfl,?_⟩)
      repeat' ((conv=>whnf); first | exact True.intro | refine And.intro ?_ ?_)
      all_goals conv=>whnf
      all_goals exact fin _ _ c4 cH
    ·rw [show (!rs.toList == (⟨#[]⟩:ByteArray).toList)=true from by rw [hr.nn]; exact decide_eq_true (by omega)]
     obtain ⟨hz,hw⟩:=EZ hE hF J h5 mE mF h6
     obtain ⟨vb,v1,n4⟩:=EI.mk' 1
     have PK:=n4.size
     have ze:aR (Int.natAbs 1)≤1:=gJ (by decide)
     have OR:IV.z (jz,iM)=-zq:=fu.val
     conv=>whnf
     refine .inl ⟨2,[[],[],[0,1],[0,1,2]],by kernel_rfl,?_⟩
     conv=>whnf
     refine ⟨(1:Int),rfl,⟨by decide,by decide⟩,?_⟩
     rw [show eZ.val (1:Int)=.agg ⟨[.bool vb,.string v1]⟩ from n4.enc]
     conv=>whnf
     refine ⟨((jz,iM),(vb,v1)),rfl,⟨by show iM.size≤_; omega,by show v1.size≤_; omega⟩,?_⟩
     obtain ⟨zR,zS,g9⟩:=EI.mk' (-zq - 1)
     rw [show mq.val ((jz,iM),(vb,v1))=.agg ⟨[.bool zR,.string zS]⟩ from by show aF (IV.z (jz,iM) - IV.z (vb,v1))=_; rw [fu.val,n4.val,g9.enc]]
     conv=>whnf
     refine ⟨((false,k),(false,rs)),rfl,⟨by show k.size≤_; omega,by show rs.size≤_; rw [hr.size]; omega⟩,?_⟩
     obtain ⟨sI,sJ,n5⟩:=EI.mk' (((ab k:Nat):Int) - zr)
     rw [show mq.val ((false,k),(false,rs))=.agg ⟨[.bool sI,.string sJ]⟩ from by show aF (IV.z (false,k) - IV.z (false,rs))=_; rw [hr.val,show IV.z (false,k)=((ab k:Nat):Int) from rfl,n5.enc]]
     have sK:aR (((ab k:Nat):Int) - zr).natAbs≤549755813888:=by
      have jx:=jb k
      have:=iO (show (((ab k:Nat):Int) - zr).natAbs≤ab k by have:=hF.abs; omega)
      omega
     clear hq hr oU
     have hq:=g9
     clear oK
     obtain ⟨zr,zT⟩:∃ z,z=((ab k:Nat):Int) - zr:=⟨_,rfl⟩
     rw [← zT] at n5 hw sK
     obtain ⟨rb,rfl⟩:∃ q',q'=sI:=⟨_,rfl⟩
     obtain ⟨rs,rfl⟩:∃ q',q'=sJ:=⟨_,rfl⟩
     have hr:=n5
     have oU:=sK
     conv=>whnf
     refine aL (fun h9=>?_) (fun h9=>?_)
     ·have c4:=hq.enc.symm.trans (congrArg aF hz)
      rw [h9,if_pos rfl] at hw
      conv=>whnf
      refine ⟨(rb,rs),rfl,by show rs.size≤_; rw [hr.size]; omega,?_⟩
      obtain ⟨V,n,hV⟩:=EI.mk' (-zr)
      rw [show gV.val (rb,rs)=.agg ⟨[.bool V,.string n]⟩ from by show aF (-IV.z (rb,rs))=_; rw [hr.val,hV.enc]]
      have cH:=hV.enc.symm.trans (congrArg aF hw)
      conv=>whnf
      refine .inr (.inl ⟨(.br 0 (.br 1 (.br 2 (.br 3 (.br 4 .leaf .leaf) .leaf) .leaf) (.br 2 (.br 1 (.br 3 (.br 4 .leaf .leaf) .leaf) .leaf) .leaf)) (.br 1 (.br 0 (.br 2 (.br 3 (.br 4 .leaf .leaf) .leaf) .leaf) .leaf) .leaf)),by kernel_rfl,?_⟩)
      repeat' ((conv=>whnf); first | exact True.intro | refine And.intro ?_ ?_)
      all_goals conv=>whnf
      all_goals exact fin _ _ c4 cH
     ·have c4:=hq.enc.symm.trans (congrArg aF hz)
      rw [h9,if_neg (by decide)] at hw
      have cH:=hr.enc.symm.trans (congrArg aF hw)
      conv=>whnf
      refine .inr (.inl ⟨(.br 0 (.br 1 (.br 2 (.br 3 (.br 4 .leaf .leaf) .leaf) .leaf) (.br 2 (.br 1 (.br 3 (.br 4 .leaf .leaf) .leaf) .leaf) .leaf)) (.br 1 (.br 0 (.br 2 (.br 3 (.br 4 .leaf .leaf) .leaf) .leaf) .leaf) .leaf)),by kernel_rfl,?_⟩)
      repeat' ((conv=>whnf); first | exact True.intro | refine And.intro ?_ ?_)
      all_goals conv=>whnf
      all_goals exact fin _ _ c4 cH
   ·have h5:B=D:=by
     cases B <;> cases D <;> first | rfl | cases h5
    obtain ⟨hz,hw⟩:=EY hE hF J h5 mE mF
    conv=>whnf
    refine aL (fun h9=>?_) (fun h9=>?_)
    ·have c4:=hq.enc.symm.trans (congrArg aF hz)
     rw [h9,if_pos rfl] at hw
     conv=>whnf
     refine ⟨(false,rs),rfl,by show rs.size≤_; rw [hr.size]; omega,?_⟩
     obtain ⟨V,n,hV⟩:=EI.mk' (-zr)
     rw [show gV.val (false,rs)=.agg ⟨[.bool V,.string n]⟩ from by show aF (-IV.z (false,rs))=_; rw [hr.val,hV.enc]]
     have cH:=hV.enc.symm.trans (congrArg aF hw)
     conv=>whnf
     refine .inr (.inl ⟨(.br 0 (.br 1 (.br 2 (.br 3 (.br 4 .leaf .leaf) .leaf) .leaf) (.br 2 (.br 1 (.br 3 (.br 4 .leaf .leaf) .leaf) .leaf) .leaf)) (.br 1 (.br 0 (.br 2 (.br 3 (.br 4 .leaf .leaf) .leaf) .leaf) .leaf) .leaf)),by kernel_rfl,?_⟩)
     repeat' ((conv=>whnf); first | exact True.intro | refine And.intro ?_ ?_)
     all_goals conv=>whnf
     all_goals exact fin _ _ c4 cH
    ·have c4:=hq.enc.symm.trans (congrArg aF hz)
     rw [h9,if_neg (by decide)] at hw
     have cH:=hr.enc.symm.trans (congrArg aF hw)
     conv=>whnf
     refine .inr (.inl ⟨(.br 0 (.br 1 (.br 2 (.br 3 (.br 4 .leaf .leaf) .leaf) .leaf) (.br 2 (.br 1 (.br 3 (.br 4 .leaf .leaf) .leaf) .leaf) .leaf)) (.br 1 (.br 0 (.br 2 (.br 3 (.br 4 .leaf .leaf) .leaf) .leaf) .leaf) .leaf)),by kernel_rfl,?_⟩)
     repeat' ((conv=>whnf); first | exact True.intro | refine And.intro ?_ ?_)
     all_goals conv=>whnf
     all_goals exact fin _ _ c4 cH
  ·have ev:pg.val (m,ab k)=.tuple ⟨[.string qs,.string rs]⟩:=by
    show Value.tuple ⟨[.string (nb (ab m / ab k)),.string (nb (ab m % ab k))]⟩=_
    rw [hq.ng,hr.ng,mE,mF]
    rfl
   have ei:pg.args (m,ab k)=[.string m,.string k]:=by
    show [Value.string m,.string (nb (ab k))]=_
    rw [← hF.eta]
   have OS:pg.pre (m,ab k):=⟨by show m.size≤_; omega,by show aR (ab k)≤_; rw [hF.abs]; omega,sC⟩
   by_cases h4:m.size < 8
   ·rw [show decide (((m.size:Nat):Int) < 8)=true from decide_eq_true (by omega)]
    conv=>whnf
    rw [show decide (((k.size:Nat):Int) < 8)=false from decide_eq_false (by omega)]
    conv=>whnf
    refine ⟨(m,ab k),ei,OS,?_⟩
    rw [ev]
    conv=>whnf
    refine aL (fun h5=>?_) (fun h5=>?_)
    ·have h5:B≠D:=by
      intro e
      subst e
      cases B <;> cases h5
     obtain ⟨jz,iM,fu⟩:=EI.mk' (-zq)
     have yZ:=fu.size
     rw [Int.natAbs_neg] at yZ
     conv=>whnf
     refine ⟨(false,qs),rfl,by show qs.size≤_; rw [hq.size]; omega,?_⟩
     rw [show gV.val (false,qs)=.agg ⟨[.bool jz,.string iM]⟩ from by show aF (-IV.z (false,qs))=_; rw [hq.val,fu.enc]]
     conv=>whnf
     by_cases h6:zr=0
     ·rw [show (!rs.toList == (⟨#[]⟩:ByteArray).toList)=false from by rw [hr.nn]; exact decide_eq_false (by omega)]
      obtain ⟨hz,hw⟩:=Es hE hF J h5 mE mF h6
      clear hq
      have hq:=fu
      conv=>whnf
      refine aL (fun h9=>?_) (fun h9=>?_)
      ·have c4:=hq.enc.symm.trans (congrArg aF hz)
       rw [h9,if_pos rfl] at hw
       conv=>whnf
       refine ⟨(false,rs),rfl,by show rs.size≤_; rw [hr.size]; omega,?_⟩
       obtain ⟨V,n,hV⟩:=EI.mk' (-zr)
       rw [show gV.val (false,rs)=.agg ⟨[.bool V,.string n]⟩ from by show aF (-IV.z (false,rs))=_; rw [hr.val,hV.enc]]
       have cH:=hV.enc.symm.trans (congrArg aF hw)
       conv=>whnf
       refine .inr (.inl ⟨(.br 0 (.br 1 (.br 2 (.br 3 (.br 4 .leaf .leaf) .leaf) .leaf) (.br 2 (.br 1 (.br 3 (.br 4 .leaf .leaf) .leaf) .leaf) .leaf)) (.br 1 (.br 0 (.br 2 (.br 3 (.br 4 .leaf .leaf) .leaf) .leaf) .leaf) .leaf)),by kernel_rfl,?_⟩)
       repeat' ((conv=>whnf); first | exact True.intro | refine And.intro ?_ ?_)
       all_goals conv=>whnf
       all_goals exact fin _ _ c4 cH
      ·have c4:=hq.enc.symm.trans (congrArg aF hz)
       rw [h9,if_neg (by decide)] at hw
       have cH:=hr.enc.symm.trans (congrArg aF hw)
       conv=>whnf
       refine .inr (.inl ⟨(.br 0 (.br 1 (.br 2 (.br 3 (.br 4 .leaf .leaf) .leaf) .leaf) (.br 2 (.br 1 (.br 3 (.br 4 .leaf .leaf) .leaf) .leaf) .leaf)) (.br 1 (.br 0 (.br 2 (.br 3 (.br 4 .leaf .leaf) .leaf) .leaf) .leaf) .leaf)),by kernel_rfl,?_⟩)
       repeat' ((conv=>whnf); first | exact True.intro | refine And.intro ?_ ?_)
       all_goals conv=>whnf
       all_goals exact fin _ _ c4 cH
     ·rw [show (!rs.toList == (⟨#[]⟩:ByteArray).toList)=true from by rw [hr.nn]; exact decide_eq_true (by omega)]
      obtain ⟨hz,hw⟩:=EZ hE hF J h5 mE mF h6
      obtain ⟨vb,v1,n4⟩:=EI.mk' 1
      have PK:=n4.size
      have ze:aR (Int.natAbs 1)≤1:=gJ (by decide)
      have OR:IV.z (jz,iM)=-zq:=fu.val
      conv=>whnf
      refine .inl ⟨2,[[],[],[0,1],[0,1,2]],by kernel_rfl,?_⟩
      conv=>whnf
      refine ⟨(1:Int),rfl,⟨by decide,by decide⟩,?_⟩
      rw [show eZ.val (1:Int)=.agg ⟨[.bool vb,.string v1]⟩ from n4.enc]
      conv=>whnf
      refine ⟨((jz,iM),(vb,v1)),rfl,⟨by show iM.size≤_; omega,by show v1.size≤_; omega⟩,?_⟩
      obtain ⟨zR,zS,g9⟩:=EI.mk' (-zq - 1)
      rw [show mq.val ((jz,iM),(vb,v1))=.agg ⟨[.bool zR,.string zS]⟩ from by show aF (IV.z (jz,iM) - IV.z (vb,v1))=_; rw [fu.val,n4.val,g9.enc]]
      conv=>whnf
      refine ⟨((false,k),(false,rs)),rfl,⟨by show k.size≤_; omega,by show rs.size≤_; rw [hr.size]; omega⟩,?_⟩
      obtain ⟨sI,sJ,n5⟩:=EI.mk' (((ab k:Nat):Int) - zr)
      rw [show mq.val ((false,k),(false,rs))=.agg ⟨[.bool sI,.string sJ]⟩ from by show aF (IV.z (false,k) - IV.z (false,rs))=_; rw [hr.val,show IV.z (false,k)=((ab k:Nat):Int) from rfl,n5.enc]]
      have sK:aR (((ab k:Nat):Int) - zr).natAbs≤549755813888:=by
       have jx:=jb k
       have:=iO (show (((ab k:Nat):Int) - zr).natAbs≤ab k by have:=hF.abs; omega)
       omega
      clear hq hr oU
      have hq:=g9
      clear oK
      obtain ⟨zr,zT⟩:∃ z,z=((ab k:Nat):Int) - zr:=⟨_,rfl⟩
      rw [← zT] at n5 hw sK
      obtain ⟨rb,rfl⟩:∃ q',q'=sI:=⟨_,rfl⟩
      obtain ⟨rs,rfl⟩:∃ q',q'=sJ:=⟨_,rfl⟩
      have hr:=n5
      have oU:=sK
      conv=>whnf
      refine aL (fun h9=>?_) (fun h9=>?_)
      ·have c4:=hq.enc.symm.trans (congrArg aF hz)
       rw [h9,if_pos rfl] at hw
       conv=>whnf
       refine ⟨(rb,rs),rfl,by show rs.size≤_; rw [hr.size]; omega,?_⟩
       obtain ⟨V,n,hV⟩:=EI.mk' (-zr)
       rw [show gV.val (rb,rs)=.agg ⟨[.bool V,.string n]⟩ from by show aF (-IV.z (rb,rs))=_; rw [hr.val,hV.enc]]
       have cH:=hV.enc.symm.trans (congrArg aF hw)
       conv=>whnf
       refine .inr (.inl ⟨(.br 0 (.br 1 (.br 2 (.br 3 (.br 4 .leaf .leaf) .leaf) .leaf) (.br 2 (.br 1 (.br 3 (.br 4 .leaf .leaf) .leaf) .leaf) .leaf)) (.br 1 (.br 0 (.br 2 (.br 3 (.br 4 .leaf .leaf) .leaf) .leaf) .leaf) .leaf)),by kernel_rfl,?_⟩)
       repeat' ((conv=>whnf); first | exact True.intro | refine And.intro ?_ ?_)
       all_goals conv=>whnf
       all_goals exact fin _ _ c4 cH
      ·have c4:=hq.enc.symm.trans (congrArg aF hz)
       rw [h9,if_neg (by decide)] at hw
       have cH:=hr.enc.symm.trans (congrArg aF hw)
       conv=>whnf
       refine .inr (.inl ⟨(.br 0 (.br 1 (.br 2 (.br 3 (.br 4 .leaf .leaf) .leaf) .leaf) (.br 2 (.br 1 (.br 3 (.br 4 .leaf .leaf) .leaf) .leaf) .leaf)) (.br 1 (.br 0 (.br 2 (.br 3 (.br 4 .leaf .leaf) .leaf) .leaf) .leaf) .leaf)),by kernel_rfl,?_⟩)
       repeat' ((conv=>whnf); first | exact True.intro | refine And.intro ?_ ?_)
       all_goals conv=>whnf
       all_goals exact fin _ _ c4 cH
    ·have h5:B=D:=by
      cases B <;> cases D <;> first | rfl | cases h5
     obtain ⟨hz,hw⟩:=EY hE hF J h5 mE mF
     conv=>whnf
     refine aL (fun h9=>?_) (fun h9=>?_)
     ·have c4:=hq.enc.symm.trans (congrArg aF hz)
      rw [h9,if_pos rfl] at hw
      conv=>whnf
      refine ⟨(false,rs),rfl,by show rs.size≤_; rw [hr.size]; omega,?_⟩
      obtain ⟨V,n,hV⟩:=EI.mk' (-zr)
      rw [show gV.val (false,rs)=.agg ⟨[.bool V,.string n]⟩ from by show aF (-IV.z (false,rs))=_; rw [hr.val,hV.enc]]
      have cH:=hV.enc.symm.trans (congrArg aF hw)
      conv=>whnf
      refine .inr (.inl ⟨(.br 0 (.br 1 (.br 2 (.br 3 (.br 4 .leaf .leaf) .leaf) .leaf) (.br 2 (.br 1 (.br 3 (.br 4 .leaf .leaf) .leaf) .leaf) .leaf)) (.br 1 (.br 0 (.br 2 (.br 3 (.br 4 .leaf .leaf) .leaf) .leaf) .leaf) .leaf)),by kernel_rfl,?_⟩)
      repeat' ((conv=>whnf); first | exact True.intro | refine And.intro ?_ ?_)
      all_goals conv=>whnf
      all_goals exact fin _ _ c4 cH
     ·have c4:=hq.enc.symm.trans (congrArg aF hz)
      rw [h9,if_neg (by decide)] at hw
      have cH:=hr.enc.symm.trans (congrArg aF hw)
      conv=>whnf
      refine .inr (.inl ⟨(.br 0 (.br 1 (.br 2 (.br 3 (.br 4 .leaf .leaf) .leaf) .leaf) (.br 2 (.br 1 (.br 3 (.br 4 .leaf .leaf) .leaf) .leaf) .leaf)) (.br 1 (.br 0 (.br 2 (.br 3 (.br 4 .leaf .leaf) .leaf) .leaf) .leaf) .leaf)),by kernel_rfl,?_⟩)
      repeat' ((conv=>whnf); first | exact True.intro | refine And.intro ?_ ?_)
      all_goals conv=>whnf
      all_goals exact fin _ _ c4 cH
   ·rw [show decide (((m.size:Nat):Int) < 8)=false from decide_eq_false (by omega)]
    conv=>whnf
    refine ⟨(m,ab k),ei,OS,?_⟩
    rw [ev]
    conv=>whnf
    refine aL (fun h5=>?_) (fun h5=>?_)
    ·have h5:B≠D:=by
      intro e
      subst e
      cases B <;> cases h5
     obtain ⟨jz,iM,fu⟩:=EI.mk' (-zq)
     have yZ:=fu.size
     rw [Int.natAbs_neg] at yZ
     conv=>whnf
     refine ⟨(false,qs),rfl,by show qs.size≤_; rw [hq.size]; omega,?_⟩
     rw [show gV.val (false,qs)=.agg ⟨[.bool jz,.string iM]⟩ from by show aF (-IV.z (false,qs))=_; rw [hq.val,fu.enc]]
     conv=>whnf
     by_cases h6:zr=0
     ·rw [show (!rs.toList == (⟨#[]⟩:ByteArray).toList)=false from by rw [hr.nn]; exact decide_eq_false (by omega)]
      obtain ⟨hz,hw⟩:=Es hE hF J h5 mE mF h6
      clear hq
      have hq:=fu
      conv=>whnf
      refine aL (fun h9=>?_) (fun h9=>?_)
      ·have c4:=hq.enc.symm.trans (congrArg aF hz)
       rw [h9,if_pos rfl] at hw
       conv=>whnf
       refine ⟨(false,rs),rfl,by show rs.size≤_; rw [hr.size]; omega,?_⟩
       obtain ⟨V,n,hV⟩:=EI.mk' (-zr)
       rw [show gV.val (false,rs)=.agg ⟨[.bool V,.string n]⟩ from by show aF (-IV.z (false,rs))=_; rw [hr.val,hV.enc]]
       have cH:=hV.enc.symm.trans (congrArg aF hw)
       conv=>whnf
       refine .inr (.inl ⟨(.br 0 (.br 1 (.br 2 (.br 3 (.br 4 .leaf .leaf) .leaf) .leaf) (.br 2 (.br 1 (.br 3 (.br 4 .leaf .leaf) .leaf) .leaf) .leaf)) (.br 1 (.br 0 (.br 2 (.br 3 (.br 4 .leaf .leaf) .leaf) .leaf) .leaf) .leaf)),by kernel_rfl,?_⟩)
       repeat' ((conv=>whnf); first | exact True.intro | refine And.intro ?_ ?_)
       all_goals conv=>whnf
       all_goals exact fin _ _ c4 cH
      ·have c4:=hq.enc.symm.trans (congrArg aF hz)
       rw [h9,if_neg (by decide)] at hw
       have cH:=hr.enc.symm.trans (congrArg aF hw)
       conv=>whnf
       refine .inr (.inl ⟨(.br 0 (.br 1 (.br 2 (.br 3 (.br 4 .leaf .leaf) .leaf) .leaf) (.br 2 (.br 1 (.br 3 (.br 4 .leaf .leaf) .leaf) .leaf) .leaf)) (.br 1 (.br 0 (.br 2 (.br 3 (.br 4 .leaf .leaf) .leaf) .leaf) .leaf) .leaf)),by kernel_rfl,?_⟩)
       repeat' ((conv=>whnf); first | exact True.intro | refine And.intro ?_ ?_)
       all_goals conv=>whnf
       all_goals exact fin _ _ c4 cH
     ·rw [show (!rs.toList == (⟨#[]⟩:ByteArray).toList)=true from by rw [hr.nn]; exact decide_eq_true (by omega)]
      obtain ⟨hz,hw⟩:=EZ hE hF J h5 mE mF h6
      obtain ⟨vb,v1,n4⟩:=EI.mk' 1
      have PK:=n4.size
      have ze:aR (Int.natAbs 1)≤1:=gJ (by decide)
      have OR:IV.z (jz,iM)=-zq:=fu.val
      conv=>whnf
      refine .inl ⟨2,[[],[],[0,1],[0,1,2]],by kernel_rfl,?_⟩
      conv=>whnf
      refine ⟨(1:Int),rfl,⟨by decide,by decide⟩,?_⟩
      rw [show eZ.val (1:Int)=.agg ⟨[.bool vb,.string v1]⟩ from n4.enc]
      conv=>whnf
      refine ⟨((jz,iM),(vb,v1)),rfl,⟨by show iM.size≤_; omega,by show v1.size≤_; omega⟩,?_⟩
      obtain ⟨zR,zS,g9⟩:=EI.mk' (-zq - 1)
      rw [show mq.val ((jz,iM),(vb,v1))=.agg ⟨[.bool zR,.string zS]⟩ from by show aF (IV.z (jz,iM) - IV.z (vb,v1))=_; rw [fu.val,n4.val,g9.enc]]
      conv=>whnf
      refine ⟨((false,k),(false,rs)),rfl,⟨by show k.size≤_; omega,by show rs.size≤_; rw [hr.size]; omega⟩,?_⟩
      obtain ⟨sI,sJ,n5⟩:=EI.mk' (((ab k:Nat):Int) - zr)
      rw [show mq.val ((false,k),(false,rs))=.agg ⟨[.bool sI,.string sJ]⟩ from by show aF (IV.z (false,k) - IV.z (false,rs))=_; rw [hr.val,show IV.z (false,k)=((ab k:Nat):Int) from rfl,n5.enc]]
      have sK:aR (((ab k:Nat):Int) - zr).natAbs≤549755813888:=by
       have jx:=jb k
       have:=iO (show (((ab k:Nat):Int) - zr).natAbs≤ab k by have:=hF.abs; omega)
       omega
      clear hq hr oU
      have hq:=g9
      clear oK
      obtain ⟨zr,zT⟩:∃ z,z=((ab k:Nat):Int) - zr:=⟨_,rfl⟩
      rw [← zT] at n5 hw sK
      obtain ⟨rb,rfl⟩:∃ q',q'=sI:=⟨_,rfl⟩
      obtain ⟨rs,rfl⟩:∃ q',q'=sJ:=⟨_,rfl⟩
      have hr:=n5
      have oU:=sK
      conv=>whnf
      refine aL (fun h9=>?_) (fun h9=>?_)
      ·have c4:=hq.enc.symm.trans (congrArg aF hz)
       rw [h9,if_pos rfl] at hw
       conv=>whnf
       refine ⟨(rb,rs),rfl,by show rs.size≤_; rw [hr.size]; omega,?_⟩
       obtain ⟨V,n,hV⟩:=EI.mk' (-zr)
       rw [show gV.val (rb,rs)=.agg ⟨[.bool V,.string n]⟩ from by show aF (-IV.z (rb,rs))=_; rw [hr.val,hV.enc]]
       have cH:=hV.enc.symm.trans (congrArg aF hw)
       conv=>whnf
       refine .inr (.inl ⟨(.br 0 (.br 1 (.br 2 (.br 3 (.br 4 .leaf .leaf) .leaf) .leaf) (.br 2 (.br 1 (.br 3 (.br 4 .leaf .leaf) .leaf) .leaf) .leaf)) (.br 1 (.br 0 (.br 2 (.br 3 (.br 4 .leaf .leaf) .leaf) .leaf) .leaf) .leaf)),by kernel_rfl,?_⟩)
       repeat' ((conv=>whnf); first | exact True.intro | refine And.intro ?_ ?_)
       all_goals conv=>whnf
       all_goals exact fin _ _ c4 cH
      ·have c4:=hq.enc.symm.trans (congrArg aF hz)
       rw [h9,if_neg (by decide)] at hw
       have cH:=hr.enc.symm.trans (congrArg aF hw)
       conv=>whnf
       refine .inr (.inl ⟨(.br 0 (.br 1 (.br 2 (.br 3 (.br 4 .leaf .leaf) .leaf) .leaf) (.br 2 (.br 1 (.br 3 (.br 4 .leaf .leaf) .leaf) .leaf) .leaf)) (.br 1 (.br 0 (.br 2 (.br 3 (.br 4 .leaf .leaf) .leaf) .leaf) .leaf) .leaf)),by kernel_rfl,?_⟩)
       repeat' ((conv=>whnf); first | exact True.intro | refine And.intro ?_ ?_)
       all_goals conv=>whnf
       all_goals exact fin _ _ c4 cH
    ·have h5:B=D:=by
      cases B <;> cases D <;> first | rfl | cases h5
     obtain ⟨hz,hw⟩:=EY hE hF J h5 mE mF
     conv=>whnf
     refine aL (fun h9=>?_) (fun h9=>?_)
     ·have c4:=hq.enc.symm.trans (congrArg aF hz)
      rw [h9,if_pos rfl] at hw
      conv=>whnf
      refine ⟨(false,rs),rfl,by show rs.size≤_; rw [hr.size]; omega,?_⟩
      obtain ⟨V,n,hV⟩:=EI.mk' (-zr)
      rw [show gV.val (false,rs)=.agg ⟨[.bool V,.string n]⟩ from by show aF (-IV.z (false,rs))=_; rw [hr.val,hV.enc]]
      have cH:=hV.enc.symm.trans (congrArg aF hw)
      conv=>whnf
      refine .inr (.inl ⟨(.br 0 (.br 1 (.br 2 (.br 3 (.br 4 .leaf .leaf) .leaf) .leaf) (.br 2 (.br 1 (.br 3 (.br 4 .leaf .leaf) .leaf) .leaf) .leaf)) (.br 1 (.br 0 (.br 2 (.br 3 (.br 4 .leaf .leaf) .leaf) .leaf) .leaf) .leaf)),by kernel_rfl,?_⟩)
      repeat' ((conv=>whnf); first | exact True.intro | refine And.intro ?_ ?_)
      all_goals conv=>whnf
      all_goals exact fin _ _ c4 cH
     ·have c4:=hq.enc.symm.trans (congrArg aF hz)
      rw [h9,if_neg (by decide)] at hw
      have cH:=hr.enc.symm.trans (congrArg aF hw)
      conv=>whnf
      refine .inr (.inl ⟨(.br 0 (.br 1 (.br 2 (.br 3 (.br 4 .leaf .leaf) .leaf) .leaf) (.br 2 (.br 1 (.br 3 (.br 4 .leaf .leaf) .leaf) .leaf) .leaf)) (.br 1 (.br 0 (.br 2 (.br 3 (.br 4 .leaf .leaf) .leaf) .leaf) .leaf) .leaf)),by kernel_rfl,?_⟩)
      repeat' ((conv=>whnf); first | exact True.intro | refine And.intro ?_ ?_)
      all_goals conv=>whnf
      all_goals exact fin _ _ c4 cH
end Go.Proofs.YtlapbjdhekcipaaGreat
/- Contracts of rational: machine integers. -/
set_option maxRecDepth 20000
set_option maxHeartbeats 1000000
namespace Go.Proofs.YtlapbjdhekcipaaGreat
open Go Go.Ae
def HF:List TypeId:=[24,26,121,40]
theorem aaf:∀ t∈HF,∀ ti,tt t=some ti→wS Tryz.prog t ti.zero:=by
 intro t ht ti h
 simp only [HF,List.mem_cons,List.mem_nil_iff,or_false] at ht
 rcases ht with rfl | rfl | rfl | rfl
 all_goals cases h; exact acp (by kernel_rfl) (by kernel_rfl)
def sL (cs:List (Nat × tM)) (fs:List (Nat × FT):=[]) (is:List (Nat × (Nat→FT→Nu→FT)):=[]) (ij:Bool:=false):Env:={ tt:=tt,eqs:=HF,ij:=ij,Φ:=pI cs,Ψ:=pI fs,It:=pI is }
theorem uA {cs:List (Nat × tM)} {fs:List (Nat × FT)} {is:List (Nat × (Nat→FT→Nu→FT))} {ij:Bool} (h:ug (Cc Tryz.prog) cs) (J:ug (gl Tryz.prog) fs):EnvOk Tryz.prog (sL cs fs is ij):=⟨uc,aaf,fun _ _=>vF h,fun _ _=>vF J⟩
theorem Sp:bm Tryz.prog 166 j7:=by
 refine bt lJ aO Tryz.func166 (enters_of Tryz.func166 (by kernel_rfl) rfl) (fun _=>rfl) (fun _=>rfl) ?_
 intro (s:ByteArray) hp
 have hp:s.size≤7:=hp
 conv=>whnf
 refine .inl ⟨fun mm tz hz=>∃ (i:Nat) (N:Nat),bE (some (.string s)::aD 2 (some (.int .i64 N)::aD 2 (some (.int .i64 s.size)::some (.int .i64 i)::aD 11 []))) tz∧hz=[]∧s.size - i=mm∧(i≤s.size∧N=ab s / C ^ (s.size - i)),.inl ⟨_,0,0,(.aa (.sk 2 (.aa (.sk 2 (.aa (.aa (.sk 11 .nil rfl))) rfl)) rfl)),rfl,rfl,?_⟩,?_⟩
 ·exact ⟨Nat.zero_le _,by rw [Nat.sub_zero,Nat.div_eq_of_lt (gw s)]⟩
 rintro mm aT _ ⟨i,N,ar,rfl,rfl,⟨hi,hN⟩⟩
 obtain ⟨az,rfl⟩:∃ az:Nat→Value,aT=.string s::zs az 1 2 (.int .i64 N::zs az 4 2 (.int .i64 s.size::.int .i64 i::zs az 8 11 [])):=bK ar
 clear ar
 have mD:=BI s hi
 rw [← hN] at mD
 have ak:=Nat.lt_of_lt_of_le mD (nI (show i≤7 by omega))
 conv=>whnf
 refine aL (fun J=>?_) (fun J=>?_)
 ·have J:i < s.size:=by simpa using J
  have ao:=xR J
  rw [← hN] at ao
  have hb:cf s i < 256:=vA s i
  have e3:IntKind.i64.wrap (((i:Nat):Int)+1)=((i+1:Nat):Int):=by rw [au (by omega) (by omega)]; rfl
  have IK:=Nat.lt_of_lt_of_le mD (Cq (show i≤6 by omega))
  conv=>whnf
  refine ⟨⟨by omega,by omega⟩,?_⟩
  simp only [toNat_cast]
  conv=>whnf
  rw [LP (by omega) hb,e3]
  refine .inl ⟨_,?_,i+1,N*256+cf s i,(.aa (.sk 2 (.aa (.sk 2 (.aa (.aa (.sk 11 .nil rfl))) rfl)) rfl)),rfl,rfl,?_⟩
  ·omega
  ·exact ⟨by omega,ao.symm⟩
 ·have J:i=s.size:=by
   have J:¬ i < s.size:=by simpa using J
   omega
  subst J
  rw [Nat.sub_self,Nat.pow_zero,Nat.div_one] at hN
  subst hN
  conv=>whnf
  rfl
theorem Sq:bm Tryz.prog 178 j7:=by
 refine bt lJ aO Tryz.func178 (enters_of Tryz.func178 (by kernel_rfl) rfl) (fun _=>rfl) (fun _=>rfl) ?_
 intro (s:ByteArray) hp
 have hp:s.size≤7:=hp
 conv=>whnf
 refine .inl ⟨fun mm tz hz=>∃ (i:Nat) (N:Nat),bE (some (.string s)::aD 2 (some (.int .i64 N)::some (.int .i64 i)::aD 14 [])) tz∧hz=[]∧s.size - i=mm∧(i≤s.size∧N=ab s / C ^ (s.size - i)),.inl ⟨_,0,0,(.aa (.sk 2 (.aa (.aa (.sk 14 .nil rfl))) rfl)),rfl,rfl,?_⟩,?_⟩
 ·exact ⟨Nat.zero_le _,by rw [Nat.sub_zero,Nat.div_eq_of_lt (gw s)]⟩
 rintro mm aT _ ⟨i,N,ar,rfl,rfl,⟨hi,hN⟩⟩
 obtain ⟨az,rfl⟩:∃ az:Nat→Value,aT=.string s::zs az 1 2 (.int .i64 N::.int .i64 i::zs az 5 14 []):=bK ar
 clear ar
 have mD:=BI s hi
 rw [← hN] at mD
 have ak:=Nat.lt_of_lt_of_le mD (nI (show i≤7 by omega))
 conv=>whnf
 refine aL (fun J=>?_) (fun J=>?_)
 ·have J:i < s.size:=by simpa using J
  have ao:=xR J
  rw [← hN] at ao
  have hb:cf s i < 256:=vA s i
  have e3:IntKind.i64.wrap (((i:Nat):Int)+1)=((i+1:Nat):Int):=by rw [au (by omega) (by omega)]; rfl
  have IK:=Nat.lt_of_lt_of_le mD (Cq (show i≤6 by omega))
  obtain ⟨b,PM⟩:∃ b,b=cf s i:=⟨_,rfl⟩
  rw [← PM] at hb ao
  have ev:IntKind.i64.wrap (IntKind.i64.wrap (256*(N:Int))+IntKind.i64.wrap (b:Int))=((N*256+b:Nat):Int):=by
   rw [au (x:=256*(N:Int)) (by omega) (by omega),au (x:=(b:Int)) (by omega) (by omega),au (by omega) (by omega)]; omega
  conv=>whnf
  refine ⟨⟨by omega,by omega⟩,?_⟩
  simp only [toNat_cast]
  conv=>whnf
  rw [← PM,ev,e3]
  refine .inl ⟨_,?_,i+1,N*256+b,(.aa (.sk 2 (.aa (.aa (.sk 14 .nil rfl))) rfl)),rfl,rfl,?_⟩
  ·omega
  ·exact ⟨by omega,ao.symm⟩
 ·have J:i=s.size:=by
   have J:¬ i < s.size:=by simpa using J
   omega
  subst J
  rw [Nat.sub_self,Nat.pow_zero,Nat.div_one] at hN
  subst hN
  conv=>whnf
  rfl
def Ema:Env:=En [(166,.p j7),(178,.p j7)]
theorem NZ:EnvOk Tryz.prog Ema:=bL ⟨Sp,Sq,trivial⟩ trivial
theorem XT:bm Tryz.prog 138 bH:=by
 refine bt NZ aO Tryz.func138 (enters_of Tryz.func138 (by kernel_rfl) rfl) (fun _=>rfl) (fun _=>rfl) ?_
 intro ⟨b,s,t⟩ _
 have fZ:¬ RV.fY (b,s,t)→Value.tuple ⟨[.int .i64 0,.int .i64 0,.bool false]⟩=bH.val (b,s,t):=fun h=>by
  simp only [bH,if_neg h,decide_eq_false h]
 have mw:RV.fY (b,s,t)→∀ x y:Int,x=RV.n (b,s,t)→y=(RV.d (b,s,t):Int)→Value.tuple ⟨[.int .i64 x,.int .i64 y,.bool true]⟩=bH.val (b,s,t):=fun h x y hx hy=>by
  simp only [bH,if_pos h,decide_eq_true h,hx,hy]
 conv=>whnf
 by_cases h1:s.size≤3
 ·rw [show decide (((s.size:Nat):Int) > 3)=false from decide_eq_false (by omega)]
  conv=>whnf
  by_cases J:t.size≤3
  ·rw [show decide (((t.size:Nat):Int) > 3)=false from decide_eq_false (by omega)]
   have ht:RV.fY (b,s,t):=⟨h1,J⟩
   obtain ⟨N,hN⟩:∃ N,N=ab s:=⟨_,rfl⟩
   obtain ⟨D,hD⟩:∃ D,D=ab t:=⟨_,rfl⟩
   have hn:=RV.Gd ht
   have hd:=RV.Ge ht
   conv=>whnf
   refine .inl ⟨5,[[],[0],[0,1],[],[3],[0,1,2,3,4],[0,1,2,3,4,5],[0,1,2,3,4,5,6]],by kernel_rfl,?_⟩
   conv=>whnf
   refine ⟨s,rfl,by show s.size≤7; omega,?_⟩
   rw [show j7.val s=.int .i64 N from by rw [hN]; rfl]
   conv=>whnf
   refine ⟨t,rfl,by show t.size≤7; omega,?_⟩
   rw [show j7.val t=.int .i64 D from by rw [hD]; rfl]
   conv=>whnf
   have bV:(RV.d (b,s,t):Int)=if D=0 then 1 else D:=by
    show (((if ab t=0 then 1 else ab t):Nat):Int)=_
    rw [← hD]
   refine aL (fun h3=>?_) (fun h3=>?_)
   ·have bR:RV.n (b,s,t)=-(N:Int):=by
     have h3:b=true:=h3
     show bc b (ab s)=_
     rw [h3,← hN]; rfl
    have en:IntKind.i64.wrap (0 - (N:Int))=-(N:Int):=by rw [au (by omega) (by omega)]; omega
    conv=>whnf
    exact mw ht _ _ (by rw [bR]; exact en) (by rw [bV]; split <;> split <;> omega)
   ·have bR:RV.n (b,s,t)=(N:Int):=by
     have h3:b=false:=h3
     show bc b (ab s)=_
     rw [h3,← hN]; rfl
    conv=>whnf
    exact mw ht _ _ (by rw [bR]) (by rw [bV]; split <;> split <;> omega)
  ·rw [show decide (((t.size:Nat):Int) > 3)=true from decide_eq_true (by omega)]
   conv=>whnf
   exact fZ (fun h=>J h.2)
 ·rw [show decide (((s.size:Nat):Int) > 3)=true from decide_eq_true (by omega)]
  conv=>whnf
  exact fZ (fun h=>h1 h.1)
theorem Vd:bm Tryz.prog 158 bH:=by
 refine bt NZ aO Tryz.func158 (enters_of Tryz.func158 (by kernel_rfl) rfl) (fun _=>rfl) (fun _=>rfl) ?_
 intro ⟨b,s,t⟩ _
 have fZ:¬ RV.fY (b,s,t)→Value.tuple ⟨[.int .i64 0,.int .i64 0,.bool false]⟩=bH.val (b,s,t):=fun h=>by
  simp only [bH,if_neg h,decide_eq_false h]
 have mw:RV.fY (b,s,t)→∀ x y:Int,x=RV.n (b,s,t)→y=(RV.d (b,s,t):Int)→Value.tuple ⟨[.int .i64 x,.int .i64 y,.bool true]⟩=bH.val (b,s,t):=fun h x y hx hy=>by
  simp only [bH,if_pos h,decide_eq_true h,hx,hy]
 conv=>whnf
 by_cases h1:s.size≤3
 ·rw [show decide (((s.size:Nat):Int) > 3)=false from decide_eq_false (by omega)]
  conv=>whnf
  by_cases J:t.size≤3
  ·rw [show decide (((t.size:Nat):Int) > 3)=false from decide_eq_false (by omega)]
   have ht:RV.fY (b,s,t):=⟨h1,J⟩
   obtain ⟨N,hN⟩:∃ N,N=ab s:=⟨_,rfl⟩
   obtain ⟨D,hD⟩:∃ D,D=ab t:=⟨_,rfl⟩
   have hn:=RV.Gd ht
   have hd:=RV.Ge ht
   conv=>whnf
   refine .inl ⟨5,[[],[0],[0,1],[],[3],[0,1,2,3,4],[0,1,2,3,4,5],[0,1,2,3,4,5,6]],by kernel_rfl,?_⟩
   conv=>whnf
   refine ⟨s,rfl,by show s.size≤7; omega,?_⟩
   rw [show j7.val s=.int .i64 N from by rw [hN]; rfl]
   conv=>whnf
   refine ⟨t,rfl,by show t.size≤7; omega,?_⟩
   rw [show j7.val t=.int .i64 D from by rw [hD]; rfl]
   conv=>whnf
   have bV:(RV.d (b,s,t):Int)=if D=0 then 1 else D:=by
    show (((if ab t=0 then 1 else ab t):Nat):Int)=_
    rw [← hD]
   refine aL (fun h4=>?_) (fun h4=>?_)
   ·have h4:D=0:=by
     have h4:((D:Nat):Int)=0:=by simpa using h4
     omega
    rw [if_pos h4] at bV
    conv=>whnf
    refine aL (fun h3=>?_) (fun h3=>?_)
    ·have bR:RV.n (b,s,t)=-(N:Int):=by
      have h3:b=true:=h3
      show bc b (ab s)=_
      rw [h3,← hN]; rfl
     have en:IntKind.i64.wrap (0 - (N:Int))=-(N:Int):=by rw [au (by omega) (by omega)]; omega
     conv=>whnf
     exact mw ht _ _ (by rw [bR]; exact en) (by rw [bV]; first | done | rfl)
    ·have bR:RV.n (b,s,t)=(N:Int):=by
      have h3:b=false:=h3
      show bc b (ab s)=_
      rw [h3,← hN]; rfl
     conv=>whnf
     exact mw ht _ _ (by rw [bR]) (by rw [bV]; first | done | rfl)
   ·have h4:D≠0:=by
     intro e
     subst e
     simp at h4
    rw [if_neg h4] at bV
    conv=>whnf
    refine aL (fun h3=>?_) (fun h3=>?_)
    ·have bR:RV.n (b,s,t)=-(N:Int):=by
      have h3:b=true:=h3
      show bc b (ab s)=_
      rw [h3,← hN]; rfl
     have en:IntKind.i64.wrap (0 - (N:Int))=-(N:Int):=by rw [au (by omega) (by omega)]; omega
     conv=>whnf
     exact mw ht _ _ (by rw [bR]; exact en) (by rw [bV]; first | done | rfl)
    ·have bR:RV.n (b,s,t)=(N:Int):=by
      have h3:b=false:=h3
      show bc b (ab s)=_
      rw [h3,← hN]; rfl
     conv=>whnf
     exact mw ht _ _ (by rw [bR]) (by rw [bV]; first | done | rfl)
  ·rw [show decide (((t.size:Nat):Int) > 3)=true from decide_eq_true (by omega)]
   conv=>whnf
   exact fZ (fun h=>J h.2)
 ·rw [show decide (((s.size:Nat):Int) > 3)=true from decide_eq_true (by omega)]
  conv=>whnf
  exact fZ (fun h=>h1 h.1)
end Go.Proofs.YtlapbjdhekcipaaGreat
/- Contracts of rational: digits, ratios. -/
set_option maxRecDepth 20000
set_option maxHeartbeats 1000000
namespace Go.Proofs.YtlapbjdhekcipaaGreat
open Go Go.Ae
theorem XU:bm Tryz.prog 140 rK:=by
 refine bt lJ aO Tryz.func140 (enters_of Tryz.func140 (by kernel_rfl) rfl) (fun _=>rfl) (fun _=>rfl) ?_
 intro (n:Nat) hp
 have hp:n < 72057594037927936:=hp
 conv=>whnf
 refine .inl ⟨fun mm tz hz=>∃ (i:Nat) (m:Nat) (g:Nat→List Value),bE (some (.int .i64 m)::aD 2 (some (.pointer (some ⟨0,0,none⟩))::some (.int .i64 i)::aD 13 [])) tz∧hz=[some (.flat true 8 1 g)]∧m=mm∧((i≤8∧m=n / C ^ (8 - i))∧(i=8∨C ^ (8 - i - 1)≤n)∧(∀ r,i≤r→r < 8→g r=[.int .u8 ((n / C ^ (7 - r) % C:Nat):Int)])∧(∀ r,r < 8→∃ x:Int,g r=[.int .u8 x])),.inl ⟨_,8,n,_,(.aa (.sk 2 (.aa (.aa (.sk 13 .nil rfl))) rfl)),rfl,rfl,?_⟩,?_⟩
 ·exact ⟨⟨Nat.le_refl _,by simp⟩,.inl rfl,fun r h1 J=>absurd h1 (by omega),fun r hr=>⟨0,rfl⟩⟩
 rintro mm aT _ ⟨i,m,g,ar,rfl,rfl,⟨⟨hi,hm⟩,ho,hg,c7⟩⟩
 obtain ⟨az,rfl⟩:∃ az:Nat→Value,aT=.int .i64 m::zs az 1 2 (.pointer (some ⟨0,0,none⟩)::.int .i64 i::zs az 5 13 []):=bK ar
 clear ar
 conv=>whnf
 refine aL (fun J=>?_) (fun J=>?_)
 ·have J:0 < m:=by
   have:=of_decide_eq_true J
   omega
  have gz:0 < i:=by
   rcases Nat.eq_zero_or_pos i with h | h
   ·subst h
    rw [hm] at J
    rw [OB (by omega)] at J
    exact absurd J (by decide)
   ·exact h
  obtain ⟨i,rfl⟩:∃ i',i=i'+1:=⟨i - 1,by omega⟩
  have ei:IntKind.i64.wrap (((i+1:Nat):Int) - 1)=((i:Nat):Int):=by rw [au (by omega) (by omega)]; omega
  have fa:m / 256=n / C ^ (8 - i):=by
   rw [hm,Dr,show 8 - (i+1)+1=8 - i by omega]
  have HE:C ^ (8 - (i+1))≤n:=by
   rcases Nat.lt_or_ge n (C ^ (8 - (i+1))) with h | h
   ·rw [hm,Nat.div_eq_of_lt h] at J
    exact absurd J (by decide)
   ·exact h
  conv=>whnf
  simp only [ei]
  refine ⟨⟨by omega,by omega⟩,?_⟩
  simp only [toNat_cast,aq,Nat.zero_add]
  conv=>whnf
  refine ⟨by show i < 8; omega,?_⟩
  conv=>whnf
  obtain ⟨x,hx⟩:=c7 i (by omega)
  rw [hx]
  conv=>whnf
  rw [pD,dc,show ((m:Nat):Int) / 256=((m / 256:Nat):Int) from rfl]
  refine .inl ⟨_,?_,i,m / 256,_,(.aa (.sk 2 (.aa (.aa (.sk 13 .nil rfl))) rfl)),rfl,rfl,?_⟩
  ·omega
  ·refine ⟨⟨by omega,fa⟩,.inr (by rw [show 8 - i - 1=8 - (i+1) by omega]; exact HE),fun r iy fi=>?_,fun r hr=>?_⟩
   rotate_left
   ·by_cases he:r=i
    ·exact ⟨_,if_pos he⟩
    ·rw [if_neg he]; exact c7 r hr
   by_cases he:r=i
   ·subst he
    rw [if_pos rfl,hm,show 7 - r=8 - (r+1) by omega]
   ·rw [if_neg he]
    exact hg r (by omega) fi
 ·have J:m=0:=by
   have:=of_decide_eq_false J
   omega
  have ak:n < C ^ (8 - i):=by
   rw [J] at hm
   have h3:=Nat.mod_lt n (gR (8 - i))
   have h4:=Nat.mod_add_div n (C ^ (8 - i))
   rw [← hm,Nat.mul_zero,Nat.add_zero] at h4
   rw [← h4]; exact h3
  rcases Nat.eq_zero_or_pos (8 - i) with hz | hz
  ·have h0:n=0:=by
    rw [hz,Nat.pow_zero] at ak; omega
   obtain rfl:i=8:=by omega
   subst h0
   conv=>whnf
   refine ⟨⟨by omega,by omega,Int.le_refl _,Nat.le_refl _,rfl⟩,?_⟩
   conv=>whnf
   show Value.string ⟨#[]⟩=Value.string (nb 0)
   rw [pf]
  ·obtain ⟨k,hk⟩:∃ k,8 - i=k+1:=⟨8 - i - 1,by omega⟩
   rw [hk] at ak
   have ho:C ^ k≤n:=by
    rcases ho with h | h
    ·omega
    ·rw [show 8 - i - 1=k by omega] at h; exact h
   have e:=Dq (g:=g) (i:=i) (m:=k+1) (X:=n) (fun r hr=>by
    rw [hg (i+r) (by omega) (by omega),show 7 - (i+r)=k+1 - 1 - r by omega])
   conv=>whnf
   refine ⟨⟨by omega,by omega,Int.le_refl _,Nat.le_refl _,rfl⟩,?_⟩
   simp only [toNat_cast,aq,Nat.zero_add,hk]
   conv=>whnf
   refine ⟨⟨by show i+(k+1)≤8; omega,fun r hr=>c7 (i+r) (by omega)⟩,?_⟩
   conv=>whnf
   show Value.string ⟨⟨bytesOf g i (k+1)⟩⟩=Value.string (nb n)
   rw [e,wI ak (.inr ho)]
theorem Sr:bm Tryz.prog 188 rK:=by
 refine bt lJ aO Tryz.func188 (enters_of Tryz.func188 (by kernel_rfl) rfl) (fun _=>rfl) (fun _=>rfl) ?_
 intro (n:Nat) hp
 have hp:n < 72057594037927936:=hp
 conv=>whnf
 refine .inl ⟨fun mm tz hz=>∃ (e:Nat) (k:Int) (out:Value) (hp:ax),bE (some (.int .i64 n)::aD 2 (some (out)::some (.int .i64 k)::aD 25 [])) tz∧hz=hp∧e=mm∧((e≤7∧k=8*(e:Int) - 8)∧((out=.slice none 0 0∧hp=[]∧n / C ^ e=0)∨(∃ m g,out=.slice (some ⟨0,0,none⟩) m aN∧hp=[some (.flat true m 1 g)]∧(1≤m∧m≤7 - e)∧n / C ^ e < C ^ m∧C ^ (m - 1)≤n / C ^ e∧∀ r,r < m→g r=[.int .u8 ((n / C ^ e / C ^ (m - 1 - r) % C:Nat):Int)]))),.inl ⟨_,7,48,.slice none 0 0,[],(.aa (.sk 2 (.aa (.aa (.sk 25 .nil rfl))) rfl)),rfl,rfl,?_⟩,?_⟩
 ·exact ⟨⟨Nat.le_refl _,rfl⟩,.inl ⟨rfl,rfl,aaV hp⟩⟩
 rintro mm aT _ ⟨e,k,out,hp,ar,rfl,rfl,⟨⟨he,hk⟩,h⟩⟩
 obtain ⟨az,rfl⟩:∃ az:Nat→Value,aT=.int .i64 n::zs az 1 2 (out::.int .i64 k::zs az 5 25 []):=bK ar
 clear ar
 rcases h with ⟨rfl,rfl,hz⟩ | ⟨m,g,rfl,rfl,hm,oL,iX,hg⟩
 ·conv=>whnf
  refine aL (fun h1=>?_) (fun h1=>?_)
  ·have h1:=of_decide_eq_true h1
   obtain ⟨e,rfl⟩:∃ e',e=e'+1:=⟨e - 1,by omega⟩
   have n3:=OE (n:=n) k (e:=e) (by omega) (by omega)
   obtain ⟨P,hP⟩:∃ P,P=n / C ^ e:=⟨_,rfl⟩
   rw [← hP] at n3
   obtain ⟨D,hD⟩:∃ D,D=P % 256:=⟨_,rfl⟩
   have ed:Int.tmod ((P:Nat):Int) 256=((D:Nat):Int):=by rw [hD]; rfl
   have qH:=JY n e
   rw [hz,← hP,← hD] at qH
   have jx:IntKind.i64.wrap (k - 8)=8*(e:Int) - 8:=by rw [au (by omega) (by omega)]; omega
   conv=>whnf
   rw [show decide (0≤k)=true from decide_eq_true (by omega)]
   conv=>whnf
   rw [n3,ed]
   by_cases J:0 < D
   ·rw [show decide (((D:Nat):Int) > 0)=true from decide_eq_true (by omega)]
    conv=>whnf
    rw [show decide (0≤k)=true from decide_eq_true (by omega)]
    conv=>whnf
    rw [n3,tX (show P < 256 by omega)]
    refine ⟨by decide,?_⟩
    conv=>whnf
    rw [jx]
    refine .inr ⟨[1],[0,3,4],?_⟩
    conv=>whnf
    intro _
    conv=>whnf
    refine ⟨_,?_,e,8*(e:Int) - 8,.slice (some ⟨0,0,none⟩) 1 aN,[some (.flat true 1 1 _)],(.aa (.sk 2 (.aa (.aa (.sk 25 .nil rfl))) rfl)),rfl,rfl,?_⟩
    ·omega
    ·refine ⟨⟨by omega,rfl⟩,.inr ⟨1,_,rfl,rfl,⟨Nat.le_refl _,by omega⟩,by rw [← hP]; show P < 256; omega,by rw [← hP]; show 1≤P; omega,fun r hr=>?_⟩⟩
     have h0:r=0:=by omega
     subst h0
     rw [← hP]
     have:P / C ^ (1 - 1 - 0) % C=P:=by
      show P / 1 % 256=P
      omega
     rw [this]
     rfl
   ·rw [show decide (((D:Nat):Int) > 0)=false from decide_eq_false (by omega)]
    conv=>whnf
    rw [jx]
    refine .inl ⟨_,?_,e,8*(e:Int) - 8,.slice none 0 0,[],(.aa (.sk 2 (.aa (.aa (.sk 25 .nil rfl))) rfl)),rfl,rfl,?_⟩
    ·omega
    ·exact ⟨⟨by omega,rfl⟩,.inl ⟨rfl,rfl,by rw [← hP]; omega⟩⟩
  ·have h1:=of_decide_eq_false h1
   obtain rfl:e=0:=by omega
   have bO:n=0:=by simpa using hz
   subst bO
   conv=>whnf
   show Value.string ⟨#[]⟩=Value.string (nb 0)
   rw [pf]
 ·conv=>whnf
  refine aL (fun h1=>?_) (fun h1=>?_)
  ·have h1:=of_decide_eq_true h1
   obtain ⟨e,rfl⟩:∃ e',e=e'+1:=⟨e - 1,by omega⟩
   have n3:=OE (n:=n) k (e:=e) (by omega) (by omega)
   obtain ⟨P,hP⟩:∃ P,P=n / C ^ e:=⟨_,rfl⟩
   obtain ⟨Q,hQ⟩:∃ Q,Q=n / C ^ (e+1):=⟨_,rfl⟩
   rw [← hP] at n3
   obtain ⟨D,hD⟩:∃ D,D=P % 256:=⟨_,rfl⟩
   have ed:Int.tmod ((P:Nat):Int) 256=((D:Nat):Int):=by rw [hD]; rfl
   have kL:D < 256:=by omega
   have qH:=JY n e
   rw [← hP,← hD,← hQ] at qH
   rw [← hQ] at oL iX hg
   have g1:=VN oL kL
   have g2:=VO (d:=D) iX hm.1
   rw [← qH] at g1 g2
   have jx:IntKind.i64.wrap (k - 8)=8*(e:Int) - 8:=by rw [au (by omega) (by omega)]; omega
   conv=>whnf
   rw [show decide (0≤k)=true from decide_eq_true (by omega)]
   conv=>whnf
   rw [n3,ed]
   by_cases J:0 < D
   ·rw [show decide (((D:Nat):Int) > 0)=true from decide_eq_true (by omega)]
    conv=>whnf
    rw [show decide (0≤k)=true from decide_eq_true (by omega)]
    conv=>whnf
    rw [n3,pD]
    refine ⟨⟨by decide,rfl,?_⟩,?_⟩
    ·show (m+1)*1≤_
     omega
    conv=>whnf
    refine ⟨[0,4],?_⟩
    conv=>whnf
    intro _
    conv=>whnf
    rw [jx]
    refine .inr ⟨[0],[0,3,4],?_⟩
    conv=>whnf
    intro _
    conv=>whnf
    refine ⟨_,?_,e,8*(e:Int) - 8,.slice (some ⟨0,0,none⟩) (m+1) aN,[some (.flat true (m+1) 1 _)],(.aa (.sk 2 (.aa (.aa (.sk 25 .nil rfl))) rfl)),rfl,rfl,?_⟩
    ·omega
    ·refine ⟨⟨by omega,rfl⟩,.inr ⟨m+1,_,rfl,rfl,⟨by omega,by omega⟩,by rw [← hP]; exact g1,by rw [← hP]; exact g2,fun r hr=>?_⟩⟩
     rw [← hP]
     exact Lh qH kL hg r hr
   ·rw [show decide (((D:Nat):Int) > 0)=false from decide_eq_false (by omega)]
    conv=>whnf
    refine mK ?_ ?_
    ·exact decide_eq_true (by omega)
    conv=>whnf
    rw [show decide (0≤k)=true from decide_eq_true (by omega)]
    conv=>whnf
    rw [n3,pD]
    refine ⟨⟨by decide,rfl,?_⟩,?_⟩
    ·show (m+1)*1≤_
     omega
    conv=>whnf
    refine ⟨[0,4],?_⟩
    conv=>whnf
    intro _
    conv=>whnf
    rw [jx]
    refine .inr ⟨[0],[0,3,4],?_⟩
    conv=>whnf
    intro _
    conv=>whnf
    refine ⟨_,?_,e,8*(e:Int) - 8,.slice (some ⟨0,0,none⟩) (m+1) aN,[some (.flat true (m+1) 1 _)],(.aa (.sk 2 (.aa (.aa (.sk 25 .nil rfl))) rfl)),rfl,rfl,?_⟩
    ·omega
    ·refine ⟨⟨by omega,rfl⟩,.inr ⟨m+1,_,rfl,rfl,⟨by omega,by omega⟩,by rw [← hP]; exact g1,by rw [← hP]; exact g2,fun r hr=>?_⟩⟩
     rw [← hP]
     exact Lh qH kL hg r hr
  ·have h1:=of_decide_eq_false h1
   obtain rfl:e=0:=by omega
   rw [Nat.pow_zero,Nat.div_one] at oL iX hg
   obtain ⟨m,rfl⟩:∃ m',m=m'+1:=⟨m - 1,by omega⟩
   have hs:=vo hg
   conv=>whnf
   refine ⟨⟨by show 0+(m+1)≤m+1; omega,fun r hr=>⟨_,by show g (0+r)=_; rw [Nat.zero_add]; exact hg r hr⟩⟩,?_⟩
   rw [show (ai.flat true (m+1) 1 g).row=g from rfl,hs]
   conv=>whnf
   show Value.string (be (m+1) n)=Value.string (nb n)
   rw [wI oL (.inr (by rw [show m+1 - 1=m by omega] at iX; exact iX))]
end Go.Proofs.YtlapbjdhekcipaaGreat
