import Derived.Test.YtppeponndkfbkaaGreatSG
set_option linter.unusedVariables false
set_option linter.unusedSimpArgs false
/- Contracts of the reference integers: machine integers, signs, comparison. -/
set_option maxRecDepth 20000
set_option maxHeartbeats 1000000
namespace Go.Proofs.YtppeponndkfbkaaGreat
open Go Go.Ae
def Erc:Env:=En [(160,.p stripS),(136,.p magS),(149,.p canonS),(150,.p cmpMagS)]
theorem Ercok:EnvOk Tryz.prog Erc:=Enk ⟨rtrim_ok,rmag_ok,rcanon_ok,rcmpMag_ok,trivial⟩ trivial
theorem rof_ok:Snd Tryz.prog 93 ofS:=by
 refine snd_of Ercok Dok Tryz.func93 (enters_of Tryz.func93 (by kernel_rfl) rfl) (fun _=>rfl) (fun _=>rfl) ?_
 intro (n:Int) hp
 have hp:-9223372036854775808≤n∧n < 9223372036854775808:=hp
 obtain ⟨k,hk⟩:∃ k:Nat,k=n.natAbs:=⟨_,rfl⟩
 obtain ⟨v,hv⟩:∃ v,v=nb k:=⟨_,rfl⟩
 have ev:magS.val k=.string v:=by rw [hv]; rfl
 conv=>whnf
 refine br_intro (fun h1=>?_) (fun h1=>?_)
 ·have h1:n=(k:Int):=by have:=of_decide_eq_true h1; omega
  conv=>whnf
  refine ⟨k,by rw [h1]; rfl,by show k < 9223372036854775808; omega,?_⟩
  rw [ev]
  conv=>whnf
  show Value.agg ⟨[.bool false,.string v]⟩=encI n
  rw [hv,h1]
  have:=encS_eq false k
  exact this
 ·have h1:n < 0:=by have:=of_decide_eq_false h1; omega
  conv=>whnf
  refine br_intro (fun h2=>?_) (fun h2=>?_)
  ·have h2:n=-9223372036854775808:=by
    have h2:n=IntKind.i64.wrap (0 - n):=by simpa using h2
    rw [wrap_neg h1 hp.1] at h2
    split at h2 <;> omega
   subst h2
   conv=>whnf
   exact encI_min.symm
  ·have h2:IntKind.i64.wrap (0 - n)=(k:Int):=by
    have h3:=wrap_neg h1 hp.1
    split at h3
    ·rename_i e
     rw [h3] at h2
     simp at h2
    ·omega
   conv=>whnf
   rw [h2]
   refine ⟨k,rfl,by
    show k < 9223372036854775808
    have h3:=wrap_neg h1 hp.1
    split at h3 <;> omega,?_⟩
   rw [ev]
   conv=>whnf
   show Value.agg ⟨[.bool true,.string v]⟩=encI n
   rw [hv,hk,encI_of_neg h1]
theorem rneg_ok:Snd Tryz.prog 133 negS:=by
 refine snd_of Ercok Dok Tryz.func133 (enters_of Tryz.func133 (by kernel_rfl) rfl) (fun _=>rfl) (fun _=>rfl) ?_
 intro ⟨b,s⟩ hp
 have hp:s.size≤549755813888:=hp
 conv=>whnf
 refine ⟨(b,s),rfl,hp,?_⟩
 obtain ⟨z,hz⟩:∃ z,z=IV.z (b,s):=⟨_,rfl⟩
 obtain ⟨m,hm⟩:∃ m,m=nb z.natAbs:=⟨_,rfl⟩
 have fin:∀ x:Value,x=encI (-z)→x=negS.val (b,s):=fun x h=>by rw [h,hz]; rfl
 rcases Int.lt_or_le z 0 with h | h
 ·rw [show canonS.val (b,s)=.agg ⟨[.bool true,.string m]⟩ by show encI (IV.z (b,s))=_; rw [← hz,encI_of_neg h,hm]]
  conv=>whnf
  refine fin _ ?_
  rw [encI_of_pos (by omega),Int.natAbs_neg,hm]
  rfl
 ·rw [show canonS.val (b,s)=.agg ⟨[.bool false,.string m]⟩ by show encI (IV.z (b,s))=_; rw [← hz,encI_of_pos h,hm]]
  conv=>whnf
  refine fin _ ?_
  rcases Int.lt_or_eq_of_le h with h | h
  ·rw [encI_of_neg (by omega),Int.natAbs_neg,← hm]
   show Value.agg ⟨[.bool (!m.toList == (⟨#[]⟩:ByteArray).toList),.string m]⟩=_
   rw [hm,mag_pos (by omega)]
  ·rw [encI_of_pos (by omega),Int.natAbs_neg,← hm]
   show Value.agg ⟨[.bool (!m.toList == (⟨#[]⟩:ByteArray).toList),.string m]⟩=_
   rw [hm,mag_zero (by omega)]
theorem rcmp_ok:Snd Tryz.prog 121 cmpS:=by
 refine snd_of Ercok Dok Tryz.func121 (enters_of Tryz.func121 (by kernel_rfl) rfl) (fun _=>rfl) (fun _=>rfl) ?_
 intro ⟨⟨b,s⟩,⟨c,t⟩⟩ hp
 have hp:s.size≤549755813888∧t.size≤549755813888:=hp
 obtain ⟨x,hx⟩:∃ x,x=IV.z (b,s):=⟨_,rfl⟩
 obtain ⟨y,hy⟩:∃ y,y=IV.z (c,t):=⟨_,rfl⟩
 obtain ⟨m,hm⟩:∃ m,m=nb x.natAbs:=⟨_,rfl⟩
 obtain ⟨k,hk⟩:∃ k,k=nb y.natAbs:=⟨_,rfl⟩
 have hxn:nby x.natAbs≤549755813888:=by rw [hx]; exact IV.nby (i:=(b,s)) hp.1
 have hyn:nby y.natAbs≤549755813888:=by rw [hy]; exact IV.nby (i:=(c,t)) hp.2
 have fin:∀ z:Int,z=cmpZ x y→Value.int .i64 z=cmpS.val ((b,s),(c,t)):=fun z h=>by rw [h,hx,hy]; rfl
 rcases Int.lt_or_le x 0 with h1 | h1
 ·have e1:canonS.val (b,s)=.agg ⟨[.bool true,.string m]⟩:=by show encI (IV.z (b,s))=_; rw [← hx,encI_of_neg h1,hm]
  rcases Int.lt_or_le y 0 with h2 | h2
  ·have e2:canonS.val (c,t)=.agg ⟨[.bool true,.string k]⟩:=by show encI (IV.z (c,t))=_; rw [← hy,encI_of_neg h2,hk]
   conv=>whnf
   refine .inl ⟨3,[[],[0],[],[0,1,2],[0,1,2,3],[0,1,2,3,4]],by kernel_rfl,?_⟩
   conv=>whnf
   refine ⟨(b,s),rfl,hp.1,?_⟩
   rw [e1]
   conv=>whnf
   refine ⟨(c,t),rfl,hp.2,?_⟩
   rw [e2]
   conv=>whnf
   first
    | exact fin _ (cmpZ_gt (by omega)).symm
    | (refine ⟨(y.natAbs,x.natAbs),by rw [hm,hk]; rfl,⟨by show nby y.natAbs≤_; omega,by show nby x.natAbs≤_; omega⟩,?_⟩
       conv=>whnf
       exact fin _ (cmpZ_mm h1 h2).symm)
  ·have e2:canonS.val (c,t)=.agg ⟨[.bool false,.string k]⟩:=by show encI (IV.z (c,t))=_; rw [← hy,encI_of_pos h2,hk]
   conv=>whnf
   refine .inl ⟨3,[[],[0],[],[0,1,2],[0,1,2,3],[0,1,2,3,4]],by kernel_rfl,?_⟩
   conv=>whnf
   refine ⟨(b,s),rfl,hp.1,?_⟩
   rw [e1]
   conv=>whnf
   refine ⟨(c,t),rfl,hp.2,?_⟩
   rw [e2]
   conv=>whnf
   first
    | exact fin _ (cmpZ_lt (by omega)).symm
    | (refine ⟨(x.natAbs,y.natAbs),by rw [hm,hk]; rfl,⟨by show nby x.natAbs≤_; omega,by show nby y.natAbs≤_; omega⟩,?_⟩
       conv=>whnf
       exact fin _ (cmpZ_nn h1 h2).symm)
 ·have e1:canonS.val (b,s)=.agg ⟨[.bool false,.string m]⟩:=by show encI (IV.z (b,s))=_; rw [← hx,encI_of_pos h1,hm]
  rcases Int.lt_or_le y 0 with h2 | h2
  ·have e2:canonS.val (c,t)=.agg ⟨[.bool true,.string k]⟩:=by show encI (IV.z (c,t))=_; rw [← hy,encI_of_neg h2,hk]
   conv=>whnf
   refine .inl ⟨3,[[],[0],[],[0,1,2],[0,1,2,3],[0,1,2,3,4]],by kernel_rfl,?_⟩
   conv=>whnf
   refine ⟨(b,s),rfl,hp.1,?_⟩
   rw [e1]
   conv=>whnf
   refine ⟨(c,t),rfl,hp.2,?_⟩
   rw [e2]
   conv=>whnf
   first
    | exact fin _ (cmpZ_gt (by omega)).symm
    | (refine ⟨(y.natAbs,x.natAbs),by rw [hm,hk]; rfl,⟨by show nby y.natAbs≤_; omega,by show nby x.natAbs≤_; omega⟩,?_⟩
       conv=>whnf
       exact fin _ (cmpZ_mm h1 h2).symm)
  ·have e2:canonS.val (c,t)=.agg ⟨[.bool false,.string k]⟩:=by show encI (IV.z (c,t))=_; rw [← hy,encI_of_pos h2,hk]
   conv=>whnf
   refine .inl ⟨3,[[],[0],[],[0,1,2],[0,1,2,3],[0,1,2,3,4]],by kernel_rfl,?_⟩
   conv=>whnf
   refine ⟨(b,s),rfl,hp.1,?_⟩
   rw [e1]
   conv=>whnf
   refine ⟨(c,t),rfl,hp.2,?_⟩
   rw [e2]
   conv=>whnf
   first
    | exact fin _ (cmpZ_lt (by omega)).symm
    | (refine ⟨(x.natAbs,y.natAbs),by rw [hm,hk]; rfl,⟨by show nby x.natAbs≤_; omega,by show nby y.natAbs≤_; omega⟩,?_⟩
       conv=>whnf
       exact fin _ (cmpZ_nn h1 h2).symm)
end Go.Proofs.YtppeponndkfbkaaGreat
/- Contracts of the reference integers: digit arithmetic. -/
set_option maxRecDepth 20000
set_option maxHeartbeats 1000000
namespace Go.Proofs.YtppeponndkfbkaaGreat
open Go Go.Ae
theorem raddMag_ok:Snd Tryz.prog 153 addMagS:=by
 refine snd_of Eraok Dok Tryz.func153 (enters_of Tryz.func153 (by kernel_rfl) rfl) (fun _=>rfl) (fun _=>rfl) ?_
 intro ⟨s,t⟩ hp
 have hp:s.size≤549755813896∧t.size≤549755813896:=hp
 obtain ⟨m,hm⟩:∃ m:Nat,m=max s.size t.size:=⟨_,rfl⟩
 obtain ⟨n,hn⟩:∃ n:Nat,n=m+1:=⟨_,rfl⟩
 have em:(if ((t.size:Nat):Int) > ((s.size:Nat):Int) then ((t.size:Nat):Int) else ((s.size:Nat):Int))=(m:Int):=by split <;> omega
 have e1:IntKind.i64.wrap (((m:Nat):Int)+1)=((n:Nat):Int):=by rw [wrapi64 (by omega) (by omega)]; omega
 conv=>whnf
 rw [show (if (((s,t).snd.size:Nat):Int) > (((s,t).fst.size:Nat):Int) then (((s,t).snd.size:Nat):Int) else (((s,t).fst.size:Nat):Int))=(m:Int) from em,e1]
 refine ⟨⟨by omega,Int.le_refl _,by show ((n:Nat):Int)*((1:Nat):Int)≤_; omega⟩,?_⟩
 simp only [toNat_cast]
 conv=>whnf
 refine .inl ⟨fun mm tz hz=>∃ (j:Nat) (Y:Nat) (c:Nat) (g:Nat→List Value),Pat (some (.string s)::some (.string t)::nos 3 (some (.int .i64 (n:Nat))::some (.slice (some ⟨0,0,none⟩) n n)::some (.int .i64 c)::some (.int .i64 ((j+1:Nat):Int))::nos 51 [])) tz∧hz=[some (.flat true n 1 g)]∧n - j=mm∧((j≤n∧c≤1)∧AddInv (bnat s) (bnat t) j Y c∧LastRows g n j Y),.inl ⟨_,0,0,0,_,(.keep (.keep (.sk 3 (.keep (.keep (.keep (.keep (.sk 51 .nil rfl))))) rfl))),rfl,rfl,?_⟩,?_⟩
 ·exact ⟨⟨Nat.zero_le _,by decide⟩,addInv_start _ _,lastRows_start _⟩
 rintro mm tms _ ⟨j,Y,c,g,hpat,rfl,rfl,⟨⟨hj,hc⟩,hY,hg⟩⟩
 obtain ⟨az,rfl⟩:∃ az:Nat→Value,tms=.string s::.string t::zs az 2 3 (.int .i64 (n:Nat)::.slice (some ⟨0,0,none⟩) n n::.int .i64 c::.int .i64 ((j+1:Nat):Int)::zs az 9 51 []):=pat_fill hpat
 clear hpat
 conv=>whnf
 refine br_intro (fun h1=>?_) (fun h1=>?_)
 ·have h1:j < n:=by
   have:=of_decide_eq_true h1
   omega
  obtain ⟨u,hu⟩:∃ u,u=c+dig (bnat s) j:=⟨_,rfl⟩
  obtain ⟨t',ht⟩:∃ t',t'=u+dig (bnat t) j:=⟨_,rfl⟩
  obtain ⟨da,hda⟩:∃ da,da=dig (bnat s) j:=⟨_,rfl⟩
  obtain ⟨dd,hdd⟩:∃ dd,dd=dig (bnat t) j:=⟨_,rfl⟩
  have b1:dig (bnat s) j < 256:=dig_lt _ _
  have b2:dig (bnat t) j < 256:=dig_lt _ _
  obtain ⟨Y',hst,hrow⟩:=addInv_step (t:=t') hY hg h1 (by rw [ht,hu])
  obtain ⟨q,hq⟩:∃ q,q=n - (j+1):=⟨_,rfl⟩
  rw [← hq] at hrow
  obtain ⟨x,hx⟩:=hg.1 q (by omega)
  rw [← hda] at hu b1
  rw [← hdd] at ht b2
  have ea:IntKind.i64.wrap ((c:Int)+IntKind.i64.wrap (da:Int))=(u:Int):=by rw [wrapi64 (x:=(da:Int)) (by omega) (by omega),wrapi64 (by omega) (by omega)]; omega
  have ed:IntKind.i64.wrap ((u:Int)+IntKind.i64.wrap (dd:Int))=(t':Int):=by rw [wrapi64 (x:=(dd:Int)) (by omega) (by omega),wrapi64 (by omega) (by omega)]; omega
  have ej:IntKind.i64.wrap (((n:Nat):Int) - ((j+1:Nat):Int))=((q:Nat):Int):=by rw [wrapi64 (by omega) (by omega)]; omega
  have e7:IntKind.i64.wrap (((j+1:Nat):Int)+1)=((j+1+1:Nat):Int):=by rw [wrapi64 (by omega) (by omega)]; rfl
  have ediv:((t':Nat):Int) / 256=((t' / C:Nat):Int):=rfl
  have htt:t'≤511:=by omega
  obtain ⟨tt,htt2⟩:∃ tt,tt=t:=⟨_,rfl⟩
  obtain ⟨t,rfl⟩:∃ t'',t''=t':=⟨_,rfl⟩
  subst htt2
  conv=>whnf
  refine br_intro (fun h2=>?_) (fun h2=>?_)
  ·have h2:j < s.size:=by
    have h4:((j+1:Nat):Int)≤((s.size:Nat):Int):=of_decide_eq_true h2
    omega
   have hb:=byteAt_dig h2
   have ei:IntKind.i64.wrap (((s.size:Nat):Int) - ((j+1:Nat):Int))=((s.size - (j+1):Nat):Int):=by rw [wrapi64 (by omega) (by omega)]; omega
   conv=>whnf
   simp only [ei]
   refine ⟨⟨by omega,by omega⟩,?_⟩
   simp only [toNat_cast]
   conv=>whnf
   rw [hb,← hda,ea]
   refine br_intro (fun h3=>?_) (fun h3=>?_)
   ·have h3:j < tt.size:=by
     have:=of_decide_eq_true h3
     have h4:((j+1:Nat):Int)≤((tt.size:Nat):Int):=this
     omega
    have hb:=byteAt_dig h3
    have ei:IntKind.i64.wrap (((tt.size:Nat):Int) - ((j+1:Nat):Int))=((tt.size - (j+1):Nat):Int):=by rw [wrapi64 (by omega) (by omega)]; omega
    conv=>whnf
    simp only [ei]
    refine ⟨⟨by omega,by omega⟩,?_⟩
    simp only [toNat_cast]
    conv=>whnf
    rw [hb,← hdd,ed]
    simp only [ej]
    refine ⟨⟨by omega,by omega⟩,?_⟩
    simp only [toNat_cast,rowAdd_eq,Nat.zero_add]
    conv=>whnf
    refine ⟨by show q < n; omega,?_⟩
    conv=>whnf
    rw [hx]
    conv=>whnf
    simp only [u8_mod,shr_i64_8,ediv,e7]
    refine .inl ⟨_,?_,j+1,Y',t / C,_,(.keep (.keep (.sk 3 (.keep (.keep (.keep (.keep (.sk 51 .nil rfl))))) rfl))),rfl,rfl,?_⟩
    ·omega
    ·exact ⟨⟨by omega,by show t / 256≤1; omega⟩,hst,hrow⟩
   ·have h3:tt.size≤j:=by
     have h4:¬ ((j+1:Nat):Int)≤((tt.size:Nat):Int):=of_decide_eq_false h3
     omega
    have h0:=dig_over h3
    rw [hdd,h0,Nat.add_zero] at ht
    conv=>whnf
    rw [← ht]
    simp only [ej]
    refine ⟨⟨by omega,by omega⟩,?_⟩
    simp only [toNat_cast,rowAdd_eq,Nat.zero_add]
    conv=>whnf
    refine ⟨by show q < n; omega,?_⟩
    conv=>whnf
    rw [hx]
    conv=>whnf
    simp only [u8_mod,shr_i64_8,ediv,e7]
    refine .inl ⟨_,?_,j+1,Y',t / C,_,(.keep (.keep (.sk 3 (.keep (.keep (.keep (.keep (.sk 51 .nil rfl))))) rfl))),rfl,rfl,?_⟩
    ·omega
    ·exact ⟨⟨by omega,by show t / 256≤1; omega⟩,hst,hrow⟩
  ·have h2:s.size≤j:=by
    have h4:¬ ((j+1:Nat):Int)≤((s.size:Nat):Int):=of_decide_eq_false h2
    omega
   have h0:=dig_over h2
   rw [hda,h0,Nat.add_zero] at hu
   conv=>whnf
   rw [← hu]
   refine br_intro (fun h3=>?_) (fun h3=>?_)
   ·have h3:j < tt.size:=by
     have:=of_decide_eq_true h3
     have h4:((j+1:Nat):Int)≤((tt.size:Nat):Int):=this
     omega
    have hb:=byteAt_dig h3
    have ei:IntKind.i64.wrap (((tt.size:Nat):Int) - ((j+1:Nat):Int))=((tt.size - (j+1):Nat):Int):=by rw [wrapi64 (by omega) (by omega)]; omega
    conv=>whnf
    simp only [ei]
    refine ⟨⟨by omega,by omega⟩,?_⟩
    simp only [toNat_cast]
    conv=>whnf
    rw [hb,← hdd,ed]
    simp only [ej]
    refine ⟨⟨by omega,by omega⟩,?_⟩
    simp only [toNat_cast,rowAdd_eq,Nat.zero_add]
    conv=>whnf
    refine ⟨by show q < n; omega,?_⟩
    conv=>whnf
    rw [hx]
    conv=>whnf
    simp only [u8_mod,shr_i64_8,ediv,e7]
    refine .inl ⟨_,?_,j+1,Y',t / C,_,(.keep (.keep (.sk 3 (.keep (.keep (.keep (.keep (.sk 51 .nil rfl))))) rfl))),rfl,rfl,?_⟩
    ·omega
    ·exact ⟨⟨by omega,by show t / 256≤1; omega⟩,hst,hrow⟩
   ·have h3:tt.size≤j:=by
     have h4:¬ ((j+1:Nat):Int)≤((tt.size:Nat):Int):=of_decide_eq_false h3
     omega
    have h0:=dig_over h3
    rw [hdd,h0,Nat.add_zero] at ht
    conv=>whnf
    rw [← ht]
    simp only [ej]
    refine ⟨⟨by omega,by omega⟩,?_⟩
    simp only [toNat_cast,rowAdd_eq,Nat.zero_add]
    conv=>whnf
    refine ⟨by show q < n; omega,?_⟩
    conv=>whnf
    rw [hx]
    conv=>whnf
    simp only [u8_mod,shr_i64_8,ediv,e7]
    refine .inl ⟨_,?_,j+1,Y',t / C,_,(.keep (.keep (.sk 3 (.keep (.keep (.keep (.keep (.sk 51 .nil rfl))))) rfl))),rfl,rfl,?_⟩
    ·omega
    ·exact ⟨⟨by omega,by show t / 256≤1; omega⟩,hst,hrow⟩
 ·have h1:j=n:=by
   have h4:¬ ((j+1:Nat):Int)≤((n:Nat):Int):=of_decide_eq_false h1
   omega
  subst h1
  obtain ⟨v,hv,hvs,hvn⟩:=addInv_end hY hg ⟨by omega,by omega⟩
  subst hn
  conv=>whnf
  refine ⟨⟨by show 0+(m+1)≤m+1; omega,fun r hr=>by show ∃ x,g (0+r)=_; rw [Nat.zero_add]; exact hg.1 r hr⟩,?_⟩
  rw [show (Blk.flat true (m+1) 1 g).row=g from rfl,hv]
  conv=>whnf
  refine ⟨v,rfl,by show v.size≤_; omega,?_⟩
  conv=>whnf
  show Value.string (nb (bnat v))=_
  rw [hvn]
  rfl
end Go.Proofs.YtppeponndkfbkaaGreat
/- Contracts of the reference integers: difference of digits. -/
set_option maxRecDepth 20000
set_option maxHeartbeats 1000000
namespace Go.Proofs.YtppeponndkfbkaaGreat
open Go Go.Ae
theorem rsubMag_ok:Snd Tryz.prog 154 subMagS:=by
 refine snd_of Eraok Dok Tryz.func154 (enters_of Tryz.func154 (by kernel_rfl) rfl) (fun _=>rfl) (fun _=>rfl) ?_
 intro ⟨s,t⟩ hp
 have hp:(s.size≤549755813896∧t.size≤549755813896)∧bnat t≤bnat s:=hp
 obtain ⟨n,hn⟩:∃ n:Nat,n=s.size:=⟨_,rfl⟩
 conv=>whnf
 rw [show ((s,t).fst.size:Nat)=n from hn.symm]
 refine ⟨⟨by omega,Int.le_refl _,by show ((n:Nat):Int)*((1:Nat):Int)≤_; omega⟩,?_⟩
 simp only [toNat_cast]
 conv=>whnf
 refine .inl ⟨fun mm tz hz=>∃ (j:Nat) (Y:Nat) (c:Nat) (g:Nat→List Value),Pat (some (.string s)::some (.string t)::nos 3 (some (.slice (some ⟨0,0,none⟩) n n)::some (.int .i64 c)::some (.int .i64 ((j+1:Nat):Int))::nos 47 [])) tz∧hz=[some (.flat true n 1 g)]∧n - j=mm∧((j≤n∧c≤1)∧SubInv (bnat s) (bnat t) j Y c∧LastRows g n j Y),.inl ⟨_,0,0,0,_,(.keep (.keep (.sk 3 (.keep (.keep (.keep (.sk 47 .nil rfl)))) rfl))),rfl,rfl,?_⟩,?_⟩
 ·exact ⟨⟨Nat.zero_le _,by decide⟩,subInv_start _ _,lastRows_start _⟩
 rintro mm tms _ ⟨j,Y,c,g,hpat,rfl,rfl,⟨⟨hj,hc⟩,hY,hg⟩⟩
 obtain ⟨az,rfl⟩:∃ az:Nat→Value,tms=.string s::.string t::zs az 2 3 (.slice (some ⟨0,0,none⟩) n n::.int .i64 c::.int .i64 ((j+1:Nat):Int)::zs az 8 47 []):=pat_fill hpat
 clear hpat
 conv=>whnf
 rw [← hn]
 refine br_intro (fun h1=>?_) (fun h1=>?_)
 ·have h1:j < n:=by
   have:=of_decide_eq_true h1
   omega
  obtain ⟨da,hda⟩:∃ da,da=dig (bnat s) j:=⟨_,rfl⟩
  obtain ⟨dd,hdd⟩:∃ dd,dd=dig (bnat t) j:=⟨_,rfl⟩
  have b1:da < 256:=by rw [hda]; exact dig_lt _ _
  have b2:dd < 256:=by rw [hdd]; exact dig_lt _ _
  obtain ⟨q,hq⟩:∃ q,q=n - (j+1):=⟨_,rfl⟩
  obtain ⟨x,hx⟩:=hg.1 q (by omega)
  have ej:IntKind.i64.wrap ((n:Int) - ((j+1:Nat):Int))=((q:Nat):Int):=by rw [wrapi64 (by omega) (by omega)]; omega
  have e7:IntKind.i64.wrap (((j+1:Nat):Int)+1)=((j+1+1:Nat):Int):=by rw [wrapi64 (by omega) (by omega)]; rfl
  have hb:byteAt s q=da:=by rw [hda,hq,hn]; exact byteAt_dig (by omega)
  have ea:IntKind.i64.wrap (IntKind.i64.wrap (da:Int) - (c:Int))=(da:Int) - c:=by rw [wrapi64 (x:=(da:Int)) (by omega) (by omega),wrapi64 (by omega) (by omega)]
  conv=>whnf
  rw [← hn,ej]
  refine ⟨⟨by omega,by omega⟩,?_⟩
  simp only [toNat_cast]
  conv=>whnf
  rw [hb,ea]
  refine br_intro (fun h3=>?_) (fun h3=>?_)
  ·have h3:j < t.size:=by
    have h4:((j+1:Nat):Int)≤((t.size:Nat):Int):=of_decide_eq_true h3
    omega
   have hb2:=byteAt_dig h3
   rw [← hdd] at hb2
   have ei:IntKind.i64.wrap (((t.size:Nat):Int) - ((j+1:Nat):Int))=((t.size - (j+1):Nat):Int):=by rw [wrapi64 (by omega) (by omega)]; omega
   obtain ⟨w,hw⟩:∃ w:Int,w=(da:Int) - c - dd:=⟨_,rfl⟩
   have ed:IntKind.i64.wrap (((da:Int) - c) - IntKind.i64.wrap (dd:Int))=w:=by rw [wrapi64 (x:=(dd:Int)) (by omega) (by omega),wrapi64 (by omega) (by omega),hw]
   conv=>whnf
   simp only [ei]
   refine ⟨⟨by omega,by omega⟩,?_⟩
   simp only [toNat_cast]
   conv=>whnf
   rw [hb2,ed]
   rcases Int.lt_or_le w 0 with hw | hw
   ·obtain ⟨e,c',he,hc',hs,hcc⟩:∃ e c':Nat,e < 256∧c'≤1∧e+c+dd=da+256*c'∧(w+256=(e:Int)∧c'=1):=⟨(w+256).toNat,1,by omega,by omega,by omega,by omega,rfl⟩
    have ew:IntKind.i64.wrap (w+256)=(e:Int):=by rw [wrapi64 (by omega) (by omega)]; exact hcc.1
    have e0:=hcc.2
    subst e0
    obtain ⟨Y',hst,hrow⟩:=subInv_step hY hg h1 he (by rw [← hda,← hdd]; exact hs)
    rw [← hq] at hrow
    refine br_yes ?_ ?_
    ·exact decide_eq_true hw
    conv=>whnf
    rw [ew]
    simp only [← hn,ej]
    refine ⟨⟨by omega,by omega⟩,?_⟩
    simp only [toNat_cast,rowAdd_eq,Nat.zero_add]
    conv=>whnf
    refine ⟨by show q < n; omega,?_⟩
    conv=>whnf
    rw [hx]
    conv=>whnf
    simp only [u8_of he,e7]
    refine .inl ⟨_,?_,j+1,Y',_,_,(.keep (.keep (.sk 3 (.keep (.keep (.keep (.sk 47 .nil rfl)))) rfl))),rfl,rfl,?_⟩
    ·omega
    ·exact ⟨⟨by omega,hc'⟩,hst,hrow⟩
   ·obtain ⟨e,c',he,hc',hs,hcc⟩:∃ e c':Nat,e < 256∧c'≤1∧e+c+dd=da+256*c'∧(w=(e:Int)∧c'=0):=⟨w.toNat,0,by omega,by omega,by omega,by omega,rfl⟩
    have ew:w=(e:Int):=hcc.1
    have e0:=hcc.2
    subst e0
    obtain ⟨Y',hst,hrow⟩:=subInv_step hY hg h1 he (by rw [← hda,← hdd]; exact hs)
    rw [← hq] at hrow
    refine br_intro (fun h=>absurd (of_decide_eq_true h) (by omega)) (fun _=>?_)
    conv=>whnf
    rw [ew]
    simp only [← hn,ej]
    refine ⟨⟨by omega,by omega⟩,?_⟩
    simp only [toNat_cast,rowAdd_eq,Nat.zero_add]
    conv=>whnf
    refine ⟨by show q < n; omega,?_⟩
    conv=>whnf
    rw [hx]
    conv=>whnf
    simp only [u8_of he,e7]
    refine .inl ⟨_,?_,j+1,Y',_,_,(.keep (.keep (.sk 3 (.keep (.keep (.keep (.sk 47 .nil rfl)))) rfl))),rfl,rfl,?_⟩
    ·omega
    ·exact ⟨⟨by omega,hc'⟩,hst,hrow⟩
  ·have h3:t.size≤j:=by
    have h4:¬ ((j+1:Nat):Int)≤((t.size:Nat):Int):=of_decide_eq_false h3
    omega
   have h0:=dig_over h3
   obtain ⟨w,hw⟩:∃ w:Int,w=(da:Int) - c:=⟨_,rfl⟩
   rw [← hdd] at h0
   conv=>whnf
   rw [← hw]
   rcases Int.lt_or_le w 0 with hw | hw
   ·obtain ⟨e,c',he,hc',hs,hcc⟩:∃ e c':Nat,e < 256∧c'≤1∧e+c+dd=da+256*c'∧(w+256=(e:Int)∧c'=1):=⟨(w+256).toNat,1,by omega,by omega,by omega,by omega,rfl⟩
    have ew:IntKind.i64.wrap (w+256)=(e:Int):=by rw [wrapi64 (by omega) (by omega)]; exact hcc.1
    have e0:=hcc.2
    subst e0
    obtain ⟨Y',hst,hrow⟩:=subInv_step hY hg h1 he (by rw [← hda,← hdd]; exact hs)
    rw [← hq] at hrow
    refine br_yes ?_ ?_
    ·exact decide_eq_true hw
    conv=>whnf
    rw [ew]
    simp only [← hn,ej]
    refine ⟨⟨by omega,by omega⟩,?_⟩
    simp only [toNat_cast,rowAdd_eq,Nat.zero_add]
    conv=>whnf
    refine ⟨by show q < n; omega,?_⟩
    conv=>whnf
    rw [hx]
    conv=>whnf
    simp only [u8_of he,e7]
    refine .inl ⟨_,?_,j+1,Y',_,_,(.keep (.keep (.sk 3 (.keep (.keep (.keep (.sk 47 .nil rfl)))) rfl))),rfl,rfl,?_⟩
    ·omega
    ·exact ⟨⟨by omega,hc'⟩,hst,hrow⟩
   ·obtain ⟨e,c',he,hc',hs,hcc⟩:∃ e c':Nat,e < 256∧c'≤1∧e+c+dd=da+256*c'∧(w=(e:Int)∧c'=0):=⟨w.toNat,0,by omega,by omega,by omega,by omega,rfl⟩
    have ew:w=(e:Int):=hcc.1
    have e0:=hcc.2
    subst e0
    obtain ⟨Y',hst,hrow⟩:=subInv_step hY hg h1 he (by rw [← hda,← hdd]; exact hs)
    rw [← hq] at hrow
    refine br_intro (fun h=>absurd (of_decide_eq_true h) (by omega)) (fun _=>?_)
    conv=>whnf
    rw [ew]
    simp only [← hn,ej]
    refine ⟨⟨by omega,by omega⟩,?_⟩
    simp only [toNat_cast,rowAdd_eq,Nat.zero_add]
    conv=>whnf
    refine ⟨by show q < n; omega,?_⟩
    conv=>whnf
    rw [hx]
    conv=>whnf
    simp only [u8_of he,e7]
    refine .inl ⟨_,?_,j+1,Y',_,_,(.keep (.keep (.sk 3 (.keep (.keep (.keep (.sk 47 .nil rfl)))) rfl))),rfl,rfl,?_⟩
    ·omega
    ·exact ⟨⟨by omega,hc'⟩,hst,hrow⟩
 ·have h1:j=n:=by
   have h4:¬ ((j+1:Nat):Int)≤((n:Nat):Int):=of_decide_eq_false h1
   omega
  subst h1
  obtain ⟨v,hv,hvs,hvn⟩:=subInv_end (g:=g) (by rw [← hn]; exact hY) hp.2 (by rw [← hn]; exact hg)
  rw [← hn] at hv hvs
  conv=>whnf
  rcases Nat.eq_zero_or_pos j with h0 | h0
  ·subst h0
   conv=>whnf
   have e0:v=⟨#[]⟩:=hv.symm
   subst e0
   refine ⟨⟨#[]⟩,rfl,Nat.zero_le _,?_⟩
   conv=>whnf
   show Value.string (nb (bnat ⟨#[]⟩))=_
   rw [hvn]
   rfl
  ·obtain ⟨k,rfl⟩:∃ k,j=k+1:=⟨j - 1,by omega⟩
   conv=>whnf
   refine ⟨⟨by show 0+(k+1)≤k+1; omega,fun r hr=>by show ∃ x,g (0+r)=_; rw [Nat.zero_add]; exact hg.1 r hr⟩,?_⟩
   rw [show (Blk.flat true (k+1) 1 g).row=g from rfl,hv]
   conv=>whnf
   refine ⟨v,rfl,by show v.size≤_; omega,?_⟩
   conv=>whnf
   show Value.string (nb (bnat v))=_
   rw [hvn]
   rfl
end Go.Proofs.YtppeponndkfbkaaGreat
/- Contracts of the reference integers: product of digits. -/
set_option maxRecDepth 20000
set_option maxHeartbeats 1000000
namespace Go.Proofs.YtppeponndkfbkaaGreat
open Go Go.Ae
theorem rmulMag_ok:Snd Tryz.prog 152 mulMagS:=by
 refine snd_of Eraok Dok Tryz.func152 (enters_of Tryz.func152 (by kernel_rfl) rfl) (fun _=>rfl) (fun _=>rfl) ?_
 intro ⟨s,t⟩ hp
 have hp:s.size≤549755813888∧t.size≤549755813888:=hp
 obtain ⟨a,ha⟩:∃ n:Nat,n=s.size:=⟨_,rfl⟩
 obtain ⟨b,hb⟩:∃ n:Nat,n=t.size:=⟨_,rfl⟩
 obtain ⟨n,hn⟩:∃ n:Nat,n=a+b:=⟨_,rfl⟩
 have e1:IntKind.i64.wrap (((a:Nat):Int)+((b:Nat):Int))=((n:Nat):Int):=by rw [wrapi64 (by omega) (by omega)]; omega
 conv=>whnf
 rw [show ((s,t).fst.size:Nat)=a from ha.symm,show ((s,t).snd.size:Nat)=b from hb.symm,e1]
 refine ⟨⟨by omega,Int.le_refl _,by show ((n:Nat):Int)*((8:Nat):Int)≤_; omega⟩,?_⟩
 simp only [toNat_cast]
 conv=>whnf
 rw [show ((s,t).fst.size:Nat)=a from ha.symm]
 refine .inl ⟨fun mm tz hz=>∃ (u:Nat) (p:Nat) (Z:Nat) (g:Nat→List Value),Pat (some (.string s)::some (.string t)::nos 3 (some (.slice (some ⟨0,0,none⟩) n n)::some (.int .i64 (IntKind.i64.wrap (((u:Nat):Int) - 1)))::nos 80 [])) tz∧hz=[some (.flat true n 1 g)]∧u=mm∧((u+p=a)∧MulRow (bnat s) (bnat t) p b Z∧RowsI g n Z),.inr ⟨[0],[0,1,5,6],?_⟩,?_⟩
 ·conv=>whnf
  intro _
  conv=>whnf
  refine ⟨_,a,0,0,_,(.keep (.keep (.sk 3 (.keep (.keep (.sk 80 .nil rfl))) rfl))),rfl,rfl,?_⟩
  exact ⟨by omega,mulRow_start _ _ _,rowsI_start _⟩
 rintro mm tms _ ⟨u,p,Z,g,hpat,rfl,rfl,⟨hu,hY,hg⟩⟩
 obtain ⟨az,rfl⟩:∃ az:Nat→Value,tms=.string s::.string t::zs az 2 3 (.slice (some ⟨0,0,none⟩) n n::.int .i64 (IntKind.i64.wrap (((u:Nat):Int) - 1))::zs az 7 80 []):=pat_fill hpat
 clear hpat
 conv=>whnf
 refine br_intro (fun h1=>?_) (fun h1=>?_)
 ·obtain ⟨i,rfl⟩:∃ i,u=i+1:=by
   rcases Nat.eq_zero_or_pos u with h | h
   ·subst h; exact absurd h1 (by decide)
   ·exact ⟨u - 1,by omega⟩
  have ei:IntKind.i64.wrap (((i+1:Nat):Int) - 1)=(i:Int):=by rw [wrapi64 (by omega) (by omega)]; omega
  rw [ei]
  conv=>whnf
  rw [← hb]
  refine .inl ⟨fun mm tz hz=>∃ (v:Nat) (q:Nat) (Z:Nat) (c:Nat) (g:Nat→List Value),Pat (some (.string s)::some (.string t)::nos 3 (some (.slice (some ⟨0,0,none⟩) n n)::some (.int .i64 i)::some (.int .i64 c)::some (.int .i64 (IntKind.i64.wrap (((v:Nat):Int) - 1)))::nos 78 [])) tz∧hz=[some (.flat true n 1 g)]∧v=mm∧((v+q=b∧c < 256)∧MulInv (bnat s) (bnat t) p b q Z c∧RowsI g n Z),.inr ⟨[0],[0,1,5,6,7,8],?_⟩,?_⟩
  ·conv=>whnf
   intro _
   conv=>whnf
   refine ⟨_,b,0,Z,0,g,(.keep (.keep (.sk 3 (.keep (.keep (.keep (.keep (.sk 78 .nil rfl))))) rfl))),rfl,rfl,?_⟩
   exact ⟨⟨by omega,by decide⟩,mulInv_start hY,hg⟩
  rintro mm tms _ ⟨v,q,Z,c,g,hpat,rfl,rfl,⟨⟨hv,hc⟩,hI,hg⟩⟩
  obtain ⟨az,rfl⟩:∃ az:Nat→Value,tms=.string s::.string t::zs az 2 3 (.slice (some ⟨0,0,none⟩) n n::.int .i64 i::.int .i64 c::.int .i64 (IntKind.i64.wrap (((v:Nat):Int) - 1))::zs az 9 78 []):=pat_fill hpat
  clear hpat
  clear hY
  conv=>whnf
  refine br_intro (fun h2=>?_) (fun h2=>?_)
  ·obtain ⟨k,rfl⟩:∃ k,v=k+1:=by
    rcases Nat.eq_zero_or_pos v with h | h
    ·subst h; exact absurd h2 (by decide)
    ·exact ⟨v - 1,by omega⟩
   have ek:IntKind.i64.wrap (((k+1:Nat):Int) - 1)=(k:Int):=by rw [wrapi64 (by omega) (by omega)]; omega
   rw [ek]
   obtain ⟨x,hx⟩:∃ x,x=dig (bnat s) p:=⟨_,rfl⟩
   obtain ⟨y,hy⟩:∃ y,y=dig (bnat t) q:=⟨_,rfl⟩
   obtain ⟨z,hz⟩:∃ z,z=dig Z (p+q):=⟨_,rfl⟩
   obtain ⟨w,hw⟩:∃ w,w=c+(x*y+z):=⟨_,rfl⟩
   obtain ⟨r,hr⟩:∃ r,r=i+k+1:=⟨_,rfl⟩
   have xb:x < 256:=by rw [hx]; exact dig_lt _ _
   have yb:y < 256:=by rw [hy]; exact dig_lt _ _
   have zb:z < 256:=by rw [hz]; exact dig_lt _ _
   have er:r=n - 1 - (p+q):=by omega
   obtain ⟨Z',hst,hrow⟩:=mulInv_step (t:=w) hI hg (by omega) (by omega) (by rw [hw,hx,hy,hz])
   rw [← er] at hrow
   have hgr:=hg r (by omega)
   rw [show n - 1 - r=p+q by omega,← hz] at hgr
   have hbx:byteAt s i=x:=by
    have:=byteAt_dig (s:=s) (j:=p) (by omega)
    rw [show s.size - (p+1)=i by omega,← hx] at this
    exact this
   have hby:byteAt t k=y:=by
    have:=byteAt_dig (s:=t) (j:=q) (by omega)
    rw [show t.size - (q+1)=k by omega,← hy] at this
    exact this
   have hval:=mul_val hc xb yb zb hw
   obtain ⟨hwC,hw6⟩:=mul_row_le hc xb yb zb hw
   have hand:=and_255 hw6
   have erw:IntKind.i64.wrap (IntKind.i64.wrap ((i:Int)+(k:Int))+1)=(r:Int):=by rw [wrapi64 (x:=(i:Int)+(k:Int)) (by omega) (by omega),wrapi64 (by omega) (by omega)]; omega
   conv=>whnf
   refine .inl ⟨18,[[],[],[],[],[2,3],[2,3,4],[1,2,3,4,5],[1,2,3,4,5,6],[],[],[8,9],[8,9,10],[],[],[12,13],[12,13,14],[8,9,10,11,12,13,14,15],[1,2,3,4,5,6,7,8,9,10,11,12,13,14,15,16],[0,1,2,3,4,5,6,7,8,9,10,11,12,13,14,15,16,17],[0,1,2,3,4,5,6,7,8,9,10,11,12,13,14,15,16,17,18]],by kernel_rfl,?_⟩
   conv=>whnf
   simp only [erw,toNat_cast]
   refine ⟨⟨by omega,by omega⟩,?_⟩
   simp only [toNat_cast,rowAdd_eq,Nat.zero_add]
   conv=>whnf
   refine ⟨by show r < n; omega,?_⟩
   conv=>whnf
   rw [hgr]
   conv=>whnf
   refine ⟨⟨by omega,by omega⟩,?_⟩
   simp only [toNat_cast]
   conv=>whnf
   rw [hbx]
   refine ⟨⟨by omega,by omega⟩,?_⟩
   simp only [toNat_cast]
   conv=>whnf
   rw [hby]
   simp only [hval,erw]
   refine ⟨⟨by omega,by omega⟩,?_⟩
   simp only [toNat_cast,rowAdd_eq,Nat.zero_add]
   conv=>whnf
   refine ⟨by show r < n; omega,?_⟩
   conv=>whnf
   rw [hgr]
   conv=>whnf
   have hwm:w % C < 256:=Nat.mod_lt _ (by decide)
   have ewm:IntKind.i64.wrap ((w % C:Nat):Int)=((w % C:Nat):Int):=by
    obtain ⟨k,hk⟩:∃ k,k=w % C:=⟨_,rfl⟩
    rw [← hk] at hwm ⊢
    exact wrapi64 (by omega) (by omega)
   simp only [shr_i64_8,hand,ewm]
   rw [show ((w:Nat):Int) / 256=((w / C:Nat):Int) from rfl]
   refine .inr ⟨[0],[0,1,5,6,7,8],?_⟩
   conv=>whnf
   intro _
   conv=>whnf
   refine ⟨_,?_,k,q+1,Z',w / C,_,(.keep (.keep (.sk 3 (.keep (.keep (.keep (.keep (.sk 78 .nil rfl))))) rfl))),rfl,rfl,?_⟩
   ·omega
   ·exact ⟨⟨by omega,hwC⟩,hst,hrow⟩
  ·have h2:v=0:=by
    have:=of_decide_eq_false h2
    rcases Nat.eq_zero_or_pos v with h | h
    ·exact h
    ·rw [wrapi64 (by omega) (by omega)] at this
     omega
   subst h2
   have hq:q=b:=by omega
   subst hq
   obtain ⟨h0,Z',hst,hrow⟩:=mulInv_end (n:=n) hI (by rw [hb]; exact bnat_lt t) hg (by omega) hc
   have er:i=n - 1 - (p+q):=by omega
   have hgr:=hg i (by omega)
   rw [show n - 1 - i=p+q by omega,h0] at hgr
   rw [← er] at hrow
   have ec:IntKind.i64.wrap (((0:Nat):Int)+(c:Int))=(c:Int):=by rw [wrapi64 (by omega) (by omega)]; omega
   conv=>whnf
   refine ⟨⟨by omega,by omega⟩,?_⟩
   simp only [toNat_cast,rowAdd_eq,Nat.zero_add]
   conv=>whnf
   refine ⟨by show i < n; omega,?_⟩
   conv=>whnf
   rw [hgr]
   conv=>whnf
   refine ⟨⟨by omega,by omega⟩,?_⟩
   simp only [toNat_cast,rowAdd_eq,Nat.zero_add]
   conv=>whnf
   refine ⟨by show i < n; omega,?_⟩
   conv=>whnf
   rw [hgr]
   conv=>whnf
   simp only [ec]
   skip
   refine .inr ⟨[0],[0,1,5,6],?_⟩
   conv=>whnf
   intro _
   conv=>whnf
   refine ⟨_,?_,i,p+1,Z',_,(.keep (.keep (.sk 3 (.keep (.keep (.sk 80 .nil rfl))) rfl))),rfl,rfl,?_⟩
   ·omega
   ·exact ⟨by omega,hst,hrow⟩
 ·have h1:u=0:=by
   have:=of_decide_eq_false h1
   rcases Nat.eq_zero_or_pos u with h | h
   ·exact h
   ·rw [wrapi64 (by omega) (by omega)] at this
    omega
  subst h1
  have hp2:p=a:=by omega
  subst hp2
  have hZ:Z=bnat s*bnat t:=mulRow_end hY (by rw [ha]; exact bnat_lt s)
  have hZlt:Z < C ^ n:=by rw [hZ,hn,ha,hb]; exact prod_ltC
  clear hY
  conv=>whnf
  refine ⟨⟨by omega,Int.le_refl _,by show ((n:Nat):Int)*((1:Nat):Int)≤_; omega⟩,?_⟩
  simp only [toNat_cast]
  conv=>whnf
  refine .inl ⟨fun mm tz hz=>∃ (i:Nat) (e:Nat→List Value),Pat (nos 5 (some (.slice (some ⟨0,0,none⟩) n n)::nos 3 (some (.slice (some ⟨1,0,none⟩) n n)::some (.int .i64 i)::nos 76 []))) tz∧hz=[some (.flat true n 1 g),some (.flat true n 1 e)]∧n - i=mm∧(i≤n∧ByteRows e n i Z),.inl ⟨_,0,_,(.sk 5 (.keep (.sk 3 (.keep (.keep (.sk 76 .nil rfl))) rfl)) rfl),rfl,rfl,?_⟩,?_⟩
  ·exact ⟨Nat.zero_le _,byteRows_start _ _⟩
  rintro mm tms _ ⟨i,e,hpat,rfl,rfl,⟨hi,he⟩⟩
  obtain ⟨az,rfl⟩:∃ az:Nat→Value,tms=zs az 0 5 (.slice (some ⟨0,0,none⟩) n n::zs az 6 3 (.slice (some ⟨1,0,none⟩) n n::.int .i64 i::zs az 11 76 [])):=pat_fill hpat
  clear hpat
  conv=>whnf
  refine br_intro (fun h2=>?_) (fun h2=>?_)
  ·have h2:i < n:=by
    have:=of_decide_eq_true h2
    omega
   obtain ⟨z,hz⟩:∃ z,z=dig Z (n - 1 - i):=⟨_,rfl⟩
   have zb:z < 256:=by rw [hz]; exact dig_lt _ _
   have hgr:=hg i h2
   rw [← hz] at hgr
   have hst:=byteRows_step he h2
   rw [← hz] at hst
   obtain ⟨x,hx⟩:=he.1 i h2
   have e7:IntKind.i64.wrap ((i:Int)+1)=((i+1:Nat):Int):=by rw [wrapi64 (by omega) (by omega)]; rfl
   conv=>whnf
   refine ⟨⟨by omega,by omega⟩,?_⟩
   simp only [toNat_cast,rowAdd_eq,Nat.zero_add]
   conv=>whnf
   refine ⟨by show i < n; omega,?_⟩
   conv=>whnf
   rw [hgr]
   conv=>whnf
   refine ⟨⟨by omega,by omega⟩,?_⟩
   simp only [toNat_cast,rowAdd_eq,Nat.zero_add]
   conv=>whnf
   refine ⟨by show i < n; omega,?_⟩
   conv=>whnf
   rw [hx]
   conv=>whnf
   simp only [u8_of zb,e7]
   refine .inl ⟨_,?_,i+1,_,(.sk 5 (.keep (.sk 3 (.keep (.keep (.sk 76 .nil rfl))) rfl)) rfl),rfl,rfl,?_⟩
   ·omega
   ·exact ⟨by omega,hst⟩
  ·have h2:i=n:=by
    have:=of_decide_eq_false h2
    omega
   subst h2
   obtain ⟨v,hv,hvs,hvn⟩:=byteRows_end he hZlt
   conv=>whnf
   rcases Nat.eq_zero_or_pos i with h0 | h0
   ·subst h0
    conv=>whnf
    have e0:v=⟨#[]⟩:=hv.symm
    subst e0
    refine ⟨⟨#[]⟩,rfl,Nat.zero_le _,?_⟩
    conv=>whnf
    show Value.string (nb (bnat ⟨#[]⟩))=_
    rw [hvn,hZ]
    rfl
   ·obtain ⟨k,rfl⟩:∃ k,i=k+1:=⟨i - 1,by omega⟩
    conv=>whnf
    refine ⟨⟨by show 0+(k+1)≤k+1; omega,fun r hr=>by show ∃ x,e (0+r)=_; rw [Nat.zero_add]; exact he.1 r hr⟩,?_⟩
    rw [show (Blk.flat true (k+1) 1 e).row=e from rfl,hv]
    conv=>whnf
    refine ⟨v,rfl,by show v.size≤_; omega,?_⟩
    conv=>whnf
    show Value.string (nb (bnat v))=_
    rw [hvn,hZ]
    rfl
end Go.Proofs.YtppeponndkfbkaaGreat
/- Contracts of the reference integers: quotient of digits. -/
set_option maxRecDepth 20000
set_option maxHeartbeats 1000000
namespace Go.Proofs.YtppeponndkfbkaaGreat
open Go Go.Ae
def Erf:Env:=En [(160,.p stripS),(153,.p addMagS),(154,.p subMagS),(150,.p cmpMagS)]
theorem Erfok:EnvOk Tryz.prog Erf:=Enk ⟨rtrim_ok,raddMag_ok,rsubMag_ok,rcmpMag_ok,trivial⟩ trivial
theorem rdivMag_ok:Snd Tryz.prog 161 divMagS:=by
 refine snd_of Erfok Dok Tryz.func161 (enters_of Tryz.func161 (by kernel_rfl) rfl) (fun _=>rfl) (fun _=>rfl) ?_
 intro ⟨s,D⟩ hp
 have hp:s.size≤549755813888∧nby D≤549755813888∧D≠0:=hp
 obtain ⟨n,hn⟩:∃ n:Nat,n=s.size:=⟨_,rfl⟩
 obtain ⟨b,hb⟩:∃ b,b=nb D:=⟨_,rfl⟩
 have ht:=timesRows_start D
 rw [← hb] at ht
 conv=>whnf
 rw [show nb (s,D).snd=b from hb.symm]
 refine ⟨⟨by decide,by decide⟩,?_⟩
 conv=>whnf
 refine ⟨by decide,?_⟩
 conv=>whnf
 refine .inl ⟨fun mm tz hz=>∃ (i:Nat) (g:Nat→List Value),Pat (some (.string s)::nos 5 (some (.pointer (some ⟨0,0,none⟩))::some (.int .i64 ((i+1:Nat):Int))::nos 68 [])) tz∧hz=[some (.flat true 8 1 g)]∧7 - i=mm∧(i≤7∧TimesRows g (i+1) D),.inr ⟨[0],[0,6,7],?_⟩,?_⟩
 ·conv=>whnf
  intro _
  conv=>whnf
  refine ⟨_,0,_,(.keep (.sk 5 (.keep (.keep (.sk 68 .nil rfl))) rfl)),rfl,rfl,?_⟩
  exact ⟨by decide,ht⟩
 rintro mm tms _ ⟨i,g,hpat,rfl,rfl,⟨hi,ht⟩⟩
 obtain ⟨az,rfl⟩:∃ az:Nat→Value,tms=.string s::zs az 1 5 (.pointer (some ⟨0,0,none⟩)::.int .i64 ((i+1:Nat):Int)::zs az 8 68 []):=pat_fill hpat
 clear hpat
 conv=>whnf
 refine br_intro (fun h1=>?_) (fun h1=>?_)
 ·have h1:i+1 < 8:=by
   have:=of_decide_eq_true h1
   omega
  obtain ⟨x,hx⟩:∃ x,x=nb (2 ^ i*D):=⟨_,rfl⟩
  have hgi:=ht.2 i (by omega)
  rw [← hx] at hgi
  have hxs:x.size≤549755813889:=by
   rw [hx,nb_size]; exact Nat.le_trans (nby_times (by omega)) (by omega)
  have hxn:bnat x=2 ^ i*D:=by rw [hx,bnat_nb]
  obtain ⟨v,hv⟩:∃ v,v=nb (bnat x+bnat x):=⟨_,rfl⟩
  have hst:=timesRows_step (v:=v) ht h1 (by rw [hv,hxn])
  obtain ⟨y,hy⟩:=ht.1 (i+1) (by omega)
  have ei:IntKind.i64.wrap (((i+1:Nat):Int) - 1)=(i:Int):=by rw [wrapi64 (by omega) (by omega)]; omega
  obtain ⟨j,hj⟩:∃ j,j=i+1:=⟨_,rfl⟩
  rw [← hj] at hy hst ei
  rw [← hj]
  have e7:IntKind.i64.wrap ((j:Int)+1)=((j+1:Nat):Int):=by rw [wrapi64 (by omega) (by omega)]; rfl
  conv=>whnf
  refine .inl ⟨10,[[],[],[1],[1,2],[1,2,3],[],[5],[5,6],[5,6,7],[1,2,3,4,5,6,7,8],[0,1,2,3,4,5,6,7,8,9],[0,1,2,3,4,5,6,7,8,9,10]],by kernel_rfl,?_⟩
  conv=>whnf
  rw [ei]
  refine ⟨⟨by omega,by omega⟩,?_⟩
  simp only [toNat_cast,rowAdd_eq,Nat.zero_add]
  conv=>whnf
  refine ⟨by show i < 8; omega,?_⟩
  conv=>whnf
  rw [hgi]
  conv=>whnf
  rw [ei]
  refine ⟨⟨by omega,by omega⟩,?_⟩
  simp only [toNat_cast,rowAdd_eq,Nat.zero_add]
  conv=>whnf
  refine ⟨by show i < 8; omega,?_⟩
  conv=>whnf
  rw [hgi]
  conv=>whnf
  refine ⟨(x,x),rfl,⟨by show x.size≤_; omega,by show x.size≤_; omega⟩,?_⟩
  rw [show addMagS.val (x,x)=.string v from by rw [hv]; rfl]
  conv=>whnf
  refine ⟨⟨by omega,by omega⟩,?_⟩
  simp only [toNat_cast,rowAdd_eq,Nat.zero_add]
  conv=>whnf
  refine ⟨by show j < 8; omega,?_⟩
  conv=>whnf
  rw [hy]
  conv=>whnf
  simp only [e7]
  refine .inr ⟨[0],[0,6,7],?_⟩
  conv=>whnf
  intro _
  conv=>whnf
  refine ⟨_,?_,j,_,(.keep (.sk 5 (.keep (.keep (.sk 68 .nil rfl))) rfl)),rfl,rfl,?_⟩
  ·omega
  ·exact ⟨by omega,hst⟩
 ·have h1:i=7:=by
   have:=of_decide_eq_false h1
   omega
  subst h1
  conv=>whnf
  rw [← hn]
  refine ⟨⟨by omega,Int.le_refl _,by show ((n:Nat):Int)*((1:Nat):Int)≤_; omega⟩,?_⟩
  simp only [toNat_cast]
  conv=>whnf
  rw [← nb_zero]
  refine .inl ⟨fun mm tz hz=>∃ (i:Nat) (Q:Nat) (R:Nat) (e:Nat→List Value),Pat (some (.string s)::nos 5 (some (.pointer (some ⟨0,0,none⟩))::nos 1 (some (.slice (some ⟨1,0,none⟩) n n)::some (.string (nb R))::some (.int .i64 i)::nos 65 []))) tz∧hz=[some (.flat true 8 1 g),some (.flat true n 1 e)]∧n - i=mm∧(i≤n∧DivInv s D i Q R∧QRows e n i Q),.inr ⟨[0,1],[0,6,8,9,10],?_⟩,?_⟩
  ·conv=>whnf
   intro _
   conv=>whnf
   refine ⟨_,0,0,0,_,(.keep (.sk 5 (.keep (.sk 1 (.keep (.keep (.keep (.sk 65 .nil rfl)))) rfl)) rfl)),rfl,rfl,?_⟩
   exact ⟨Nat.zero_le _,divInv_start _ hp.2.2,qRows_start _⟩
  rintro mm tms _ ⟨i,Q,R,e,hpat,rfl,rfl,⟨hi,hI,he⟩⟩
  obtain ⟨az,rfl⟩:∃ az:Nat→Value,tms=.string s::zs az 1 5 (.pointer (some ⟨0,0,none⟩)::zs az 7 1 (.slice (some ⟨1,0,none⟩) n n::.string (nb R)::.int .i64 i::zs az 11 65 [])):=pat_fill hpat
  clear hpat
  obtain ⟨x,hx⟩:∃ x,x=nb R:=⟨_,rfl⟩
  have hxs:x.size≤549755813888:=by
   rw [hx,nb_size]; exact Nat.le_trans (nby_mono (Nat.le_of_lt hI.lt)) hp.2.1
  rw [← hx]
  conv=>whnf
  rw [← hn]
  refine br_intro (fun h2=>?_) (fun h2=>?_)
  ·have h2:i < n:=by
    have:=of_decide_eq_true h2
    omega
   have e7:IntKind.i64.wrap ((i:Int)+1)=((i+1:Nat):Int):=by rw [wrapi64 (by omega) (by omega)]; rfl
   obtain ⟨y,hy⟩:∃ y,y=s.extract i (i+1):=⟨_,rfl⟩
   obtain ⟨hy1,hy2⟩:=trim_byte R (s:=s) (i:=i) (by omega)
   obtain ⟨R',hR'⟩:∃ R',R'=R*256+byteAt s i:=⟨_,rfl⟩
   have hS:=divStep_start hI (by omega)
   rw [← hR'] at hy1 hS
   rw [← hy,← hx] at hy1 hy2
   have hnx:nby R≤549755813888:=by rw [← nb_size,← hx]; exact hxs
   have hys:y.size=1:=by
    have:(x++y).size=x.size+y.size:=ByteArray.size_append
    have hxR:x.size=nby R:=by rw [hx,nb_size]
    omega
   conv=>whnf
   rw [e7]
   refine ⟨⟨by omega,by omega,by omega⟩,?_⟩
   simp only [toNat_cast]
   conv=>whnf
   rw [← hy]
   refine ⟨by omega,?_⟩
   conv=>whnf
   refine ⟨x++y,rfl,by show (x++y).size≤_; omega,?_⟩
   rw [show stripS.val (x++y)=.string (nb R') from by rw [← hy1]; rfl]
   conv=>whnf
   have hRs:nby R'≤549755813889:=Nat.le_trans (nby_mono (Nat.le_of_lt hS.lt)) (Nat.le_trans (nby_times (Nat.le_refl _)) (by omega))
   refine .inl ⟨fun mm tz hz=>∃ (k:Nat) (d:Nat) (R:Nat),Pat (some (.string s)::nos 5 (some (.pointer (some ⟨0,0,none⟩))::nos 1 (some (.slice (some ⟨1,0,none⟩) n n)::some (.string (nb R))::some (.int .i64 i)::some (.int .i64 d)::some (.int .i64 (IntKind.i64.wrap ((k:Int) - 1)))::nos 63 []))) tz∧hz=[some (.flat true 8 1 g),some (.flat true n 1 e)]∧k=mm∧(k≤8∧DivStep D R' k d R),.inr ⟨[0,1],[0,6,8,9,10,11,12],?_⟩,?_⟩
   ·conv=>whnf
    intro _
    conv=>whnf
    refine ⟨_,8,0,R',(.keep (.sk 5 (.keep (.sk 1 (.keep (.keep (.keep (.keep (.keep (.sk 63 .nil rfl)))))) rfl)) rfl)),rfl,rfl,?_⟩
    exact ⟨Nat.le_refl _,hS⟩
   rintro mm tms _ ⟨k,d,R,hpat,rfl,rfl,⟨hk,hS⟩⟩
   obtain ⟨az,rfl⟩:∃ az:Nat→Value,tms=.string s::zs az 1 5 (.pointer (some ⟨0,0,none⟩)::zs az 7 1 (.slice (some ⟨1,0,none⟩) n n::.string (nb R)::.int .i64 i::.int .i64 d::.int .i64 (IntKind.i64.wrap ((k:Int) - 1))::zs az 13 63 [])):=pat_fill hpat
   clear hpat
   obtain ⟨x,hx⟩:∃ x,x=nb R:=⟨_,rfl⟩
   have hxs:x.size≤549755813889:=by
    rw [hx,nb_size]
    exact Nat.le_trans (nby_mono (by have:=hS.eq; omega)) hRs
   rw [← hx]
   conv=>whnf
   refine br_intro (fun h3=>?_) (fun h3=>?_)
   ·obtain ⟨j,rfl⟩:∃ j,k=j+1:=by
     rcases Nat.eq_zero_or_pos k with h | h
     ·subst h; exact absurd h3 (by decide)
     ·exact ⟨k - 1,by omega⟩
    have ek:IntKind.i64.wrap (((j+1:Nat):Int) - 1)=(j:Int):=by rw [wrapi64 (by omega) (by omega)]; omega
    rw [ek]
    obtain ⟨T,hT⟩:∃ T,T=2 ^ j*D:=⟨_,rfl⟩
    obtain ⟨y,hy⟩:∃ y,y=nb T:=⟨_,rfl⟩
    have hys:y.size≤549755813889:=by
     rw [hy,hT,nb_size]; exact Nat.le_trans (nby_times (by omega)) (by omega)
    have hgj:=ht.2 j (by omega)
    rw [← hT,← hy] at hgj
    obtain ⟨p,hp2⟩:∃ p,p=2 ^ j:=⟨_,rfl⟩
    have hsh:=shl1 (k:=j) (by omega)
    rw [← hp2] at hsh
    have hpl:d+p≤256:=by
     have:=hS.d
     rw [hp2]
     rw [Nat.pow_succ] at this
     omega
    have ed:IntKind.i64.wrap ((d:Int)+(p:Int))=((d+p:Nat):Int):=by rw [wrapi64 (by omega) (by omega)]; omega
    conv=>whnf
    refine ⟨⟨by omega,by omega⟩,?_⟩
    simp only [toNat_cast,rowAdd_eq,Nat.zero_add]
    conv=>whnf
    refine ⟨by show j < 8; omega,?_⟩
    conv=>whnf
    rw [hgj]
    conv=>whnf
    refine ⟨(R,T),by rw [hx,hy]; rfl,⟨by rw [← nb_size,← hx]; omega,by show nby T≤_; rw [← nb_size,← hy]; omega⟩,?_⟩
    obtain ⟨c,hc⟩:∃ c,c=cmpN R T:=⟨_,rfl⟩
    rw [show cmpMagS.val (R,T)=.int .i64 c from by rw [hc]; rfl]
    conv=>whnf
    refine br_intro (fun h4=>?_) (fun h4=>?_)
    ·have h4:T≤R:=by
      have:=of_decide_eq_true h4
      rw [hc] at this
      unfold cmpN at this
      split at this
      ·omega
      ·omega
     have hst:=divStep_yes hS (by rw [← hT]; exact h4)
     rw [← hT,← hp2] at hst
     conv=>whnf
     refine ⟨⟨by omega,by omega⟩,?_⟩
     simp only [toNat_cast,rowAdd_eq,Nat.zero_add]
     conv=>whnf
     refine ⟨by show j < 8; omega,?_⟩
     conv=>whnf
     rw [hgj]
     conv=>whnf
     refine ⟨(x,y),rfl,⟨⟨by show x.size≤_; omega,by show y.size≤_; omega⟩,by show bnat y≤bnat x; rw [hx,hy,bnat_nb,bnat_nb]; exact h4⟩,?_⟩
     rw [show subMagS.val (x,y)=.string (nb (R - T)) from by show Value.string (nb (bnat x - bnat y))=_; rw [hx,hy,bnat_nb,bnat_nb]]
     conv=>whnf
     simp only [hsh,ed]
     refine .inr ⟨[0,1],[0,6,8,9,10,11,12],?_⟩
     conv=>whnf
     intro _
     conv=>whnf
     refine ⟨_,?_,j,d+p,R - T,(.keep (.sk 5 (.keep (.sk 1 (.keep (.keep (.keep (.keep (.keep (.sk 63 .nil rfl)))))) rfl)) rfl)),rfl,rfl,?_⟩
     ·omega
     ·exact ⟨by omega,hst⟩
    ·have h4:R < T:=by
      have:=of_decide_eq_false h4
      rw [hc] at this
      unfold cmpN at this
      split at this
      ·assumption
      ·split at this <;> omega
     have hst:=divStep_no hS (by rw [← hT]; exact h4)
     conv=>whnf
     rw [hx]
     refine .inr ⟨[0,1],[0,6,8,9,10,11,12],?_⟩
     conv=>whnf
     intro _
     conv=>whnf
     refine ⟨_,?_,j,d,R,(.keep (.sk 5 (.keep (.sk 1 (.keep (.keep (.keep (.keep (.keep (.sk 63 .nil rfl)))))) rfl)) rfl)),rfl,rfl,?_⟩
     ·omega
     ·exact ⟨by omega,hst⟩
   ·have h3:k=0:=by
     have:=of_decide_eq_false h3
     rcases Nat.eq_zero_or_pos k with h | h
     ·exact h
     ·rw [wrapi64 (by omega) (by omega)] at this
      omega
    subst h3
    have hd:d < 256:=by have:=hS.d; omega
    have hst:=divInv_step hI (by omega) (by rw [← hR']; exact hS)
    have hrow:=qRows_step he h2 hd
    obtain ⟨y,hy⟩:=he.1 i h2
    conv=>whnf
    refine ⟨⟨by omega,by omega⟩,?_⟩
    simp only [toNat_cast,rowAdd_eq,Nat.zero_add]
    conv=>whnf
    refine ⟨by show i < n; omega,?_⟩
    conv=>whnf
    rw [hy]
    conv=>whnf
    simp only [u8_of hd,e7]
    rw [hx]
    skip
    refine .inr ⟨[0,1],[0,6,8,9,10],?_⟩
    conv=>whnf
    intro _
    conv=>whnf
    refine ⟨_,?_,i+1,Q*256+d,R,_,(.keep (.sk 5 (.keep (.sk 1 (.keep (.keep (.keep (.sk 65 .nil rfl)))) rfl)) rfl)),rfl,rfl,?_⟩
    ·omega
    ·exact ⟨by omega,hst,hrow⟩
  ·have h2:i=n:=by
    have:=of_decide_eq_false h2
    omega
   subst h2
   obtain ⟨hQ,hR⟩:=divInv_end (by rw [← hn]; exact hI)
   obtain ⟨v,hv,hvs,hvn⟩:=qRows_end he hI.q
   conv=>whnf
   have fin:Value.tuple ⟨[.string (nb Q),.string x]⟩=divMagS.val (s,D):=by rw [hx,hQ,hR]; rfl
   rcases Nat.eq_zero_or_pos i with h0 | h0
   ·subst h0
    conv=>whnf
    have e0:v=⟨#[]⟩:=hv.symm
    subst e0
    refine ⟨⟨#[]⟩,rfl,Nat.zero_le _,?_⟩
    rw [show stripS.val ⟨#[]⟩=.string (nb Q) from by show Value.string (nb (bnat ⟨#[]⟩))=_; rw [hvn]]
    conv=>whnf
    exact fin
   ·obtain ⟨k,rfl⟩:∃ k,i=k+1:=⟨i - 1,by omega⟩
    conv=>whnf
    refine ⟨⟨by show 0+(k+1)≤k+1; omega,fun r hr=>by show ∃ x,e (0+r)=_; rw [Nat.zero_add]; exact he.1 r hr⟩,?_⟩
    rw [show (Blk.flat true (k+1) 1 e).row=e from rfl,hv]
    conv=>whnf
    refine ⟨v,rfl,by show v.size≤_; omega,?_⟩
    rw [show stripS.val v=.string (nb Q) from by show Value.string (nb (bnat v))=_; rw [hvn]]
    conv=>whnf
    exact fin
end Go.Proofs.YtppeponndkfbkaaGreat
/- Contracts of the reference integers: sum, difference, product. -/
set_option maxRecDepth 20000
set_option maxHeartbeats 1000000
namespace Go.Proofs.YtppeponndkfbkaaGreat
open Go Go.Ae
def Erg:Env:=En [(149,.p canonS),(151,.p valueS),(93,.p ofS),(153,.p addMagS),(154,.p subMagS),(150,.p cmpMagS),(152,.p mulMagS)]
theorem Ergok:EnvOk Tryz.prog Erg:=Enk ⟨rcanon_ok,rvalue_ok,rof_ok,raddMag_ok,rsubMag_ok,rcmpMag_ok,rmulMag_ok,trivial⟩ trivial
theorem radd_ok:Snd Tryz.prog 123 addS:=by
 refine snd_of Ergok Dok Tryz.func123 (enters_of Tryz.func123 (by kernel_rfl) rfl) (fun _=>rfl) (fun _=>rfl) ?_
 intro ⟨⟨b,s⟩,⟨c,t⟩⟩ hp
 have hp:s.size≤549755813888∧t.size≤549755813888:=hp
 obtain ⟨x,hx⟩:∃ x,x=IV.z (b,s):=⟨_,rfl⟩
 obtain ⟨y,hy⟩:∃ y,y=IV.z (c,t):=⟨_,rfl⟩
 have hxn:nby x.natAbs≤549755813888:=by rw [hx]; exact IV.nby (i:=(b,s)) hp.1
 have hyn:nby y.natAbs≤549755813888:=by rw [hy]; exact IV.nby (i:=(c,t)) hp.2
 obtain ⟨B,m,hE⟩:=EI.mk' x
 obtain ⟨D,k,hF⟩:=EI.mk' y
 have hms:=hE.size
 have hks:=hF.size
 have ec:canonS.val (b,s)=.agg ⟨[.bool B,.string m]⟩:=by show encI (IV.z (b,s))=_; rw [← hx,hE.enc]
 have ed:canonS.val (c,t)=.agg ⟨[.bool D,.string k]⟩:=by show encI (IV.z (c,t))=_; rw [← hy,hF.enc]
 have fin:∀ v:Value,v=encI (x+y)→v=addS.val ((b,s),(c,t)):=fun v h=>by rw [h,hx,hy]; rfl
 conv=>whnf
 refine .inl ⟨3,[[],[0],[],[0,1,2],[0,1,2,3],[0,1,2,3,4]],by kernel_rfl,?_⟩
 conv=>whnf
 refine ⟨(b,s),rfl,hp.1,?_⟩
 rw [ec]
 conv=>whnf
 refine ⟨(c,t),rfl,hp.2,?_⟩
 rw [ed]
 conv=>whnf
 by_cases h1:m.size < 8
 ·rw [show decide (((m.size:Nat):Int) < 8)=true from decide_eq_true (by omega)]
  conv=>whnf
  by_cases h2:k.size < 8
  ·rw [show decide (((k.size:Nat):Int) < 8)=true from decide_eq_true (by omega)]
   conv=>whnf
   refine .inl ⟨3,[[],[0],[],[0,1,2],[0,1,2,3],[0,1,2,3,4],[0,1,2,3,4,5]],by kernel_rfl,?_⟩
   conv=>whnf
   refine ⟨(B,m),rfl,by show m.size≤7; omega,?_⟩
   rw [show valueS.val (B,m)=.int .i64 x from by show Value.int .i64 (IV.z (B,m))=_; rw [hE.val]]
   conv=>whnf
   refine ⟨(D,k),rfl,by show k.size≤7; omega,?_⟩
   rw [show valueS.val (D,k)=.int .i64 y from by show Value.int .i64 (IV.z (D,k))=_; rw [hF.val]]
   conv=>whnf
   have z1:=hE.small (by omega)
   have z2:=hF.small (by omega)
   rw [show IntKind.i64.wrap (x+y)=x+y from wrapi64 (by omega) (by omega)]
   refine ⟨x+y,rfl,⟨by omega,by omega⟩,?_⟩
   conv=>whnf
   exact fin _ rfl
  ·rw [show decide (((k.size:Nat):Int) < 8)=false from decide_eq_false (by omega)]
   conv=>whnf
   refine br_intro (fun h3=>?_) (fun h3=>?_)
   ·have h3:B=D:=eq_of_beq h3
    have e:=hE.same hF h3
    obtain ⟨v,hv⟩:∃ v,v=nb (bnat m+bnat k):=⟨_,rfl⟩
    rw [← hv] at e
    conv=>whnf
    refine .inl ⟨7,[[],[0],[],[2],[],[4],[2,3,4,5],[0,1,2,3,4,5,6],[0,1,2,3,4,5,6,7]],by kernel_rfl,?_⟩
    conv=>whnf
    refine ⟨(m,k),rfl,⟨by show m.size≤_; omega,by show k.size≤_; omega⟩,?_⟩
    rw [show addMagS.val (m,k)=.string v from by rw [hv]; rfl]
    conv=>whnf
    exact fin _ e
   ·have h3:B≠D:=by
     intro e
     subst e
     cases B <;> cases h3
    obtain ⟨q,hq⟩:∃ q,q=cmpN (bnat m) (bnat k):=⟨_,rfl⟩
    conv=>whnf
    refine ⟨(bnat m,bnat k),by show [Value.string (nb (bnat m)),Value.string (nb (bnat k))]=[Value.string m,Value.string k]; rw [← hE.eta,← hF.eta],⟨by show nby (bnat m)≤_; exact Nat.le_trans (nby_bnat_le _) (by omega),by show nby (bnat k)≤_; exact Nat.le_trans (nby_bnat_le _) (by omega)⟩,?_⟩
    rw [show cmpMagS.val (bnat m,bnat k)=.int .i64 q from by rw [hq]; rfl]
    conv=>whnf
    refine br_intro (fun h4=>?_) (fun h4=>?_)
    ·have h4:bnat k=bnat m:=by
      have h4:q=0:=by simpa using h4
      rw [hq] at h4
      unfold cmpN at h4
      split at h4
      ·omega
      ·split at h4 <;> omega
     have e:=hE.equal hF h3 h4
     conv=>whnf
     exact fin _ (by rw [e]; exact encI_zero.symm)
    ·have h4':bnat k≠bnat m:=by
      intro h5
      have h6:q=0:=by rw [hq,h5]; unfold cmpN; simp
      subst h6
      simp at h4
     conv=>whnf
     refine br_intro (fun h5=>?_) (fun h5=>?_)
     ·have h5:bnat k < bnat m:=by
       have h5:=of_decide_eq_true h5
       rw [hq] at h5
       unfold cmpN at h5
       split at h5
       ·omega
       ·split at h5 <;> omega
      have e:=hE.differ hF h3 h5
      obtain ⟨v,hv⟩:∃ v,v=nb (bnat m - bnat k):=⟨_,rfl⟩
      rw [← hv] at e
      conv=>whnf
      refine .inl ⟨7,[[],[0],[],[2],[],[4],[2,3,4,5],[0,1,2,3,4,5,6],[0,1,2,3,4,5,6,7]],by kernel_rfl,?_⟩
      conv=>whnf
      refine ⟨(m,k),rfl,⟨⟨by show m.size≤_; omega,by show k.size≤_; omega⟩,Nat.le_of_lt h5⟩,?_⟩
      rw [show subMagS.val (m,k)=.string v from by rw [hv]; rfl]
      conv=>whnf
      exact fin _ e
     ·have h5:bnat m < bnat k:=by
       have h5:=of_decide_eq_false h5
       rw [hq] at h5
       unfold cmpN at h5
       split at h5
       ·omega
       ·split at h5 <;> omega
      have e:=hF.differ hE (Ne.symm h3) h5
      rw [Int.add_comm] at e
      obtain ⟨v,hv⟩:∃ v,v=nb (bnat k - bnat m):=⟨_,rfl⟩
      rw [← hv] at e
      conv=>whnf
      refine .inl ⟨7,[[],[0],[],[2],[],[4],[2,3,4,5],[0,1,2,3,4,5,6],[0,1,2,3,4,5,6,7]],by kernel_rfl,?_⟩
      conv=>whnf
      refine ⟨(k,m),rfl,⟨⟨by show k.size≤_; omega,by show m.size≤_; omega⟩,Nat.le_of_lt h5⟩,?_⟩
      rw [show subMagS.val (k,m)=.string v from by rw [hv]; rfl]
      conv=>whnf
      exact fin _ e
 ·rw [show decide (((m.size:Nat):Int) < 8)=false from decide_eq_false (by omega)]
  conv=>whnf
  refine br_intro (fun h3=>?_) (fun h3=>?_)
  ·have h3:B=D:=eq_of_beq h3
   have e:=hE.same hF h3
   obtain ⟨v,hv⟩:∃ v,v=nb (bnat m+bnat k):=⟨_,rfl⟩
   rw [← hv] at e
   conv=>whnf
   refine .inl ⟨7,[[],[0],[],[2],[],[4],[2,3,4,5],[0,1,2,3,4,5,6],[0,1,2,3,4,5,6,7]],by kernel_rfl,?_⟩
   conv=>whnf
   refine ⟨(m,k),rfl,⟨by show m.size≤_; omega,by show k.size≤_; omega⟩,?_⟩
   rw [show addMagS.val (m,k)=.string v from by rw [hv]; rfl]
   conv=>whnf
   exact fin _ e
  ·have h3:B≠D:=by
    intro e
    subst e
    cases B <;> cases h3
   obtain ⟨q,hq⟩:∃ q,q=cmpN (bnat m) (bnat k):=⟨_,rfl⟩
   conv=>whnf
   refine ⟨(bnat m,bnat k),by show [Value.string (nb (bnat m)),Value.string (nb (bnat k))]=[Value.string m,Value.string k]; rw [← hE.eta,← hF.eta],⟨by show nby (bnat m)≤_; exact Nat.le_trans (nby_bnat_le _) (by omega),by show nby (bnat k)≤_; exact Nat.le_trans (nby_bnat_le _) (by omega)⟩,?_⟩
   rw [show cmpMagS.val (bnat m,bnat k)=.int .i64 q from by rw [hq]; rfl]
   conv=>whnf
   refine br_intro (fun h4=>?_) (fun h4=>?_)
   ·have h4:bnat k=bnat m:=by
     have h4:q=0:=by simpa using h4
     rw [hq] at h4
     unfold cmpN at h4
     split at h4
     ·omega
     ·split at h4 <;> omega
    have e:=hE.equal hF h3 h4
    conv=>whnf
    exact fin _ (by rw [e]; exact encI_zero.symm)
   ·have h4':bnat k≠bnat m:=by
     intro h5
     have h6:q=0:=by rw [hq,h5]; unfold cmpN; simp
     subst h6
     simp at h4
    conv=>whnf
    refine br_intro (fun h5=>?_) (fun h5=>?_)
    ·have h5:bnat k < bnat m:=by
      have h5:=of_decide_eq_true h5
      rw [hq] at h5
      unfold cmpN at h5
      split at h5
      ·omega
      ·split at h5 <;> omega
     have e:=hE.differ hF h3 h5
     obtain ⟨v,hv⟩:∃ v,v=nb (bnat m - bnat k):=⟨_,rfl⟩
     rw [← hv] at e
     conv=>whnf
     refine .inl ⟨7,[[],[0],[],[2],[],[4],[2,3,4,5],[0,1,2,3,4,5,6],[0,1,2,3,4,5,6,7]],by kernel_rfl,?_⟩
     conv=>whnf
     refine ⟨(m,k),rfl,⟨⟨by show m.size≤_; omega,by show k.size≤_; omega⟩,Nat.le_of_lt h5⟩,?_⟩
     rw [show subMagS.val (m,k)=.string v from by rw [hv]; rfl]
     conv=>whnf
     exact fin _ e
    ·have h5:bnat m < bnat k:=by
      have h5:=of_decide_eq_false h5
      rw [hq] at h5
      unfold cmpN at h5
      split at h5
      ·omega
      ·split at h5 <;> omega
     have e:=hF.differ hE (Ne.symm h3) h5
     rw [Int.add_comm] at e
     obtain ⟨v,hv⟩:∃ v,v=nb (bnat k - bnat m):=⟨_,rfl⟩
     rw [← hv] at e
     conv=>whnf
     refine .inl ⟨7,[[],[0],[],[2],[],[4],[2,3,4,5],[0,1,2,3,4,5,6],[0,1,2,3,4,5,6,7]],by kernel_rfl,?_⟩
     conv=>whnf
     refine ⟨(k,m),rfl,⟨⟨by show k.size≤_; omega,by show m.size≤_; omega⟩,Nat.le_of_lt h5⟩,?_⟩
     rw [show subMagS.val (k,m)=.string v from by rw [hv]; rfl]
     conv=>whnf
     exact fin _ e
def Erh:Env:=En [(133,.p negS),(123,.p addS)]
theorem Erhok:EnvOk Tryz.prog Erh:=Enk ⟨rneg_ok,radd_ok,trivial⟩ trivial
theorem rsub_ok:Snd Tryz.prog 163 subS:=by
 refine snd_of Erhok Dok Tryz.func163 (enters_of Tryz.func163 (by kernel_rfl) rfl) (fun _=>rfl) (fun _=>rfl) ?_
 intro ⟨⟨b,s⟩,⟨c,t⟩⟩ hp
 have hp:s.size≤549755813888∧t.size≤549755813888:=hp
 obtain ⟨y,hy⟩:∃ y,y=IV.z (c,t):=⟨_,rfl⟩
 have hyn:nby y.natAbs≤549755813888:=by rw [hy]; exact IV.nby (i:=(c,t)) hp.2
 obtain ⟨D,k,hF⟩:=EI.mk' (-y)
 have hks:=hF.size
 rw [Int.natAbs_neg] at hks
 conv=>whnf
 refine .inl ⟨3,[[],[],[1],[0,1,2],[0,1,2,3]],by kernel_rfl,?_⟩
 conv=>whnf
 refine ⟨(c,t),rfl,hp.2,?_⟩
 rw [show negS.val (c,t)=.agg ⟨[.bool D,.string k]⟩ from by show encI (-IV.z (c,t))=_; rw [← hy,hF.enc]]
 conv=>whnf
 refine ⟨((b,s),(D,k)),rfl,⟨hp.1,by show k.size≤_; omega⟩,?_⟩
 obtain ⟨V,n,hG⟩:=EI.mk' (IV.z (b,s)+-y)
 rw [show addS.val ((b,s),(D,k))=.agg ⟨[.bool V,.string n]⟩ from by show encI (IV.z (b,s)+IV.z (D,k))=_; rw [hF.val,hG.enc]]
 conv=>whnf
 rw [show subS.val ((b,s),(c,t))=.agg ⟨[.bool V,.string n]⟩ from by show encI (IV.z (b,s) - IV.z (c,t))=_; rw [← hy,Int.sub_eq_add_neg,hG.enc]]
 rfl
theorem rmul_ok:Snd Tryz.prog 122 mulS:=by
 refine snd_of Ergok Dok Tryz.func122 (enters_of Tryz.func122 (by kernel_rfl) rfl) (fun _=>rfl) (fun _=>rfl) ?_
 intro ⟨⟨b,s⟩,⟨c,t⟩⟩ hp
 have hp:s.size≤549755813888∧t.size≤549755813888:=hp
 obtain ⟨x,hx⟩:∃ x,x=IV.z (b,s):=⟨_,rfl⟩
 obtain ⟨y,hy⟩:∃ y,y=IV.z (c,t):=⟨_,rfl⟩
 have hxn:nby x.natAbs≤549755813888:=by rw [hx]; exact IV.nby (i:=(b,s)) hp.1
 have hyn:nby y.natAbs≤549755813888:=by rw [hy]; exact IV.nby (i:=(c,t)) hp.2
 obtain ⟨B,m,hE⟩:=EI.mk' x
 obtain ⟨D,k,hF⟩:=EI.mk' y
 have hms:=hE.size
 have hks:=hF.size
 have ec:canonS.val (b,s)=.agg ⟨[.bool B,.string m]⟩:=by show encI (IV.z (b,s))=_; rw [← hx,hE.enc]
 have ed:canonS.val (c,t)=.agg ⟨[.bool D,.string k]⟩:=by show encI (IV.z (c,t))=_; rw [← hy,hF.enc]
 have fin:∀ v:Value,v=encI (x*y)→v=mulS.val ((b,s),(c,t)):=fun v h=>by rw [h,hx,hy]; rfl
 have ew:IntKind.i64.wrap (((m.size:Nat):Int)+((k.size:Nat):Int))=((m.size+k.size:Nat):Int):=by rw [wrapi64 (by omega) (by omega)]; omega
 conv=>whnf
 refine .inl ⟨3,[[],[0],[],[0,1,2],[0,1,2,3],[0,1,2,3,4]],by kernel_rfl,?_⟩
 conv=>whnf
 refine ⟨(b,s),rfl,hp.1,?_⟩
 rw [ec]
 conv=>whnf
 refine ⟨(c,t),rfl,hp.2,?_⟩
 rw [ed]
 conv=>whnf
 by_cases h1:x=0
 ·rw [show (m.toList == (⟨#[]⟩:ByteArray).toList)=true from by rw [hE.nil,decide_eq_true h1]]
  conv=>whnf
  exact fin _ (by rw [h1,Int.zero_mul]; exact encI_zero.symm)
 ·rw [show (m.toList == (⟨#[]⟩:ByteArray).toList)=false from by rw [hE.nil,decide_eq_false h1]]
  conv=>whnf
  by_cases h2:y=0
  ·rw [show (k.toList == (⟨#[]⟩:ByteArray).toList)=true from by rw [hF.nil,decide_eq_true h2]]
   conv=>whnf
   exact fin _ (by rw [h2,Int.mul_zero]; exact encI_zero.symm)
  ·rw [show (k.toList == (⟨#[]⟩:ByteArray).toList)=false from by rw [hF.nil,decide_eq_false h2]]
   conv=>whnf
   by_cases h3:m.size+k.size < 8
   ·refine br_yes ?_ ?_
    ·exact decide_eq_true (by rw [ew]; omega)
    conv=>whnf
    refine .inl ⟨3,[[],[0],[],[0,1,2],[0,1,2,3],[0,1,2,3,4],[0,1,2,3,4,5]],by kernel_rfl,?_⟩
    conv=>whnf
    refine ⟨(B,m),rfl,by show m.size≤7; omega,?_⟩
    rw [show valueS.val (B,m)=.int .i64 x from by show Value.int .i64 (IV.z (B,m))=_; rw [hE.val]]
    conv=>whnf
    refine ⟨(D,k),rfl,by show k.size≤7; omega,?_⟩
    rw [show valueS.val (D,k)=.int .i64 y from by show Value.int .i64 (IV.z (D,k))=_; rw [hF.val]]
    conv=>whnf
    have hb:=nby_mul_small (x:=x) (y:=y) (by omega)
    obtain ⟨w,hw⟩:∃ w,w=x*y:=⟨_,rfl⟩
    rw [← hw] at hb
    rw [show IntKind.i64.wrap (x*y)=w from by rw [← hw]; exact wrapi64 hb.1 hb.2]
    refine ⟨w,rfl,hb,?_⟩
    obtain ⟨V,n,hG⟩:=EI.mk' w
    rw [show ofS.val w=.agg ⟨[.bool V,.string n]⟩ from hG.enc]
    conv=>whnf
    exact fin _ (by rw [← hw,hG.enc]; rfl)
   ·refine br_intro (fun h=>absurd (of_decide_eq_true h) (by rw [ew]; omega)) (fun _=>?_)
    obtain ⟨v,hv⟩:∃ v,v=nb (bnat m*bnat k):=⟨_,rfl⟩
    have e:=hE.mul hF h1 h2
    rw [← hv] at e
    conv=>whnf
    refine .inl ⟨10,[[],[0],[],[2],[0,1,2,3],[],[5],[],[7],[5,6,7,8],[0,1,2,3,4,5,6,7,8,9],[0,1,2,3,4,5,6,7,8,9,10]],by kernel_rfl,?_⟩
    conv=>whnf
    refine ⟨(m,k),rfl,⟨by show m.size≤_; omega,by show k.size≤_; omega⟩,?_⟩
    rw [show mulMagS.val (m,k)=.string v from by rw [hv]; rfl]
    conv=>whnf
    exact fin _ e
end Go.Proofs.YtppeponndkfbkaaGreat
/- Contracts of the reference integers: greatest divisor, division. -/
set_option maxRecDepth 20000
set_option maxHeartbeats 1000000
namespace Go.Proofs.YtppeponndkfbkaaGreat
open Go Go.Ae
def Eri:Env:=En [(160,.p stripS),(162,.p smallS),(93,.p ofS),(161,.p divMagS)]
theorem Eriok:EnvOk Tryz.prog Eri:=Enk ⟨rtrim_ok,rsmall_ok,rof_ok,rdivMag_ok,trivial⟩ trivial
theorem rgcd_ok:Snd Tryz.prog 134 gcdS:=by
 refine snd_of Eriok Dok Tryz.func134 (enters_of Tryz.func134 (by kernel_rfl) rfl) (fun _=>rfl) (fun _=>rfl) ?_
 intro ⟨⟨b,s⟩,⟨c,t⟩⟩ hp
 have hp:s.size≤549755813888∧t.size≤549755813888:=hp
 have hA:=nby_bnat_le s
 have hD:=nby_bnat_le t
 obtain ⟨G,hG⟩:∃ G,G=Nat.gcd (bnat s) (bnat t):=⟨_,rfl⟩
 have fin:∀ v:Value,v=encI ((G:Nat):Int)→v=gcdS.val ((b,s),(c,t)):=fun v h=>by
  rw [h,hG]
  show _=encI ((Int.gcd (IV.z (b,s)) (IV.z (c,t)):Nat):Int)
  unfold Int.gcd IV.z
  rw [valI_abs,valI_abs]
 conv=>whnf
 refine .inl ⟨5,[[],[0],[0,1],[],[3],[0,1,2,3,4],[0,1,2,3,4,5],[0,1,2,3,4,5,6]],by kernel_rfl,?_⟩
 conv=>whnf
 refine ⟨s,rfl,by show s.size≤_; omega,?_⟩
 conv=>whnf
 refine ⟨t,rfl,by show t.size≤_; omega,?_⟩
 conv=>whnf
 refine .inl ⟨fun mm tz hz=>∃ (A:Nat) (D:Nat),Pat (nos 4 (some (.pointer (some ⟨0,0,none⟩))::some (.string (nb A))::some (.string (nb D))::nos 46 [])) tz∧hz=[some (.expl true 2 [[.bool false,.string ⟨#[]⟩]])]∧D=mm∧((nby A≤549755813888∧nby D≤549755813888)∧Nat.gcd A D=G),.inr ⟨[2],[4,5,6],?_⟩,?_⟩
 ·conv=>whnf
  intro _
  conv=>whnf
  refine ⟨_,bnat s,bnat t,(.sk 4 (.keep (.keep (.keep (.sk 46 .nil rfl)))) rfl),rfl,rfl,?_⟩
  exact ⟨⟨by omega,by omega⟩,hG.symm⟩
 rintro mm tms _ ⟨A,D,hpat,rfl,rfl,⟨hnl,hg⟩⟩
 obtain ⟨az,rfl⟩:∃ az:Nat→Value,tms=zs az 0 4 (.pointer (some ⟨0,0,none⟩)::.string (nb A)::.string (nb D)::zs az 7 46 []):=pat_fill hpat
 clear hpat
 obtain ⟨x,hx⟩:∃ x,x=nb A:=⟨_,rfl⟩
 obtain ⟨y,hy⟩:∃ y,y=nb D:=⟨_,rfl⟩
 have hxs:x.size=nby A:=by rw [hx,nb_size]
 have hys:y.size=nby D:=by rw [hy,nb_size]
 have hxn:bnat x=A:=by rw [hx,bnat_nb]
 have hyn:bnat y=D:=by rw [hy,bnat_nb]
 rw [← hx,← hy]
 conv=>whnf
 by_cases h1:D=0
 ·rw [show (!y.toList == (⟨#[]⟩:ByteArray).toList)=false from by rw [hy]; exact mag_zero h1]
  conv=>whnf
  rw [show (y.toList == (⟨#[]⟩:ByteArray).toList)=true from by
   have:=mag_zero h1
   rw [← hy] at this
   simpa using this]
  conv=>whnf
  rw [h1,Nat.gcd_zero_right] at hg
  exact fin _ (by rw [hx,← hg]; exact encI_mk (decide_eq_false (by omega)).symm (by omega))
 ·rw [show (!y.toList == (⟨#[]⟩:ByteArray).toList)=true from by rw [hy]; exact mag_pos h1]
  conv=>whnf
  by_cases h2:x.size > 7
  ·rw [show decide (((x.size:Nat):Int) > 7)=true from decide_eq_true (by omega)]
   conv=>whnf
   obtain ⟨q,hq⟩:∃ q,q=nb (A / D):=⟨_,rfl⟩
   obtain ⟨r,hr⟩:∃ r,r=nb (A % D):=⟨_,rfl⟩
   refine ⟨(x,D),by rw [hy]; rfl,⟨by show x.size≤_; omega,by show nby D≤_; omega,h1⟩,?_⟩
   rw [show divMagS.val (x,D)=.tuple ⟨[.string q,.string r]⟩ from by show Value.tuple ⟨[.string (nb (bnat x / D)),.string (nb (bnat x % D))]⟩=_; rw [hxn,hq,hr]]
   conv=>whnf
   rw [hy,hr]
   have hml:nby (A % D)≤nby D:=nby_mono (Nat.le_of_lt (Nat.mod_lt _ (by omega)))
   refine .inr ⟨[0],[4,5,6],?_⟩
   conv=>whnf
   intro _
   conv=>whnf
   refine ⟨_,?_,D,A % D,(.sk 4 (.keep (.keep (.keep (.sk 46 .nil rfl)))) rfl),rfl,rfl,?_⟩
   ·exact Nat.mod_lt _ (by omega)
   ·exact ⟨⟨hnl.2,by omega⟩,by rw [Nat.gcd_comm,← Nat.gcd_rec,Nat.gcd_comm]; exact hg⟩
  ·rw [show decide (((x.size:Nat):Int) > 7)=false from decide_eq_false (by omega)]
   conv=>whnf
   by_cases h3:y.size > 7
   ·rw [show decide (((y.size:Nat):Int) > 7)=true from decide_eq_true (by omega)]
    conv=>whnf
    obtain ⟨q,hq⟩:∃ q,q=nb (A / D):=⟨_,rfl⟩
    obtain ⟨r,hr⟩:∃ r,r=nb (A % D):=⟨_,rfl⟩
    refine ⟨(x,D),by rw [hy]; rfl,⟨by show x.size≤_; omega,by show nby D≤_; omega,h1⟩,?_⟩
    rw [show divMagS.val (x,D)=.tuple ⟨[.string q,.string r]⟩ from by show Value.tuple ⟨[.string (nb (bnat x / D)),.string (nb (bnat x % D))]⟩=_; rw [hxn,hq,hr]]
    conv=>whnf
    rw [hy,hr]
    have hml:nby (A % D)≤nby D:=nby_mono (Nat.le_of_lt (Nat.mod_lt _ (by omega)))
    refine .inr ⟨[0],[4,5,6],?_⟩
    conv=>whnf
    intro _
    conv=>whnf
    refine ⟨_,?_,D,A % D,(.sk 4 (.keep (.keep (.keep (.sk 46 .nil rfl)))) rfl),rfl,rfl,?_⟩
    ·exact Nat.mod_lt _ (by omega)
    ·exact ⟨⟨hnl.2,by omega⟩,by rw [Nat.gcd_comm,← Nat.gcd_rec,Nat.gcd_comm]; exact hg⟩
   ·rw [show decide (((y.size:Nat):Int) > 7)=false from decide_eq_false (by omega)]
    conv=>whnf
    rw [show (y.toList == (⟨#[]⟩:ByteArray).toList)=false from by
     have:=mag_pos h1
     rw [← hy] at this
     simpa using this]
    conv=>whnf
    refine ⟨x,rfl,by show x.size≤7; omega,?_⟩
    rw [show smallS.val x=.int .i64 A from by show Value.int .i64 (bnat x:Nat)=_; rw [hxn]]
    conv=>whnf
    refine ⟨y,rfl,by show y.size≤7; omega,?_⟩
    rw [show smallS.val y=.int .i64 D from by show Value.int .i64 (bnat y:Nat)=_; rw [hyn]]
    conv=>whnf
    have lA:A < 72057594037927936:=Nat.lt_of_lt_of_le (lt_nby A) (pow7 (by omega))
    have lD:D < 72057594037927936:=Nat.lt_of_lt_of_le (lt_nby D) (pow7 (by omega))
    refine .inl ⟨fun mm tz hz=>∃ (m:Nat) (n:Nat),Pat (nos 4 (some (.pointer (some ⟨0,0,none⟩))::nos 4 (some (.int .i64 m)::some (.int .i64 n)::nos 42 []))) tz∧hz=[some (.expl true 2 [[.bool false,.string ⟨#[]⟩]])]∧n=mm∧((m < 72057594037927936∧n < 72057594037927936)∧Nat.gcd m n=G),.inr ⟨[0],[4,9,10],?_⟩,?_⟩
    ·conv=>whnf
     intro _
     conv=>whnf
     refine ⟨_,A,D,(.sk 4 (.keep (.sk 4 (.keep (.keep (.sk 42 .nil rfl))) rfl)) rfl),rfl,rfl,?_⟩
     exact ⟨⟨lA,lD⟩,hg⟩
    rintro mm tms _ ⟨m,n,hpat,rfl,rfl,⟨hmn,hg2⟩⟩
    obtain ⟨az,rfl⟩:∃ az:Nat→Value,tms=zs az 0 4 (.pointer (some ⟨0,0,none⟩)::zs az 5 4 (.int .i64 m::.int .i64 n::zs az 11 42 [])):=pat_fill hpat
    clear hpat
    conv=>whnf
    refine br_intro (fun h4=>?_) (fun h4=>?_)
    ·have h4:0 < n:=by
      have:=of_decide_eq_true h4
      omega
     have hlt:=Nat.mod_lt m h4
     conv=>whnf
     refine .inl ⟨5,[[],[],[],[1,2],[0,1],[0,1,2,3,4]],by kernel_rfl,?_⟩
     conv=>whnf
     rw [show decide (((n:Nat):Int)≠0)=true from decide_eq_true (by omega)]
     conv=>whnf
     rw [show Int.tmod ((m:Nat):Int) ((n:Nat):Int)=((m % n:Nat):Int) from rfl]
     refine .inr ⟨[0],[4,9,10],?_⟩
     conv=>whnf
     intro _
     conv=>whnf
     refine ⟨_,?_,n,m % n,(.sk 4 (.keep (.sk 4 (.keep (.keep (.sk 42 .nil rfl))) rfl)) rfl),rfl,rfl,?_⟩
     ·exact hlt
     ·exact ⟨⟨hmn.2,by omega⟩,by rw [Nat.gcd_comm,← Nat.gcd_rec,Nat.gcd_comm]; exact hg2⟩
    ·have h4:n=0:=by
      have:=of_decide_eq_false h4
      omega
     subst h4
     rw [Nat.gcd_zero_right] at hg2
     conv=>whnf
     refine ⟨((m:Nat):Int),rfl,⟨by omega,by omega⟩,?_⟩
     obtain ⟨V,n,hV⟩:=EI.mk' ((m:Nat):Int)
     rw [show ofS.val ((m:Nat):Int)=.agg ⟨[.bool V,.string n]⟩ from hV.enc]
     conv=>whnf
     exact fin _ (by rw [← hg2,hV.enc]; rfl)
def Erj:Env:=En [(149,.p canonS),(162,.p smallS),(93,.p ofS),(161,.p divMagS),(133,.p negS),(163,.p subS)]
theorem Erjok:EnvOk Tryz.prog Erj:=Enk ⟨rcanon_ok,rsmall_ok,rof_ok,rdivMag_ok,rneg_ok,rsub_ok,trivial⟩ trivial
theorem rdiv_ok:Snd Tryz.prog 135 divS:=by
 refine snd_of Erjok Dok Tryz.func135 (enters_of Tryz.func135 (by kernel_rfl) rfl) (fun _=>rfl) (fun _=>rfl) ?_
 intro ⟨⟨b,s⟩,⟨c,t⟩⟩ hp
 have hp:s.size≤549755813888∧t.size≤549755813888:=hp
 obtain ⟨x,hx⟩:∃ x,x=IV.z (b,s):=⟨_,rfl⟩
 obtain ⟨y,hy⟩:∃ y,y=IV.z (c,t):=⟨_,rfl⟩
 have hxn:nby x.natAbs≤549755813888:=by rw [hx]; exact IV.nby (i:=(b,s)) hp.1
 have hyn:nby y.natAbs≤549755813888:=by rw [hy]; exact IV.nby (i:=(c,t)) hp.2
 obtain ⟨B,m,hE⟩:=EI.mk' x
 obtain ⟨D,k,hF⟩:=EI.mk' y
 have hms:=hE.size
 have hks:=hF.size
 have ec:canonS.val (b,s)=.agg ⟨[.bool B,.string m]⟩:=by show encI (IV.z (b,s))=_; rw [← hx,hE.enc]
 have ed:canonS.val (c,t)=.agg ⟨[.bool D,.string k]⟩:=by show encI (IV.z (c,t))=_; rw [← hy,hF.enc]
 conv=>whnf
 refine .inl ⟨3,[[],[0],[],[0,1,2],[0,1,2,3],[0,1,2,3,4]],by kernel_rfl,?_⟩
 conv=>whnf
 refine ⟨(b,s),rfl,hp.1,?_⟩
 rw [ec]
 conv=>whnf
 refine ⟨(c,t),rfl,hp.2,?_⟩
 rw [ed]
 conv=>whnf
 by_cases h2:y=0
 ·rw [show (k.toList == (⟨#[]⟩:ByteArray).toList)=true from by rw [hF.nil,decide_eq_true h2]]
  conv=>whnf
  have e:Int.fdiv (IV.z (b,s)) 0=0:=Int.fdiv_zero _
  have hz:IV.z (c,t)=0:=by rw [← hy]; exact h2
  simp only [divS,hz,e,if_true,encI_zero]
  rfl
 ·rw [show (k.toList == (⟨#[]⟩:ByteArray).toList)=false from by rw [hF.nil,decide_eq_false h2]]
  have fin:∀ (q r:Value),q=encI (Int.fdiv x y)→r=encI (Int.fmod x y)→Value.tuple ⟨[q,r,.int .i64 0]⟩=divS.val ((b,s),(c,t)):=fun q r hq hr=>by
   rw [hx,hy] at hq hr
   have hz:IV.z (c,t)≠0:=by rw [← hy]; exact h2
   simp only [divS,if_neg hz]
   rw [hq,hr]
  obtain ⟨zq,hzq⟩:∃ z:Int,z=((bnat m / bnat k:Nat):Int):=⟨_,rfl⟩
  obtain ⟨zr,hzr⟩:∃ z:Int,z=((bnat m % bnat k:Nat):Int):=⟨_,rfl⟩
  obtain ⟨hzq0,hzqm⟩:0≤zq∧zq≤bnat m:=by rw [hzq]; exact ⟨Int.natCast_nonneg _,Int.ofNat_le.2 (Nat.div_le_self _ _)⟩
  obtain ⟨qs,hq⟩:=EI.nonneg hzq0
  obtain ⟨rs,hr⟩:=EI.nonneg (show 0≤zr by rw [hzr]; exact Int.natCast_nonneg _)
  have hk0:bnat k≠0:=by rw [hF.abs]; omega
  have hz0:0≤zr∧zr < bnat k:=by
   have:=Nat.mod_lt (bnat m) (Nat.pos_of_ne_zero hk0)
   omega
  have hqz:nby zq.natAbs≤549755813888:=by
   have h3:=nby_mono (Nat.div_le_self (bnat m) (bnat k))
   have h4:=nby_bnat_le m
   have:zq.natAbs=bnat m / bnat k:=by rw [hzq]; rfl
   rw [this]
   omega
  have hrz:nby zr.natAbs≤549755813888:=by
   have h3:=nby_mono (Nat.mod_le (bnat m) (bnat k))
   have h4:=nby_bnat_le m
   have:zr.natAbs=bnat m % bnat k:=by rw [hzr]; rfl
   rw [this]
   omega
  conv=>whnf
  by_cases h3:m.size < 8∧k.size < 8
  ·have lm:bnat m < 72057594037927936:=Nat.lt_of_lt_of_le (bnat_lt m) (pow7 (by omega))
   have lk:bnat k < 72057594037927936:=Nat.lt_of_lt_of_le (bnat_lt k) (pow7 (by omega))
   obtain ⟨M,hM⟩:∃ M,M=bnat m:=⟨_,rfl⟩
   obtain ⟨N,hN⟩:∃ N,N=bnat k:=⟨_,rfl⟩
   rw [show decide (((m.size:Nat):Int) < 8)=true from decide_eq_true (by omega)]
   conv=>whnf
   rw [show decide (((k.size:Nat):Int) < 8)=true from decide_eq_true (by omega)]
   conv=>whnf
   refine .inl ⟨5,[[],[0],[0,1],[],[3],[0,1,2,3,4],[0,1,2,3,4,5],[0,1,2,3,4,5,6]],by kernel_rfl,?_⟩
   conv=>whnf
   refine ⟨m,rfl,by show m.size≤7; omega,?_⟩
   rw [show smallS.val m=.int .i64 M from by rw [hM]; rfl]
   conv=>whnf
   refine ⟨k,rfl,by show k.size≤7; omega,?_⟩
   rw [show smallS.val k=.int .i64 N from by rw [hN]; rfl]
   conv=>whnf
   refine .inl ⟨7,[[],[],[0,1],[0,1,2],[],[],[4,5],[0,1,2,3,4,5,6],[0,1,2,3,4,5,6,7],[0,1,2,3,4,5,6,7,8]],by kernel_rfl,?_⟩
   have eq:IntKind.i64.wrap (Int.tdiv (M:Int) (N:Int))=zq:=by
    rw [tdiv_nat,hzq,hM,hN]
    exact wrap_nat (Nat.lt_of_le_of_lt (Nat.div_le_self _ _) lm)
   have er:Int.tmod (M:Int) (N:Int)=zr:=by rw [tmod_nat,hzr,hM,hN]
   conv=>whnf
   rw [show decide (((N:Nat):Int)≠0)=true from decide_eq_true (by omega)]
   conv=>whnf
   rw [eq]
   refine ⟨zq,rfl,?_,?_⟩
   ·exact ⟨by omega,by omega⟩
   rw [show ofS.val zq=.agg ⟨[.bool false,.string qs]⟩ from hq.enc]
   conv=>whnf
   rw [show decide (((N:Nat):Int)≠0)=true from decide_eq_true (by omega)]
   conv=>whnf
   rw [er]
   refine ⟨zr,rfl,⟨by omega,by omega⟩,?_⟩
   rw [show ofS.val zr=.agg ⟨[.bool false,.string rs]⟩ from hr.enc]
   conv=>whnf
   refine br_intro (fun h5=>?_) (fun h5=>?_)
   ·have h5:B≠D:=by
     intro e
     subst e
     cases B <;> cases h5
    obtain ⟨qb2,qs2,hq2⟩:=EI.mk' (-zq)
    have hq2s:=hq2.size
    rw [Int.natAbs_neg] at hq2s
    conv=>whnf
    refine ⟨(false,qs),rfl,by show qs.size≤_; rw [hq.size]; omega,?_⟩
    rw [show negS.val (false,qs)=.agg ⟨[.bool qb2,.string qs2]⟩ from by show encI (-IV.z (false,qs))=_; rw [hq.val,hq2.enc]]
    conv=>whnf
    by_cases h6:zr=0
    ·rw [show (!rs.toList == (⟨#[]⟩:ByteArray).toList)=false from by rw [hr.nn]; exact decide_eq_false (by omega)]
     obtain ⟨hz,hw⟩:=div_zero0 hE hF h2 h5 hzq hzr h6
     clear hq
     have hq:=hq2
     conv=>whnf
     refine br_intro (fun h9=>?_) (fun h9=>?_)
     ·have hvq:=hq.enc.symm.trans (congrArg encI hz)
      rw [h9,if_pos rfl] at hw
      conv=>whnf
      refine ⟨(false,rs),rfl,by show rs.size≤_; rw [hr.size]; omega,?_⟩
      obtain ⟨V,n,hV⟩:=EI.mk' (-zr)
      rw [show negS.val (false,rs)=.agg ⟨[.bool V,.string n]⟩ from by show encI (-IV.z (false,rs))=_; rw [hr.val,hV.enc]]
      have hvr:=hV.enc.symm.trans (congrArg encI hw)
      conv=>whnf
      refine .inr (.inl ⟨(.br 0 (.br 1 (.br 2 (.br 3 (.br 4 .leaf .leaf) .leaf) .leaf) (.br 2 (.br 1 (.br 3 (.br 4 .leaf .leaf) .leaf) .leaf) .leaf)) (.br 1 (.br 0 (.br 2 (.br 3 (.br 4 .leaf .leaf) .leaf) .leaf) .leaf) .leaf)),by kernel_rfl,?_⟩)
      repeat' ((conv=>whnf); first | exact True.intro | refine And.intro ?_ ?_)
      all_goals conv=>whnf
      all_goals exact fin _ _ hvq hvr
     ·have hvq:=hq.enc.symm.trans (congrArg encI hz)
      rw [h9,if_neg (by decide)] at hw
      have hvr:=hr.enc.symm.trans (congrArg encI hw)
      conv=>whnf
      refine .inr (.inl ⟨(.br 0 (.br 1 (.br 2 (.br 3 (.br 4 .leaf .leaf) .leaf) .leaf) (.br 2 (.br 1 (.br 3 (.br 4 .leaf .leaf) .leaf) .leaf) .leaf)) (.br 1 (.br 0 (.br 2 (.br 3 (.br 4 .leaf .leaf) .leaf) .leaf) .leaf) .leaf)),by kernel_rfl,?_⟩)
      repeat' ((conv=>whnf); first | exact True.intro | refine And.intro ?_ ?_)
      all_goals conv=>whnf
      all_goals exact fin _ _ hvq hvr
    ·rw [show (!rs.toList == (⟨#[]⟩:ByteArray).toList)=true from by rw [hr.nn]; exact decide_eq_true (by omega)]
     obtain ⟨hz,hw⟩:=div_rest hE hF h2 h5 hzq hzr h6
     obtain ⟨vb,v1,h1e⟩:=EI.mk' 1
     have v1s:=h1e.size
     have hn1:nby (Int.natAbs 1)≤1:=nby_le (by decide)
     have hq2z:IV.z (qb2,qs2)=-zq:=hq2.val
     conv=>whnf
     refine .inl ⟨2,[[],[],[0,1],[0,1,2]],by kernel_rfl,?_⟩
     conv=>whnf
     refine ⟨(1:Int),rfl,⟨by decide,by decide⟩,?_⟩
     rw [show ofS.val (1:Int)=.agg ⟨[.bool vb,.string v1]⟩ from h1e.enc]
     conv=>whnf
     refine ⟨((qb2,qs2),(vb,v1)),rfl,⟨by show qs2.size≤_; omega,by show v1.size≤_; omega⟩,?_⟩
     obtain ⟨qb3,qs3,hq3⟩:=EI.mk' (-zq - 1)
     rw [show subS.val ((qb2,qs2),(vb,v1))=.agg ⟨[.bool qb3,.string qs3]⟩ from by show encI (IV.z (qb2,qs2) - IV.z (vb,v1))=_; rw [hq2.val,h1e.val,hq3.enc]]
     conv=>whnf
     refine ⟨((false,k),(false,rs)),rfl,⟨by show k.size≤_; omega,by show rs.size≤_; rw [hr.size]; omega⟩,?_⟩
     obtain ⟨rb3,rs3,hr3⟩:=EI.mk' (((bnat k:Nat):Int) - zr)
     rw [show subS.val ((false,k),(false,rs))=.agg ⟨[.bool rb3,.string rs3]⟩ from by show encI (IV.z (false,k) - IV.z (false,rs))=_; rw [hr.val,show IV.z (false,k)=((bnat k:Nat):Int) from rfl,hr3.enc]]
     have hrk:nby (((bnat k:Nat):Int) - zr).natAbs≤549755813888:=by
      have hk2:=nby_bnat_le k
      have:=nby_mono (show (((bnat k:Nat):Int) - zr).natAbs≤bnat k by have:=hF.abs; omega)
      omega
     clear hq hr hrz
     have hq:=hq3
     clear hz0
     obtain ⟨zr,hrr⟩:∃ z,z=((bnat k:Nat):Int) - zr:=⟨_,rfl⟩
     rw [← hrr] at hr3 hw hrk
     obtain ⟨rb,rfl⟩:∃ q',q'=rb3:=⟨_,rfl⟩
     obtain ⟨rs,rfl⟩:∃ q',q'=rs3:=⟨_,rfl⟩
     have hr:=hr3
     have hrz:=hrk
     conv=>whnf
     refine br_intro (fun h9=>?_) (fun h9=>?_)
     ·have hvq:=hq.enc.symm.trans (congrArg encI hz)
      rw [h9,if_pos rfl] at hw
      conv=>whnf
      refine ⟨(rb,rs),rfl,by show rs.size≤_; rw [hr.size]; omega,?_⟩
      obtain ⟨V,n,hV⟩:=EI.mk' (-zr)
      rw [show negS.val (rb,rs)=.agg ⟨[.bool V,.string n]⟩ from by show encI (-IV.z (rb,rs))=_; rw [hr.val,hV.enc]]
      have hvr:=hV.enc.symm.trans (congrArg encI hw)
      conv=>whnf
      refine .inr (.inl ⟨(.br 0 (.br 1 (.br 2 (.br 3 (.br 4 .leaf .leaf) .leaf) .leaf) (.br 2 (.br 1 (.br 3 (.br 4 .leaf .leaf) .leaf) .leaf) .leaf)) (.br 1 (.br 0 (.br 2 (.br 3 (.br 4 .leaf .leaf) .leaf) .leaf) .leaf) .leaf)),by kernel_rfl,?_⟩)
      repeat' ((conv=>whnf); first | exact True.intro | refine And.intro ?_ ?_)
      all_goals conv=>whnf
      all_goals exact fin _ _ hvq hvr
     ·have hvq:=hq.enc.symm.trans (congrArg encI hz)
      rw [h9,if_neg (by decide)] at hw
      have hvr:=hr.enc.symm.trans (congrArg encI hw)
      conv=>whnf
      refine .inr (.inl ⟨(.br 0 (.br 1 (.br 2 (.br 3 (.br 4 .leaf .leaf) .leaf) .leaf) (.br 2 (.br 1 (.br 3 (.br 4 .leaf .leaf) .leaf) .leaf) .leaf)) (.br 1 (.br 0 (.br 2 (.br 3 (.br 4 .leaf .leaf) .leaf) .leaf) .leaf) .leaf)),by kernel_rfl,?_⟩)
      repeat' ((conv=>whnf); first | exact True.intro | refine And.intro ?_ ?_)
      all_goals conv=>whnf
      all_goals exact fin _ _ hvq hvr
   ·have h5:B=D:=by
     cases B <;> cases D <;> first | rfl | cases h5
    obtain ⟨hz,hw⟩:=div_same hE hF h2 h5 hzq hzr
    conv=>whnf
    refine br_intro (fun h9=>?_) (fun h9=>?_)
    ·have hvq:=hq.enc.symm.trans (congrArg encI hz)
     rw [h9,if_pos rfl] at hw
     conv=>whnf
     refine ⟨(false,rs),rfl,by show rs.size≤_; rw [hr.size]; omega,?_⟩
     obtain ⟨V,n,hV⟩:=EI.mk' (-zr)
     rw [show negS.val (false,rs)=.agg ⟨[.bool V,.string n]⟩ from by show encI (-IV.z (false,rs))=_; rw [hr.val,hV.enc]]
     have hvr:=hV.enc.symm.trans (congrArg encI hw)
     conv=>whnf
     refine .inr (.inl ⟨(.br 0 (.br 1 (.br 2 (.br 3 (.br 4 .leaf .leaf) .leaf) .leaf) (.br 2 (.br 1 (.br 3 (.br 4 .leaf .leaf) .leaf) .leaf) .leaf)) (.br 1 (.br 0 (.br 2 (.br 3 (.br 4 .leaf .leaf) .leaf) .leaf) .leaf) .leaf)),by kernel_rfl,?_⟩)
     repeat' ((conv=>whnf); first | exact True.intro | refine And.intro ?_ ?_)
     all_goals conv=>whnf
     all_goals exact fin _ _ hvq hvr
    ·have hvq:=hq.enc.symm.trans (congrArg encI hz)
     rw [h9,if_neg (by decide)] at hw
     have hvr:=hr.enc.symm.trans (congrArg encI hw)
     conv=>whnf
     refine .inr (.inl ⟨(.br 0 (.br 1 (.br 2 (.br 3 (.br 4 .leaf .leaf) .leaf) .leaf) (.br 2 (.br 1 (.br 3 (.br 4 .leaf .leaf) .leaf) .leaf) .leaf)) (.br 1 (.br 0 (.br 2 (.br 3 (.br 4 .leaf .leaf) .leaf) .leaf) .leaf) .leaf)),by kernel_rfl,?_⟩)
     repeat' ((conv=>whnf); first | exact True.intro | refine And.intro ?_ ?_)
     all_goals conv=>whnf
     all_goals exact fin _ _ hvq hvr
  ·have ev:divMagS.val (m,bnat k)=.tuple ⟨[.string qs,.string rs]⟩:=by
    show Value.tuple ⟨[.string (nb (bnat m / bnat k)),.string (nb (bnat m % bnat k))]⟩=_
    rw [hq.mag,hr.mag,hzq,hzr]
    rfl
   have ei:divMagS.args (m,bnat k)=[.string m,.string k]:=by
    show [Value.string m,.string (nb (bnat k))]=_
    rw [← hF.eta]
   have epre:divMagS.pre (m,bnat k):=⟨by show m.size≤_; omega,by show nby (bnat k)≤_; rw [hF.abs]; omega,hk0⟩
   by_cases h4:m.size < 8
   ·rw [show decide (((m.size:Nat):Int) < 8)=true from decide_eq_true (by omega)]
    conv=>whnf
    rw [show decide (((k.size:Nat):Int) < 8)=false from decide_eq_false (by omega)]
    conv=>whnf
    refine ⟨(m,bnat k),ei,epre,?_⟩
    rw [ev]
    conv=>whnf
    refine br_intro (fun h5=>?_) (fun h5=>?_)
    ·have h5:B≠D:=by
      intro e
      subst e
      cases B <;> cases h5
     obtain ⟨qb2,qs2,hq2⟩:=EI.mk' (-zq)
     have hq2s:=hq2.size
     rw [Int.natAbs_neg] at hq2s
     conv=>whnf
     refine ⟨(false,qs),rfl,by show qs.size≤_; rw [hq.size]; omega,?_⟩
     rw [show negS.val (false,qs)=.agg ⟨[.bool qb2,.string qs2]⟩ from by show encI (-IV.z (false,qs))=_; rw [hq.val,hq2.enc]]
     conv=>whnf
     by_cases h6:zr=0
     ·rw [show (!rs.toList == (⟨#[]⟩:ByteArray).toList)=false from by rw [hr.nn]; exact decide_eq_false (by omega)]
      obtain ⟨hz,hw⟩:=div_zero0 hE hF h2 h5 hzq hzr h6
      clear hq
      have hq:=hq2
      conv=>whnf
      refine br_intro (fun h9=>?_) (fun h9=>?_)
      ·have hvq:=hq.enc.symm.trans (congrArg encI hz)
       rw [h9,if_pos rfl] at hw
       conv=>whnf
       refine ⟨(false,rs),rfl,by show rs.size≤_; rw [hr.size]; omega,?_⟩
       obtain ⟨V,n,hV⟩:=EI.mk' (-zr)
       rw [show negS.val (false,rs)=.agg ⟨[.bool V,.string n]⟩ from by show encI (-IV.z (false,rs))=_; rw [hr.val,hV.enc]]
       have hvr:=hV.enc.symm.trans (congrArg encI hw)
       conv=>whnf
       refine .inr (.inl ⟨(.br 0 (.br 1 (.br 2 (.br 3 (.br 4 .leaf .leaf) .leaf) .leaf) (.br 2 (.br 1 (.br 3 (.br 4 .leaf .leaf) .leaf) .leaf) .leaf)) (.br 1 (.br 0 (.br 2 (.br 3 (.br 4 .leaf .leaf) .leaf) .leaf) .leaf) .leaf)),by kernel_rfl,?_⟩)
       repeat' ((conv=>whnf); first | exact True.intro | refine And.intro ?_ ?_)
       all_goals conv=>whnf
       all_goals exact fin _ _ hvq hvr
      ·have hvq:=hq.enc.symm.trans (congrArg encI hz)
       rw [h9,if_neg (by decide)] at hw
       have hvr:=hr.enc.symm.trans (congrArg encI hw)
       conv=>whnf
       refine .inr (.inl ⟨(.br 0 (.br 1 (.br 2 (.br 3 (.br 4 .leaf .leaf) .leaf) .leaf) (.br 2 (.br 1 (.br 3 (.br 4 .leaf .leaf) .leaf) .leaf) .leaf)) (.br 1 (.br 0 (.br 2 (.br 3 (.br 4 .leaf .leaf) .leaf) .leaf) .leaf) .leaf)),by kernel_rfl,?_⟩)
       repeat' ((conv=>whnf); first | exact True.intro | refine And.intro ?_ ?_)
       all_goals conv=>whnf
       all_goals exact fin _ _ hvq hvr
     ·rw [show (!rs.toList == (⟨#[]⟩:ByteArray).toList)=true from by rw [hr.nn]; exact decide_eq_true (by omega)]
      obtain ⟨hz,hw⟩:=div_rest hE hF h2 h5 hzq hzr h6
      obtain ⟨vb,v1,h1e⟩:=EI.mk' 1
      have v1s:=h1e.size
      have hn1:nby (Int.natAbs 1)≤1:=nby_le (by decide)
      have hq2z:IV.z (qb2,qs2)=-zq:=hq2.val
      conv=>whnf
      refine .inl ⟨2,[[],[],[0,1],[0,1,2]],by kernel_rfl,?_⟩
      conv=>whnf
      refine ⟨(1:Int),rfl,⟨by decide,by decide⟩,?_⟩
      rw [show ofS.val (1:Int)=.agg ⟨[.bool vb,.string v1]⟩ from h1e.enc]
      conv=>whnf
      refine ⟨((qb2,qs2),(vb,v1)),rfl,⟨by show qs2.size≤_; omega,by show v1.size≤_; omega⟩,?_⟩
      obtain ⟨qb3,qs3,hq3⟩:=EI.mk' (-zq - 1)
      rw [show subS.val ((qb2,qs2),(vb,v1))=.agg ⟨[.bool qb3,.string qs3]⟩ from by show encI (IV.z (qb2,qs2) - IV.z (vb,v1))=_; rw [hq2.val,h1e.val,hq3.enc]]
      conv=>whnf
      refine ⟨((false,k),(false,rs)),rfl,⟨by show k.size≤_; omega,by show rs.size≤_; rw [hr.size]; omega⟩,?_⟩
      obtain ⟨rb3,rs3,hr3⟩:=EI.mk' (((bnat k:Nat):Int) - zr)
      rw [show subS.val ((false,k),(false,rs))=.agg ⟨[.bool rb3,.string rs3]⟩ from by show encI (IV.z (false,k) - IV.z (false,rs))=_; rw [hr.val,show IV.z (false,k)=((bnat k:Nat):Int) from rfl,hr3.enc]]
      have hrk:nby (((bnat k:Nat):Int) - zr).natAbs≤549755813888:=by
       have hk2:=nby_bnat_le k
       have:=nby_mono (show (((bnat k:Nat):Int) - zr).natAbs≤bnat k by have:=hF.abs; omega)
       omega
      clear hq hr hrz
      have hq:=hq3
      clear hz0
      obtain ⟨zr,hrr⟩:∃ z,z=((bnat k:Nat):Int) - zr:=⟨_,rfl⟩
      rw [← hrr] at hr3 hw hrk
      obtain ⟨rb,rfl⟩:∃ q',q'=rb3:=⟨_,rfl⟩
      obtain ⟨rs,rfl⟩:∃ q',q'=rs3:=⟨_,rfl⟩
      have hr:=hr3
      have hrz:=hrk
      conv=>whnf
      refine br_intro (fun h9=>?_) (fun h9=>?_)
      ·have hvq:=hq.enc.symm.trans (congrArg encI hz)
       rw [h9,if_pos rfl] at hw
       conv=>whnf
       refine ⟨(rb,rs),rfl,by show rs.size≤_; rw [hr.size]; omega,?_⟩
       obtain ⟨V,n,hV⟩:=EI.mk' (-zr)
       rw [show negS.val (rb,rs)=.agg ⟨[.bool V,.string n]⟩ from by show encI (-IV.z (rb,rs))=_; rw [hr.val,hV.enc]]
       have hvr:=hV.enc.symm.trans (congrArg encI hw)
       conv=>whnf
       refine .inr (.inl ⟨(.br 0 (.br 1 (.br 2 (.br 3 (.br 4 .leaf .leaf) .leaf) .leaf) (.br 2 (.br 1 (.br 3 (.br 4 .leaf .leaf) .leaf) .leaf) .leaf)) (.br 1 (.br 0 (.br 2 (.br 3 (.br 4 .leaf .leaf) .leaf) .leaf) .leaf) .leaf)),by kernel_rfl,?_⟩)
       repeat' ((conv=>whnf); first | exact True.intro | refine And.intro ?_ ?_)
       all_goals conv=>whnf
       all_goals exact fin _ _ hvq hvr
      ·have hvq:=hq.enc.symm.trans (congrArg encI hz)
       rw [h9,if_neg (by decide)] at hw
       have hvr:=hr.enc.symm.trans (congrArg encI hw)
       conv=>whnf
       refine .inr (.inl ⟨(.br 0 (.br 1 (.br 2 (.br 3 (.br 4 .leaf .leaf) .leaf) .leaf) (.br 2 (.br 1 (.br 3 (.br 4 .leaf .leaf) .leaf) .leaf) .leaf)) (.br 1 (.br 0 (.br 2 (.br 3 (.br 4 .leaf .leaf) .leaf) .leaf) .leaf) .leaf)),by kernel_rfl,?_⟩)
       repeat' ((conv=>whnf); first | exact True.intro | refine And.intro ?_ ?_)
       all_goals conv=>whnf
       all_goals exact fin _ _ hvq hvr
    ·have h5:B=D:=by
      cases B <;> cases D <;> first | rfl | cases h5
     obtain ⟨hz,hw⟩:=div_same hE hF h2 h5 hzq hzr
     conv=>whnf
     refine br_intro (fun h9=>?_) (fun h9=>?_)
     ·have hvq:=hq.enc.symm.trans (congrArg encI hz)
      rw [h9,if_pos rfl] at hw
      conv=>whnf
      refine ⟨(false,rs),rfl,by show rs.size≤_; rw [hr.size]; omega,?_⟩
      obtain ⟨V,n,hV⟩:=EI.mk' (-zr)
      rw [show negS.val (false,rs)=.agg ⟨[.bool V,.string n]⟩ from by show encI (-IV.z (false,rs))=_; rw [hr.val,hV.enc]]
      have hvr:=hV.enc.symm.trans (congrArg encI hw)
      conv=>whnf
      refine .inr (.inl ⟨(.br 0 (.br 1 (.br 2 (.br 3 (.br 4 .leaf .leaf) .leaf) .leaf) (.br 2 (.br 1 (.br 3 (.br 4 .leaf .leaf) .leaf) .leaf) .leaf)) (.br 1 (.br 0 (.br 2 (.br 3 (.br 4 .leaf .leaf) .leaf) .leaf) .leaf) .leaf)),by kernel_rfl,?_⟩)
      repeat' ((conv=>whnf); first | exact True.intro | refine And.intro ?_ ?_)
      all_goals conv=>whnf
      all_goals exact fin _ _ hvq hvr
     ·have hvq:=hq.enc.symm.trans (congrArg encI hz)
      rw [h9,if_neg (by decide)] at hw
      have hvr:=hr.enc.symm.trans (congrArg encI hw)
      conv=>whnf
      refine .inr (.inl ⟨(.br 0 (.br 1 (.br 2 (.br 3 (.br 4 .leaf .leaf) .leaf) .leaf) (.br 2 (.br 1 (.br 3 (.br 4 .leaf .leaf) .leaf) .leaf) .leaf)) (.br 1 (.br 0 (.br 2 (.br 3 (.br 4 .leaf .leaf) .leaf) .leaf) .leaf) .leaf)),by kernel_rfl,?_⟩)
      repeat' ((conv=>whnf); first | exact True.intro | refine And.intro ?_ ?_)
      all_goals conv=>whnf
      all_goals exact fin _ _ hvq hvr
   ·rw [show decide (((m.size:Nat):Int) < 8)=false from decide_eq_false (by omega)]
    conv=>whnf
    refine ⟨(m,bnat k),ei,epre,?_⟩
    rw [ev]
    conv=>whnf
    refine br_intro (fun h5=>?_) (fun h5=>?_)
    ·have h5:B≠D:=by
      intro e
      subst e
      cases B <;> cases h5
     obtain ⟨qb2,qs2,hq2⟩:=EI.mk' (-zq)
     have hq2s:=hq2.size
     rw [Int.natAbs_neg] at hq2s
     conv=>whnf
     refine ⟨(false,qs),rfl,by show qs.size≤_; rw [hq.size]; omega,?_⟩
     rw [show negS.val (false,qs)=.agg ⟨[.bool qb2,.string qs2]⟩ from by show encI (-IV.z (false,qs))=_; rw [hq.val,hq2.enc]]
     conv=>whnf
     by_cases h6:zr=0
     ·rw [show (!rs.toList == (⟨#[]⟩:ByteArray).toList)=false from by rw [hr.nn]; exact decide_eq_false (by omega)]
      obtain ⟨hz,hw⟩:=div_zero0 hE hF h2 h5 hzq hzr h6
      clear hq
      have hq:=hq2
      conv=>whnf
      refine br_intro (fun h9=>?_) (fun h9=>?_)
      ·have hvq:=hq.enc.symm.trans (congrArg encI hz)
       rw [h9,if_pos rfl] at hw
       conv=>whnf
       refine ⟨(false,rs),rfl,by show rs.size≤_; rw [hr.size]; omega,?_⟩
       obtain ⟨V,n,hV⟩:=EI.mk' (-zr)
       rw [show negS.val (false,rs)=.agg ⟨[.bool V,.string n]⟩ from by show encI (-IV.z (false,rs))=_; rw [hr.val,hV.enc]]
       have hvr:=hV.enc.symm.trans (congrArg encI hw)
       conv=>whnf
       refine .inr (.inl ⟨(.br 0 (.br 1 (.br 2 (.br 3 (.br 4 .leaf .leaf) .leaf) .leaf) (.br 2 (.br 1 (.br 3 (.br 4 .leaf .leaf) .leaf) .leaf) .leaf)) (.br 1 (.br 0 (.br 2 (.br 3 (.br 4 .leaf .leaf) .leaf) .leaf) .leaf) .leaf)),by kernel_rfl,?_⟩)
       repeat' ((conv=>whnf); first | exact True.intro | refine And.intro ?_ ?_)
       all_goals conv=>whnf
       all_goals exact fin _ _ hvq hvr
      ·have hvq:=hq.enc.symm.trans (congrArg encI hz)
       rw [h9,if_neg (by decide)] at hw
       have hvr:=hr.enc.symm.trans (congrArg encI hw)
       conv=>whnf
       refine .inr (.inl ⟨(.br 0 (.br 1 (.br 2 (.br 3 (.br 4 .leaf .leaf) .leaf) .leaf) (.br 2 (.br 1 (.br 3 (.br 4 .leaf .leaf) .leaf) .leaf) .leaf)) (.br 1 (.br 0 (.br 2 (.br 3 (.br 4 .leaf .leaf) .leaf) .leaf) .leaf) .leaf)),by kernel_rfl,?_⟩)
       repeat' ((conv=>whnf); first | exact True.intro | refine And.intro ?_ ?_)
       all_goals conv=>whnf
       all_goals exact fin _ _ hvq hvr
     ·rw [show (!rs.toList == (⟨#[]⟩:ByteArray).toList)=true from by rw [hr.nn]; exact decide_eq_true (by omega)]
      obtain ⟨hz,hw⟩:=div_rest hE hF h2 h5 hzq hzr h6
      obtain ⟨vb,v1,h1e⟩:=EI.mk' 1
      have v1s:=h1e.size
      have hn1:nby (Int.natAbs 1)≤1:=nby_le (by decide)
      have hq2z:IV.z (qb2,qs2)=-zq:=hq2.val
      conv=>whnf
      refine .inl ⟨2,[[],[],[0,1],[0,1,2]],by kernel_rfl,?_⟩
      conv=>whnf
      refine ⟨(1:Int),rfl,⟨by decide,by decide⟩,?_⟩
      rw [show ofS.val (1:Int)=.agg ⟨[.bool vb,.string v1]⟩ from h1e.enc]
      conv=>whnf
      refine ⟨((qb2,qs2),(vb,v1)),rfl,⟨by show qs2.size≤_; omega,by show v1.size≤_; omega⟩,?_⟩
      obtain ⟨qb3,qs3,hq3⟩:=EI.mk' (-zq - 1)
      rw [show subS.val ((qb2,qs2),(vb,v1))=.agg ⟨[.bool qb3,.string qs3]⟩ from by show encI (IV.z (qb2,qs2) - IV.z (vb,v1))=_; rw [hq2.val,h1e.val,hq3.enc]]
      conv=>whnf
      refine ⟨((false,k),(false,rs)),rfl,⟨by show k.size≤_; omega,by show rs.size≤_; rw [hr.size]; omega⟩,?_⟩
      obtain ⟨rb3,rs3,hr3⟩:=EI.mk' (((bnat k:Nat):Int) - zr)
      rw [show subS.val ((false,k),(false,rs))=.agg ⟨[.bool rb3,.string rs3]⟩ from by show encI (IV.z (false,k) - IV.z (false,rs))=_; rw [hr.val,show IV.z (false,k)=((bnat k:Nat):Int) from rfl,hr3.enc]]
      have hrk:nby (((bnat k:Nat):Int) - zr).natAbs≤549755813888:=by
       have hk2:=nby_bnat_le k
       have:=nby_mono (show (((bnat k:Nat):Int) - zr).natAbs≤bnat k by have:=hF.abs; omega)
       omega
      clear hq hr hrz
      have hq:=hq3
      clear hz0
      obtain ⟨zr,hrr⟩:∃ z,z=((bnat k:Nat):Int) - zr:=⟨_,rfl⟩
      rw [← hrr] at hr3 hw hrk
      obtain ⟨rb,rfl⟩:∃ q',q'=rb3:=⟨_,rfl⟩
      obtain ⟨rs,rfl⟩:∃ q',q'=rs3:=⟨_,rfl⟩
      have hr:=hr3
      have hrz:=hrk
      conv=>whnf
      refine br_intro (fun h9=>?_) (fun h9=>?_)
      ·have hvq:=hq.enc.symm.trans (congrArg encI hz)
       rw [h9,if_pos rfl] at hw
       conv=>whnf
       refine ⟨(rb,rs),rfl,by show rs.size≤_; rw [hr.size]; omega,?_⟩
       obtain ⟨V,n,hV⟩:=EI.mk' (-zr)
       rw [show negS.val (rb,rs)=.agg ⟨[.bool V,.string n]⟩ from by show encI (-IV.z (rb,rs))=_; rw [hr.val,hV.enc]]
       have hvr:=hV.enc.symm.trans (congrArg encI hw)
       conv=>whnf
       refine .inr (.inl ⟨(.br 0 (.br 1 (.br 2 (.br 3 (.br 4 .leaf .leaf) .leaf) .leaf) (.br 2 (.br 1 (.br 3 (.br 4 .leaf .leaf) .leaf) .leaf) .leaf)) (.br 1 (.br 0 (.br 2 (.br 3 (.br 4 .leaf .leaf) .leaf) .leaf) .leaf) .leaf)),by kernel_rfl,?_⟩)
       repeat' ((conv=>whnf); first | exact True.intro | refine And.intro ?_ ?_)
       all_goals conv=>whnf
       all_goals exact fin _ _ hvq hvr
      ·have hvq:=hq.enc.symm.trans (congrArg encI hz)
       rw [h9,if_neg (by decide)] at hw
       have hvr:=hr.enc.symm.trans (congrArg encI hw)
       conv=>whnf
       refine .inr (.inl ⟨(.br 0 (.br 1 (.br 2 (.br 3 (.br 4 .leaf .leaf) .leaf) .leaf) (.br 2 (.br 1 (.br 3 (.br 4 .leaf .leaf) .leaf) .leaf) .leaf)) (.br 1 (.br 0 (.br 2 (.br 3 (.br 4 .leaf .leaf) .leaf) .leaf) .leaf) .leaf)),by kernel_rfl,?_⟩)
       repeat' ((conv=>whnf); first | exact True.intro | refine And.intro ?_ ?_)
       all_goals conv=>whnf
       all_goals exact fin _ _ hvq hvr
    ·have h5:B=D:=by
      cases B <;> cases D <;> first | rfl | cases h5
     obtain ⟨hz,hw⟩:=div_same hE hF h2 h5 hzq hzr
     conv=>whnf
     refine br_intro (fun h9=>?_) (fun h9=>?_)
     ·have hvq:=hq.enc.symm.trans (congrArg encI hz)
      rw [h9,if_pos rfl] at hw
      conv=>whnf
      refine ⟨(false,rs),rfl,by show rs.size≤_; rw [hr.size]; omega,?_⟩
      obtain ⟨V,n,hV⟩:=EI.mk' (-zr)
      rw [show negS.val (false,rs)=.agg ⟨[.bool V,.string n]⟩ from by show encI (-IV.z (false,rs))=_; rw [hr.val,hV.enc]]
      have hvr:=hV.enc.symm.trans (congrArg encI hw)
      conv=>whnf
      refine .inr (.inl ⟨(.br 0 (.br 1 (.br 2 (.br 3 (.br 4 .leaf .leaf) .leaf) .leaf) (.br 2 (.br 1 (.br 3 (.br 4 .leaf .leaf) .leaf) .leaf) .leaf)) (.br 1 (.br 0 (.br 2 (.br 3 (.br 4 .leaf .leaf) .leaf) .leaf) .leaf) .leaf)),by kernel_rfl,?_⟩)
      repeat' ((conv=>whnf); first | exact True.intro | refine And.intro ?_ ?_)
      all_goals conv=>whnf
      all_goals exact fin _ _ hvq hvr
     ·have hvq:=hq.enc.symm.trans (congrArg encI hz)
      rw [h9,if_neg (by decide)] at hw
      have hvr:=hr.enc.symm.trans (congrArg encI hw)
      conv=>whnf
      refine .inr (.inl ⟨(.br 0 (.br 1 (.br 2 (.br 3 (.br 4 .leaf .leaf) .leaf) .leaf) (.br 2 (.br 1 (.br 3 (.br 4 .leaf .leaf) .leaf) .leaf) .leaf)) (.br 1 (.br 0 (.br 2 (.br 3 (.br 4 .leaf .leaf) .leaf) .leaf) .leaf) .leaf)),by kernel_rfl,?_⟩)
      repeat' ((conv=>whnf); first | exact True.intro | refine And.intro ?_ ?_)
      all_goals conv=>whnf
      all_goals exact fin _ _ hvq hvr
end Go.Proofs.YtppeponndkfbkaaGreat
/- Contracts of rational: machine integers. -/
set_option maxRecDepth 20000
set_option maxHeartbeats 1000000
namespace Go.Proofs.YtppeponndkfbkaaGreat
open Go Go.Ae
def eqsL:List TypeId:=[23,27,44,25]
theorem eqs_ok:∀ t∈eqsL,∀ ti,tt t=some ti→EqTy Tryz.prog t ti.zero:=by
 intro t ht ti h
 simp only [eqsL,List.mem_cons,List.mem_nil_iff,or_false] at ht
 rcases ht with rfl | rfl | rfl | rfl
 all_goals cases h; exact eqTy (by kernel_rfl) (by kernel_rfl)
def EnE (cs:List (Nat × FSpec)) (fs:List (Nat × FT):=[]) (is:List (Nat × (Nat→FT→Nu→FT)):=[]) (over:Bool:=false):Env:={ tt:=tt,eqs:=eqsL,over:=over,Φ:=findN cs,Ψ:=findN fs,It:=findN is }
theorem EnEk {cs:List (Nat × FSpec)} {fs:List (Nat × FT)} {is:List (Nat × (Nat→FT→Nu→FT))} {over:Bool} (h:allN (FSnd Tryz.prog) cs) (h2:allN (FTOk Tryz.prog) fs):EnvOk Tryz.prog (EnE cs fs is over):=⟨tt_ok,eqs_ok,fun _ _=>findN_ok h,fun _ _=>findN_ok h2⟩
theorem qdigits_ok:Snd Tryz.prog 164 smallS:=by
 refine snd_of E0ok Dok Tryz.func164 (enters_of Tryz.func164 (by kernel_rfl) rfl) (fun _=>rfl) (fun _=>rfl) ?_
 intro (s:ByteArray) hp
 have hp:s.size≤7:=hp
 conv=>whnf
 refine .inl ⟨fun mm tz hz=>∃ (i:Nat) (N:Nat),Pat (some (.string s)::nos 2 (some (.int .i64 N)::nos 2 (some (.int .i64 s.size)::some (.int .i64 i)::nos 11 []))) tz∧hz=[]∧s.size - i=mm∧(i≤s.size∧N=bnat s / C ^ (s.size - i)),.inl ⟨_,0,0,(.keep (.sk 2 (.keep (.sk 2 (.keep (.keep (.sk 11 .nil rfl))) rfl)) rfl)),rfl,rfl,?_⟩,?_⟩
 ·exact ⟨Nat.zero_le _,by rw [Nat.sub_zero,Nat.div_eq_of_lt (bnat_lt s)]⟩
 rintro mm tms _ ⟨i,N,hpat,rfl,rfl,⟨hi,hN⟩⟩
 obtain ⟨az,rfl⟩:∃ az:Nat→Value,tms=.string s::zs az 1 2 (.int .i64 N::zs az 4 2 (.int .i64 s.size::.int .i64 i::zs az 8 11 [])):=pat_fill hpat
 clear hpat
 have hlC:=pre_lt s hi
 rw [← hN] at hlC
 have hlt:=Nat.lt_of_lt_of_le hlC (pow7 (show i≤7 by omega))
 conv=>whnf
 refine br_intro (fun h2=>?_) (fun h2=>?_)
 ·have h2:i < s.size:=by simpa using h2
  have hst:=pre_step h2
  rw [← hN] at hst
  have hb:byteAt s i < 256:=byteAt_lt s i
  have e3:IntKind.i64.wrap (((i:Nat):Int)+1)=((i+1:Nat):Int):=by rw [wrapi64 (by omega) (by omega)]; rfl
  have hl6:=Nat.lt_of_lt_of_le hlC (pow6 (show i≤6 by omega))
  conv=>whnf
  refine ⟨⟨by omega,by omega⟩,?_⟩
  simp only [toNat_cast]
  conv=>whnf
  rw [byte_raw (by omega) hb,e3]
  refine .inl ⟨_,?_,i+1,N*256+byteAt s i,(.keep (.sk 2 (.keep (.sk 2 (.keep (.keep (.sk 11 .nil rfl))) rfl)) rfl)),rfl,rfl,?_⟩
  ·omega
  ·exact ⟨by omega,hst.symm⟩
 ·have h2:i=s.size:=by
   have h2:¬ i < s.size:=by simpa using h2
   omega
  subst h2
  rw [Nat.sub_self,Nat.pow_zero,Nat.div_one] at hN
  subst hN
  conv=>whnf
  rfl
theorem qnumber_ok:Snd Tryz.prog 137 smallS:=by
 refine snd_of E0ok Dok Tryz.func137 (enters_of Tryz.func137 (by kernel_rfl) rfl) (fun _=>rfl) (fun _=>rfl) ?_
 intro (s:ByteArray) hp
 have hp:s.size≤7:=hp
 conv=>whnf
 refine .inl ⟨fun mm tz hz=>∃ (i:Nat) (N:Nat),Pat (some (.string s)::nos 2 (some (.int .i64 N)::some (.int .i64 i)::nos 14 [])) tz∧hz=[]∧s.size - i=mm∧(i≤s.size∧N=bnat s / C ^ (s.size - i)),.inl ⟨_,0,0,(.keep (.sk 2 (.keep (.keep (.sk 14 .nil rfl))) rfl)),rfl,rfl,?_⟩,?_⟩
 ·exact ⟨Nat.zero_le _,by rw [Nat.sub_zero,Nat.div_eq_of_lt (bnat_lt s)]⟩
 rintro mm tms _ ⟨i,N,hpat,rfl,rfl,⟨hi,hN⟩⟩
 obtain ⟨az,rfl⟩:∃ az:Nat→Value,tms=.string s::zs az 1 2 (.int .i64 N::.int .i64 i::zs az 5 14 []):=pat_fill hpat
 clear hpat
 have hlC:=pre_lt s hi
 rw [← hN] at hlC
 have hlt:=Nat.lt_of_lt_of_le hlC (pow7 (show i≤7 by omega))
 conv=>whnf
 refine br_intro (fun h2=>?_) (fun h2=>?_)
 ·have h2:i < s.size:=by simpa using h2
  have hst:=pre_step h2
  rw [← hN] at hst
  have hb:byteAt s i < 256:=byteAt_lt s i
  have e3:IntKind.i64.wrap (((i:Nat):Int)+1)=((i+1:Nat):Int):=by rw [wrapi64 (by omega) (by omega)]; rfl
  have hl6:=Nat.lt_of_lt_of_le hlC (pow6 (show i≤6 by omega))
  obtain ⟨b,hbb⟩:∃ b,b=byteAt s i:=⟨_,rfl⟩
  rw [← hbb] at hb hst
  have ev:IntKind.i64.wrap (IntKind.i64.wrap (256*(N:Int))+IntKind.i64.wrap (b:Int))=((N*256+b:Nat):Int):=by
   rw [wrapi64 (x:=256*(N:Int)) (by omega) (by omega),wrapi64 (x:=(b:Int)) (by omega) (by omega),wrapi64 (by omega) (by omega)]; omega
  conv=>whnf
  refine ⟨⟨by omega,by omega⟩,?_⟩
  simp only [toNat_cast]
  conv=>whnf
  rw [← hbb,ev,e3]
  refine .inl ⟨_,?_,i+1,N*256+b,(.keep (.sk 2 (.keep (.keep (.sk 14 .nil rfl))) rfl)),rfl,rfl,?_⟩
  ·omega
  ·exact ⟨by omega,hst.symm⟩
 ·have h2:i=s.size:=by
   have h2:¬ i < s.size:=by simpa using h2
   omega
  subst h2
  rw [Nat.sub_self,Nat.pow_zero,Nat.div_one] at hN
  subst hN
  conv=>whnf
  rfl
def Ema:Env:=En [(164,.p smallS),(137,.p smallS)]
theorem Emaok:EnvOk Tryz.prog Ema:=Enk ⟨qdigits_ok,qnumber_ok,trivial⟩ trivial
theorem mach_ok:Snd Tryz.prog 141 machS:=by
 refine snd_of Emaok Dok Tryz.func141 (enters_of Tryz.func141 (by kernel_rfl) rfl) (fun _=>rfl) (fun _=>rfl) ?_
 intro ⟨b,s,t⟩ _
 have fin0:¬ RV.tiny (b,s,t)→Value.tuple ⟨[.int .i64 0,.int .i64 0,.bool false]⟩=machS.val (b,s,t):=fun h=>by
  simp only [machS,if_neg h,decide_eq_false h]
 have fin1:RV.tiny (b,s,t)→∀ x y:Int,x=RV.n (b,s,t)→y=(RV.d (b,s,t):Int)→Value.tuple ⟨[.int .i64 x,.int .i64 y,.bool true]⟩=machS.val (b,s,t):=fun h x y hx hy=>by
  simp only [machS,if_pos h,decide_eq_true h,hx,hy]
 conv=>whnf
 by_cases h1:s.size≤3
 ·rw [show decide (((s.size:Nat):Int) > 3)=false from decide_eq_false (by omega)]
  conv=>whnf
  by_cases h2:t.size≤3
  ·rw [show decide (((t.size:Nat):Int) > 3)=false from decide_eq_false (by omega)]
   have ht:RV.tiny (b,s,t):=⟨h1,h2⟩
   obtain ⟨N,hN⟩:∃ N,N=bnat s:=⟨_,rfl⟩
   obtain ⟨D,hD⟩:∃ D,D=bnat t:=⟨_,rfl⟩
   have hn:=RV.tiny_n ht
   have hd:=RV.tiny_d ht
   conv=>whnf
   refine .inl ⟨5,[[],[0],[0,1],[],[3],[0,1,2,3,4],[0,1,2,3,4,5],[0,1,2,3,4,5,6]],by kernel_rfl,?_⟩
   conv=>whnf
   refine ⟨s,rfl,by show s.size≤7; omega,?_⟩
   rw [show smallS.val s=.int .i64 N from by rw [hN]; rfl]
   conv=>whnf
   refine ⟨t,rfl,by show t.size≤7; omega,?_⟩
   rw [show smallS.val t=.int .i64 D from by rw [hD]; rfl]
   conv=>whnf
   have hd2:(RV.d (b,s,t):Int)=if D=0 then 1 else D:=by
    show (((if bnat t=0 then 1 else bnat t):Nat):Int)=_
    rw [← hD]
   refine br_intro (fun h3=>?_) (fun h3=>?_)
   ·have hn2:RV.n (b,s,t)=-(N:Int):=by
     have h3:b=true:=h3
     show valI b (bnat s)=_
     rw [h3,← hN]; rfl
    have en:IntKind.i64.wrap (0 - (N:Int))=-(N:Int):=by rw [wrapi64 (by omega) (by omega)]; omega
    conv=>whnf
    exact fin1 ht _ _ (by rw [hn2]; exact en) (by rw [hd2]; split <;> split <;> omega)
   ·have hn2:RV.n (b,s,t)=(N:Int):=by
     have h3:b=false:=h3
     show valI b (bnat s)=_
     rw [h3,← hN]; rfl
    conv=>whnf
    exact fin1 ht _ _ (by rw [hn2]) (by rw [hd2]; split <;> split <;> omega)
  ·rw [show decide (((t.size:Nat):Int) > 3)=true from decide_eq_true (by omega)]
   conv=>whnf
   exact fin0 (fun h=>h2 h.2)
 ·rw [show decide (((s.size:Nat):Int) > 3)=true from decide_eq_true (by omega)]
  conv=>whnf
  exact fin0 (fun h=>h1 h.1)
theorem small_ok:Snd Tryz.prog 94 machS:=by
 refine snd_of Emaok Dok Tryz.func94 (enters_of Tryz.func94 (by kernel_rfl) rfl) (fun _=>rfl) (fun _=>rfl) ?_
 intro ⟨b,s,t⟩ _
 have fin0:¬ RV.tiny (b,s,t)→Value.tuple ⟨[.int .i64 0,.int .i64 0,.bool false]⟩=machS.val (b,s,t):=fun h=>by
  simp only [machS,if_neg h,decide_eq_false h]
 have fin1:RV.tiny (b,s,t)→∀ x y:Int,x=RV.n (b,s,t)→y=(RV.d (b,s,t):Int)→Value.tuple ⟨[.int .i64 x,.int .i64 y,.bool true]⟩=machS.val (b,s,t):=fun h x y hx hy=>by
  simp only [machS,if_pos h,decide_eq_true h,hx,hy]
 conv=>whnf
 by_cases h1:s.size≤3
 ·rw [show decide (((s.size:Nat):Int) > 3)=false from decide_eq_false (by omega)]
  conv=>whnf
  by_cases h2:t.size≤3
  ·rw [show decide (((t.size:Nat):Int) > 3)=false from decide_eq_false (by omega)]
   have ht:RV.tiny (b,s,t):=⟨h1,h2⟩
   obtain ⟨N,hN⟩:∃ N,N=bnat s:=⟨_,rfl⟩
   obtain ⟨D,hD⟩:∃ D,D=bnat t:=⟨_,rfl⟩
   have hn:=RV.tiny_n ht
   have hd:=RV.tiny_d ht
   conv=>whnf
   refine .inl ⟨5,[[],[0],[0,1],[],[3],[0,1,2,3,4],[0,1,2,3,4,5],[0,1,2,3,4,5,6]],by kernel_rfl,?_⟩
   conv=>whnf
   refine ⟨s,rfl,by show s.size≤7; omega,?_⟩
   rw [show smallS.val s=.int .i64 N from by rw [hN]; rfl]
   conv=>whnf
   refine ⟨t,rfl,by show t.size≤7; omega,?_⟩
   rw [show smallS.val t=.int .i64 D from by rw [hD]; rfl]
   conv=>whnf
   have hd2:(RV.d (b,s,t):Int)=if D=0 then 1 else D:=by
    show (((if bnat t=0 then 1 else bnat t):Nat):Int)=_
    rw [← hD]
   refine br_intro (fun h4=>?_) (fun h4=>?_)
   ·have h4:D=0:=by
     have h4:((D:Nat):Int)=0:=by simpa using h4
     omega
    rw [if_pos h4] at hd2
    conv=>whnf
    refine br_intro (fun h3=>?_) (fun h3=>?_)
    ·have hn2:RV.n (b,s,t)=-(N:Int):=by
      have h3:b=true:=h3
      show valI b (bnat s)=_
      rw [h3,← hN]; rfl
     have en:IntKind.i64.wrap (0 - (N:Int))=-(N:Int):=by rw [wrapi64 (by omega) (by omega)]; omega
     conv=>whnf
     exact fin1 ht _ _ (by rw [hn2]; exact en) (by rw [hd2]; first | done | rfl)
    ·have hn2:RV.n (b,s,t)=(N:Int):=by
      have h3:b=false:=h3
      show valI b (bnat s)=_
      rw [h3,← hN]; rfl
     conv=>whnf
     exact fin1 ht _ _ (by rw [hn2]) (by rw [hd2]; first | done | rfl)
   ·have h4:D≠0:=by
     intro e
     subst e
     simp at h4
    rw [if_neg h4] at hd2
    conv=>whnf
    refine br_intro (fun h3=>?_) (fun h3=>?_)
    ·have hn2:RV.n (b,s,t)=-(N:Int):=by
      have h3:b=true:=h3
      show valI b (bnat s)=_
      rw [h3,← hN]; rfl
     have en:IntKind.i64.wrap (0 - (N:Int))=-(N:Int):=by rw [wrapi64 (by omega) (by omega)]; omega
     conv=>whnf
     exact fin1 ht _ _ (by rw [hn2]; exact en) (by rw [hd2]; first | done | rfl)
    ·have hn2:RV.n (b,s,t)=(N:Int):=by
      have h3:b=false:=h3
      show valI b (bnat s)=_
      rw [h3,← hN]; rfl
     conv=>whnf
     exact fin1 ht _ _ (by rw [hn2]) (by rw [hd2]; first | done | rfl)
  ·rw [show decide (((t.size:Nat):Int) > 3)=true from decide_eq_true (by omega)]
   conv=>whnf
   exact fin0 (fun h=>h2 h.2)
 ·rw [show decide (((s.size:Nat):Int) > 3)=true from decide_eq_true (by omega)]
  conv=>whnf
  exact fin0 (fun h=>h1 h.1)
end Go.Proofs.YtppeponndkfbkaaGreat
/- Contracts of rational: digits, ratios. -/
set_option maxRecDepth 20000
set_option maxHeartbeats 1000000
namespace Go.Proofs.YtppeponndkfbkaaGreat
open Go Go.Ae
theorem text_ok:Snd Tryz.prog 156 textS:=by
 refine snd_of E0ok Dok Tryz.func156 (enters_of Tryz.func156 (by kernel_rfl) rfl) (fun _=>rfl) (fun _=>rfl) ?_
 intro (n:Nat) hp
 have hp:n < 72057594037927936:=hp
 conv=>whnf
 refine .inl ⟨fun mm tz hz=>∃ (i:Nat) (m:Nat) (g:Nat→List Value),Pat (some (.int .i64 m)::nos 2 (some (.pointer (some ⟨0,0,none⟩))::some (.int .i64 i)::nos 13 [])) tz∧hz=[some (.flat true 8 1 g)]∧m=mm∧((i≤8∧m=n / C ^ (8 - i))∧(i=8∨C ^ (8 - i - 1)≤n)∧(∀ r,i≤r→r < 8→g r=[.int .u8 ((n / C ^ (7 - r) % C:Nat):Int)])∧(∀ r,r < 8→∃ x:Int,g r=[.int .u8 x])),.inl ⟨_,8,n,_,(.keep (.sk 2 (.keep (.keep (.sk 13 .nil rfl))) rfl)),rfl,rfl,?_⟩,?_⟩
 ·exact ⟨⟨Nat.le_refl _,by simp⟩,.inl rfl,fun r h1 h2=>absurd h1 (by omega),fun r hr=>⟨0,rfl⟩⟩
 rintro mm tms _ ⟨i,m,g,hpat,rfl,rfl,⟨⟨hi,hm⟩,ho,hg,hall⟩⟩
 obtain ⟨az,rfl⟩:∃ az:Nat→Value,tms=.int .i64 m::zs az 1 2 (.pointer (some ⟨0,0,none⟩)::.int .i64 i::zs az 5 13 []):=pat_fill hpat
 clear hpat
 conv=>whnf
 refine br_intro (fun h2=>?_) (fun h2=>?_)
 ·have h2:0 < m:=by
   have:=of_decide_eq_true h2
   omega
  have hi0:0 < i:=by
   rcases Nat.eq_zero_or_pos i with h | h
   ·subst h
    rw [hm] at h2
    rw [mag8 (by omega)] at h2
    exact absurd h2 (by decide)
   ·exact h
  obtain ⟨i,rfl⟩:∃ i',i=i'+1:=⟨i - 1,by omega⟩
  have ei:IntKind.i64.wrap (((i+1:Nat):Int) - 1)=((i:Nat):Int):=by rw [wrapi64 (by omega) (by omega)]; omega
  have hm2:m / 256=n / C ^ (8 - i):=by
   rw [hm,div_pow_succ,show 8 - (i+1)+1=8 - i by omega]
  have hlow:C ^ (8 - (i+1))≤n:=by
   rcases Nat.lt_or_ge n (C ^ (8 - (i+1))) with h | h
   ·rw [hm,Nat.div_eq_of_lt h] at h2
    exact absurd h2 (by decide)
   ·exact h
  conv=>whnf
  simp only [ei]
  refine ⟨⟨by omega,by omega⟩,?_⟩
  simp only [toNat_cast,rowAdd_eq,Nat.zero_add]
  conv=>whnf
  refine ⟨by show i < 8; omega,?_⟩
  conv=>whnf
  obtain ⟨x,hx⟩:=hall i (by omega)
  rw [hx]
  conv=>whnf
  rw [u8_mod,shr_i64_8,show ((m:Nat):Int) / 256=((m / 256:Nat):Int) from rfl]
  refine .inl ⟨_,?_,i,m / 256,_,(.keep (.sk 2 (.keep (.keep (.sk 13 .nil rfl))) rfl)),rfl,rfl,?_⟩
  ·omega
  ·refine ⟨⟨by omega,hm2⟩,.inr (by rw [show 8 - i - 1=8 - (i+1) by omega]; exact hlow),fun r hr1 hr2=>?_,fun r hr=>?_⟩
   rotate_left
   ·by_cases he:r=i
    ·exact ⟨_,if_pos he⟩
    ·rw [if_neg he]; exact hall r hr
   by_cases he:r=i
   ·subst he
    rw [if_pos rfl,hm,show 7 - r=8 - (r+1) by omega]
   ·rw [if_neg he]
    exact hg r (by omega) hr2
 ·have h2:m=0:=by
   have:=of_decide_eq_false h2
   omega
  have hlt:n < C ^ (8 - i):=by
   rw [h2] at hm
   have h3:=Nat.mod_lt n (Cpos (8 - i))
   have h4:=Nat.mod_add_div n (C ^ (8 - i))
   rw [← hm,Nat.mul_zero,Nat.add_zero] at h4
   rw [← h4]; exact h3
  rcases Nat.eq_zero_or_pos (8 - i) with hz | hz
  ·have h0:n=0:=by
    rw [hz,Nat.pow_zero] at hlt; omega
   obtain rfl:i=8:=by omega
   subst h0
   conv=>whnf
   refine ⟨⟨by omega,by omega,Int.le_refl _,Nat.le_refl _,rfl⟩,?_⟩
   conv=>whnf
   show Value.string ⟨#[]⟩=Value.string (nb 0)
   rw [nb_zero]
  ·obtain ⟨k,hk⟩:∃ k,8 - i=k+1:=⟨8 - i - 1,by omega⟩
   rw [hk] at hlt
   have ho:C ^ k≤n:=by
    rcases ho with h | h
    ·omega
    ·rw [show 8 - i - 1=k by omega] at h; exact h
   have e:=bytesOf_from (g:=g) (i:=i) (m:=k+1) (X:=n) (fun r hr=>by
    rw [hg (i+r) (by omega) (by omega),show 7 - (i+r)=k+1 - 1 - r by omega])
   conv=>whnf
   refine ⟨⟨by omega,by omega,Int.le_refl _,Nat.le_refl _,rfl⟩,?_⟩
   simp only [toNat_cast,rowAdd_eq,Nat.zero_add,hk]
   conv=>whnf
   refine ⟨⟨by show i+(k+1)≤8; omega,fun r hr=>hall (i+r) (by omega)⟩,?_⟩
   conv=>whnf
   show Value.string ⟨⟨bytesOf g i (k+1)⟩⟩=Value.string (nb n)
   rw [e,nb_be hlt (.inr ho)]
theorem rdigits_ok:Snd Tryz.prog 138 textS:=by
 refine snd_of E0ok Dok Tryz.func138 (enters_of Tryz.func138 (by kernel_rfl) rfl) (fun _=>rfl) (fun _=>rfl) ?_
 intro (n:Nat) hp
 have hp:n < 72057594037927936:=hp
 conv=>whnf
 refine .inl ⟨fun mm tz hz=>∃ (e:Nat) (k:Int) (out:Value) (hp:Heap),Pat (some (.int .i64 n)::nos 2 (some (out)::some (.int .i64 k)::nos 25 [])) tz∧hz=hp∧e=mm∧((e≤7∧k=8*(e:Int) - 8)∧((out=.slice none 0 0∧hp=[]∧n / C ^ e=0)∨(∃ m g,out=.slice (some ⟨0,0,none⟩) m capU∧hp=[some (.flat true m 1 g)]∧(1≤m∧m≤7 - e)∧n / C ^ e < C ^ m∧C ^ (m - 1)≤n / C ^ e∧∀ r,r < m→g r=[.int .u8 ((n / C ^ e / C ^ (m - 1 - r) % C:Nat):Int)]))),.inl ⟨_,7,48,.slice none 0 0,[],(.keep (.sk 2 (.keep (.keep (.sk 25 .nil rfl))) rfl)),rfl,rfl,?_⟩,?_⟩
 ·exact ⟨⟨Nat.le_refl _,rfl⟩,.inl ⟨rfl,rfl,pow7' hp⟩⟩
 rintro mm tms _ ⟨e,k,out,hp,hpat,rfl,rfl,⟨⟨he,hk⟩,h⟩⟩
 obtain ⟨az,rfl⟩:∃ az:Nat→Value,tms=.int .i64 n::zs az 1 2 (out::.int .i64 k::zs az 5 25 []):=pat_fill hpat
 clear hpat
 rcases h with ⟨rfl,rfl,hz⟩ | ⟨m,g,rfl,rfl,hm,hl1,hl2,hg⟩
 ·conv=>whnf
  refine br_intro (fun h1=>?_) (fun h1=>?_)
  ·have h1:=of_decide_eq_true h1
   obtain ⟨e,rfl⟩:∃ e',e=e'+1:=⟨e - 1,by omega⟩
   have hsh:=shrk (n:=n) k (e:=e) (by omega) (by omega)
   obtain ⟨P,hP⟩:∃ P,P=n / C ^ e:=⟨_,rfl⟩
   rw [← hP] at hsh
   obtain ⟨D,hD⟩:∃ D,D=P % 256:=⟨_,rfl⟩
   have ed:Int.tmod ((P:Nat):Int) 256=((D:Nat):Int):=by rw [hD]; rfl
   have hsp:=digit_split n e
   rw [hz,← hP,← hD] at hsp
   have hk2:IntKind.i64.wrap (k - 8)=8*(e:Int) - 8:=by rw [wrapi64 (by omega) (by omega)]; omega
   conv=>whnf
   rw [show decide (0≤k)=true from decide_eq_true (by omega)]
   conv=>whnf
   rw [hsh,ed]
   by_cases h2:0 < D
   ·rw [show decide (((D:Nat):Int) > 0)=true from decide_eq_true (by omega)]
    conv=>whnf
    rw [show decide (0≤k)=true from decide_eq_true (by omega)]
    conv=>whnf
    rw [hsh,u8_of (show P < 256 by omega)]
    refine ⟨by decide,?_⟩
    conv=>whnf
    rw [hk2]
    refine .inr ⟨[1],[0,3,4],?_⟩
    conv=>whnf
    intro _
    conv=>whnf
    refine ⟨_,?_,e,8*(e:Int) - 8,.slice (some ⟨0,0,none⟩) 1 capU,[some (.flat true 1 1 _)],(.keep (.sk 2 (.keep (.keep (.sk 25 .nil rfl))) rfl)),rfl,rfl,?_⟩
    ·omega
    ·refine ⟨⟨by omega,rfl⟩,.inr ⟨1,_,rfl,rfl,⟨Nat.le_refl _,by omega⟩,by rw [← hP]; show P < 256; omega,by rw [← hP]; show 1≤P; omega,fun r hr=>?_⟩⟩
     have h0:r=0:=by omega
     subst h0
     rw [← hP]
     have:P / C ^ (1 - 1 - 0) % C=P:=by
      show P / 1 % 256=P
      omega
     rw [this]
     rfl
   ·rw [show decide (((D:Nat):Int) > 0)=false from decide_eq_false (by omega)]
    conv=>whnf
    rw [hk2]
    refine .inl ⟨_,?_,e,8*(e:Int) - 8,.slice none 0 0,[],(.keep (.sk 2 (.keep (.keep (.sk 25 .nil rfl))) rfl)),rfl,rfl,?_⟩
    ·omega
    ·exact ⟨⟨by omega,rfl⟩,.inl ⟨rfl,rfl,by rw [← hP]; omega⟩⟩
  ·have h1:=of_decide_eq_false h1
   obtain rfl:e=0:=by omega
   have hn0:n=0:=by simpa using hz
   subst hn0
   conv=>whnf
   show Value.string ⟨#[]⟩=Value.string (nb 0)
   rw [nb_zero]
 ·conv=>whnf
  refine br_intro (fun h1=>?_) (fun h1=>?_)
  ·have h1:=of_decide_eq_true h1
   obtain ⟨e,rfl⟩:∃ e',e=e'+1:=⟨e - 1,by omega⟩
   have hsh:=shrk (n:=n) k (e:=e) (by omega) (by omega)
   obtain ⟨P,hP⟩:∃ P,P=n / C ^ e:=⟨_,rfl⟩
   obtain ⟨Q,hQ⟩:∃ Q,Q=n / C ^ (e+1):=⟨_,rfl⟩
   rw [← hP] at hsh
   obtain ⟨D,hD⟩:∃ D,D=P % 256:=⟨_,rfl⟩
   have ed:Int.tmod ((P:Nat):Int) 256=((D:Nat):Int):=by rw [hD]; rfl
   have hDlt:D < 256:=by omega
   have hsp:=digit_split n e
   rw [← hP,← hD,← hQ] at hsp
   rw [← hQ] at hl1 hl2 hg
   have g1:=push_lt hl1 hDlt
   have g2:=push_ge (d:=D) hl2 hm.1
   rw [← hsp] at g1 g2
   have hk2:IntKind.i64.wrap (k - 8)=8*(e:Int) - 8:=by rw [wrapi64 (by omega) (by omega)]; omega
   conv=>whnf
   rw [show decide (0≤k)=true from decide_eq_true (by omega)]
   conv=>whnf
   rw [hsh,ed]
   by_cases h2:0 < D
   ·rw [show decide (((D:Nat):Int) > 0)=true from decide_eq_true (by omega)]
    conv=>whnf
    rw [show decide (0≤k)=true from decide_eq_true (by omega)]
    conv=>whnf
    rw [hsh,u8_mod]
    refine ⟨⟨by decide,rfl,?_⟩,?_⟩
    ·show (m+1)*1≤_
     omega
    conv=>whnf
    refine ⟨[0,4],?_⟩
    conv=>whnf
    intro _
    conv=>whnf
    rw [hk2]
    refine .inr ⟨[0],[0,3,4],?_⟩
    conv=>whnf
    intro _
    conv=>whnf
    refine ⟨_,?_,e,8*(e:Int) - 8,.slice (some ⟨0,0,none⟩) (m+1) capU,[some (.flat true (m+1) 1 _)],(.keep (.sk 2 (.keep (.keep (.sk 25 .nil rfl))) rfl)),rfl,rfl,?_⟩
    ·omega
    ·refine ⟨⟨by omega,rfl⟩,.inr ⟨m+1,_,rfl,rfl,⟨by omega,by omega⟩,by rw [← hP]; exact g1,by rw [← hP]; exact g2,fun r hr=>?_⟩⟩
     rw [← hP]
     exact push_rows hsp hDlt hg r hr
   ·rw [show decide (((D:Nat):Int) > 0)=false from decide_eq_false (by omega)]
    conv=>whnf
    refine br_yes ?_ ?_
    ·exact decide_eq_true (by omega)
    conv=>whnf
    rw [show decide (0≤k)=true from decide_eq_true (by omega)]
    conv=>whnf
    rw [hsh,u8_mod]
    refine ⟨⟨by decide,rfl,?_⟩,?_⟩
    ·show (m+1)*1≤_
     omega
    conv=>whnf
    refine ⟨[0,4],?_⟩
    conv=>whnf
    intro _
    conv=>whnf
    rw [hk2]
    refine .inr ⟨[0],[0,3,4],?_⟩
    conv=>whnf
    intro _
    conv=>whnf
    refine ⟨_,?_,e,8*(e:Int) - 8,.slice (some ⟨0,0,none⟩) (m+1) capU,[some (.flat true (m+1) 1 _)],(.keep (.sk 2 (.keep (.keep (.sk 25 .nil rfl))) rfl)),rfl,rfl,?_⟩
    ·omega
    ·refine ⟨⟨by omega,rfl⟩,.inr ⟨m+1,_,rfl,rfl,⟨by omega,by omega⟩,by rw [← hP]; exact g1,by rw [← hP]; exact g2,fun r hr=>?_⟩⟩
     rw [← hP]
     exact push_rows hsp hDlt hg r hr
  ·have h1:=of_decide_eq_false h1
   obtain rfl:e=0:=by omega
   rw [Nat.pow_zero,Nat.div_one] at hl1 hl2 hg
   obtain ⟨m,rfl⟩:∃ m',m=m'+1:=⟨m - 1,by omega⟩
   have hs:=bytesOf_be hg
   conv=>whnf
   refine ⟨⟨by show 0+(m+1)≤m+1; omega,fun r hr=>⟨_,by show g (0+r)=_; rw [Nat.zero_add]; exact hg r hr⟩⟩,?_⟩
   rw [show (Blk.flat true (m+1) 1 g).row=g from rfl,hs]
   conv=>whnf
   show Value.string (be (m+1) n)=Value.string (nb n)
   rw [nb_be hl1 (.inr (by rw [show m+1 - 1=m by omega] at hl2; exact hl2))]
end Go.Proofs.YtppeponndkfbkaaGreat
