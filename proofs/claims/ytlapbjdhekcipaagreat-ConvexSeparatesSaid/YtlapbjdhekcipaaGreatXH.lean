import Derived.Test.YtlapbjdhekcipaaGreatXG
set_option linter.unusedVariables false
set_option linter.unusedSimpArgs false
set_option maxRecDepth 20000
set_option maxHeartbeats 1000000
namespace Go.Proofs.YtlapbjdhekcipaaGreat
open Go Go.Ae
def Erc:Env:=En [(191,.p kT),(177,.p IA),(179,.p js),(180,.p r8)]
theorem HW:EnvOk Tryz.prog Erc:=bD ⟨Cc,ZI,FW,Fq,trivial⟩ trivial
theorem zi:bh Tryz.prog 155 eX:=by
 refine bk HW aN Tryz.func155 (enters_of Tryz.func155 (by kernel_rfl) rfl) (fun _=>rfl) (fun _=>rfl) ?_
 intro (n:Int) hp;have hp:-9223372036854775808≤n∧n < 9223372036854775808:=hp;obtain ⟨k,hk⟩:∃ k:Nat,k=n.natAbs:=⟨_,rfl⟩;obtain ⟨v,hv⟩:∃ v,v=nb k:=⟨_,rfl⟩;have ev:IA.val k=.string v:=by rw [hv]; rfl
 conv=>whnf
 refine aK (fun h1=>?_) (fun h1=>?_)
 ·have h1:n=(k:Int):=by have:=of_decide_eq_true h1; omega
  conv=>whnf
  refine ⟨k,by rw [h1]; rfl,by show k < 9223372036854775808; omega,?_⟩
  rw [ev];conv=>whnf
  show Value.agg ⟨[.bool false,.string v]⟩=aH n
  rw [hv,h1];have:=jq false k;exact this
 ·have h1:n < 0:=by have:=of_decide_eq_false h1; omega
  conv=>whnf
  refine aK (fun J=>?_) (fun J=>?_)
  ·have J:n=-9223372036854775808:=by
    have J:n=IntKind.i64.wrap (0 - n):=by simpa using J
    rw [Gc h1 hp.1] at J
    split at J <;> omega
   subst J;conv=>whnf
   exact Wg.symm
  ·have J:IntKind.i64.wrap (0 - n)=(k:Int):=by
    have h3:=Gc h1 hp.1
    split at h3
    ·rename_i e;rw [h3] at J;simp at J
    ·omega
   conv=>whnf
   rw [J];refine ⟨k,rfl,by
    show k < 9223372036854775808
    have h3:=Gc h1 hp.1
    split at h3 <;> omega,?_⟩
   rw [ev];conv=>whnf
   show Value.agg ⟨[.bool true,.string v]⟩=aH n
   rw [hv,hk,wg h1]
theorem GV:bh Tryz.prog 174 gY:=by
 refine bk HW aN Tryz.func174 (enters_of Tryz.func174 (by kernel_rfl) rfl) (fun _=>rfl) (fun _=>rfl) ?_
 intro ⟨b,s⟩ hp;have hp:s.size≤549755813888:=hp;conv=>whnf
 refine ⟨(b,s),rfl,hp,?_⟩;obtain ⟨z,hz⟩:∃ z,z=IV.z (b,s):=⟨_,rfl⟩;obtain ⟨m,hm⟩:∃ m,m=nb z.natAbs:=⟨_,rfl⟩;have fin:∀ x:Value,x=aH (-z)→x=gY.val (b,s):=fun x h=>by rw [h,hz]; rfl
 rcases Int.lt_or_le z 0 with h | h
 ·rw [show js.val (b,s)=.agg ⟨[.bool true,.string m]⟩ by show aH (IV.z (b,s))=_; rw [← hz,wg h,hm]]
  conv=>whnf
  refine fin _ ?_;rw [wh (by omega),Int.natAbs_neg,hm]
  rfl
 ·rw [show js.val (b,s)=.agg ⟨[.bool false,.string m]⟩ by show aH (IV.z (b,s))=_; rw [← hz,wh h,hm]]
  conv=>whnf
  refine fin _ ?_;rcases Int.lt_or_eq_of_le h with h | h
  ·rw [wg (by omega),Int.natAbs_neg,← hm]
   show Value.agg ⟨[.bool (!m.toList == (⟨#[]⟩:ByteArray).toList),.string m]⟩=_
   rw [hm,xc (by omega)]
  ·rw [wh (by omega),Int.natAbs_neg,← hm]
   show Value.agg ⟨[.bool (!m.toList == (⟨#[]⟩:ByteArray).toList),.string m]⟩=_
   rw [hm,wS (by omega)]
theorem ZJ:bh Tryz.prog 159 l6:=by
 refine bk HW aN Tryz.func159 (enters_of Tryz.func159 (by kernel_rfl) rfl) (fun _=>rfl) (fun _=>rfl) ?_
 intro ⟨⟨b,s⟩,⟨c,t⟩⟩ hp;have hp:s.size≤549755813888∧t.size≤549755813888:=hp;obtain ⟨x,hx⟩:∃ x,x=IV.z (b,s):=⟨_,rfl⟩;obtain ⟨y,hy⟩:∃ y,y=IV.z (c,t):=⟨_,rfl⟩;obtain ⟨m,hm⟩:∃ m,m=nb x.natAbs:=⟨_,rfl⟩;obtain ⟨k,hk⟩:∃ k,k=nb y.natAbs:=⟨_,rfl⟩;have rK:aQ x.natAbs≤549755813888:=by rw [hx]; exact IV.aQ (i:=(b,s)) hp.1
 have ym:aQ y.natAbs≤549755813888:=by rw [hy]; exact IV.aQ (i:=(c,t)) hp.2
 have fin:∀ z:Int,z=dO x y→Value.int .i64 z=l6.val ((b,s),(c,t)):=fun z h=>by rw [h,hx,hy]; rfl
 rcases Int.lt_or_le x 0 with h1 | h1
 ·have e1:js.val (b,s)=.agg ⟨[.bool true,.string m]⟩:=by show aH (IV.z (b,s))=_; rw [← hx,wg h1,hm]
  rcases Int.lt_or_le y 0 with J | J
  ·have e2:js.val (c,t)=.agg ⟨[.bool true,.string k]⟩:=by show aH (IV.z (c,t))=_; rw [← hy,wg J,hk]
   conv=>whnf
   refine .inl ⟨3,[[],[0],[],[0,1,2],[0,1,2,3],[0,1,2,3,4]],by kernel_rfl,?_⟩
   conv=>whnf
   refine ⟨(b,s),rfl,hp.1,?_⟩;rw [e1];conv=>whnf
   refine ⟨(c,t),rfl,hp.2,?_⟩;rw [e2];conv=>whnf
   first
    | exact fin _ (uy (by omega)).symm
    | (refine ⟨(y.natAbs,x.natAbs),by rw [hm,hk]; rfl,⟨by show aQ y.natAbs≤_; omega,by show aQ x.natAbs≤_; omega⟩,?_⟩
       conv=>whnf
       exact fin _ (NZ h1 J).symm)
  ·have e2:js.val (c,t)=.agg ⟨[.bool false,.string k]⟩:=by show aH (IV.z (c,t))=_; rw [← hy,wh J,hk]
   conv=>whnf
   refine .inl ⟨3,[[],[0],[],[0,1,2],[0,1,2,3],[0,1,2,3,4]],by kernel_rfl,?_⟩
   conv=>whnf
   refine ⟨(b,s),rfl,hp.1,?_⟩;rw [e1];conv=>whnf
   refine ⟨(c,t),rfl,hp.2,?_⟩;rw [e2];conv=>whnf
   first
    | exact fin _ (ux (by omega)).symm
    | (refine ⟨(x.natAbs,y.natAbs),by rw [hm,hk]; rfl,⟨by show aQ x.natAbs≤_; omega,by show aQ y.natAbs≤_; omega⟩,?_⟩
       conv=>whnf
       exact fin _ (NY h1 J).symm)
 ·have e1:js.val (b,s)=.agg ⟨[.bool false,.string m]⟩:=by show aH (IV.z (b,s))=_; rw [← hx,wh h1,hm]
  rcases Int.lt_or_le y 0 with J | J
  ·have e2:js.val (c,t)=.agg ⟨[.bool true,.string k]⟩:=by show aH (IV.z (c,t))=_; rw [← hy,wg J,hk]
   conv=>whnf
   refine .inl ⟨3,[[],[0],[],[0,1,2],[0,1,2,3],[0,1,2,3,4]],by kernel_rfl,?_⟩
   conv=>whnf
   refine ⟨(b,s),rfl,hp.1,?_⟩;rw [e1];conv=>whnf
   refine ⟨(c,t),rfl,hp.2,?_⟩;rw [e2];conv=>whnf
   first
    | exact fin _ (uy (by omega)).symm
    | (refine ⟨(y.natAbs,x.natAbs),by rw [hm,hk]; rfl,⟨by show aQ y.natAbs≤_; omega,by show aQ x.natAbs≤_; omega⟩,?_⟩
       conv=>whnf
       exact fin _ (NZ h1 J).symm)
  ·have e2:js.val (c,t)=.agg ⟨[.bool false,.string k]⟩:=by show aH (IV.z (c,t))=_; rw [← hy,wh J,hk]
   conv=>whnf
   refine .inl ⟨3,[[],[0],[],[0,1,2],[0,1,2,3],[0,1,2,3,4]],by kernel_rfl,?_⟩
   conv=>whnf
   refine ⟨(b,s),rfl,hp.1,?_⟩;rw [e1];conv=>whnf
   refine ⟨(c,t),rfl,hp.2,?_⟩;rw [e2];conv=>whnf
   first
    | exact fin _ (ux (by omega)).symm
    | (refine ⟨(x.natAbs,y.natAbs),by rw [hm,hk]; rfl,⟨by show aQ x.natAbs≤_; omega,by show aQ y.natAbs≤_; omega⟩,?_⟩
       conv=>whnf
       exact fin _ (NY h1 J).symm)
open Go Go.Ae
theorem LU:bh Tryz.prog 189 xe:=by
 refine bk zK aN Tryz.func189 (enters_of Tryz.func189 (by kernel_rfl) rfl) (fun _=>rfl) (fun _=>rfl) ?_
 intro ⟨s,t⟩ hp;have hp:s.size≤549755813896∧t.size≤549755813896:=hp;obtain ⟨m,hm⟩:∃ m:Nat,m=max s.size t.size:=⟨_,rfl⟩;obtain ⟨n,hn⟩:∃ n:Nat,n=m+1:=⟨_,rfl⟩;have em:(if ((t.size:Nat):Int) > ((s.size:Nat):Int) then ((t.size:Nat):Int) else ((s.size:Nat):Int))=(m:Int):=by split <;> omega
 have e1:IntKind.i64.wrap (((m:Nat):Int)+1)=((n:Nat):Int):=by rw [ax (by omega) (by omega)]; omega
 conv=>whnf
 rw [show (if (((s,t).snd.size:Nat):Int) > (((s,t).fst.size:Nat):Int) then (((s,t).snd.size:Nat):Int) else (((s,t).fst.size:Nat):Int))=(m:Int) from em,e1]
 refine ⟨⟨by omega,Int.le_refl _,by show ((n:Nat):Int)*((1:Nat):Int)≤_; omega⟩,?_⟩
 simp only [toNat_cast];conv=>whnf
 refine .inl ⟨fun mm tz hz=>∃ (j:Nat) (Y:Nat) (c:Nat) (g:Nat→List Value),bA (some (.string s)::some (.string t)::aF 3 (some (.int .i64 (n:Nat))::some (.slice (some ⟨0,0,none⟩) n n)::some (.int .i64 c)::some (.int .i64 ((j+1:Nat):Int))::aF 51 [])) tz∧hz=[some (.flat true n 1 g)]∧n - j=mm∧((j≤n∧c≤1)∧za (ab s) (ab t) j Y c∧nj g n j Y),.inl ⟨_,0,0,0,_,(.aa (.aa (.sk 3 (.aa (.aa (.aa (.aa (.sk 51 .nil rfl))))) rfl))),rfl,rfl,?_⟩,?_⟩
 ·exact ⟨⟨Nat.zero_le _,by decide⟩,Sp _ _,Kl _⟩
 rintro mm aT _ ⟨j,Y,c,g,aw,rfl,rfl,⟨⟨hj,hc⟩,hY,hg⟩⟩
 obtain ⟨az,rfl⟩:∃ az:Nat→Value,aT=.string s::.string t::zs az 2 3 (.int .i64 (n:Nat)::.slice (some ⟨0,0,none⟩) n n::.int .i64 c::.int .i64 ((j+1:Nat):Int)::zs az 9 51 []):=bI aw;clear aw;conv=>whnf
 refine aK (fun h1=>?_) (fun h1=>?_)
 ·have h1:j < n:=by
   have:=of_decide_eq_true h1;omega
  obtain ⟨u,hu⟩:∃ u,u=c+bW (ab s) j:=⟨_,rfl⟩;obtain ⟨t',ht⟩:∃ t',t'=u+bW (ab t) j:=⟨_,rfl⟩;obtain ⟨da,pY⟩:∃ da,da=bW (ab s) j:=⟨_,rfl⟩;obtain ⟨dd,c9⟩:∃ dd,dd=bW (ab t) j:=⟨_,rfl⟩;have b1:bW (ab s) j < 256:=qE _ _;have b2:bW (ab t) j < 256:=qE _ _;obtain ⟨Y',au,aZ⟩:=SW (t:=t') hY hg h1 (by rw [ht,hu])
  obtain ⟨q,hq⟩:∃ q,q=n - (j+1):=⟨_,rfl⟩;rw [← hq] at aZ;obtain ⟨x,hx⟩:=hg.1 q (by omega)
  rw [← pY] at hu b1;rw [← c9] at ht b2;have ea:IntKind.i64.wrap ((c:Int)+IntKind.i64.wrap (da:Int))=(u:Int):=by rw [ax (x:=(da:Int)) (by omega) (by omega),ax (by omega) (by omega)]; omega
  have ed:IntKind.i64.wrap ((u:Int)+IntKind.i64.wrap (dd:Int))=(t':Int):=by rw [ax (x:=(dd:Int)) (by omega) (by omega),ax (by omega) (by omega)]; omega
  have ej:IntKind.i64.wrap (((n:Nat):Int) - ((j+1:Nat):Int))=((q:Nat):Int):=by rw [ax (by omega) (by omega)]; omega
  have e7:IntKind.i64.wrap (((j+1:Nat):Int)+1)=((j+1+1:Nat):Int):=by rw [ax (by omega) (by omega)]; rfl
  have ediv:((t':Nat):Int) / 256=((t' / C:Nat):Int):=rfl;have D0:t'≤511:=by omega
  obtain ⟨tt,ae6⟩:∃ tt,tt=t:=⟨_,rfl⟩;obtain ⟨t,rfl⟩:∃ vy,vy=t':=⟨_,rfl⟩;subst ae6;conv=>whnf
  refine aK (fun J=>?_) (fun J=>?_)
  ·have J:j < s.size:=by
    have h4:((j+1:Nat):Int)≤((s.size:Nat):Int):=of_decide_eq_true J;omega
   have hb:=tT J;have ei:IntKind.i64.wrap (((s.size:Nat):Int) - ((j+1:Nat):Int))=((s.size - (j+1):Nat):Int):=by rw [ax (by omega) (by omega)]; omega
   conv=>whnf
   simp only [ei];refine ⟨⟨by omega,by omega⟩,?_⟩
   simp only [toNat_cast];conv=>whnf
   rw [hb,← pY,ea];refine aK (fun h3=>?_) (fun h3=>?_)
   ·have h3:j < tt.size:=by
     have:=of_decide_eq_true h3;have h4:((j+1:Nat):Int)≤((tt.size:Nat):Int):=this;omega
    have hb:=tT h3;have ei:IntKind.i64.wrap (((tt.size:Nat):Int) - ((j+1:Nat):Int))=((tt.size - (j+1):Nat):Int):=by rw [ax (by omega) (by omega)]; omega
    conv=>whnf
    simp only [ei];refine ⟨⟨by omega,by omega⟩,?_⟩
    simp only [toNat_cast];conv=>whnf
    rw [hb,← c9,ed];simp only [ej];refine ⟨⟨by omega,by omega⟩,?_⟩
    simp only [toNat_cast,ay,Nat.zero_add];conv=>whnf
    refine ⟨by show q < n; omega,?_⟩
    conv=>whnf
    rw [hx];conv=>whnf
    simp only [qD,c7,ediv,e7];refine .inl ⟨_,?_,j+1,Y',t / C,_,(.aa (.aa (.sk 3 (.aa (.aa (.aa (.aa (.sk 51 .nil rfl))))) rfl))),rfl,rfl,?_⟩
    ·omega
    ·exact ⟨⟨by omega,by show t / 256≤1; omega⟩,au,aZ⟩
   ·have h3:tt.size≤j:=by
     have h4:¬ ((j+1:Nat):Int)≤((tt.size:Nat):Int):=of_decide_eq_false h3;omega
    have h0:=BZ h3;rw [c9,h0,Nat.add_zero] at ht;conv=>whnf
    rw [← ht];simp only [ej];refine ⟨⟨by omega,by omega⟩,?_⟩
    simp only [toNat_cast,ay,Nat.zero_add];conv=>whnf
    refine ⟨by show q < n; omega,?_⟩
    conv=>whnf
    rw [hx];conv=>whnf
    simp only [qD,c7,ediv,e7];refine .inl ⟨_,?_,j+1,Y',t / C,_,(.aa (.aa (.sk 3 (.aa (.aa (.aa (.aa (.sk 51 .nil rfl))))) rfl))),rfl,rfl,?_⟩
    ·omega
    ·exact ⟨⟨by omega,by show t / 256≤1; omega⟩,au,aZ⟩
  ·have J:s.size≤j:=by
    have h4:¬ ((j+1:Nat):Int)≤((s.size:Nat):Int):=of_decide_eq_false J;omega
   have h0:=BZ J;rw [pY,h0,Nat.add_zero] at hu;conv=>whnf
   rw [← hu];refine aK (fun h3=>?_) (fun h3=>?_)
   ·have h3:j < tt.size:=by
     have:=of_decide_eq_true h3;have h4:((j+1:Nat):Int)≤((tt.size:Nat):Int):=this;omega
    have hb:=tT h3;have ei:IntKind.i64.wrap (((tt.size:Nat):Int) - ((j+1:Nat):Int))=((tt.size - (j+1):Nat):Int):=by rw [ax (by omega) (by omega)]; omega
    conv=>whnf
    simp only [ei];refine ⟨⟨by omega,by omega⟩,?_⟩
    simp only [toNat_cast];conv=>whnf
    rw [hb,← c9,ed];simp only [ej];refine ⟨⟨by omega,by omega⟩,?_⟩
    simp only [toNat_cast,ay,Nat.zero_add];conv=>whnf
    refine ⟨by show q < n; omega,?_⟩
    conv=>whnf
    rw [hx];conv=>whnf
    simp only [qD,c7,ediv,e7];refine .inl ⟨_,?_,j+1,Y',t / C,_,(.aa (.aa (.sk 3 (.aa (.aa (.aa (.aa (.sk 51 .nil rfl))))) rfl))),rfl,rfl,?_⟩
    ·omega
    ·exact ⟨⟨by omega,by show t / 256≤1; omega⟩,au,aZ⟩
   ·have h3:tt.size≤j:=by
     have h4:¬ ((j+1:Nat):Int)≤((tt.size:Nat):Int):=of_decide_eq_false h3;omega
    have h0:=BZ h3;rw [c9,h0,Nat.add_zero] at ht;conv=>whnf
    rw [← ht];simp only [ej];refine ⟨⟨by omega,by omega⟩,?_⟩
    simp only [toNat_cast,ay,Nat.zero_add];conv=>whnf
    refine ⟨by show q < n; omega,?_⟩
    conv=>whnf
    rw [hx];conv=>whnf
    simp only [qD,c7,ediv,e7];refine .inl ⟨_,?_,j+1,Y',t / C,_,(.aa (.aa (.sk 3 (.aa (.aa (.aa (.aa (.sk 51 .nil rfl))))) rfl))),rfl,rfl,?_⟩
    ·omega
    ·exact ⟨⟨by omega,by show t / 256≤1; omega⟩,au,aZ⟩
 ·have h1:j=n:=by
   have h4:¬ ((j+1:Nat):Int)≤((n:Nat):Int):=of_decide_eq_false h1;omega
  subst h1;obtain ⟨v,hv,fw,pZ⟩:=TL hY hg ⟨by omega,by omega⟩
  subst hn;conv=>whnf
  refine ⟨⟨by show 0+(m+1)≤m+1; omega,fun r hr=>by show ∃ x,g (0+r)=_; rw [Nat.zero_add]; exact hg.1 r hr⟩,?_⟩
  rw [show (aj.flat true (m+1) 1 g).row=g from rfl,hv]
  conv=>whnf
  refine ⟨v,rfl,by show v.size≤_; omega,?_⟩
  conv=>whnf
  show Value.string (nb (ab v))=_
  rw [pZ]
  rfl
open Go Go.Ae
theorem LW:bh Tryz.prog 190 r9:=by
 refine bk zK aN Tryz.func190 (enters_of Tryz.func190 (by kernel_rfl) rfl) (fun _=>rfl) (fun _=>rfl) ?_
 intro ⟨s,t⟩ hp;have hp:(s.size≤549755813896∧t.size≤549755813896)∧ab t≤ab s:=hp;obtain ⟨n,hn⟩:∃ n:Nat,n=s.size:=⟨_,rfl⟩;conv=>whnf
 rw [show ((s,t).fst.size:Nat)=n from hn.symm]
 refine ⟨⟨by omega,Int.le_refl _,by show ((n:Nat):Int)*((1:Nat):Int)≤_; omega⟩,?_⟩
 simp only [toNat_cast];conv=>whnf
 refine .inl ⟨fun mm tz hz=>∃ (j:Nat) (Y:Nat) (c:Nat) (g:Nat→List Value),bA (some (.string s)::some (.string t)::aF 3 (some (.slice (some ⟨0,0,none⟩) n n)::some (.int .i64 c)::some (.int .i64 ((j+1:Nat):Int))::aF 47 [])) tz∧hz=[some (.flat true n 1 g)]∧n - j=mm∧((j≤n∧c≤1)∧zc (ab s) (ab t) j Y c∧nj g n j Y),.inl ⟨_,0,0,0,_,(.aa (.aa (.sk 3 (.aa (.aa (.aa (.sk 47 .nil rfl)))) rfl))),rfl,rfl,?_⟩,?_⟩
 ·exact ⟨⟨Nat.zero_le _,by decide⟩,Sq _ _,Kl _⟩
 rintro mm aT _ ⟨j,Y,c,g,aw,rfl,rfl,⟨⟨hj,hc⟩,hY,hg⟩⟩
 obtain ⟨az,rfl⟩:∃ az:Nat→Value,aT=.string s::.string t::zs az 2 3 (.slice (some ⟨0,0,none⟩) n n::.int .i64 c::.int .i64 ((j+1:Nat):Int)::zs az 8 47 []):=bI aw;clear aw;conv=>whnf
 rw [← hn];refine aK (fun h1=>?_) (fun h1=>?_)
 ·have h1:j < n:=by
   have:=of_decide_eq_true h1;omega
  obtain ⟨da,pY⟩:∃ da,da=bW (ab s) j:=⟨_,rfl⟩;obtain ⟨dd,c9⟩:∃ dd,dd=bW (ab t) j:=⟨_,rfl⟩;have b1:da < 256:=by rw [pY]; exact qE _ _
  have b2:dd < 256:=by rw [c9]; exact qE _ _
  obtain ⟨q,hq⟩:∃ q,q=n - (j+1):=⟨_,rfl⟩;obtain ⟨x,hx⟩:=hg.1 q (by omega)
  have ej:IntKind.i64.wrap ((n:Int) - ((j+1:Nat):Int))=((q:Nat):Int):=by rw [ax (by omega) (by omega)]; omega
  have e7:IntKind.i64.wrap (((j+1:Nat):Int)+1)=((j+1+1:Nat):Int):=by rw [ax (by omega) (by omega)]; rfl
  have hb:b8 s q=da:=by rw [pY,hq,hn]; exact tT (by omega)
  have ea:IntKind.i64.wrap (IntKind.i64.wrap (da:Int) - (c:Int))=(da:Int) - c:=by rw [ax (x:=(da:Int)) (by omega) (by omega),ax (by omega) (by omega)]
  conv=>whnf
  rw [← hn,ej];refine ⟨⟨by omega,by omega⟩,?_⟩
  simp only [toNat_cast];conv=>whnf
  rw [hb,ea];refine aK (fun h3=>?_) (fun h3=>?_)
  ·have h3:j < t.size:=by
    have h4:((j+1:Nat):Int)≤((t.size:Nat):Int):=of_decide_eq_true h3;omega
   have dG:=tT h3;rw [← c9] at dG;have ei:IntKind.i64.wrap (((t.size:Nat):Int) - ((j+1:Nat):Int))=((t.size - (j+1):Nat):Int):=by rw [ax (by omega) (by omega)]; omega
   obtain ⟨w,hw⟩:∃ w:Int,w=(da:Int) - c - dd:=⟨_,rfl⟩;have ed:IntKind.i64.wrap (((da:Int) - c) - IntKind.i64.wrap (dd:Int))=w:=by rw [ax (x:=(dd:Int)) (by omega) (by omega),ax (by omega) (by omega),hw]
   conv=>whnf
   simp only [ei];refine ⟨⟨by omega,by omega⟩,?_⟩
   simp only [toNat_cast];conv=>whnf
   rw [dG,ed];rcases Int.lt_or_le w 0 with hw | hw
   ·obtain ⟨e,c',he,cF,hs,lC⟩:∃ e c':Nat,e < 256∧c'≤1∧e+c+dd=da+256*c'∧(w+256=(e:Int)∧c'=1):=⟨(w+256).toNat,1,by omega,by omega,by omega,by omega,rfl⟩
    have ew:IntKind.i64.wrap (w+256)=(e:Int):=by rw [ax (by omega) (by omega)]; exact lC.1
    have e0:=lC.2;subst e0;obtain ⟨Y',au,aZ⟩:=Bm hY hg h1 he (by rw [← pY,← c9]; exact hs)
    rw [← hq] at aZ;refine nq ?_ ?_
    ·exact decide_eq_true hw
    conv=>whnf
    rw [ew];simp only [← hn,ej];refine ⟨⟨by omega,by omega⟩,?_⟩
    simp only [toNat_cast,ay,Nat.zero_add];conv=>whnf
    refine ⟨by show q < n; omega,?_⟩
    conv=>whnf
    rw [hx];conv=>whnf
    simp only [uZ he,e7];refine .inl ⟨_,?_,j+1,Y',_,_,(.aa (.aa (.sk 3 (.aa (.aa (.aa (.sk 47 .nil rfl)))) rfl))),rfl,rfl,?_⟩
    ·omega
    ·exact ⟨⟨by omega,cF⟩,au,aZ⟩
   ·obtain ⟨e,c',he,cF,hs,lC⟩:∃ e c':Nat,e < 256∧c'≤1∧e+c+dd=da+256*c'∧(w=(e:Int)∧c'=0):=⟨w.toNat,0,by omega,by omega,by omega,by omega,rfl⟩
    have ew:w=(e:Int):=lC.1;have e0:=lC.2;subst e0;obtain ⟨Y',au,aZ⟩:=Bm hY hg h1 he (by rw [← pY,← c9]; exact hs)
    rw [← hq] at aZ;refine aK (fun h=>absurd (of_decide_eq_true h) (by omega)) (fun _=>?_)
    conv=>whnf
    rw [ew];simp only [← hn,ej];refine ⟨⟨by omega,by omega⟩,?_⟩
    simp only [toNat_cast,ay,Nat.zero_add];conv=>whnf
    refine ⟨by show q < n; omega,?_⟩
    conv=>whnf
    rw [hx];conv=>whnf
    simp only [uZ he,e7];refine .inl ⟨_,?_,j+1,Y',_,_,(.aa (.aa (.sk 3 (.aa (.aa (.aa (.sk 47 .nil rfl)))) rfl))),rfl,rfl,?_⟩
    ·omega
    ·exact ⟨⟨by omega,cF⟩,au,aZ⟩
  ·have h3:t.size≤j:=by
    have h4:¬ ((j+1:Nat):Int)≤((t.size:Nat):Int):=of_decide_eq_false h3;omega
   have h0:=BZ h3;obtain ⟨w,hw⟩:∃ w:Int,w=(da:Int) - c:=⟨_,rfl⟩;rw [← c9] at h0;conv=>whnf
   rw [← hw];rcases Int.lt_or_le w 0 with hw | hw
   ·obtain ⟨e,c',he,cF,hs,lC⟩:∃ e c':Nat,e < 256∧c'≤1∧e+c+dd=da+256*c'∧(w+256=(e:Int)∧c'=1):=⟨(w+256).toNat,1,by omega,by omega,by omega,by omega,rfl⟩
    have ew:IntKind.i64.wrap (w+256)=(e:Int):=by rw [ax (by omega) (by omega)]; exact lC.1
    have e0:=lC.2;subst e0;obtain ⟨Y',au,aZ⟩:=Bm hY hg h1 he (by rw [← pY,← c9]; exact hs)
    rw [← hq] at aZ;refine nq ?_ ?_
    ·exact decide_eq_true hw
    conv=>whnf
    rw [ew];simp only [← hn,ej];refine ⟨⟨by omega,by omega⟩,?_⟩
    simp only [toNat_cast,ay,Nat.zero_add];conv=>whnf
    refine ⟨by show q < n; omega,?_⟩
    conv=>whnf
    rw [hx];conv=>whnf
    simp only [uZ he,e7];refine .inl ⟨_,?_,j+1,Y',_,_,(.aa (.aa (.sk 3 (.aa (.aa (.aa (.sk 47 .nil rfl)))) rfl))),rfl,rfl,?_⟩
    ·omega
    ·exact ⟨⟨by omega,cF⟩,au,aZ⟩
   ·obtain ⟨e,c',he,cF,hs,lC⟩:∃ e c':Nat,e < 256∧c'≤1∧e+c+dd=da+256*c'∧(w=(e:Int)∧c'=0):=⟨w.toNat,0,by omega,by omega,by omega,by omega,rfl⟩
    have ew:w=(e:Int):=lC.1;have e0:=lC.2;subst e0;obtain ⟨Y',au,aZ⟩:=Bm hY hg h1 he (by rw [← pY,← c9]; exact hs)
    rw [← hq] at aZ;refine aK (fun h=>absurd (of_decide_eq_true h) (by omega)) (fun _=>?_)
    conv=>whnf
    rw [ew];simp only [← hn,ej];refine ⟨⟨by omega,by omega⟩,?_⟩
    simp only [toNat_cast,ay,Nat.zero_add];conv=>whnf
    refine ⟨by show q < n; omega,?_⟩
    conv=>whnf
    rw [hx];conv=>whnf
    simp only [uZ he,e7];refine .inl ⟨_,?_,j+1,Y',_,_,(.aa (.aa (.sk 3 (.aa (.aa (.aa (.sk 47 .nil rfl)))) rfl))),rfl,rfl,?_⟩
    ·omega
    ·exact ⟨⟨by omega,cF⟩,au,aZ⟩
 ·have h1:j=n:=by
   have h4:¬ ((j+1:Nat):Int)≤((n:Nat):Int):=of_decide_eq_false h1;omega
  subst h1;obtain ⟨v,hv,fw,pZ⟩:=TN (g:=g) (by rw [← hn]; exact hY) hp.2 (by rw [← hn]; exact hg)
  rw [← hn] at hv fw;conv=>whnf
  rcases Nat.eq_zero_or_pos j with h0 | h0
  ·subst h0;conv=>whnf
   have e0:v=⟨#[]⟩:=hv.symm;subst e0;refine ⟨⟨#[]⟩,rfl,Nat.zero_le _,?_⟩;conv=>whnf
   show Value.string (nb (ab ⟨#[]⟩))=_
   rw [pZ]
   rfl
  ·obtain ⟨k,rfl⟩:∃ k,j=k+1:=⟨j - 1,by omega⟩
   conv=>whnf
   refine ⟨⟨by show 0+(k+1)≤k+1; omega,fun r hr=>by show ∃ x,g (0+r)=_; rw [Nat.zero_add]; exact hg.1 r hr⟩,?_⟩
   rw [show (aj.flat true (k+1) 1 g).row=g from rfl,hv]
   conv=>whnf
   refine ⟨v,rfl,by show v.size≤_; omega,?_⟩
   conv=>whnf
   show Value.string (nb (ab v))=_
   rw [pZ]
   rfl
open Go Go.Ae
theorem Uo:bh Tryz.prog 182 GJ:=by
 refine bk zK aN Tryz.func182 (enters_of Tryz.func182 (by kernel_rfl) rfl) (fun _=>rfl) (fun _=>rfl) ?_
 intro ⟨s,t⟩ hp;have hp:s.size≤549755813888∧t.size≤549755813888:=hp;obtain ⟨a,ha⟩:∃ n:Nat,n=s.size:=⟨_,rfl⟩;obtain ⟨b,hb⟩:∃ n:Nat,n=t.size:=⟨_,rfl⟩;obtain ⟨n,hn⟩:∃ n:Nat,n=a+b:=⟨_,rfl⟩;have e1:IntKind.i64.wrap (((a:Nat):Int)+((b:Nat):Int))=((n:Nat):Int):=by rw [ax (by omega) (by omega)]; omega
 conv=>whnf
 rw [show ((s,t).fst.size:Nat)=a from ha.symm,show ((s,t).snd.size:Nat)=b from hb.symm,e1]
 refine ⟨⟨by omega,Int.le_refl _,by show ((n:Nat):Int)*((8:Nat):Int)≤_; omega⟩,?_⟩
 simp only [toNat_cast];conv=>whnf
 rw [show ((s,t).fst.size:Nat)=a from ha.symm]
 refine .inl ⟨fun mm tz hz=>∃ (u:Nat) (p:Nat) (Z:Nat) (g:Nat→List Value),bA (some (.string s)::some (.string t)::aF 3 (some (.slice (some ⟨0,0,none⟩) n n)::some (.int .i64 (IntKind.i64.wrap (((u:Nat):Int) - 1)))::aF 80 [])) tz∧hz=[some (.flat true n 1 g)]∧u=mm∧((u+p=a)∧ze (ab s) (ab t) p b Z∧qM g n Z),.inr ⟨[0],[0,1,5,6],?_⟩,?_⟩
 ·conv=>whnf
  intro _;conv=>whnf
  refine ⟨_,a,0,0,_,(.aa (.aa (.sk 3 (.aa (.aa (.sk 80 .nil rfl))) rfl))),rfl,rfl,?_⟩;exact ⟨by omega,Sr _ _ _,SX _⟩
 rintro mm aT _ ⟨u,p,Z,g,aw,rfl,rfl,⟨hu,hY,hg⟩⟩
 obtain ⟨az,rfl⟩:∃ az:Nat→Value,aT=.string s::.string t::zs az 2 3 (.slice (some ⟨0,0,none⟩) n n::.int .i64 (IntKind.i64.wrap (((u:Nat):Int) - 1))::zs az 7 80 []):=bI aw;clear aw;conv=>whnf
 refine aK (fun h1=>?_) (fun h1=>?_)
 ·obtain ⟨i,rfl⟩:∃ i,u=i+1:=by
   rcases Nat.eq_zero_or_pos u with h | h
   ·subst h; exact absurd h1 (by decide)
   ·exact ⟨u - 1,by omega⟩
  have ei:IntKind.i64.wrap (((i+1:Nat):Int) - 1)=(i:Int):=by rw [ax (by omega) (by omega)]; omega
  rw [ei];conv=>whnf
  rw [← hb];refine .inl ⟨fun mm tz hz=>∃ (v:Nat) (q:Nat) (Z:Nat) (c:Nat) (g:Nat→List Value),bA (some (.string s)::some (.string t)::aF 3 (some (.slice (some ⟨0,0,none⟩) n n)::some (.int .i64 i)::some (.int .i64 c)::some (.int .i64 (IntKind.i64.wrap (((v:Nat):Int) - 1)))::aF 78 [])) tz∧hz=[some (.flat true n 1 g)]∧v=mm∧((v+q=b∧c < 256)∧zd (ab s) (ab t) p b q Z c∧qM g n Z),.inr ⟨[0],[0,1,5,6,7,8],?_⟩,?_⟩
  ·conv=>whnf
   intro _;conv=>whnf
   refine ⟨_,b,0,Z,0,g,(.aa (.aa (.sk 3 (.aa (.aa (.aa (.aa (.sk 78 .nil rfl))))) rfl))),rfl,rfl,?_⟩;exact ⟨⟨by omega,by decide⟩,Ss hY,hg⟩
  rintro mm aT _ ⟨v,q,Z,c,g,aw,rfl,rfl,⟨⟨hv,hc⟩,hI,hg⟩⟩
  obtain ⟨az,rfl⟩:∃ az:Nat→Value,aT=.string s::.string t::zs az 2 3 (.slice (some ⟨0,0,none⟩) n n::.int .i64 i::.int .i64 c::.int .i64 (IntKind.i64.wrap (((v:Nat):Int) - 1))::zs az 9 78 []):=bI aw;clear aw;clear hY;conv=>whnf
  refine aK (fun J=>?_) (fun J=>?_)
  ·obtain ⟨k,rfl⟩:∃ k,v=k+1:=by
    rcases Nat.eq_zero_or_pos v with h | h
    ·subst h; exact absurd J (by decide)
    ·exact ⟨v - 1,by omega⟩
   have ek:IntKind.i64.wrap (((k+1:Nat):Int) - 1)=(k:Int):=by rw [ax (by omega) (by omega)]; omega
   rw [ek];obtain ⟨x,hx⟩:∃ x,x=bW (ab s) p:=⟨_,rfl⟩;obtain ⟨y,hy⟩:∃ y,y=bW (ab t) q:=⟨_,rfl⟩;obtain ⟨z,hz⟩:∃ z,z=bW Z (p+q):=⟨_,rfl⟩;obtain ⟨w,hw⟩:∃ w,w=c+(x*y+z):=⟨_,rfl⟩;obtain ⟨r,hr⟩:∃ r,r=i+k+1:=⟨_,rfl⟩;have xb:x < 256:=by rw [hx]; exact qE _ _
   have yb:y < 256:=by rw [hy]; exact qE _ _
   have zb:z < 256:=by rw [hz]; exact qE _ _
   have er:r=n - 1 - (p+q):=by omega
   obtain ⟨Z',au,aZ⟩:=SY (t:=w) hI hg (by omega) (by omega) (by rw [hw,hx,hy,hz])
   rw [← er] at aZ;have p5:=hg r (by omega)
   rw [show n - 1 - r=p+q by omega,← hz] at p5
   have Ed:b8 s i=x:=by
    have:=tT (s:=s) (j:=p) (by omega)
    rw [show s.size - (p+1)=i by omega,← hx] at this
    exact this
   have AN:b8 t k=y:=by
    have:=tT (s:=t) (j:=q) (by omega)
    rw [show t.size - (q+1)=k by omega,← hy] at this
    exact this
   have z8:=XA hc xb yb zb hw;obtain ⟨hwC,hw6⟩:=TQ hc xb yb zb hw;have hand:=XB hw6;have erw:IntKind.i64.wrap (IntKind.i64.wrap ((i:Int)+(k:Int))+1)=(r:Int):=by rw [ax (x:=(i:Int)+(k:Int)) (by omega) (by omega),ax (by omega) (by omega)]; omega
   conv=>whnf
   refine .inl ⟨18,[[],[],[],[],[2,3],[2,3,4],[1,2,3,4,5],[1,2,3,4,5,6],[],[],[8,9],[8,9,10],[],[],[12,13],[12,13,14],[8,9,10,11,12,13,14,15],[1,2,3,4,5,6,7,8,9,10,11,12,13,14,15,16],[0,1,2,3,4,5,6,7,8,9,10,11,12,13,14,15,16,17],[0,1,2,3,4,5,6,7,8,9,10,11,12,13,14,15,16,17,18]],by kernel_rfl,?_⟩
   conv=>whnf
   simp only [erw,toNat_cast];refine ⟨⟨by omega,by omega⟩,?_⟩
   simp only [toNat_cast,ay,Nat.zero_add];conv=>whnf
   refine ⟨by show r < n; omega,?_⟩
   conv=>whnf
   rw [p5];conv=>whnf
   refine ⟨⟨by omega,by omega⟩,?_⟩
   simp only [toNat_cast];conv=>whnf
   rw [Ed];refine ⟨⟨by omega,by omega⟩,?_⟩
   simp only [toNat_cast];conv=>whnf
   rw [AN];simp only [z8,erw];refine ⟨⟨by omega,by omega⟩,?_⟩
   simp only [toNat_cast,ay,Nat.zero_add];conv=>whnf
   refine ⟨by show r < n; omega,?_⟩
   conv=>whnf
   rw [p5];conv=>whnf
   have hwm:w % C < 256:=Nat.mod_lt _ (by decide)
   have ewm:IntKind.i64.wrap ((w % C:Nat):Int)=((w % C:Nat):Int):=by
    obtain ⟨k,hk⟩:∃ k,k=w % C:=⟨_,rfl⟩;rw [← hk] at hwm ⊢;exact ax (by omega) (by omega)
   simp only [c7,hand,ewm];rw [show ((w:Nat):Int) / 256=((w / C:Nat):Int) from rfl]
   refine .inr ⟨[0],[0,1,5,6,7,8],?_⟩;conv=>whnf
   intro _;conv=>whnf
   refine ⟨_,?_,k,q+1,Z',w / C,_,(.aa (.aa (.sk 3 (.aa (.aa (.aa (.aa (.sk 78 .nil rfl))))) rfl))),rfl,rfl,?_⟩
   ·omega
   ·exact ⟨⟨by omega,hwC⟩,au,aZ⟩
  ·have J:v=0:=by
    have:=of_decide_eq_false J;rcases Nat.eq_zero_or_pos v with h | h
    ·exact h
    ·rw [ax (by omega) (by omega)] at this
     omega
   subst J;have hq:q=b:=by omega
   subst hq;obtain ⟨h0,Z',au,aZ⟩:=TO (n:=n) hI (by rw [hb]; exact gq t) hg (by omega) hc
   have er:i=n - 1 - (p+q):=by omega
   have p5:=hg i (by omega)
   rw [show n - 1 - i=p+q by omega,h0] at p5
   rw [← er] at aZ;have ec:IntKind.i64.wrap (((0:Nat):Int)+(c:Int))=(c:Int):=by rw [ax (by omega) (by omega)]; omega
   conv=>whnf
   refine ⟨⟨by omega,by omega⟩,?_⟩
   simp only [toNat_cast,ay,Nat.zero_add];conv=>whnf
   refine ⟨by show i < n; omega,?_⟩
   conv=>whnf
   rw [p5];conv=>whnf
   refine ⟨⟨by omega,by omega⟩,?_⟩
   simp only [toNat_cast,ay,Nat.zero_add];conv=>whnf
   refine ⟨by show i < n; omega,?_⟩
   conv=>whnf
   rw [p5];conv=>whnf
   simp only [ec]
   skip
   refine .inr ⟨[0],[0,1,5,6],?_⟩;conv=>whnf
   intro _;conv=>whnf
   refine ⟨_,?_,i,p+1,Z',_,(.aa (.aa (.sk 3 (.aa (.aa (.sk 80 .nil rfl))) rfl))),rfl,rfl,?_⟩
   ·omega
   ·exact ⟨by omega,au,aZ⟩
 ·have h1:u=0:=by
   have:=of_decide_eq_false h1;rcases Nat.eq_zero_or_pos u with h | h
   ·exact h
   ·rw [ax (by omega) (by omega)] at this
    omega
  subst h1;have oI:p=a:=by omega
  subst oI;have hZ:Z=ab s*ab t:=TP hY (by rw [ha]; exact gq s)
  have ae7:Z < C ^ n:=by rw [hZ,hn,ha,hb]; exact Wh
  clear hY;conv=>whnf
  refine ⟨⟨by omega,Int.le_refl _,by show ((n:Nat):Int)*((1:Nat):Int)≤_; omega⟩,?_⟩
  simp only [toNat_cast];conv=>whnf
  refine .inl ⟨fun mm tz hz=>∃ (i:Nat) (e:Nat→List Value),bA (aF 5 (some (.slice (some ⟨0,0,none⟩) n n)::aF 3 (some (.slice (some ⟨1,0,none⟩) n n)::some (.int .i64 i)::aF 76 []))) tz∧hz=[some (.flat true n 1 g),some (.flat true n 1 e)]∧n - i=mm∧(i≤n∧wT e n i Z),.inl ⟨_,0,_,(.sk 5 (.aa (.sk 3 (.aa (.aa (.sk 76 .nil rfl))) rfl)) rfl),rfl,rfl,?_⟩,?_⟩
  ·exact ⟨Nat.zero_le _,R7 _ _⟩
  rintro mm aT _ ⟨i,e,aw,rfl,rfl,⟨hi,he⟩⟩
  obtain ⟨az,rfl⟩:∃ az:Nat→Value,aT=zs az 0 5 (.slice (some ⟨0,0,none⟩) n n::zs az 6 3 (.slice (some ⟨1,0,none⟩) n n::.int .i64 i::zs az 11 76 [])):=bI aw;clear aw;conv=>whnf
  refine aK (fun J=>?_) (fun J=>?_)
  ·have J:i < n:=by
    have:=of_decide_eq_true J;omega
   obtain ⟨z,hz⟩:∃ z,z=bW Z (n - 1 - i):=⟨_,rfl⟩;have zb:z < 256:=by rw [hz]; exact qE _ _
   have p5:=hg i J;rw [← hz] at p5;have au:=Sb he J;rw [← hz] at au;obtain ⟨x,hx⟩:=he.1 i J;have e7:IntKind.i64.wrap ((i:Int)+1)=((i+1:Nat):Int):=by rw [ax (by omega) (by omega)]; rfl
   conv=>whnf
   refine ⟨⟨by omega,by omega⟩,?_⟩
   simp only [toNat_cast,ay,Nat.zero_add];conv=>whnf
   refine ⟨by show i < n; omega,?_⟩
   conv=>whnf
   rw [p5];conv=>whnf
   refine ⟨⟨by omega,by omega⟩,?_⟩
   simp only [toNat_cast,ay,Nat.zero_add];conv=>whnf
   refine ⟨by show i < n; omega,?_⟩
   conv=>whnf
   rw [hx];conv=>whnf
   simp only [uZ zb,e7];refine .inl ⟨_,?_,i+1,_,(.sk 5 (.aa (.sk 3 (.aa (.aa (.sk 76 .nil rfl))) rfl)) rfl),rfl,rfl,?_⟩
   ·omega
   ·exact ⟨by omega,au⟩
  ·have J:i=n:=by
    have:=of_decide_eq_false J;omega
   subst J;obtain ⟨v,hv,fw,pZ⟩:=Su he ae7;conv=>whnf
   rcases Nat.eq_zero_or_pos i with h0 | h0
   ·subst h0;conv=>whnf
    have e0:v=⟨#[]⟩:=hv.symm;subst e0;refine ⟨⟨#[]⟩,rfl,Nat.zero_le _,?_⟩;conv=>whnf
    show Value.string (nb (ab ⟨#[]⟩))=_
    rw [pZ,hZ]
    rfl
   ·obtain ⟨k,rfl⟩:∃ k,i=k+1:=⟨i - 1,by omega⟩
    conv=>whnf
    refine ⟨⟨by show 0+(k+1)≤k+1; omega,fun r hr=>by show ∃ x,e (0+r)=_; rw [Nat.zero_add]; exact he.1 r hr⟩,?_⟩
    rw [show (aj.flat true (k+1) 1 e).row=e from rfl,hv]
    conv=>whnf
    refine ⟨v,rfl,by show v.size≤_; omega,?_⟩
    conv=>whnf
    show Value.string (nb (ab v))=_
    rw [pZ,hZ]
    rfl
open Go Go.Ae
def Erf:Env:=En [(191,.p kT),(189,.p xe),(190,.p r9),(180,.p r8)]
theorem ado:EnvOk Tryz.prog Erf:=bD ⟨Cc,LU,LW,Fq,trivial⟩ trivial
theorem LX:bh Tryz.prog 192 qk:=by
 refine bk ado aN Tryz.func192 (enters_of Tryz.func192 (by kernel_rfl) rfl) (fun _=>rfl) (fun _=>rfl) ?_
 intro ⟨s,D⟩ hp;have hp:s.size≤549755813888∧aQ D≤549755813888∧D≠0:=hp;obtain ⟨n,hn⟩:∃ n:Nat,n=s.size:=⟨_,rfl⟩;obtain ⟨b,hb⟩:∃ b,b=nb D:=⟨_,rfl⟩;have ht:=R1 D;rw [← hb] at ht;conv=>whnf
 rw [show nb (s,D).snd=b from hb.symm]
 refine ⟨⟨by decide,by decide⟩,?_⟩
 conv=>whnf
 refine ⟨by decide,?_⟩
 conv=>whnf
 refine .inl ⟨fun mm tz hz=>∃ (i:Nat) (g:Nat→List Value),bA (some (.string s)::aF 5 (some (.pointer (some ⟨0,0,none⟩))::some (.int .i64 ((i+1:Nat):Int))::aF 68 [])) tz∧hz=[some (.flat true 8 1 g)]∧7 - i=mm∧(i≤7∧BH g (i+1) D),.inr ⟨[0],[0,6,7],?_⟩,?_⟩
 ·conv=>whnf
  intro _;conv=>whnf
  refine ⟨_,0,_,(.aa (.sk 5 (.aa (.aa (.sk 68 .nil rfl))) rfl)),rfl,rfl,?_⟩;exact ⟨by decide,ht⟩
 rintro mm aT _ ⟨i,g,aw,rfl,rfl,⟨hi,ht⟩⟩
 obtain ⟨az,rfl⟩:∃ az:Nat→Value,aT=.string s::zs az 1 5 (.pointer (some ⟨0,0,none⟩)::.int .i64 ((i+1:Nat):Int)::zs az 8 68 []):=bI aw;clear aw;conv=>whnf
 refine aK (fun h1=>?_) (fun h1=>?_)
 ·have h1:i+1 < 8:=by
   have:=of_decide_eq_true h1;omega
  obtain ⟨x,hx⟩:∃ x,x=nb (2 ^ i*D):=⟨_,rfl⟩;have JQ:=ht.2 i (by omega)
  rw [← hx] at JQ;have nP:x.size≤549755813889:=by
   rw [hx,gD]; exact Nat.le_trans (FJ (by omega)) (by omega)
  have rK:ab x=2 ^ i*D:=by rw [hx,ik]
  obtain ⟨v,hv⟩:∃ v,v=nb (ab x+ab x):=⟨_,rfl⟩;have au:=R8 (v:=v) ht h1 (by rw [hv,rK])
  obtain ⟨y,hy⟩:=ht.1 (i+1) (by omega)
  have ei:IntKind.i64.wrap (((i+1:Nat):Int) - 1)=(i:Int):=by rw [ax (by omega) (by omega)]; omega
  obtain ⟨j,hj⟩:∃ j,j=i+1:=⟨_,rfl⟩;rw [← hj] at hy au ei;rw [← hj];have e7:IntKind.i64.wrap ((j:Int)+1)=((j+1:Nat):Int):=by rw [ax (by omega) (by omega)]; rfl
  conv=>whnf
  refine .inl ⟨10,[[],[],[1],[1,2],[1,2,3],[],[5],[5,6],[5,6,7],[1,2,3,4,5,6,7,8],[0,1,2,3,4,5,6,7,8,9],[0,1,2,3,4,5,6,7,8,9,10]],by kernel_rfl,?_⟩
  conv=>whnf
  rw [ei];refine ⟨⟨by omega,by omega⟩,?_⟩
  simp only [toNat_cast,ay,Nat.zero_add];conv=>whnf
  refine ⟨by show i < 8; omega,?_⟩
  conv=>whnf
  rw [JQ];conv=>whnf
  rw [ei];refine ⟨⟨by omega,by omega⟩,?_⟩
  simp only [toNat_cast,ay,Nat.zero_add];conv=>whnf
  refine ⟨by show i < 8; omega,?_⟩
  conv=>whnf
  rw [JQ];conv=>whnf
  refine ⟨(x,x),rfl,⟨by show x.size≤_; omega,by show x.size≤_; omega⟩,?_⟩
  rw [show xe.val (x,x)=.string v from by rw [hv]; rfl]
  conv=>whnf
  refine ⟨⟨by omega,by omega⟩,?_⟩
  simp only [toNat_cast,ay,Nat.zero_add];conv=>whnf
  refine ⟨by show j < 8; omega,?_⟩
  conv=>whnf
  rw [hy];conv=>whnf
  simp only [e7];refine .inr ⟨[0],[0,6,7],?_⟩;conv=>whnf
  intro _;conv=>whnf
  refine ⟨_,?_,j,_,(.aa (.sk 5 (.aa (.aa (.sk 68 .nil rfl))) rfl)),rfl,rfl,?_⟩
  ·omega
  ·exact ⟨by omega,au⟩
 ·have h1:i=7:=by
   have:=of_decide_eq_false h1;omega
  subst h1;conv=>whnf
  rw [← hn];refine ⟨⟨by omega,Int.le_refl _,by show ((n:Nat):Int)*((1:Nat):Int)≤_; omega⟩,?_⟩
  simp only [toNat_cast];conv=>whnf
  rw [← qj];refine .inl ⟨fun mm tz hz=>∃ (i:Nat) (Q:Nat) (R:Nat) (e:Nat→List Value),bA (some (.string s)::aF 5 (some (.pointer (some ⟨0,0,none⟩))::aF 1 (some (.slice (some ⟨1,0,none⟩) n n)::some (.string (nb R))::some (.int .i64 i)::aF 65 []))) tz∧hz=[some (.flat true 8 1 g),some (.flat true n 1 e)]∧n - i=mm∧(i≤n∧xt s D i Q R∧zE e n i Q),.inr ⟨[0,1],[0,6,8,9,10],?_⟩,?_⟩
  ·conv=>whnf
   intro _;conv=>whnf
   refine ⟨_,0,0,0,_,(.aa (.sk 5 (.aa (.sk 1 (.aa (.aa (.aa (.sk 65 .nil rfl)))) rfl)) rfl)),rfl,rfl,?_⟩;exact ⟨Nat.zero_le _,Sv _ hp.2.2,S3 _⟩
  rintro mm aT _ ⟨i,Q,R,e,aw,rfl,rfl,⟨hi,hI,he⟩⟩
  obtain ⟨az,rfl⟩:∃ az:Nat→Value,aT=.string s::zs az 1 5 (.pointer (some ⟨0,0,none⟩)::zs az 7 1 (.slice (some ⟨1,0,none⟩) n n::.string (nb R)::.int .i64 i::zs az 11 65 [])):=bI aw;clear aw;obtain ⟨x,hx⟩:∃ x,x=nb R:=⟨_,rfl⟩;have nP:x.size≤549755813888:=by
   rw [hx,gD]; exact Nat.le_trans (iV (Nat.le_of_lt hI.lt)) hp.2.1
  rw [← hx];conv=>whnf
  rw [← hn];refine aK (fun J=>?_) (fun J=>?_)
  ·have J:i < n:=by
    have:=of_decide_eq_true J;omega
   have e7:IntKind.i64.wrap ((i:Int)+1)=((i+1:Nat):Int):=by rw [ax (by omega) (by omega)]; rfl
   obtain ⟨y,hy⟩:∃ y,y=s.extract i (i+1):=⟨_,rfl⟩;obtain ⟨g9,gy⟩:=U7 R (s:=s) (i:=i) (by omega)
   obtain ⟨R',Rz⟩:∃ R',R'=R*256+b8 s i:=⟨_,rfl⟩;have hS:=Sc hI (by omega)
   rw [← Rz] at g9 hS;rw [← hy,← hx] at g9 gy;have cV:aQ R≤549755813888:=by rw [← gD,← hx]; exact nP
   have DW:y.size=1:=by
    have:(x++y).size=x.size+y.size:=ByteArray.size_append;have hxR:x.size=aQ R:=by rw [hx,gD]
    omega
   conv=>whnf
   rw [e7];refine ⟨⟨by omega,by omega,by omega⟩,?_⟩
   simp only [toNat_cast];conv=>whnf
   rw [← hy];refine ⟨by omega,?_⟩
   conv=>whnf
   refine ⟨x++y,rfl,by show (x++y).size≤_; omega,?_⟩
   rw [show kT.val (x++y)=.string (nb R') from by rw [← g9]; rfl]
   conv=>whnf
   have hRs:aQ R'≤549755813889:=Nat.le_trans (iV (Nat.le_of_lt hS.lt)) (Nat.le_trans (FJ (Nat.le_refl _)) (by omega))
   refine .inl ⟨fun mm tz hz=>∃ (k:Nat) (d:Nat) (R:Nat),bA (some (.string s)::aF 5 (some (.pointer (some ⟨0,0,none⟩))::aF 1 (some (.slice (some ⟨1,0,none⟩) n n)::some (.string (nb R))::some (.int .i64 i)::some (.int .i64 d)::some (.int .i64 (IntKind.i64.wrap ((k:Int) - 1)))::aF 63 []))) tz∧hz=[some (.flat true 8 1 g),some (.flat true n 1 e)]∧k=mm∧(k≤8∧uz D R' k d R),.inr ⟨[0,1],[0,6,8,9,10,11,12],?_⟩,?_⟩
   ·conv=>whnf
    intro _;conv=>whnf
    refine ⟨_,8,0,R',(.aa (.sk 5 (.aa (.sk 1 (.aa (.aa (.aa (.aa (.aa (.sk 63 .nil rfl)))))) rfl)) rfl)),rfl,rfl,?_⟩;exact ⟨Nat.le_refl _,hS⟩
   rintro mm aT _ ⟨k,d,R,aw,rfl,rfl,⟨hk,hS⟩⟩
   obtain ⟨az,rfl⟩:∃ az:Nat→Value,aT=.string s::zs az 1 5 (.pointer (some ⟨0,0,none⟩)::zs az 7 1 (.slice (some ⟨1,0,none⟩) n n::.string (nb R)::.int .i64 i::.int .i64 d::.int .i64 (IntKind.i64.wrap ((k:Int) - 1))::zs az 13 63 [])):=bI aw;clear aw;obtain ⟨x,hx⟩:∃ x,x=nb R:=⟨_,rfl⟩;have nP:x.size≤549755813889:=by
    rw [hx,gD];exact Nat.le_trans (iV (by have:=hS.eq; omega)) hRs
   rw [← hx];conv=>whnf
   refine aK (fun h3=>?_) (fun h3=>?_)
   ·obtain ⟨j,rfl⟩:∃ j,k=j+1:=by
     rcases Nat.eq_zero_or_pos k with h | h
     ·subst h; exact absurd h3 (by decide)
     ·exact ⟨k - 1,by omega⟩
    have ek:IntKind.i64.wrap (((j+1:Nat):Int) - 1)=(j:Int):=by rw [ax (by omega) (by omega)]; omega
    rw [ek];obtain ⟨T,hT⟩:∃ T,T=2 ^ j*D:=⟨_,rfl⟩;obtain ⟨y,hy⟩:∃ y,y=nb T:=⟨_,rfl⟩;have DW:y.size≤549755813889:=by
     rw [hy,hT,gD]; exact Nat.le_trans (FJ (by omega)) (by omega)
    have JR:=ht.2 j (by omega)
    rw [← hT,← hy] at JR;obtain ⟨p,oI⟩:∃ p,p=2 ^ j:=⟨_,rfl⟩;have oS:=aeC (k:=j) (by omega)
    rw [← oI] at oS;have lE:d+p≤256:=by
     have:=hS.d;rw [oI];rw [Nat.pow_succ] at this;omega
    have ed:IntKind.i64.wrap ((d:Int)+(p:Int))=((d+p:Nat):Int):=by rw [ax (by omega) (by omega)]; omega
    conv=>whnf
    refine ⟨⟨by omega,by omega⟩,?_⟩
    simp only [toNat_cast,ay,Nat.zero_add];conv=>whnf
    refine ⟨by show j < 8; omega,?_⟩
    conv=>whnf
    rw [JR];conv=>whnf
    refine ⟨(R,T),by rw [hx,hy]; rfl,⟨by rw [← gD,← hx]; omega,by show aQ T≤_; rw [← gD,← hy]; omega⟩,?_⟩
    obtain ⟨c,hc⟩:∃ c,c=cP R T:=⟨_,rfl⟩;rw [show r8.val (R,T)=.int .i64 c from by rw [hc]; rfl]
    conv=>whnf
    refine aK (fun h4=>?_) (fun h4=>?_)
    ·have h4:T≤R:=by
      have:=of_decide_eq_true h4;rw [hc] at this;unfold cP at this
      split at this
      ·omega
      ·omega
     have au:=SZ hS (by rw [← hT]; exact h4)
     rw [← hT,← oI] at au;conv=>whnf
     refine ⟨⟨by omega,by omega⟩,?_⟩
     simp only [toNat_cast,ay,Nat.zero_add];conv=>whnf
     refine ⟨by show j < 8; omega,?_⟩
     conv=>whnf
     rw [JR];conv=>whnf
     refine ⟨(x,y),rfl,⟨⟨by show x.size≤_; omega,by show y.size≤_; omega⟩,by show ab y≤ab x; rw [hx,hy,ik,ik]; exact h4⟩,?_⟩
     rw [show r9.val (x,y)=.string (nb (R - T)) from by show Value.string (nb (ab x - ab y))=_; rw [hx,hy,ik,ik]]
     conv=>whnf
     simp only [oS,ed];refine .inr ⟨[0,1],[0,6,8,9,10,11,12],?_⟩;conv=>whnf
     intro _;conv=>whnf
     refine ⟨_,?_,j,d+p,R - T,(.aa (.sk 5 (.aa (.sk 1 (.aa (.aa (.aa (.aa (.aa (.sk 63 .nil rfl)))))) rfl)) rfl)),rfl,rfl,?_⟩
     ·omega
     ·exact ⟨by omega,au⟩
    ·have h4:R < T:=by
      have:=of_decide_eq_false h4;rw [hc] at this;unfold cP at this
      split at this
      ·assumption
      ·split at this <;> omega
     have au:=TR hS (by rw [← hT]; exact h4)
     conv=>whnf
     rw [hx];refine .inr ⟨[0,1],[0,6,8,9,10,11,12],?_⟩;conv=>whnf
     intro _;conv=>whnf
     refine ⟨_,?_,j,d,R,(.aa (.sk 5 (.aa (.sk 1 (.aa (.aa (.aa (.aa (.aa (.sk 63 .nil rfl)))))) rfl)) rfl)),rfl,rfl,?_⟩
     ·omega
     ·exact ⟨by omega,au⟩
   ·have h3:k=0:=by
     have:=of_decide_eq_false h3;rcases Nat.eq_zero_or_pos k with h | h
     ·exact h
     ·rw [ax (by omega) (by omega)] at this
      omega
    subst h3;have hd:d < 256:=by have:=hS.d; omega
    have au:=S0 hI (by omega) (by rw [← Rz]; exact hS)
    have aZ:=TU he J hd;obtain ⟨y,hy⟩:=he.1 i J;conv=>whnf
    refine ⟨⟨by omega,by omega⟩,?_⟩
    simp only [toNat_cast,ay,Nat.zero_add];conv=>whnf
    refine ⟨by show i < n; omega,?_⟩
    conv=>whnf
    rw [hy];conv=>whnf
    simp only [uZ hd,e7];rw [hx]
    skip
    refine .inr ⟨[0,1],[0,6,8,9,10],?_⟩;conv=>whnf
    intro _;conv=>whnf
    refine ⟨_,?_,i+1,Q*256+d,R,_,(.aa (.sk 5 (.aa (.sk 1 (.aa (.aa (.aa (.sk 65 .nil rfl)))) rfl)) rfl)),rfl,rfl,?_⟩
    ·omega
    ·exact ⟨by omega,au,aZ⟩
  ·have J:i=n:=by
    have:=of_decide_eq_false J;omega
   subst J;obtain ⟨hQ,hR⟩:=TS (by rw [← hn]; exact hI)
   obtain ⟨v,hv,fw,pZ⟩:=U8 he hI.q;conv=>whnf
   have fin:Value.tuple ⟨[.string (nb Q),.string x]⟩=qk.val (s,D):=by rw [hx,hQ,hR]; rfl
   rcases Nat.eq_zero_or_pos i with h0 | h0
   ·subst h0;conv=>whnf
    have e0:v=⟨#[]⟩:=hv.symm;subst e0;refine ⟨⟨#[]⟩,rfl,Nat.zero_le _,?_⟩;rw [show kT.val ⟨#[]⟩=.string (nb Q) from by show Value.string (nb (ab ⟨#[]⟩))=_; rw [pZ]]
    conv=>whnf
    exact fin
   ·obtain ⟨k,rfl⟩:∃ k,i=k+1:=⟨i - 1,by omega⟩
    conv=>whnf
    refine ⟨⟨by show 0+(k+1)≤k+1; omega,fun r hr=>by show ∃ x,e (0+r)=_; rw [Nat.zero_add]; exact he.1 r hr⟩,?_⟩
    rw [show (aj.flat true (k+1) 1 e).row=e from rfl,hv]
    conv=>whnf
    refine ⟨v,rfl,by show v.size≤_; omega,?_⟩
    rw [show kT.val v=.string (nb Q) from by show Value.string (nb (ab v))=_; rw [pZ]]
    conv=>whnf
    exact fin
open Go Go.Ae
def Erg:Env:=En [(179,.p js),(181,.p xr),(155,.p eX),(189,.p xe),(190,.p r9),(180,.p r8),(182,.p GJ)]
theorem PA:EnvOk Tryz.prog Erg:=bD ⟨FW,Vu,zi,LU,LW,Fq,Uo,trivial⟩ trivial
theorem GW:bh Tryz.prog 173 jg:=by
 refine bk PA aN Tryz.func173 (enters_of Tryz.func173 (by kernel_rfl) rfl) (fun _=>rfl) (fun _=>rfl) ?_
 intro ⟨⟨b,s⟩,⟨c,t⟩⟩ hp;have hp:s.size≤549755813888∧t.size≤549755813888:=hp;obtain ⟨x,hx⟩:∃ x,x=IV.z (b,s):=⟨_,rfl⟩;obtain ⟨y,hy⟩:∃ y,y=IV.z (c,t):=⟨_,rfl⟩;have rK:aQ x.natAbs≤549755813888:=by rw [hx]; exact IV.aQ (i:=(b,s)) hp.1
 have ym:aQ y.natAbs≤549755813888:=by rw [hy]; exact IV.aQ (i:=(c,t)) hp.2
 obtain ⟨B,m,hE⟩:=EI.mk' x;obtain ⟨D,k,hF⟩:=EI.mk' y;have rA:=hE.size;have jB:=hF.size;have ec:js.val (b,s)=.agg ⟨[.bool B,.string m]⟩:=by show aH (IV.z (b,s))=_; rw [← hx,hE.enc]
 have ed:js.val (c,t)=.agg ⟨[.bool D,.string k]⟩:=by show aH (IV.z (c,t))=_; rw [← hy,hF.enc]
 have fin:∀ v:Value,v=aH (x+y)→v=jg.val ((b,s),(c,t)):=fun v h=>by rw [h,hx,hy]; rfl
 conv=>whnf
 refine .inl ⟨3,[[],[0],[],[0,1,2],[0,1,2,3],[0,1,2,3,4]],by kernel_rfl,?_⟩
 conv=>whnf
 refine ⟨(b,s),rfl,hp.1,?_⟩;rw [ec];conv=>whnf
 refine ⟨(c,t),rfl,hp.2,?_⟩;rw [ed];conv=>whnf
 by_cases h1:m.size < 8
 ·rw [show decide (((m.size:Nat):Int) < 8)=true from decide_eq_true (by omega)]
  conv=>whnf
  by_cases J:k.size < 8
  ·rw [show decide (((k.size:Nat):Int) < 8)=true from decide_eq_true (by omega)]
   conv=>whnf
   refine .inl ⟨3,[[],[0],[],[0,1,2],[0,1,2,3],[0,1,2,3,4],[0,1,2,3,4,5]],by kernel_rfl,?_⟩
   conv=>whnf
   refine ⟨(B,m),rfl,by show m.size≤7; omega,?_⟩
   rw [show xr.val (B,m)=.int .i64 x from by show Value.int .i64 (IV.z (B,m))=_; rw [hE.val]]
   conv=>whnf
   refine ⟨(D,k),rfl,by show k.size≤7; omega,?_⟩
   rw [show xr.val (D,k)=.int .i64 y from by show Value.int .i64 (IV.z (D,k))=_; rw [hF.val]]
   conv=>whnf
   have z1:=hE.small (by omega)
   have z2:=hF.small (by omega)
   rw [show IntKind.i64.wrap (x+y)=x+y from ax (by omega) (by omega)]
   refine ⟨x+y,rfl,⟨by omega,by omega⟩,?_⟩
   conv=>whnf
   exact fin _ rfl
  ·rw [show decide (((k.size:Nat):Int) < 8)=false from decide_eq_false (by omega)]
   conv=>whnf
   refine aK (fun h3=>?_) (fun h3=>?_)
   ·have h3:B=D:=eq_of_beq h3;have e:=hE.same hF h3;obtain ⟨v,hv⟩:∃ v,v=nb (ab m+ab k):=⟨_,rfl⟩;rw [← hv] at e;conv=>whnf
    refine .inl ⟨7,[[],[0],[],[2],[],[4],[2,3,4,5],[0,1,2,3,4,5,6],[0,1,2,3,4,5,6,7]],by kernel_rfl,?_⟩
    conv=>whnf
    refine ⟨(m,k),rfl,⟨by show m.size≤_; omega,by show k.size≤_; omega⟩,?_⟩
    rw [show xe.val (m,k)=.string v from by rw [hv]; rfl]
    conv=>whnf
    exact fin _ e
   ·have h3:B≠D:=by
     intro e;subst e;cases B <;> cases h3
    obtain ⟨q,hq⟩:∃ q,q=cP (ab m) (ab k):=⟨_,rfl⟩;conv=>whnf
    refine ⟨(ab m,ab k),by show [Value.string (nb (ab m)),Value.string (nb (ab k))]=[Value.string m,Value.string k]; rw [← hE.eta,← hF.eta],⟨by show aQ (ab m)≤_; exact Nat.le_trans (jm _) (by omega),by show aQ (ab k)≤_; exact Nat.le_trans (jm _) (by omega)⟩,?_⟩
    rw [show r8.val (ab m,ab k)=.int .i64 q from by rw [hq]; rfl]
    conv=>whnf
    refine aK (fun h4=>?_) (fun h4=>?_)
    ·have h4:ab k=ab m:=by
      have h4:q=0:=by simpa using h4
      rw [hq] at h4;unfold cP at h4
      split at h4
      ·omega
      ·split at h4 <;> omega
     have e:=hE.equal hF h3 h4;conv=>whnf
     exact fin _ (by rw [e]; exact wE.symm)
    ·have rl:ab k≠ab m:=by
      intro h5;have h6:q=0:=by rw [hq,h5]; unfold cP; simp
      subst h6;simp at h4
     conv=>whnf
     refine aK (fun h5=>?_) (fun h5=>?_)
     ·have h5:ab k < ab m:=by
       have h5:=of_decide_eq_true h5;rw [hq] at h5;unfold cP at h5
       split at h5
       ·omega
       ·split at h5 <;> omega
      have e:=hE.differ hF h3 h5;obtain ⟨v,hv⟩:∃ v,v=nb (ab m - ab k):=⟨_,rfl⟩;rw [← hv] at e;conv=>whnf
      refine .inl ⟨7,[[],[0],[],[2],[],[4],[2,3,4,5],[0,1,2,3,4,5,6],[0,1,2,3,4,5,6,7]],by kernel_rfl,?_⟩
      conv=>whnf
      refine ⟨(m,k),rfl,⟨⟨by show m.size≤_; omega,by show k.size≤_; omega⟩,Nat.le_of_lt h5⟩,?_⟩
      rw [show r9.val (m,k)=.string v from by rw [hv]; rfl]
      conv=>whnf
      exact fin _ e
     ·have h5:ab m < ab k:=by
       have h5:=of_decide_eq_false h5;rw [hq] at h5;unfold cP at h5
       split at h5
       ·omega
       ·split at h5 <;> omega
      have e:=hF.differ hE (Ne.symm h3) h5;rw [Int.add_comm] at e;obtain ⟨v,hv⟩:∃ v,v=nb (ab k - ab m):=⟨_,rfl⟩;rw [← hv] at e;conv=>whnf
      refine .inl ⟨7,[[],[0],[],[2],[],[4],[2,3,4,5],[0,1,2,3,4,5,6],[0,1,2,3,4,5,6,7]],by kernel_rfl,?_⟩
      conv=>whnf
      refine ⟨(k,m),rfl,⟨⟨by show k.size≤_; omega,by show m.size≤_; omega⟩,Nat.le_of_lt h5⟩,?_⟩
      rw [show r9.val (k,m)=.string v from by rw [hv]; rfl]
      conv=>whnf
      exact fin _ e
 ·rw [show decide (((m.size:Nat):Int) < 8)=false from decide_eq_false (by omega)]
  conv=>whnf
  refine aK (fun h3=>?_) (fun h3=>?_)
  ·have h3:B=D:=eq_of_beq h3;have e:=hE.same hF h3;obtain ⟨v,hv⟩:∃ v,v=nb (ab m+ab k):=⟨_,rfl⟩;rw [← hv] at e;conv=>whnf
   refine .inl ⟨7,[[],[0],[],[2],[],[4],[2,3,4,5],[0,1,2,3,4,5,6],[0,1,2,3,4,5,6,7]],by kernel_rfl,?_⟩
   conv=>whnf
   refine ⟨(m,k),rfl,⟨by show m.size≤_; omega,by show k.size≤_; omega⟩,?_⟩
   rw [show xe.val (m,k)=.string v from by rw [hv]; rfl]
   conv=>whnf
   exact fin _ e
  ·have h3:B≠D:=by
    intro e;subst e;cases B <;> cases h3
   obtain ⟨q,hq⟩:∃ q,q=cP (ab m) (ab k):=⟨_,rfl⟩;conv=>whnf
   refine ⟨(ab m,ab k),by show [Value.string (nb (ab m)),Value.string (nb (ab k))]=[Value.string m,Value.string k]; rw [← hE.eta,← hF.eta],⟨by show aQ (ab m)≤_; exact Nat.le_trans (jm _) (by omega),by show aQ (ab k)≤_; exact Nat.le_trans (jm _) (by omega)⟩,?_⟩
   rw [show r8.val (ab m,ab k)=.int .i64 q from by rw [hq]; rfl]
   conv=>whnf
   refine aK (fun h4=>?_) (fun h4=>?_)
   ·have h4:ab k=ab m:=by
     have h4:q=0:=by simpa using h4
     rw [hq] at h4;unfold cP at h4
     split at h4
     ·omega
     ·split at h4 <;> omega
    have e:=hE.equal hF h3 h4;conv=>whnf
    exact fin _ (by rw [e]; exact wE.symm)
   ·have rl:ab k≠ab m:=by
     intro h5;have h6:q=0:=by rw [hq,h5]; unfold cP; simp
     subst h6;simp at h4
    conv=>whnf
    refine aK (fun h5=>?_) (fun h5=>?_)
    ·have h5:ab k < ab m:=by
      have h5:=of_decide_eq_true h5;rw [hq] at h5;unfold cP at h5
      split at h5
      ·omega
      ·split at h5 <;> omega
     have e:=hE.differ hF h3 h5;obtain ⟨v,hv⟩:∃ v,v=nb (ab m - ab k):=⟨_,rfl⟩;rw [← hv] at e;conv=>whnf
     refine .inl ⟨7,[[],[0],[],[2],[],[4],[2,3,4,5],[0,1,2,3,4,5,6],[0,1,2,3,4,5,6,7]],by kernel_rfl,?_⟩
     conv=>whnf
     refine ⟨(m,k),rfl,⟨⟨by show m.size≤_; omega,by show k.size≤_; omega⟩,Nat.le_of_lt h5⟩,?_⟩
     rw [show r9.val (m,k)=.string v from by rw [hv]; rfl]
     conv=>whnf
     exact fin _ e
    ·have h5:ab m < ab k:=by
      have h5:=of_decide_eq_false h5;rw [hq] at h5;unfold cP at h5
      split at h5
      ·omega
      ·split at h5 <;> omega
     have e:=hF.differ hE (Ne.symm h3) h5;rw [Int.add_comm] at e;obtain ⟨v,hv⟩:∃ v,v=nb (ab k - ab m):=⟨_,rfl⟩;rw [← hv] at e;conv=>whnf
     refine .inl ⟨7,[[],[0],[],[2],[],[4],[2,3,4,5],[0,1,2,3,4,5,6],[0,1,2,3,4,5,6,7]],by kernel_rfl,?_⟩
     conv=>whnf
     refine ⟨(k,m),rfl,⟨⟨by show k.size≤_; omega,by show m.size≤_; omega⟩,Nat.le_of_lt h5⟩,?_⟩
     rw [show r9.val (k,m)=.string v from by rw [hv]; rfl]
     conv=>whnf
     exact fin _ e
def Erh:Env:=En [(174,.p gY),(173,.p jg)]
theorem adp:EnvOk Tryz.prog Erh:=bD ⟨GV,GW,trivial⟩ trivial
theorem ZK:bh Tryz.prog 194 mT:=by
 refine bk adp aN Tryz.func194 (enters_of Tryz.func194 (by kernel_rfl) rfl) (fun _=>rfl) (fun _=>rfl) ?_
 intro ⟨⟨b,s⟩,⟨c,t⟩⟩ hp;have hp:s.size≤549755813888∧t.size≤549755813888:=hp;obtain ⟨y,hy⟩:∃ y,y=IV.z (c,t):=⟨_,rfl⟩;have ym:aQ y.natAbs≤549755813888:=by rw [hy]; exact IV.aQ (i:=(c,t)) hp.2
 obtain ⟨D,k,hF⟩:=EI.mk' (-y);have jB:=hF.size;rw [Int.natAbs_neg] at jB;conv=>whnf
 refine .inl ⟨3,[[],[],[1],[0,1,2],[0,1,2,3]],by kernel_rfl,?_⟩
 conv=>whnf
 refine ⟨(c,t),rfl,hp.2,?_⟩;rw [show gY.val (c,t)=.agg ⟨[.bool D,.string k]⟩ from by show aH (-IV.z (c,t))=_; rw [← hy,hF.enc]]
 conv=>whnf
 refine ⟨((b,s),(D,k)),rfl,⟨hp.1,by show k.size≤_; omega⟩,?_⟩
 obtain ⟨V,n,hG⟩:=EI.mk' (IV.z (b,s)+-y);rw [show jg.val ((b,s),(D,k))=.agg ⟨[.bool V,.string n]⟩ from by show aH (IV.z (b,s)+IV.z (D,k))=_; rw [hF.val,hG.enc]]
 conv=>whnf
 rw [show mT.val ((b,s),(c,t))=.agg ⟨[.bool V,.string n]⟩ from by show aH (IV.z (b,s) - IV.z (c,t))=_; rw [← hy,Int.sub_eq_add_neg,hG.enc]]
 rfl
theorem ZL:bh Tryz.prog 160 fk:=by
 refine bk PA aN Tryz.func160 (enters_of Tryz.func160 (by kernel_rfl) rfl) (fun _=>rfl) (fun _=>rfl) ?_
 intro ⟨⟨b,s⟩,⟨c,t⟩⟩ hp;have hp:s.size≤549755813888∧t.size≤549755813888:=hp;obtain ⟨x,hx⟩:∃ x,x=IV.z (b,s):=⟨_,rfl⟩;obtain ⟨y,hy⟩:∃ y,y=IV.z (c,t):=⟨_,rfl⟩;have rK:aQ x.natAbs≤549755813888:=by rw [hx]; exact IV.aQ (i:=(b,s)) hp.1
 have ym:aQ y.natAbs≤549755813888:=by rw [hy]; exact IV.aQ (i:=(c,t)) hp.2
 obtain ⟨B,m,hE⟩:=EI.mk' x;obtain ⟨D,k,hF⟩:=EI.mk' y;have rA:=hE.size;have jB:=hF.size;have ec:js.val (b,s)=.agg ⟨[.bool B,.string m]⟩:=by show aH (IV.z (b,s))=_; rw [← hx,hE.enc]
 have ed:js.val (c,t)=.agg ⟨[.bool D,.string k]⟩:=by show aH (IV.z (c,t))=_; rw [← hy,hF.enc]
 have fin:∀ v:Value,v=aH (x*y)→v=fk.val ((b,s),(c,t)):=fun v h=>by rw [h,hx,hy]; rfl
 have ew:IntKind.i64.wrap (((m.size:Nat):Int)+((k.size:Nat):Int))=((m.size+k.size:Nat):Int):=by rw [ax (by omega) (by omega)]; omega
 conv=>whnf
 refine .inl ⟨3,[[],[0],[],[0,1,2],[0,1,2,3],[0,1,2,3,4]],by kernel_rfl,?_⟩
 conv=>whnf
 refine ⟨(b,s),rfl,hp.1,?_⟩;rw [ec];conv=>whnf
 refine ⟨(c,t),rfl,hp.2,?_⟩;rw [ed];conv=>whnf
 by_cases h1:x=0
 ·rw [show (m.toList == (⟨#[]⟩:ByteArray).toList)=true from by rw [hE.nil,decide_eq_true h1]]
  conv=>whnf
  exact fin _ (by rw [h1,Int.zero_mul]; exact wE.symm)
 ·rw [show (m.toList == (⟨#[]⟩:ByteArray).toList)=false from by rw [hE.nil,decide_eq_false h1]]
  conv=>whnf
  by_cases J:y=0
  ·rw [show (k.toList == (⟨#[]⟩:ByteArray).toList)=true from by rw [hF.nil,decide_eq_true J]]
   conv=>whnf
   exact fin _ (by rw [J,Int.mul_zero]; exact wE.symm)
  ·rw [show (k.toList == (⟨#[]⟩:ByteArray).toList)=false from by rw [hF.nil,decide_eq_false J]]
   conv=>whnf
   by_cases h3:m.size+k.size < 8
   ·refine nq ?_ ?_
    ·exact decide_eq_true (by rw [ew]; omega)
    conv=>whnf
    refine .inl ⟨3,[[],[0],[],[0,1,2],[0,1,2,3],[0,1,2,3,4],[0,1,2,3,4,5]],by kernel_rfl,?_⟩
    conv=>whnf
    refine ⟨(B,m),rfl,by show m.size≤7; omega,?_⟩
    rw [show xr.val (B,m)=.int .i64 x from by show Value.int .i64 (IV.z (B,m))=_; rw [hE.val]]
    conv=>whnf
    refine ⟨(D,k),rfl,by show k.size≤7; omega,?_⟩
    rw [show xr.val (D,k)=.int .i64 y from by show Value.int .i64 (IV.z (D,k))=_; rw [hF.val]]
    conv=>whnf
    have hb:=Sd (x:=x) (y:=y) (by omega)
    obtain ⟨w,hw⟩:∃ w,w=x*y:=⟨_,rfl⟩;rw [← hw] at hb;rw [show IntKind.i64.wrap (x*y)=w from by rw [← hw]; exact ax hb.1 hb.2]
    refine ⟨w,rfl,hb,?_⟩;obtain ⟨V,n,hG⟩:=EI.mk' w;rw [show eX.val w=.agg ⟨[.bool V,.string n]⟩ from hG.enc]
    conv=>whnf
    exact fin _ (by rw [← hw,hG.enc]; rfl)
   ·refine aK (fun h=>absurd (of_decide_eq_true h) (by rw [ew]; omega)) (fun _=>?_)
    obtain ⟨v,hv⟩:∃ v,v=nb (ab m*ab k):=⟨_,rfl⟩;have e:=hE.mul hF h1 J;rw [← hv] at e;conv=>whnf
    refine .inl ⟨10,[[],[0],[],[2],[0,1,2,3],[],[5],[],[7],[5,6,7,8],[0,1,2,3,4,5,6,7,8,9],[0,1,2,3,4,5,6,7,8,9,10]],by kernel_rfl,?_⟩
    conv=>whnf
    refine ⟨(m,k),rfl,⟨by show m.size≤_; omega,by show k.size≤_; omega⟩,?_⟩
    rw [show GJ.val (m,k)=.string v from by rw [hv]; rfl]
    conv=>whnf
    exact fin _ e
open Go Go.Ae
def Eri:Env:=En [(191,.p kT),(193,.p ki),(155,.p eX),(192,.p qk)]
theorem adq:EnvOk Tryz.prog Eri:=bD ⟨Cc,FX,zi,LX,trivial⟩ trivial
theorem ZM:bh Tryz.prog 175 vh:=by
 refine bk adq aN Tryz.func175 (enters_of Tryz.func175 (by kernel_rfl) rfl) (fun _=>rfl) (fun _=>rfl) ?_
 intro ⟨⟨b,s⟩,⟨c,t⟩⟩ hp;have hp:s.size≤549755813888∧t.size≤549755813888:=hp;have hA:=jm s;have hD:=jm t;obtain ⟨G,hG⟩:∃ G,G=Nat.gcd (ab s) (ab t):=⟨_,rfl⟩;have fin:∀ v:Value,v=aH ((G:Nat):Int)→v=vh.val ((b,s),(c,t)):=fun v h=>by
  rw [h,hG];show _=aH ((Int.gcd (IV.z (b,s)) (IV.z (c,t)):Nat):Int)
  unfold Int.gcd IV.z;rw [ug,ug]
 conv=>whnf
 refine .inl ⟨5,[[],[0],[0,1],[],[3],[0,1,2,3,4],[0,1,2,3,4,5],[0,1,2,3,4,5,6]],by kernel_rfl,?_⟩
 conv=>whnf
 refine ⟨s,rfl,by show s.size≤_; omega,?_⟩
 conv=>whnf
 refine ⟨t,rfl,by show t.size≤_; omega,?_⟩
 conv=>whnf
 refine .inl ⟨fun mm tz hz=>∃ (A:Nat) (D:Nat),bA (aF 4 (some (.pointer (some ⟨0,0,none⟩))::some (.string (nb A))::some (.string (nb D))::aF 46 [])) tz∧hz=[some (.aO true 2 [[.bool false,.string ⟨#[]⟩]])]∧D=mm∧((aQ A≤549755813888∧aQ D≤549755813888)∧Nat.gcd A D=G),.inr ⟨[2],[4,5,6],?_⟩,?_⟩
 ·conv=>whnf
  intro _;conv=>whnf
  refine ⟨_,ab s,ab t,(.sk 4 (.aa (.aa (.aa (.sk 46 .nil rfl)))) rfl),rfl,rfl,?_⟩;exact ⟨⟨by omega,by omega⟩,hG.symm⟩
 rintro mm aT _ ⟨A,D,aw,rfl,rfl,⟨cG,hg⟩⟩
 obtain ⟨az,rfl⟩:∃ az:Nat→Value,aT=zs az 0 4 (.pointer (some ⟨0,0,none⟩)::.string (nb A)::.string (nb D)::zs az 7 46 []):=bI aw;clear aw;obtain ⟨x,hx⟩:∃ x,x=nb A:=⟨_,rfl⟩;obtain ⟨y,hy⟩:∃ y,y=nb D:=⟨_,rfl⟩;have nP:x.size=aQ A:=by rw [hx,gD]
 have DW:y.size=aQ D:=by rw [hy,gD]
 have rK:ab x=A:=by rw [hx,ik]
 have ym:ab y=D:=by rw [hy,ik]
 rw [← hx,← hy];conv=>whnf
 by_cases h1:D=0
 ·rw [show (!y.toList == (⟨#[]⟩:ByteArray).toList)=false from by rw [hy]; exact wS h1]
  conv=>whnf
  rw [show (y.toList == (⟨#[]⟩:ByteArray).toList)=true from by
   have:=wS h1;rw [← hy] at this
   simpa using this]
  conv=>whnf
  rw [h1,Nat.gcd_zero_right] at hg;exact fin _ (by rw [hx,← hg]; exact xf (decide_eq_false (by omega)).symm (by omega))
 ·rw [show (!y.toList == (⟨#[]⟩:ByteArray).toList)=true from by rw [hy]; exact xc h1]
  conv=>whnf
  by_cases J:x.size > 7
  ·rw [show decide (((x.size:Nat):Int) > 7)=true from decide_eq_true (by omega)]
   conv=>whnf
   obtain ⟨q,hq⟩:∃ q,q=nb (A / D):=⟨_,rfl⟩;obtain ⟨r,hr⟩:∃ r,r=nb (A % D):=⟨_,rfl⟩;refine ⟨(x,D),by rw [hy]; rfl,⟨by show x.size≤_; omega,by show aQ D≤_; omega,h1⟩,?_⟩
   rw [show qk.val (x,D)=.tuple ⟨[.string q,.string r]⟩ from by show Value.tuple ⟨[.string (nb (ab x / D)),.string (nb (ab x % D))]⟩=_; rw [rK,hq,hr]]
   conv=>whnf
   rw [hy,hr];have lH:aQ (A % D)≤aQ D:=iV (Nat.le_of_lt (Nat.mod_lt _ (by omega)))
   refine .inr ⟨[0],[4,5,6],?_⟩;conv=>whnf
   intro _;conv=>whnf
   refine ⟨_,?_,D,A % D,(.sk 4 (.aa (.aa (.aa (.sk 46 .nil rfl)))) rfl),rfl,rfl,?_⟩
   ·exact Nat.mod_lt _ (by omega)
   ·exact ⟨⟨cG.2,by omega⟩,by rw [Nat.gcd_comm,← Nat.gcd_rec,Nat.gcd_comm]; exact hg⟩
  ·rw [show decide (((x.size:Nat):Int) > 7)=false from decide_eq_false (by omega)]
   conv=>whnf
   by_cases h3:y.size > 7
   ·rw [show decide (((y.size:Nat):Int) > 7)=true from decide_eq_true (by omega)]
    conv=>whnf
    obtain ⟨q,hq⟩:∃ q,q=nb (A / D):=⟨_,rfl⟩;obtain ⟨r,hr⟩:∃ r,r=nb (A % D):=⟨_,rfl⟩;refine ⟨(x,D),by rw [hy]; rfl,⟨by show x.size≤_; omega,by show aQ D≤_; omega,h1⟩,?_⟩
    rw [show qk.val (x,D)=.tuple ⟨[.string q,.string r]⟩ from by show Value.tuple ⟨[.string (nb (ab x / D)),.string (nb (ab x % D))]⟩=_; rw [rK,hq,hr]]
    conv=>whnf
    rw [hy,hr];have lH:aQ (A % D)≤aQ D:=iV (Nat.le_of_lt (Nat.mod_lt _ (by omega)))
    refine .inr ⟨[0],[4,5,6],?_⟩;conv=>whnf
    intro _;conv=>whnf
    refine ⟨_,?_,D,A % D,(.sk 4 (.aa (.aa (.aa (.sk 46 .nil rfl)))) rfl),rfl,rfl,?_⟩
    ·exact Nat.mod_lt _ (by omega)
    ·exact ⟨⟨cG.2,by omega⟩,by rw [Nat.gcd_comm,← Nat.gcd_rec,Nat.gcd_comm]; exact hg⟩
   ·rw [show decide (((y.size:Nat):Int) > 7)=false from decide_eq_false (by omega)]
    conv=>whnf
    rw [show (y.toList == (⟨#[]⟩:ByteArray).toList)=false from by
     have:=xc h1;rw [← hy] at this
     simpa using this]
    conv=>whnf
    refine ⟨x,rfl,by show x.size≤7; omega,?_⟩
    rw [show ki.val x=.int .i64 A from by show Value.int .i64 (ab x:Nat)=_; rw [rK]]
    conv=>whnf
    refine ⟨y,rfl,by show y.size≤7; omega,?_⟩
    rw [show ki.val y=.int .i64 D from by show Value.int .i64 (ab y:Nat)=_; rw [ym]]
    conv=>whnf
    have lA:A < 72057594037927936:=Nat.lt_of_lt_of_le (lN A) (oo (by omega))
    have lD:D < 72057594037927936:=Nat.lt_of_lt_of_le (lN D) (oo (by omega))
    refine .inl ⟨fun mm tz hz=>∃ (m:Nat) (n:Nat),bA (aF 4 (some (.pointer (some ⟨0,0,none⟩))::aF 4 (some (.int .i64 m)::some (.int .i64 n)::aF 42 []))) tz∧hz=[some (.aO true 2 [[.bool false,.string ⟨#[]⟩]])]∧n=mm∧((m < 72057594037927936∧n < 72057594037927936)∧Nat.gcd m n=G),.inr ⟨[0],[4,9,10],?_⟩,?_⟩
    ·conv=>whnf
     intro _;conv=>whnf
     refine ⟨_,A,D,(.sk 4 (.aa (.sk 4 (.aa (.aa (.sk 42 .nil rfl))) rfl)) rfl),rfl,rfl,?_⟩;exact ⟨⟨lA,lD⟩,hg⟩
    rintro mm aT _ ⟨m,n,aw,rfl,rfl,⟨hmn,mr⟩⟩
    obtain ⟨az,rfl⟩:∃ az:Nat→Value,aT=zs az 0 4 (.pointer (some ⟨0,0,none⟩)::zs az 5 4 (.int .i64 m::.int .i64 n::zs az 11 42 [])):=bI aw;clear aw;conv=>whnf
    refine aK (fun h4=>?_) (fun h4=>?_)
    ·have h4:0 < n:=by
      have:=of_decide_eq_true h4;omega
     have an:=Nat.mod_lt m h4;conv=>whnf
     refine .inl ⟨5,[[],[],[],[1,2],[0,1],[0,1,2,3,4]],by kernel_rfl,?_⟩
     conv=>whnf
     rw [show decide (((n:Nat):Int)≠0)=true from decide_eq_true (by omega)]
     conv=>whnf
     rw [show Int.tmod ((m:Nat):Int) ((n:Nat):Int)=((m % n:Nat):Int) from rfl]
     refine .inr ⟨[0],[4,9,10],?_⟩;conv=>whnf
     intro _;conv=>whnf
     refine ⟨_,?_,n,m % n,(.sk 4 (.aa (.sk 4 (.aa (.aa (.sk 42 .nil rfl))) rfl)) rfl),rfl,rfl,?_⟩
     ·exact an
     ·exact ⟨⟨hmn.2,by omega⟩,by rw [Nat.gcd_comm,← Nat.gcd_rec,Nat.gcd_comm]; exact mr⟩
    ·have h4:n=0:=by
      have:=of_decide_eq_false h4;omega
     subst h4;rw [Nat.gcd_zero_right] at mr;conv=>whnf
     refine ⟨((m:Nat):Int),rfl,⟨by omega,by omega⟩,?_⟩
     obtain ⟨V,n,hV⟩:=EI.mk' ((m:Nat):Int);rw [show eX.val ((m:Nat):Int)=.agg ⟨[.bool V,.string n]⟩ from hV.enc]
     conv=>whnf
     exact fin _ (by rw [← mr,hV.enc]; rfl)
def Erj:Env:=En [(179,.p js),(193,.p ki),(155,.p eX),(192,.p qk),(174,.p gY),(194,.p mT)]
theorem adr:EnvOk Tryz.prog Erj:=bD ⟨FW,FX,zi,LX,GV,ZK,trivial⟩ trivial
theorem ZN:bh Tryz.prog 176 iN:=by
 refine bk adr aN Tryz.func176 (enters_of Tryz.func176 (by kernel_rfl) rfl) (fun _=>rfl) (fun _=>rfl) ?_
 intro ⟨⟨b,s⟩,⟨c,t⟩⟩ hp;have hp:s.size≤549755813888∧t.size≤549755813888:=hp;obtain ⟨x,hx⟩:∃ x,x=IV.z (b,s):=⟨_,rfl⟩;obtain ⟨y,hy⟩:∃ y,y=IV.z (c,t):=⟨_,rfl⟩;have rK:aQ x.natAbs≤549755813888:=by rw [hx]; exact IV.aQ (i:=(b,s)) hp.1
 have ym:aQ y.natAbs≤549755813888:=by rw [hy]; exact IV.aQ (i:=(c,t)) hp.2
 obtain ⟨B,m,hE⟩:=EI.mk' x;obtain ⟨D,k,hF⟩:=EI.mk' y;have rA:=hE.size;have jB:=hF.size;have ec:js.val (b,s)=.agg ⟨[.bool B,.string m]⟩:=by show aH (IV.z (b,s))=_; rw [← hx,hE.enc]
 have ed:js.val (c,t)=.agg ⟨[.bool D,.string k]⟩:=by show aH (IV.z (c,t))=_; rw [← hy,hF.enc]
 conv=>whnf
 refine .inl ⟨3,[[],[0],[],[0,1,2],[0,1,2,3],[0,1,2,3,4]],by kernel_rfl,?_⟩
 conv=>whnf
 refine ⟨(b,s),rfl,hp.1,?_⟩;rw [ec];conv=>whnf
 refine ⟨(c,t),rfl,hp.2,?_⟩;rw [ed];conv=>whnf
 by_cases J:y=0
 ·rw [show (k.toList == (⟨#[]⟩:ByteArray).toList)=true from by rw [hF.nil,decide_eq_true J]]
  conv=>whnf
  have e:Int.fdiv (IV.z (b,s)) 0=0:=Int.fdiv_zero _;have hz:IV.z (c,t)=0:=by rw [← hy]; exact J
  simp only [iN,hz,e,if_true,wE]
  rfl
 ·rw [show (k.toList == (⟨#[]⟩:ByteArray).toList)=false from by rw [hF.nil,decide_eq_false J]]
  have fin:∀ (q r:Value),q=aH (Int.fdiv x y)→r=aH (Int.fmod x y)→Value.tuple ⟨[q,r,.int .i64 0]⟩=iN.val ((b,s),(c,t)):=fun q r hq hr=>by
   rw [hx,hy] at hq hr;have hz:IV.z (c,t)≠0:=by rw [← hy]; exact J
   simp only [iN,if_neg hz];rw [hq,hr]
  obtain ⟨zq,m9⟩:∃ z:Int,z=((ab m / ab k:Nat):Int):=⟨_,rfl⟩;obtain ⟨zr,nc⟩:∃ z:Int,z=((ab m % ab k:Nat):Int):=⟨_,rfl⟩;obtain ⟨ae8,afr⟩:0≤zq∧zq≤ab m:=by rw [m9]; exact ⟨Int.natCast_nonneg _,Int.ofNat_le.2 (Nat.div_le_self _ _)⟩
  obtain ⟨qs,hq⟩:=EI.iZ ae8;obtain ⟨rs,hr⟩:=EI.iZ (show 0≤zr by rw [nc]; exact Int.natCast_nonneg _)
  have tj:ab k≠0:=by rw [hF.abs]; omega
  have pO:0≤zr∧zr < ab k:=by
   have:=Nat.mod_lt (ab m) (Nat.pos_of_ne_zero tj);omega
  have Es:aQ zq.natAbs≤549755813888:=by
   have h3:=iV (Nat.div_le_self (ab m) (ab k));have h4:=jm m;have:zq.natAbs=ab m / ab k:=by rw [m9]; rfl
   rw [this];omega
  have pX:aQ zr.natAbs≤549755813888:=by
   have h3:=iV (Nat.mod_le (ab m) (ab k));have h4:=jm m;have:zr.natAbs=ab m % ab k:=by rw [nc]; rfl
   rw [this];omega
  conv=>whnf
  by_cases h3:m.size < 8∧k.size < 8
  ·have lm:ab m < 72057594037927936:=Nat.lt_of_lt_of_le (gq m) (oo (by omega))
   have lk:ab k < 72057594037927936:=Nat.lt_of_lt_of_le (gq k) (oo (by omega))
   obtain ⟨M,hM⟩:∃ M,M=ab m:=⟨_,rfl⟩;obtain ⟨N,hN⟩:∃ N,N=ab k:=⟨_,rfl⟩;rw [show decide (((m.size:Nat):Int) < 8)=true from decide_eq_true (by omega)]
   conv=>whnf
   rw [show decide (((k.size:Nat):Int) < 8)=true from decide_eq_true (by omega)]
   conv=>whnf
   refine .inl ⟨5,[[],[0],[0,1],[],[3],[0,1,2,3,4],[0,1,2,3,4,5],[0,1,2,3,4,5,6]],by kernel_rfl,?_⟩
   conv=>whnf
   refine ⟨m,rfl,by show m.size≤7; omega,?_⟩
   rw [show ki.val m=.int .i64 M from by rw [hM]; rfl]
   conv=>whnf
   refine ⟨k,rfl,by show k.size≤7; omega,?_⟩
   rw [show ki.val k=.int .i64 N from by rw [hN]; rfl]
   conv=>whnf
   refine .inl ⟨7,[[],[],[0,1],[0,1,2],[],[],[4,5],[0,1,2,3,4,5,6],[0,1,2,3,4,5,6,7],[0,1,2,3,4,5,6,7,8]],by kernel_rfl,?_⟩
   have eq:IntKind.i64.wrap (Int.tdiv (M:Int) (N:Int))=zq:=by
    rw [F9,m9,hM,hN];exact Nb (Nat.lt_of_le_of_lt (Nat.div_le_self _ _) lm)
   have er:Int.tmod (M:Int) (N:Int)=zr:=by rw [M5,nc,hM,hN]
   conv=>whnf
   rw [show decide (((N:Nat):Int)≠0)=true from decide_eq_true (by omega)]
   conv=>whnf
   rw [eq];refine ⟨zq,rfl,?_,?_⟩
   ·exact ⟨by omega,by omega⟩
   rw [show eX.val zq=.agg ⟨[.bool false,.string qs]⟩ from hq.enc]
   conv=>whnf
   rw [show decide (((N:Nat):Int)≠0)=true from decide_eq_true (by omega)]
   conv=>whnf
   rw [er];refine ⟨zr,rfl,⟨by omega,by omega⟩,?_⟩
   rw [show eX.val zr=.agg ⟨[.bool false,.string rs]⟩ from hr.enc]
   conv=>whnf
   refine aK (fun h5=>?_) (fun h5=>?_)
   ·have h5:B≠D:=by
     intro e;subst e;cases B <;> cases h5
    obtain ⟨jE,iT,fo⟩:=EI.mk' (-zq);have z9:=fo.size;rw [Int.natAbs_neg] at z9;conv=>whnf
    refine ⟨(false,qs),rfl,by show qs.size≤_; rw [hq.size]; omega,?_⟩
    rw [show gY.val (false,qs)=.agg ⟨[.bool jE,.string iT]⟩ from by show aH (-IV.z (false,qs))=_; rw [hq.val,fo.enc]]
    conv=>whnf
    by_cases h6:zr=0
    ·rw [show (!rs.toList == (⟨#[]⟩:ByteArray).toList)=false from by rw [hr.nn]; exact decide_eq_false (by omega)]
     obtain ⟨hz,hw⟩:=FK hE hF J h5 m9 nc h6;clear hq;have hq:=fo;conv=>whnf
     refine aK (fun h9=>?_) (fun h9=>?_)
     ·have cY:=hq.enc.symm.trans (congrArg aH hz);rw [h9,if_pos rfl] at hw;conv=>whnf
      refine ⟨(false,rs),rfl,by show rs.size≤_; rw [hr.size]; omega,?_⟩
      obtain ⟨V,n,hV⟩:=EI.mk' (-zr);rw [show gY.val (false,rs)=.agg ⟨[.bool V,.string n]⟩ from by show aH (-IV.z (false,rs))=_; rw [hr.val,hV.enc]]
      have cC:=hV.enc.symm.trans (congrArg aH hw);conv=>whnf
      refine .inr (.inl ⟨(.br 0 (.br 1 (.br 2 (.br 3 (.br 4 .leaf .leaf) .leaf) .leaf) (.br 2 (.br 1 (.br 3 (.br 4 .leaf .leaf) .leaf) .leaf) .leaf)) (.br 1 (.br 0 (.br 2 (.br 3 (.br 4 .leaf .leaf) .leaf) .leaf) .leaf) .leaf)),by kernel_rfl,?_⟩)
      repeat' ((conv=>whnf); first | exact True.intro | refine And.intro ?_ ?_)
      all_goals conv=>whnf
      all_goals exact fin _ _ cY cC
     ·have cY:=hq.enc.symm.trans (congrArg aH hz);rw [h9,if_neg (by decide)] at hw
      have cC:=hr.enc.symm.trans (congrArg aH hw);conv=>whnf
      refine .inr (.inl ⟨(.br 0 (.br 1 (.br 2 (.br 3 (.br 4 .leaf .leaf) .leaf) .leaf) (.br 2 (.br 1 (.br 3 (.br 4 .leaf .leaf) .leaf) .leaf) .leaf)) (.br 1 (.br 0 (.br 2 (.br 3 (.br 4 .leaf .leaf) .leaf) .leaf) .leaf) .leaf)),by kernel_rfl,?_⟩)
      repeat' ((conv=>whnf); first | exact True.intro | refine And.intro ?_ ?_)
      all_goals conv=>whnf
      all_goals exact fin _ _ cY cC
    ·rw [show (!rs.toList == (⟨#[]⟩:ByteArray).toList)=true from by rw [hr.nn]; exact decide_eq_true (by omega)]
     obtain ⟨hz,hw⟩:=Ge hE hF J h5 m9 nc h6;obtain ⟨vb,v1,oT⟩:=EI.mk' 1;have RA:=oT.size;have Aj:aQ (Int.natAbs 1)≤1:=gN (by decide)
     have Qz:IV.z (jE,iT)=-zq:=fo.val;conv=>whnf
     refine .inl ⟨2,[[],[],[0,1],[0,1,2]],by kernel_rfl,?_⟩
     conv=>whnf
     refine ⟨(1:Int),rfl,⟨by decide,by decide⟩,?_⟩
     rw [show eX.val (1:Int)=.agg ⟨[.bool vb,.string v1]⟩ from oT.enc]
     conv=>whnf
     refine ⟨((jE,iT),(vb,v1)),rfl,⟨by show iT.size≤_; omega,by show v1.size≤_; omega⟩,?_⟩
     obtain ⟨AR,AS,ie⟩:=EI.mk' (-zq - 1);rw [show mT.val ((jE,iT),(vb,v1))=.agg ⟨[.bool AR,.string AS]⟩ from by show aH (IV.z (jE,iT) - IV.z (vb,v1))=_; rw [fo.val,oT.val,ie.enc]]
     conv=>whnf
     refine ⟨((false,k),(false,rs)),rfl,⟨by show k.size≤_; omega,by show rs.size≤_; rw [hr.size]; omega⟩,?_⟩
     obtain ⟨tD,tE,oU⟩:=EI.mk' (((ab k:Nat):Int) - zr);rw [show mT.val ((false,k),(false,rs))=.agg ⟨[.bool tD,.string tE]⟩ from by show aH (IV.z (false,k) - IV.z (false,rs))=_; rw [hr.val,show IV.z (false,k)=((ab k:Nat):Int) from rfl,oU.enc]]
     have tF:aQ (((ab k:Nat):Int) - zr).natAbs≤549755813888:=by
      have jC:=jm k;have:=iV (show (((ab k:Nat):Int) - zr).natAbs≤ab k by have:=hF.abs; omega)
      omega
     clear hq hr pX;have hq:=ie;clear pO;obtain ⟨zr,AT⟩:∃ z,z=((ab k:Nat):Int) - zr:=⟨_,rfl⟩;rw [← AT] at oU hw tF;obtain ⟨rb,rfl⟩:∃ q',q'=tD:=⟨_,rfl⟩;obtain ⟨rs,rfl⟩:∃ q',q'=tE:=⟨_,rfl⟩;have hr:=oU;have pX:=tF;conv=>whnf
     refine aK (fun h9=>?_) (fun h9=>?_)
     ·have cY:=hq.enc.symm.trans (congrArg aH hz);rw [h9,if_pos rfl] at hw;conv=>whnf
      refine ⟨(rb,rs),rfl,by show rs.size≤_; rw [hr.size]; omega,?_⟩
      obtain ⟨V,n,hV⟩:=EI.mk' (-zr);rw [show gY.val (rb,rs)=.agg ⟨[.bool V,.string n]⟩ from by show aH (-IV.z (rb,rs))=_; rw [hr.val,hV.enc]]
      have cC:=hV.enc.symm.trans (congrArg aH hw);conv=>whnf
      refine .inr (.inl ⟨(.br 0 (.br 1 (.br 2 (.br 3 (.br 4 .leaf .leaf) .leaf) .leaf) (.br 2 (.br 1 (.br 3 (.br 4 .leaf .leaf) .leaf) .leaf) .leaf)) (.br 1 (.br 0 (.br 2 (.br 3 (.br 4 .leaf .leaf) .leaf) .leaf) .leaf) .leaf)),by kernel_rfl,?_⟩)
      repeat' ((conv=>whnf); first | exact True.intro | refine And.intro ?_ ?_)
      all_goals conv=>whnf
      all_goals exact fin _ _ cY cC
     ·have cY:=hq.enc.symm.trans (congrArg aH hz);rw [h9,if_neg (by decide)] at hw
      have cC:=hr.enc.symm.trans (congrArg aH hw);conv=>whnf
      refine .inr (.inl ⟨(.br 0 (.br 1 (.br 2 (.br 3 (.br 4 .leaf .leaf) .leaf) .leaf) (.br 2 (.br 1 (.br 3 (.br 4 .leaf .leaf) .leaf) .leaf) .leaf)) (.br 1 (.br 0 (.br 2 (.br 3 (.br 4 .leaf .leaf) .leaf) .leaf) .leaf) .leaf)),by kernel_rfl,?_⟩)
      repeat' ((conv=>whnf); first | exact True.intro | refine And.intro ?_ ?_)
      all_goals conv=>whnf
      all_goals exact fin _ _ cY cC
   ·have h5:B=D:=by
     cases B <;> cases D <;> first | rfl | cases h5
    obtain ⟨hz,hw⟩:=Gd hE hF J h5 m9 nc;conv=>whnf
    refine aK (fun h9=>?_) (fun h9=>?_)
    ·have cY:=hq.enc.symm.trans (congrArg aH hz);rw [h9,if_pos rfl] at hw;conv=>whnf
     refine ⟨(false,rs),rfl,by show rs.size≤_; rw [hr.size]; omega,?_⟩
     obtain ⟨V,n,hV⟩:=EI.mk' (-zr);rw [show gY.val (false,rs)=.agg ⟨[.bool V,.string n]⟩ from by show aH (-IV.z (false,rs))=_; rw [hr.val,hV.enc]]
     have cC:=hV.enc.symm.trans (congrArg aH hw);conv=>whnf
     refine .inr (.inl ⟨(.br 0 (.br 1 (.br 2 (.br 3 (.br 4 .leaf .leaf) .leaf) .leaf) (.br 2 (.br 1 (.br 3 (.br 4 .leaf .leaf) .leaf) .leaf) .leaf)) (.br 1 (.br 0 (.br 2 (.br 3 (.br 4 .leaf .leaf) .leaf) .leaf) .leaf) .leaf)),by kernel_rfl,?_⟩)
     repeat' ((conv=>whnf); first | exact True.intro | refine And.intro ?_ ?_)
     all_goals conv=>whnf
     all_goals exact fin _ _ cY cC
    ·have cY:=hq.enc.symm.trans (congrArg aH hz);rw [h9,if_neg (by decide)] at hw
     have cC:=hr.enc.symm.trans (congrArg aH hw);conv=>whnf
     refine .inr (.inl ⟨(.br 0 (.br 1 (.br 2 (.br 3 (.br 4 .leaf .leaf) .leaf) .leaf) (.br 2 (.br 1 (.br 3 (.br 4 .leaf .leaf) .leaf) .leaf) .leaf)) (.br 1 (.br 0 (.br 2 (.br 3 (.br 4 .leaf .leaf) .leaf) .leaf) .leaf) .leaf)),by kernel_rfl,?_⟩)
     repeat' ((conv=>whnf); first | exact True.intro | refine And.intro ?_ ?_)
     all_goals conv=>whnf
     all_goals exact fin _ _ cY cC
  ·have ev:qk.val (m,ab k)=.tuple ⟨[.string qs,.string rs]⟩:=by
    show Value.tuple ⟨[.string (nb (ab m / ab k)),.string (nb (ab m % ab k))]⟩=_
    rw [hq.nU,hr.nU,m9,nc]
    rfl
   have ei:qk.args (m,ab k)=[.string m,.string k]:=by
    show [Value.string m,.string (nb (ab k))]=_
    rw [← hF.eta]
   have QA:qk.pre (m,ab k):=⟨by show m.size≤_; omega,by show aQ (ab k)≤_; rw [hF.abs]; omega,tj⟩
   by_cases h4:m.size < 8
   ·rw [show decide (((m.size:Nat):Int) < 8)=true from decide_eq_true (by omega)]
    conv=>whnf
    rw [show decide (((k.size:Nat):Int) < 8)=false from decide_eq_false (by omega)]
    conv=>whnf
    refine ⟨(m,ab k),ei,QA,?_⟩;rw [ev];conv=>whnf
    refine aK (fun h5=>?_) (fun h5=>?_)
    ·have h5:B≠D:=by
      intro e;subst e;cases B <;> cases h5
     obtain ⟨jE,iT,fo⟩:=EI.mk' (-zq);have z9:=fo.size;rw [Int.natAbs_neg] at z9;conv=>whnf
     refine ⟨(false,qs),rfl,by show qs.size≤_; rw [hq.size]; omega,?_⟩
     rw [show gY.val (false,qs)=.agg ⟨[.bool jE,.string iT]⟩ from by show aH (-IV.z (false,qs))=_; rw [hq.val,fo.enc]]
     conv=>whnf
     by_cases h6:zr=0
     ·rw [show (!rs.toList == (⟨#[]⟩:ByteArray).toList)=false from by rw [hr.nn]; exact decide_eq_false (by omega)]
      obtain ⟨hz,hw⟩:=FK hE hF J h5 m9 nc h6;clear hq;have hq:=fo;conv=>whnf
      refine aK (fun h9=>?_) (fun h9=>?_)
      ·have cY:=hq.enc.symm.trans (congrArg aH hz);rw [h9,if_pos rfl] at hw;conv=>whnf
       refine ⟨(false,rs),rfl,by show rs.size≤_; rw [hr.size]; omega,?_⟩
       obtain ⟨V,n,hV⟩:=EI.mk' (-zr);rw [show gY.val (false,rs)=.agg ⟨[.bool V,.string n]⟩ from by show aH (-IV.z (false,rs))=_; rw [hr.val,hV.enc]]
       have cC:=hV.enc.symm.trans (congrArg aH hw);conv=>whnf
       refine .inr (.inl ⟨(.br 0 (.br 1 (.br 2 (.br 3 (.br 4 .leaf .leaf) .leaf) .leaf) (.br 2 (.br 1 (.br 3 (.br 4 .leaf .leaf) .leaf) .leaf) .leaf)) (.br 1 (.br 0 (.br 2 (.br 3 (.br 4 .leaf .leaf) .leaf) .leaf) .leaf) .leaf)),by kernel_rfl,?_⟩)
       repeat' ((conv=>whnf); first | exact True.intro | refine And.intro ?_ ?_)
       all_goals conv=>whnf
       all_goals exact fin _ _ cY cC
      ·have cY:=hq.enc.symm.trans (congrArg aH hz);rw [h9,if_neg (by decide)] at hw
       have cC:=hr.enc.symm.trans (congrArg aH hw);conv=>whnf
       refine .inr (.inl ⟨(.br 0 (.br 1 (.br 2 (.br 3 (.br 4 .leaf .leaf) .leaf) .leaf) (.br 2 (.br 1 (.br 3 (.br 4 .leaf .leaf) .leaf) .leaf) .leaf)) (.br 1 (.br 0 (.br 2 (.br 3 (.br 4 .leaf .leaf) .leaf) .leaf) .leaf) .leaf)),by kernel_rfl,?_⟩)
       repeat' ((conv=>whnf); first | exact True.intro | refine And.intro ?_ ?_)
       all_goals conv=>whnf
       all_goals exact fin _ _ cY cC
     ·rw [show (!rs.toList == (⟨#[]⟩:ByteArray).toList)=true from by rw [hr.nn]; exact decide_eq_true (by omega)]
      obtain ⟨hz,hw⟩:=Ge hE hF J h5 m9 nc h6;obtain ⟨vb,v1,oT⟩:=EI.mk' 1;have RA:=oT.size;have Aj:aQ (Int.natAbs 1)≤1:=gN (by decide)
      have Qz:IV.z (jE,iT)=-zq:=fo.val;conv=>whnf
      refine .inl ⟨2,[[],[],[0,1],[0,1,2]],by kernel_rfl,?_⟩
      conv=>whnf
      refine ⟨(1:Int),rfl,⟨by decide,by decide⟩,?_⟩
      rw [show eX.val (1:Int)=.agg ⟨[.bool vb,.string v1]⟩ from oT.enc]
      conv=>whnf
      refine ⟨((jE,iT),(vb,v1)),rfl,⟨by show iT.size≤_; omega,by show v1.size≤_; omega⟩,?_⟩
      obtain ⟨AR,AS,ie⟩:=EI.mk' (-zq - 1);rw [show mT.val ((jE,iT),(vb,v1))=.agg ⟨[.bool AR,.string AS]⟩ from by show aH (IV.z (jE,iT) - IV.z (vb,v1))=_; rw [fo.val,oT.val,ie.enc]]
      conv=>whnf
      refine ⟨((false,k),(false,rs)),rfl,⟨by show k.size≤_; omega,by show rs.size≤_; rw [hr.size]; omega⟩,?_⟩
      obtain ⟨tD,tE,oU⟩:=EI.mk' (((ab k:Nat):Int) - zr);rw [show mT.val ((false,k),(false,rs))=.agg ⟨[.bool tD,.string tE]⟩ from by show aH (IV.z (false,k) - IV.z (false,rs))=_; rw [hr.val,show IV.z (false,k)=((ab k:Nat):Int) from rfl,oU.enc]]
      have tF:aQ (((ab k:Nat):Int) - zr).natAbs≤549755813888:=by
       have jC:=jm k;have:=iV (show (((ab k:Nat):Int) - zr).natAbs≤ab k by have:=hF.abs; omega)
       omega
      clear hq hr pX;have hq:=ie;clear pO;obtain ⟨zr,AT⟩:∃ z,z=((ab k:Nat):Int) - zr:=⟨_,rfl⟩;rw [← AT] at oU hw tF;obtain ⟨rb,rfl⟩:∃ q',q'=tD:=⟨_,rfl⟩;obtain ⟨rs,rfl⟩:∃ q',q'=tE:=⟨_,rfl⟩;have hr:=oU;have pX:=tF;conv=>whnf
      refine aK (fun h9=>?_) (fun h9=>?_)
      ·have cY:=hq.enc.symm.trans (congrArg aH hz);rw [h9,if_pos rfl] at hw;conv=>whnf
       refine ⟨(rb,rs),rfl,by show rs.size≤_; rw [hr.size]; omega,?_⟩
       obtain ⟨V,n,hV⟩:=EI.mk' (-zr);rw [show gY.val (rb,rs)=.agg ⟨[.bool V,.string n]⟩ from by show aH (-IV.z (rb,rs))=_; rw [hr.val,hV.enc]]
       have cC:=hV.enc.symm.trans (congrArg aH hw);conv=>whnf
       refine .inr (.inl ⟨(.br 0 (.br 1 (.br 2 (.br 3 (.br 4 .leaf .leaf) .leaf) .leaf) (.br 2 (.br 1 (.br 3 (.br 4 .leaf .leaf) .leaf) .leaf) .leaf)) (.br 1 (.br 0 (.br 2 (.br 3 (.br 4 .leaf .leaf) .leaf) .leaf) .leaf) .leaf)),by kernel_rfl,?_⟩)
       repeat' ((conv=>whnf); first | exact True.intro | refine And.intro ?_ ?_)
       all_goals conv=>whnf
       all_goals exact fin _ _ cY cC
      ·have cY:=hq.enc.symm.trans (congrArg aH hz);rw [h9,if_neg (by decide)] at hw
       have cC:=hr.enc.symm.trans (congrArg aH hw);conv=>whnf
       refine .inr (.inl ⟨(.br 0 (.br 1 (.br 2 (.br 3 (.br 4 .leaf .leaf) .leaf) .leaf) (.br 2 (.br 1 (.br 3 (.br 4 .leaf .leaf) .leaf) .leaf) .leaf)) (.br 1 (.br 0 (.br 2 (.br 3 (.br 4 .leaf .leaf) .leaf) .leaf) .leaf) .leaf)),by kernel_rfl,?_⟩)
       repeat' ((conv=>whnf); first | exact True.intro | refine And.intro ?_ ?_)
       all_goals conv=>whnf
       all_goals exact fin _ _ cY cC
    ·have h5:B=D:=by
      cases B <;> cases D <;> first | rfl | cases h5
     obtain ⟨hz,hw⟩:=Gd hE hF J h5 m9 nc;conv=>whnf
     refine aK (fun h9=>?_) (fun h9=>?_)
     ·have cY:=hq.enc.symm.trans (congrArg aH hz);rw [h9,if_pos rfl] at hw;conv=>whnf
      refine ⟨(false,rs),rfl,by show rs.size≤_; rw [hr.size]; omega,?_⟩
      obtain ⟨V,n,hV⟩:=EI.mk' (-zr);rw [show gY.val (false,rs)=.agg ⟨[.bool V,.string n]⟩ from by show aH (-IV.z (false,rs))=_; rw [hr.val,hV.enc]]
      have cC:=hV.enc.symm.trans (congrArg aH hw);conv=>whnf
      refine .inr (.inl ⟨(.br 0 (.br 1 (.br 2 (.br 3 (.br 4 .leaf .leaf) .leaf) .leaf) (.br 2 (.br 1 (.br 3 (.br 4 .leaf .leaf) .leaf) .leaf) .leaf)) (.br 1 (.br 0 (.br 2 (.br 3 (.br 4 .leaf .leaf) .leaf) .leaf) .leaf) .leaf)),by kernel_rfl,?_⟩)
      repeat' ((conv=>whnf); first | exact True.intro | refine And.intro ?_ ?_)
      all_goals conv=>whnf
      all_goals exact fin _ _ cY cC
     ·have cY:=hq.enc.symm.trans (congrArg aH hz);rw [h9,if_neg (by decide)] at hw
      have cC:=hr.enc.symm.trans (congrArg aH hw);conv=>whnf
      refine .inr (.inl ⟨(.br 0 (.br 1 (.br 2 (.br 3 (.br 4 .leaf .leaf) .leaf) .leaf) (.br 2 (.br 1 (.br 3 (.br 4 .leaf .leaf) .leaf) .leaf) .leaf)) (.br 1 (.br 0 (.br 2 (.br 3 (.br 4 .leaf .leaf) .leaf) .leaf) .leaf) .leaf)),by kernel_rfl,?_⟩)
      repeat' ((conv=>whnf); first | exact True.intro | refine And.intro ?_ ?_)
      all_goals conv=>whnf
      all_goals exact fin _ _ cY cC
   ·rw [show decide (((m.size:Nat):Int) < 8)=false from decide_eq_false (by omega)]
    conv=>whnf
    refine ⟨(m,ab k),ei,QA,?_⟩;rw [ev];conv=>whnf
    refine aK (fun h5=>?_) (fun h5=>?_)
    ·have h5:B≠D:=by
      intro e;subst e;cases B <;> cases h5
     obtain ⟨jE,iT,fo⟩:=EI.mk' (-zq);have z9:=fo.size;rw [Int.natAbs_neg] at z9;conv=>whnf
     refine ⟨(false,qs),rfl,by show qs.size≤_; rw [hq.size]; omega,?_⟩
     rw [show gY.val (false,qs)=.agg ⟨[.bool jE,.string iT]⟩ from by show aH (-IV.z (false,qs))=_; rw [hq.val,fo.enc]]
     conv=>whnf
     by_cases h6:zr=0
     ·rw [show (!rs.toList == (⟨#[]⟩:ByteArray).toList)=false from by rw [hr.nn]; exact decide_eq_false (by omega)]
      obtain ⟨hz,hw⟩:=FK hE hF J h5 m9 nc h6;clear hq;have hq:=fo;conv=>whnf
      refine aK (fun h9=>?_) (fun h9=>?_)
      ·have cY:=hq.enc.symm.trans (congrArg aH hz);rw [h9,if_pos rfl] at hw;conv=>whnf
       refine ⟨(false,rs),rfl,by show rs.size≤_; rw [hr.size]; omega,?_⟩
       obtain ⟨V,n,hV⟩:=EI.mk' (-zr);rw [show gY.val (false,rs)=.agg ⟨[.bool V,.string n]⟩ from by show aH (-IV.z (false,rs))=_; rw [hr.val,hV.enc]]
       have cC:=hV.enc.symm.trans (congrArg aH hw);conv=>whnf
       refine .inr (.inl ⟨(.br 0 (.br 1 (.br 2 (.br 3 (.br 4 .leaf .leaf) .leaf) .leaf) (.br 2 (.br 1 (.br 3 (.br 4 .leaf .leaf) .leaf) .leaf) .leaf)) (.br 1 (.br 0 (.br 2 (.br 3 (.br 4 .leaf .leaf) .leaf) .leaf) .leaf) .leaf)),by kernel_rfl,?_⟩)
       repeat' ((conv=>whnf); first | exact True.intro | refine And.intro ?_ ?_)
       all_goals conv=>whnf
       all_goals exact fin _ _ cY cC
      ·have cY:=hq.enc.symm.trans (congrArg aH hz);rw [h9,if_neg (by decide)] at hw
       have cC:=hr.enc.symm.trans (congrArg aH hw);conv=>whnf
       refine .inr (.inl ⟨(.br 0 (.br 1 (.br 2 (.br 3 (.br 4 .leaf .leaf) .leaf) .leaf) (.br 2 (.br 1 (.br 3 (.br 4 .leaf .leaf) .leaf) .leaf) .leaf)) (.br 1 (.br 0 (.br 2 (.br 3 (.br 4 .leaf .leaf) .leaf) .leaf) .leaf) .leaf)),by kernel_rfl,?_⟩)
       repeat' ((conv=>whnf); first | exact True.intro | refine And.intro ?_ ?_)
       all_goals conv=>whnf
       all_goals exact fin _ _ cY cC
     ·rw [show (!rs.toList == (⟨#[]⟩:ByteArray).toList)=true from by rw [hr.nn]; exact decide_eq_true (by omega)]
      obtain ⟨hz,hw⟩:=Ge hE hF J h5 m9 nc h6;obtain ⟨vb,v1,oT⟩:=EI.mk' 1;have RA:=oT.size;have Aj:aQ (Int.natAbs 1)≤1:=gN (by decide)
      have Qz:IV.z (jE,iT)=-zq:=fo.val;conv=>whnf
      refine .inl ⟨2,[[],[],[0,1],[0,1,2]],by kernel_rfl,?_⟩
      conv=>whnf
      refine ⟨(1:Int),rfl,⟨by decide,by decide⟩,?_⟩
      rw [show eX.val (1:Int)=.agg ⟨[.bool vb,.string v1]⟩ from oT.enc]
      conv=>whnf
      refine ⟨((jE,iT),(vb,v1)),rfl,⟨by show iT.size≤_; omega,by show v1.size≤_; omega⟩,?_⟩
      obtain ⟨AR,AS,ie⟩:=EI.mk' (-zq - 1);rw [show mT.val ((jE,iT),(vb,v1))=.agg ⟨[.bool AR,.string AS]⟩ from by show aH (IV.z (jE,iT) - IV.z (vb,v1))=_; rw [fo.val,oT.val,ie.enc]]
      conv=>whnf
      refine ⟨((false,k),(false,rs)),rfl,⟨by show k.size≤_; omega,by show rs.size≤_; rw [hr.size]; omega⟩,?_⟩
      obtain ⟨tD,tE,oU⟩:=EI.mk' (((ab k:Nat):Int) - zr);rw [show mT.val ((false,k),(false,rs))=.agg ⟨[.bool tD,.string tE]⟩ from by show aH (IV.z (false,k) - IV.z (false,rs))=_; rw [hr.val,show IV.z (false,k)=((ab k:Nat):Int) from rfl,oU.enc]]
      have tF:aQ (((ab k:Nat):Int) - zr).natAbs≤549755813888:=by
       have jC:=jm k;have:=iV (show (((ab k:Nat):Int) - zr).natAbs≤ab k by have:=hF.abs; omega)
       omega
      clear hq hr pX;have hq:=ie;clear pO;obtain ⟨zr,AT⟩:∃ z,z=((ab k:Nat):Int) - zr:=⟨_,rfl⟩;rw [← AT] at oU hw tF;obtain ⟨rb,rfl⟩:∃ q',q'=tD:=⟨_,rfl⟩;obtain ⟨rs,rfl⟩:∃ q',q'=tE:=⟨_,rfl⟩;have hr:=oU;have pX:=tF;conv=>whnf
      refine aK (fun h9=>?_) (fun h9=>?_)
      ·have cY:=hq.enc.symm.trans (congrArg aH hz);rw [h9,if_pos rfl] at hw;conv=>whnf
       refine ⟨(rb,rs),rfl,by show rs.size≤_; rw [hr.size]; omega,?_⟩
       obtain ⟨V,n,hV⟩:=EI.mk' (-zr);rw [show gY.val (rb,rs)=.agg ⟨[.bool V,.string n]⟩ from by show aH (-IV.z (rb,rs))=_; rw [hr.val,hV.enc]]
       have cC:=hV.enc.symm.trans (congrArg aH hw);conv=>whnf
       refine .inr (.inl ⟨(.br 0 (.br 1 (.br 2 (.br 3 (.br 4 .leaf .leaf) .leaf) .leaf) (.br 2 (.br 1 (.br 3 (.br 4 .leaf .leaf) .leaf) .leaf) .leaf)) (.br 1 (.br 0 (.br 2 (.br 3 (.br 4 .leaf .leaf) .leaf) .leaf) .leaf) .leaf)),by kernel_rfl,?_⟩)
       repeat' ((conv=>whnf); first | exact True.intro | refine And.intro ?_ ?_)
       all_goals conv=>whnf
       all_goals exact fin _ _ cY cC
      ·have cY:=hq.enc.symm.trans (congrArg aH hz);rw [h9,if_neg (by decide)] at hw
       have cC:=hr.enc.symm.trans (congrArg aH hw);conv=>whnf
       refine .inr (.inl ⟨(.br 0 (.br 1 (.br 2 (.br 3 (.br 4 .leaf .leaf) .leaf) .leaf) (.br 2 (.br 1 (.br 3 (.br 4 .leaf .leaf) .leaf) .leaf) .leaf)) (.br 1 (.br 0 (.br 2 (.br 3 (.br 4 .leaf .leaf) .leaf) .leaf) .leaf) .leaf)),by kernel_rfl,?_⟩)
       repeat' ((conv=>whnf); first | exact True.intro | refine And.intro ?_ ?_)
       all_goals conv=>whnf
       all_goals exact fin _ _ cY cC
    ·have h5:B=D:=by
      cases B <;> cases D <;> first | rfl | cases h5
     obtain ⟨hz,hw⟩:=Gd hE hF J h5 m9 nc;conv=>whnf
     refine aK (fun h9=>?_) (fun h9=>?_)
     ·have cY:=hq.enc.symm.trans (congrArg aH hz);rw [h9,if_pos rfl] at hw;conv=>whnf
      refine ⟨(false,rs),rfl,by show rs.size≤_; rw [hr.size]; omega,?_⟩
      obtain ⟨V,n,hV⟩:=EI.mk' (-zr);rw [show gY.val (false,rs)=.agg ⟨[.bool V,.string n]⟩ from by show aH (-IV.z (false,rs))=_; rw [hr.val,hV.enc]]
      have cC:=hV.enc.symm.trans (congrArg aH hw);conv=>whnf
      refine .inr (.inl ⟨(.br 0 (.br 1 (.br 2 (.br 3 (.br 4 .leaf .leaf) .leaf) .leaf) (.br 2 (.br 1 (.br 3 (.br 4 .leaf .leaf) .leaf) .leaf) .leaf)) (.br 1 (.br 0 (.br 2 (.br 3 (.br 4 .leaf .leaf) .leaf) .leaf) .leaf) .leaf)),by kernel_rfl,?_⟩)
      repeat' ((conv=>whnf); first | exact True.intro | refine And.intro ?_ ?_)
      all_goals conv=>whnf
      all_goals exact fin _ _ cY cC
     ·have cY:=hq.enc.symm.trans (congrArg aH hz);rw [h9,if_neg (by decide)] at hw
      have cC:=hr.enc.symm.trans (congrArg aH hw);conv=>whnf
      refine .inr (.inl ⟨(.br 0 (.br 1 (.br 2 (.br 3 (.br 4 .leaf .leaf) .leaf) .leaf) (.br 2 (.br 1 (.br 3 (.br 4 .leaf .leaf) .leaf) .leaf) .leaf)) (.br 1 (.br 0 (.br 2 (.br 3 (.br 4 .leaf .leaf) .leaf) .leaf) .leaf) .leaf)),by kernel_rfl,?_⟩)
      repeat' ((conv=>whnf); first | exact True.intro | refine And.intro ?_ ?_)
      all_goals conv=>whnf
      all_goals exact fin _ _ cY cC
open Go Go.Ae
def IP:List TypeId:=[24,26,121,40]
theorem ach:∀ t∈IP,∀ ti,tt t=some ti→xQ Tryz.prog t ti.zero:=by
 intro t ht ti h;simp only [IP,List.mem_cons,List.mem_nil_iff,or_false] at ht;rcases ht with rfl | rfl | rfl | rfl
 all_goals cases h; exact aeA (by kernel_rfl) (by kernel_rfl)
def tG (cs:List (Nat × uO)) (fs:List (Nat × FT):=[]) (is:List (Nat × (Nat→FT→Nu→FT)):=[]) (iu:Bool:=false):Env:={ tt:=tt,eqs:=IP,iu:=iu,Φ:=qI cs,Ψ:=qI fs,It:=qI is }
theorem vo {cs:List (Nat × uO)} {fs:List (Nat × FT)} {is:List (Nat × (Nat→FT→Nu→FT))} {iu:Bool} (h:u9 (Dk Tryz.prog) cs) (J:u9 (fM Tryz.prog) fs):EnvOk Tryz.prog (tG cs fs is iu):=⟨u4,ach,fun _ _=>wL h,fun _ _=>wL J⟩
theorem Up:bh Tryz.prog 166 ki:=by
 refine bk mg aN Tryz.func166 (enters_of Tryz.func166 (by kernel_rfl) rfl) (fun _=>rfl) (fun _=>rfl) ?_
 intro (s:ByteArray) hp;have hp:s.size≤7:=hp;conv=>whnf
 refine .inl ⟨fun mm tz hz=>∃ (i:Nat) (N:Nat),bA (some (.string s)::aF 2 (some (.int .i64 N)::aF 2 (some (.int .i64 s.size)::some (.int .i64 i)::aF 11 []))) tz∧hz=[]∧s.size - i=mm∧(i≤s.size∧N=ab s / C ^ (s.size - i)),.inl ⟨_,0,0,(.aa (.sk 2 (.aa (.sk 2 (.aa (.aa (.sk 11 .nil rfl))) rfl)) rfl)),rfl,rfl,?_⟩,?_⟩
 ·exact ⟨Nat.zero_le _,by rw [Nat.sub_zero,Nat.div_eq_of_lt (gq s)]⟩
 rintro mm aT _ ⟨i,N,aw,rfl,rfl,⟨hi,hN⟩⟩
 obtain ⟨az,rfl⟩:∃ az:Nat→Value,aT=.string s::zs az 1 2 (.int .i64 N::zs az 4 2 (.int .i64 s.size::.int .i64 i::zs az 8 11 [])):=bI aw;clear aw;have m8:=CT s hi;rw [← hN] at m8;have an:=Nat.lt_of_lt_of_le m8 (oo (show i≤7 by omega))
 conv=>whnf
 refine aK (fun J=>?_) (fun J=>?_)
 ·have J:i < s.size:=by simpa using J
  have au:=yJ J;rw [← hN] at au;have hb:b8 s i < 256:=wD s i;have e3:IntKind.i64.wrap (((i:Nat):Int)+1)=((i+1:Nat):Int):=by rw [ax (by omega) (by omega)]; rfl
  have JP:=Nat.lt_of_lt_of_le m8 (Dz (show i≤6 by omega))
  conv=>whnf
  refine ⟨⟨by omega,by omega⟩,?_⟩
  simp only [toNat_cast];conv=>whnf
  rw [M9 (by omega) hb,e3]
  refine .inl ⟨_,?_,i+1,N*256+b8 s i,(.aa (.sk 2 (.aa (.sk 2 (.aa (.aa (.sk 11 .nil rfl))) rfl)) rfl)),rfl,rfl,?_⟩
  ·omega
  ·exact ⟨by omega,au.symm⟩
 ·have J:i=s.size:=by
   have J:¬ i < s.size:=by simpa using J
   omega
  subst J;rw [Nat.sub_self,Nat.pow_zero,Nat.div_one] at hN;subst hN;conv=>whnf
  rfl
theorem Uq:bh Tryz.prog 178 ki:=by
 refine bk mg aN Tryz.func178 (enters_of Tryz.func178 (by kernel_rfl) rfl) (fun _=>rfl) (fun _=>rfl) ?_
 intro (s:ByteArray) hp;have hp:s.size≤7:=hp;conv=>whnf
 refine .inl ⟨fun mm tz hz=>∃ (i:Nat) (N:Nat),bA (some (.string s)::aF 2 (some (.int .i64 N)::some (.int .i64 i)::aF 14 [])) tz∧hz=[]∧s.size - i=mm∧(i≤s.size∧N=ab s / C ^ (s.size - i)),.inl ⟨_,0,0,(.aa (.sk 2 (.aa (.aa (.sk 14 .nil rfl))) rfl)),rfl,rfl,?_⟩,?_⟩
 ·exact ⟨Nat.zero_le _,by rw [Nat.sub_zero,Nat.div_eq_of_lt (gq s)]⟩
 rintro mm aT _ ⟨i,N,aw,rfl,rfl,⟨hi,hN⟩⟩
 obtain ⟨az,rfl⟩:∃ az:Nat→Value,aT=.string s::zs az 1 2 (.int .i64 N::.int .i64 i::zs az 5 14 []):=bI aw;clear aw;have m8:=CT s hi;rw [← hN] at m8;have an:=Nat.lt_of_lt_of_le m8 (oo (show i≤7 by omega))
 conv=>whnf
 refine aK (fun J=>?_) (fun J=>?_)
 ·have J:i < s.size:=by simpa using J
  have au:=yJ J;rw [← hN] at au;have hb:b8 s i < 256:=wD s i;have e3:IntKind.i64.wrap (((i:Nat):Int)+1)=((i+1:Nat):Int):=by rw [ax (by omega) (by omega)]; rfl
  have JP:=Nat.lt_of_lt_of_le m8 (Dz (show i≤6 by omega))
  obtain ⟨b,RB⟩:∃ b,b=b8 s i:=⟨_,rfl⟩;rw [← RB] at hb au;have ev:IntKind.i64.wrap (IntKind.i64.wrap (256*(N:Int))+IntKind.i64.wrap (b:Int))=((N*256+b:Nat):Int):=by
   rw [ax (x:=256*(N:Int)) (by omega) (by omega),ax (x:=(b:Int)) (by omega) (by omega),ax (by omega) (by omega)]; omega
  conv=>whnf
  refine ⟨⟨by omega,by omega⟩,?_⟩
  simp only [toNat_cast];conv=>whnf
  rw [← RB,ev,e3];refine .inl ⟨_,?_,i+1,N*256+b,(.aa (.sk 2 (.aa (.aa (.sk 14 .nil rfl))) rfl)),rfl,rfl,?_⟩
  ·omega
  ·exact ⟨by omega,au.symm⟩
 ·have J:i=s.size:=by
   have J:¬ i < s.size:=by simpa using J
   omega
  subst J;rw [Nat.sub_self,Nat.pow_zero,Nat.div_one] at hN;subst hN;conv=>whnf
  rfl
def Ema:Env:=En [(166,.p ki),(178,.p ki)]
theorem PB:EnvOk Tryz.prog Ema:=bD ⟨Up,Uq,trivial⟩ trivial
theorem ZO:bh Tryz.prog 138 bF:=by
 refine bk PB aN Tryz.func138 (enters_of Tryz.func138 (by kernel_rfl) rfl) (fun _=>rfl) (fun _=>rfl) ?_
 intro ⟨b,s,t⟩ _;have ov:¬ RV.fN (b,s,t)→Value.tuple ⟨[.int .i64 0,.int .i64 0,.bool false]⟩=bF.val (b,s,t):=fun h=>by
  simp only [bF,if_neg h,decide_eq_false h]
 have mX:RV.fN (b,s,t)→∀ x y:Int,x=RV.n (b,s,t)→y=(RV.d (b,s,t):Int)→Value.tuple ⟨[.int .i64 x,.int .i64 y,.bool true]⟩=bF.val (b,s,t):=fun h x y hx hy=>by
  simp only [bF,if_pos h,decide_eq_true h,hx,hy]
 conv=>whnf
 by_cases h1:s.size≤3
 ·rw [show decide (((s.size:Nat):Int) > 3)=false from decide_eq_false (by omega)]
  conv=>whnf
  by_cases J:t.size≤3
  ·rw [show decide (((t.size:Nat):Int) > 3)=false from decide_eq_false (by omega)]
   have ht:RV.fN (b,s,t):=⟨h1,J⟩;obtain ⟨N,hN⟩:∃ N,N=ab s:=⟨_,rfl⟩;obtain ⟨D,hD⟩:∃ D,D=ab t:=⟨_,rfl⟩;have hn:=RV.He ht;have hd:=RV.Hf ht;conv=>whnf
   refine .inl ⟨5,[[],[0],[0,1],[],[3],[0,1,2,3,4],[0,1,2,3,4,5],[0,1,2,3,4,5,6]],by kernel_rfl,?_⟩
   conv=>whnf
   refine ⟨s,rfl,by show s.size≤7; omega,?_⟩
   rw [show ki.val s=.int .i64 N from by rw [hN]; rfl]
   conv=>whnf
   refine ⟨t,rfl,by show t.size≤7; omega,?_⟩
   rw [show ki.val t=.int .i64 D from by rw [hD]; rfl]
   conv=>whnf
   have bV:(RV.d (b,s,t):Int)=if D=0 then 1 else D:=by
    show (((if ab t=0 then 1 else ab t):Nat):Int)=_
    rw [← hD]
   refine aK (fun h3=>?_) (fun h3=>?_)
   ·have bR:RV.n (b,s,t)=-(N:Int):=by
     have h3:b=true:=h3;show a8 b (ab s)=_
     rw [h3,← hN]; rfl
    have en:IntKind.i64.wrap (0 - (N:Int))=-(N:Int):=by rw [ax (by omega) (by omega)]; omega
    conv=>whnf
    exact mX ht _ _ (by rw [bR]; exact en) (by rw [bV]; split <;> split <;> omega)
   ·have bR:RV.n (b,s,t)=(N:Int):=by
     have h3:b=false:=h3;show a8 b (ab s)=_
     rw [h3,← hN]; rfl
    conv=>whnf
    exact mX ht _ _ (by rw [bR]) (by rw [bV]; split <;> split <;> omega)
  ·rw [show decide (((t.size:Nat):Int) > 3)=true from decide_eq_true (by omega)]
   conv=>whnf
   exact ov (fun h=>J h.2)
 ·rw [show decide (((s.size:Nat):Int) > 3)=true from decide_eq_true (by omega)]
  conv=>whnf
  exact ov (fun h=>h1 h.1)
theorem W5:bh Tryz.prog 158 bF:=by
 refine bk PB aN Tryz.func158 (enters_of Tryz.func158 (by kernel_rfl) rfl) (fun _=>rfl) (fun _=>rfl) ?_
 intro ⟨b,s,t⟩ _;have ov:¬ RV.fN (b,s,t)→Value.tuple ⟨[.int .i64 0,.int .i64 0,.bool false]⟩=bF.val (b,s,t):=fun h=>by
  simp only [bF,if_neg h,decide_eq_false h]
 have mX:RV.fN (b,s,t)→∀ x y:Int,x=RV.n (b,s,t)→y=(RV.d (b,s,t):Int)→Value.tuple ⟨[.int .i64 x,.int .i64 y,.bool true]⟩=bF.val (b,s,t):=fun h x y hx hy=>by
  simp only [bF,if_pos h,decide_eq_true h,hx,hy]
 conv=>whnf
 by_cases h1:s.size≤3
 ·rw [show decide (((s.size:Nat):Int) > 3)=false from decide_eq_false (by omega)]
  conv=>whnf
  by_cases J:t.size≤3
  ·rw [show decide (((t.size:Nat):Int) > 3)=false from decide_eq_false (by omega)]
   have ht:RV.fN (b,s,t):=⟨h1,J⟩;obtain ⟨N,hN⟩:∃ N,N=ab s:=⟨_,rfl⟩;obtain ⟨D,hD⟩:∃ D,D=ab t:=⟨_,rfl⟩;have hn:=RV.He ht;have hd:=RV.Hf ht;conv=>whnf
   refine .inl ⟨5,[[],[0],[0,1],[],[3],[0,1,2,3,4],[0,1,2,3,4,5],[0,1,2,3,4,5,6]],by kernel_rfl,?_⟩
   conv=>whnf
   refine ⟨s,rfl,by show s.size≤7; omega,?_⟩
   rw [show ki.val s=.int .i64 N from by rw [hN]; rfl]
   conv=>whnf
   refine ⟨t,rfl,by show t.size≤7; omega,?_⟩
   rw [show ki.val t=.int .i64 D from by rw [hD]; rfl]
   conv=>whnf
   have bV:(RV.d (b,s,t):Int)=if D=0 then 1 else D:=by
    show (((if ab t=0 then 1 else ab t):Nat):Int)=_
    rw [← hD]
   refine aK (fun h4=>?_) (fun h4=>?_)
   ·have h4:D=0:=by
     have h4:((D:Nat):Int)=0:=by simpa using h4
     omega
    rw [if_pos h4] at bV;conv=>whnf
    refine aK (fun h3=>?_) (fun h3=>?_)
    ·have bR:RV.n (b,s,t)=-(N:Int):=by
      have h3:b=true:=h3;show a8 b (ab s)=_
      rw [h3,← hN]; rfl
     have en:IntKind.i64.wrap (0 - (N:Int))=-(N:Int):=by rw [ax (by omega) (by omega)]; omega
     conv=>whnf
     exact mX ht _ _ (by rw [bR]; exact en) (by rw [bV]; first | done | rfl)
    ·have bR:RV.n (b,s,t)=(N:Int):=by
      have h3:b=false:=h3;show a8 b (ab s)=_
      rw [h3,← hN]; rfl
     conv=>whnf
     exact mX ht _ _ (by rw [bR]) (by rw [bV]; first | done | rfl)
   ·have h4:D≠0:=by
     intro e;subst e;simp at h4
    rw [if_neg h4] at bV;conv=>whnf
    refine aK (fun h3=>?_) (fun h3=>?_)
    ·have bR:RV.n (b,s,t)=-(N:Int):=by
      have h3:b=true:=h3;show a8 b (ab s)=_
      rw [h3,← hN]; rfl
     have en:IntKind.i64.wrap (0 - (N:Int))=-(N:Int):=by rw [ax (by omega) (by omega)]; omega
     conv=>whnf
     exact mX ht _ _ (by rw [bR]; exact en) (by rw [bV]; first | done | rfl)
    ·have bR:RV.n (b,s,t)=(N:Int):=by
      have h3:b=false:=h3;show a8 b (ab s)=_
      rw [h3,← hN]; rfl
     conv=>whnf
     exact mX ht _ _ (by rw [bR]) (by rw [bV]; first | done | rfl)
  ·rw [show decide (((t.size:Nat):Int) > 3)=true from decide_eq_true (by omega)]
   conv=>whnf
   exact ov (fun h=>J h.2)
 ·rw [show decide (((s.size:Nat):Int) > 3)=true from decide_eq_true (by omega)]
  conv=>whnf
  exact ov (fun h=>h1 h.1)
open Go Go.Ae
theorem ZP:bh Tryz.prog 140 sK:=by
 refine bk mg aN Tryz.func140 (enters_of Tryz.func140 (by kernel_rfl) rfl) (fun _=>rfl) (fun _=>rfl) ?_
 intro (n:Nat) hp;have hp:n < 72057594037927936:=hp;conv=>whnf
 refine .inl ⟨fun mm tz hz=>∃ (i:Nat) (m:Nat) (g:Nat→List Value),bA (some (.int .i64 m)::aF 2 (some (.pointer (some ⟨0,0,none⟩))::some (.int .i64 i)::aF 13 [])) tz∧hz=[some (.flat true 8 1 g)]∧m=mm∧((i≤8∧m=n / C ^ (8 - i))∧(i=8∨C ^ (8 - i - 1)≤n)∧(∀ r,i≤r→r < 8→g r=[.int .u8 ((n / C ^ (7 - r) % C:Nat):Int)])∧(∀ r,r < 8→∃ x:Int,g r=[.int .u8 x])),.inl ⟨_,8,n,_,(.aa (.sk 2 (.aa (.aa (.sk 13 .nil rfl))) rfl)),rfl,rfl,?_⟩,?_⟩
 ·exact ⟨⟨Nat.le_refl _,by simp⟩,.inl rfl,fun r h1 J=>absurd h1 (by omega),fun r hr=>⟨0,rfl⟩⟩
 rintro mm aT _ ⟨i,m,g,aw,rfl,rfl,⟨⟨hi,hm⟩,ho,hg,c4⟩⟩
 obtain ⟨az,rfl⟩:∃ az:Nat→Value,aT=.int .i64 m::zs az 1 2 (.pointer (some ⟨0,0,none⟩)::.int .i64 i::zs az 5 13 []):=bI aw;clear aw;conv=>whnf
 refine aK (fun J=>?_) (fun J=>?_)
 ·have J:0 < m:=by
   have:=of_decide_eq_true J;omega
  have fY:0 < i:=by
   rcases Nat.eq_zero_or_pos i with h | h
   ·subst h;rw [hm] at J;rw [Qg (by omega)] at J
    exact absurd J (by decide)
   ·exact h
  obtain ⟨i,rfl⟩:∃ i',i=i'+1:=⟨i - 1,by omega⟩
  have ei:IntKind.i64.wrap (((i+1:Nat):Int) - 1)=((i:Nat):Int):=by rw [ax (by omega) (by omega)]; omega
  have eH:m / 256=n / C ^ (8 - i):=by
   rw [hm,EL,show 8 - (i+1)+1=8 - i by omega]
  have IN:C ^ (8 - (i+1))≤n:=by
   rcases Nat.lt_or_ge n (C ^ (8 - (i+1))) with h | h
   ·rw [hm,Nat.div_eq_of_lt h] at J;exact absurd J (by decide)
   ·exact h
  conv=>whnf
  simp only [ei];refine ⟨⟨by omega,by omega⟩,?_⟩
  simp only [toNat_cast,ay,Nat.zero_add];conv=>whnf
  refine ⟨by show i < 8; omega,?_⟩
  conv=>whnf
  obtain ⟨x,hx⟩:=c4 i (by omega)
  rw [hx];conv=>whnf
  rw [qD,c7,show ((m:Nat):Int) / 256=((m / 256:Nat):Int) from rfl]
  refine .inl ⟨_,?_,i,m / 256,_,(.aa (.sk 2 (.aa (.aa (.sk 13 .nil rfl))) rfl)),rfl,rfl,?_⟩
  ·omega
  ·refine ⟨⟨by omega,eH⟩,.inr (by rw [show 8 - i - 1=8 - (i+1) by omega]; exact IN),fun r iD ff=>?_,fun r hr=>?_⟩
   rotate_left
   ·by_cases he:r=i
    ·exact ⟨_,if_pos he⟩
    ·rw [if_neg he]; exact c4 r hr
   by_cases he:r=i
   ·subst he;rw [if_pos rfl,hm,show 7 - r=8 - (r+1) by omega]
   ·rw [if_neg he];exact hg r (by omega) ff
 ·have J:m=0:=by
   have:=of_decide_eq_false J;omega
  have an:n < C ^ (8 - i):=by
   rw [J] at hm;have h3:=Nat.mod_lt n (gX (8 - i));have h4:=Nat.mod_add_div n (C ^ (8 - i));rw [← hm,Nat.mul_zero,Nat.add_zero] at h4;rw [← h4]; exact h3
  rcases Nat.eq_zero_or_pos (8 - i) with hz | hz
  ·have h0:n=0:=by
    rw [hz,Nat.pow_zero] at an; omega
   obtain rfl:i=8:=by omega
   subst h0;conv=>whnf
   refine ⟨⟨by omega,by omega,Int.le_refl _,Nat.le_refl _,rfl⟩,?_⟩
   conv=>whnf
   show Value.string ⟨#[]⟩=Value.string (nb 0)
   rw [qj]
  ·obtain ⟨k,hk⟩:∃ k,8 - i=k+1:=⟨8 - i - 1,by omega⟩
   rw [hk] at an;have ho:C ^ k≤n:=by
    rcases ho with h | h
    ·omega
    ·rw [show 8 - i - 1=k by omega] at h; exact h
   have e:=EK (g:=g) (i:=i) (m:=k+1) (X:=n) (fun r hr=>by
    rw [hg (i+r) (by omega) (by omega),show 7 - (i+r)=k+1 - 1 - r by omega])
   conv=>whnf
   refine ⟨⟨by omega,by omega,Int.le_refl _,Nat.le_refl _,rfl⟩,?_⟩
   simp only [toNat_cast,ay,Nat.zero_add,hk];conv=>whnf
   refine ⟨⟨by show i+(k+1)≤8; omega,fun r hr=>c4 (i+r) (by omega)⟩,?_⟩
   conv=>whnf
   show Value.string ⟨⟨bytesOf g i (k+1)⟩⟩=Value.string (nb n)
   rw [e,xG an (.inr ho)]
theorem Ur:bh Tryz.prog 188 sK:=by
 refine bk mg aN Tryz.func188 (enters_of Tryz.func188 (by kernel_rfl) rfl) (fun _=>rfl) (fun _=>rfl) ?_
 intro (n:Nat) hp;have hp:n < 72057594037927936:=hp;conv=>whnf
 refine .inl ⟨fun mm tz hz=>∃ (e:Nat) (k:Int) (out:Value) (hp:aA),bA (some (.int .i64 n)::aF 2 (some (out)::some (.int .i64 k)::aF 25 [])) tz∧hz=hp∧e=mm∧((e≤7∧k=8*(e:Int) - 8)∧((out=.slice none 0 0∧hp=[]∧n / C ^ e=0)∨(∃ m g,out=.slice (some ⟨0,0,none⟩) m aM∧hp=[some (.flat true m 1 g)]∧(1≤m∧m≤7 - e)∧n / C ^ e < C ^ m∧C ^ (m - 1)≤n / C ^ e∧∀ r,r < m→g r=[.int .u8 ((n / C ^ e / C ^ (m - 1 - r) % C:Nat):Int)]))),.inl ⟨_,7,48,.slice none 0 0,[],(.aa (.sk 2 (.aa (.aa (.sk 25 .nil rfl))) rfl)),rfl,rfl,?_⟩,?_⟩
 ·exact ⟨⟨Nat.le_refl _,rfl⟩,.inl ⟨rfl,rfl,ac2 hp⟩⟩
 rintro mm aT _ ⟨e,k,out,hp,aw,rfl,rfl,⟨⟨he,hk⟩,h⟩⟩
 obtain ⟨az,rfl⟩:∃ az:Nat→Value,aT=.int .i64 n::zs az 1 2 (out::.int .i64 k::zs az 5 25 []):=bI aw;clear aw;rcases h with ⟨rfl,rfl,hz⟩ | ⟨m,g,rfl,rfl,hm,pP,g8,hg⟩
 ·conv=>whnf
  refine aK (fun h1=>?_) (fun h1=>?_)
  ·have h1:=of_decide_eq_true h1;obtain ⟨e,rfl⟩:∃ e',e=e'+1:=⟨e - 1,by omega⟩
   have oS:=Qj (n:=n) k (e:=e) (by omega) (by omega)
   obtain ⟨P,hP⟩:∃ P,P=n / C ^ e:=⟨_,rfl⟩;rw [← hP] at oS;obtain ⟨D,hD⟩:∃ D,D=P % 256:=⟨_,rfl⟩;have ed:Int.tmod ((P:Nat):Int) 256=((D:Nat):Int):=by rw [hD]; rfl
   have rH:=K1 n e;rw [hz,← hP,← hD] at rH;have jC:IntKind.i64.wrap (k - 8)=8*(e:Int) - 8:=by rw [ax (by omega) (by omega)]; omega
   conv=>whnf
   rw [show decide (0≤k)=true from decide_eq_true (by omega)]
   conv=>whnf
   rw [oS,ed];by_cases J:0 < D
   ·rw [show decide (((D:Nat):Int) > 0)=true from decide_eq_true (by omega)]
    conv=>whnf
    rw [show decide (0≤k)=true from decide_eq_true (by omega)]
    conv=>whnf
    rw [oS,uZ (show P < 256 by omega)]
    refine ⟨by decide,?_⟩
    conv=>whnf
    rw [jC];refine .inr ⟨[1],[0,3,4],?_⟩;conv=>whnf
    intro _;conv=>whnf
    refine ⟨_,?_,e,8*(e:Int) - 8,.slice (some ⟨0,0,none⟩) 1 aM,[some (.flat true 1 1 _)],(.aa (.sk 2 (.aa (.aa (.sk 25 .nil rfl))) rfl)),rfl,rfl,?_⟩
    ·omega
    ·refine ⟨⟨by omega,rfl⟩,.inr ⟨1,_,rfl,rfl,⟨Nat.le_refl _,by omega⟩,by rw [← hP]; show P < 256; omega,by rw [← hP]; show 1≤P; omega,fun r hr=>?_⟩⟩
     have h0:r=0:=by omega
     subst h0;rw [← hP];have:P / C ^ (1 - 1 - 0) % C=P:=by
      show P / 1 % 256=P
      omega
     rw [this]
     rfl
   ·rw [show decide (((D:Nat):Int) > 0)=false from decide_eq_false (by omega)]
    conv=>whnf
    rw [jC];refine .inl ⟨_,?_,e,8*(e:Int) - 8,.slice none 0 0,[],(.aa (.sk 2 (.aa (.aa (.sk 25 .nil rfl))) rfl)),rfl,rfl,?_⟩
    ·omega
    ·exact ⟨⟨by omega,rfl⟩,.inl ⟨rfl,rfl,by rw [← hP]; omega⟩⟩
  ·have h1:=of_decide_eq_false h1;obtain rfl:e=0:=by omega
   have bN:n=0:=by simpa using hz
   subst bN;conv=>whnf
   show Value.string ⟨#[]⟩=Value.string (nb 0)
   rw [qj]
 ·conv=>whnf
  refine aK (fun h1=>?_) (fun h1=>?_)
  ·have h1:=of_decide_eq_true h1;obtain ⟨e,rfl⟩:∃ e',e=e'+1:=⟨e - 1,by omega⟩
   have oS:=Qj (n:=n) k (e:=e) (by omega) (by omega)
   obtain ⟨P,hP⟩:∃ P,P=n / C ^ e:=⟨_,rfl⟩;obtain ⟨Q,hQ⟩:∃ Q,Q=n / C ^ (e+1):=⟨_,rfl⟩;rw [← hP] at oS;obtain ⟨D,hD⟩:∃ D,D=P % 256:=⟨_,rfl⟩;have ed:Int.tmod ((P:Nat):Int) 256=((D:Nat):Int):=by rw [hD]; rfl
   have ll:D < 256:=by omega
   have rH:=K1 n e;rw [← hP,← hD,← hQ] at rH;rw [← hQ] at pP g8 hg;have g1:=XC pP ll;have g2:=XD (d:=D) g8 hm.1;rw [← rH] at g1 g2;have jC:IntKind.i64.wrap (k - 8)=8*(e:Int) - 8:=by rw [ax (by omega) (by omega)]; omega
   conv=>whnf
   rw [show decide (0≤k)=true from decide_eq_true (by omega)]
   conv=>whnf
   rw [oS,ed];by_cases J:0 < D
   ·rw [show decide (((D:Nat):Int) > 0)=true from decide_eq_true (by omega)]
    conv=>whnf
    rw [show decide (0≤k)=true from decide_eq_true (by omega)]
    conv=>whnf
    rw [oS,qD];refine ⟨⟨by decide,rfl,?_⟩,?_⟩
    ·show (m+1)*1≤_
     omega
    conv=>whnf
    refine ⟨[0,4],?_⟩;conv=>whnf
    intro _;conv=>whnf
    rw [jC];refine .inr ⟨[0],[0,3,4],?_⟩;conv=>whnf
    intro _;conv=>whnf
    refine ⟨_,?_,e,8*(e:Int) - 8,.slice (some ⟨0,0,none⟩) (m+1) aM,[some (.flat true (m+1) 1 _)],(.aa (.sk 2 (.aa (.aa (.sk 25 .nil rfl))) rfl)),rfl,rfl,?_⟩
    ·omega
    ·refine ⟨⟨by omega,rfl⟩,.inr ⟨m+1,_,rfl,rfl,⟨by omega,by omega⟩,by rw [← hP]; exact g1,by rw [← hP]; exact g2,fun r hr=>?_⟩⟩
     rw [← hP];exact Mw rH ll hg r hr
   ·rw [show decide (((D:Nat):Int) > 0)=false from decide_eq_false (by omega)]
    conv=>whnf
    refine nq ?_ ?_
    ·exact decide_eq_true (by omega)
    conv=>whnf
    rw [show decide (0≤k)=true from decide_eq_true (by omega)]
    conv=>whnf
    rw [oS,qD];refine ⟨⟨by decide,rfl,?_⟩,?_⟩
    ·show (m+1)*1≤_
     omega
    conv=>whnf
    refine ⟨[0,4],?_⟩;conv=>whnf
    intro _;conv=>whnf
    rw [jC];refine .inr ⟨[0],[0,3,4],?_⟩;conv=>whnf
    intro _;conv=>whnf
    refine ⟨_,?_,e,8*(e:Int) - 8,.slice (some ⟨0,0,none⟩) (m+1) aM,[some (.flat true (m+1) 1 _)],(.aa (.sk 2 (.aa (.aa (.sk 25 .nil rfl))) rfl)),rfl,rfl,?_⟩
    ·omega
    ·refine ⟨⟨by omega,rfl⟩,.inr ⟨m+1,_,rfl,rfl,⟨by omega,by omega⟩,by rw [← hP]; exact g1,by rw [← hP]; exact g2,fun r hr=>?_⟩⟩
     rw [← hP];exact Mw rH ll hg r hr
  ·have h1:=of_decide_eq_false h1;obtain rfl:e=0:=by omega
   rw [Nat.pow_zero,Nat.div_one] at pP g8 hg;obtain ⟨m,rfl⟩:∃ m',m=m'+1:=⟨m - 1,by omega⟩
   have hs:=wq hg;conv=>whnf
   refine ⟨⟨by show 0+(m+1)≤m+1; omega,fun r hr=>⟨_,by show g (0+r)=_; rw [Nat.zero_add]; exact hg r hr⟩⟩,?_⟩
   rw [show (aj.flat true (m+1) 1 g).row=g from rfl,hs]
   conv=>whnf
   show Value.string (be (m+1) n)=Value.string (nb n)
   rw [xG pP (.inr (by rw [show m+1 - 1=m by omega] at g8; exact g8))]
end Go.Proofs.YtlapbjdhekcipaaGreat
