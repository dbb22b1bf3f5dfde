import Derived.Test.YtlapbjdhekcipaaGreatWG
set_option linter.unusedVariables false
set_option linter.unusedSimpArgs false
set_option maxRecDepth 20000
set_option maxHeartbeats 1000000
namespace Go.Proofs.YtlapbjdhekcipaaGreat
open Go Go.Ae
def Erc:Env:=En [(191,.p kP),(177,.p Iv),(179,.p jt),(180,.p r4)]
theorem HR:EnvOk Tryz.prog Erc:=bK ⟨B0,Zt,FO,Fk,trivial⟩ trivial
theorem zi:bk Tryz.prog 155 eZ:=by
 refine bn HR aQ Tryz.func155 (enters_of Tryz.func155 (by kernel_rfl) rfl) (fun _=>rfl) (fun _=>rfl) ?_
 intro (n:Int) hp;have hp:-9223372036854775808≤n∧n < 9223372036854775808:=hp;obtain ⟨k,hk⟩:∃ k:Nat,k=n.natAbs:=⟨_,rfl⟩;obtain ⟨v,hv⟩:∃ v,v=nb k:=⟨_,rfl⟩;have ev:Iv.val k=.string v:=by rw [hv]; rfl
 conv=>whnf
 refine aN (fun h1=>?_) (fun h1=>?_)
 ·have h1:n=(k:Int):=by have:=of_decide_eq_true h1; omega
  conv=>whnf
  refine ⟨k,by rw [h1]; rfl,by show k < 9223372036854775808; omega,?_⟩
  rw [ev];conv=>whnf
  show Value.agg ⟨[.bool false,.string v]⟩=aH n
  rw [hv,h1];have:=jr false k;exact this
 ·have h1:n < 0:=by have:=of_decide_eq_false h1; omega
  conv=>whnf
  refine aN (fun J=>?_) (fun J=>?_)
  ·have J:n=-9223372036854775808:=by
    have J:n=IntKind.i64.wrap (0 - n):=by simpa using J
    rw [F7 h1 hp.1] at J
    split at J <;> omega
   subst J;conv=>whnf
   exact V1.symm
  ·have J:IntKind.i64.wrap (0 - n)=(k:Int):=by
    have h3:=F7 h1 hp.1
    split at h3
    ·rename_i e;rw [h3] at J;simp at J
    ·omega
   conv=>whnf
   rw [J];refine ⟨k,rfl,by
    show k < 9223372036854775808
    have h3:=F7 h1 hp.1
    split at h3 <;> omega,?_⟩
   rw [ev];conv=>whnf
   show Value.agg ⟨[.bool true,.string v]⟩=aH n
   rw [hv,hk,wc h1]
theorem GV:bk Tryz.prog 174 ib:=by
 refine bn HR aQ Tryz.func174 (enters_of Tryz.func174 (by kernel_rfl) rfl) (fun _=>rfl) (fun _=>rfl) ?_
 intro ⟨b,s⟩ hp;have hp:s.size≤549755813888:=hp;conv=>whnf
 refine ⟨(b,s),rfl,hp,?_⟩;obtain ⟨z,hz⟩:∃ z,z=IV.z (b,s):=⟨_,rfl⟩;obtain ⟨m,hm⟩:∃ m,m=nb z.natAbs:=⟨_,rfl⟩;have fin:∀ x:Value,x=aH (-z)→x=ib.val (b,s):=fun x h=>by rw [h,hz]; rfl
 rcases Int.lt_or_le z 0 with h | h
 ·rw [show jt.val (b,s)=.agg ⟨[.bool true,.string m]⟩ by show aH (IV.z (b,s))=_; rw [← hz,wc h,hm]]
  conv=>whnf
  refine fin _ ?_;rw [we (by omega),Int.natAbs_neg,hm]
  rfl
 ·rw [show jt.val (b,s)=.agg ⟨[.bool false,.string m]⟩ by show aH (IV.z (b,s))=_; rw [← hz,we h,hm]]
  conv=>whnf
  refine fin _ ?_;rcases Int.lt_or_eq_of_le h with h | h
  ·rw [wc (by omega),Int.natAbs_neg,← hm]
   show Value.agg ⟨[.bool (!m.toList == (⟨#[]⟩:ByteArray).toList),.string m]⟩=_
   rw [hm,wV (by omega)]
  ·rw [we (by omega),Int.natAbs_neg,← hm]
   show Value.agg ⟨[.bool (!m.toList == (⟨#[]⟩:ByteArray).toList),.string m]⟩=_
   rw [hm,wO (by omega)]
theorem Zu:bk Tryz.prog 159 lS:=by
 refine bn HR aQ Tryz.func159 (enters_of Tryz.func159 (by kernel_rfl) rfl) (fun _=>rfl) (fun _=>rfl) ?_
 intro ⟨⟨b,s⟩,⟨c,t⟩⟩ hp;have hp:s.size≤549755813888∧t.size≤549755813888:=hp;obtain ⟨x,hx⟩:∃ x,x=IV.z (b,s):=⟨_,rfl⟩;obtain ⟨y,hy⟩:∃ y,y=IV.z (c,t):=⟨_,rfl⟩;obtain ⟨m,hm⟩:∃ m,m=nb x.natAbs:=⟨_,rfl⟩;obtain ⟨k,hk⟩:∃ k,k=nb y.natAbs:=⟨_,rfl⟩;have rI:aT x.natAbs≤549755813888:=by rw [hx]; exact IV.aT (i:=(b,s)) hp.1
 have ye:aT y.natAbs≤549755813888:=by rw [hy]; exact IV.aT (i:=(c,t)) hp.2
 have fin:∀ z:Int,z=dO x y→Value.int .i64 z=lS.val ((b,s),(c,t)):=fun z h=>by rw [h,hx,hy]; rfl
 rcases Int.lt_or_le x 0 with h1 | h1
 ·have e1:jt.val (b,s)=.agg ⟨[.bool true,.string m]⟩:=by show aH (IV.z (b,s))=_; rw [← hx,wc h1,hm]
  rcases Int.lt_or_le y 0 with J | J
  ·have e2:jt.val (c,t)=.agg ⟨[.bool true,.string k]⟩:=by show aH (IV.z (c,t))=_; rw [← hy,wc J,hk]
   conv=>whnf
   refine .inl ⟨3,[[],[0],[],[0,1,2],[0,1,2,3],[0,1,2,3,4]],by kernel_rfl,?_⟩
   conv=>whnf
   refine ⟨(b,s),rfl,hp.1,?_⟩;rw [e1];conv=>whnf
   refine ⟨(c,t),rfl,hp.2,?_⟩;rw [e2];conv=>whnf
   first
    | exact fin _ (uy (by omega)).symm
    | (refine ⟨(y.natAbs,x.natAbs),by rw [hm,hk]; rfl,⟨by show aT y.natAbs≤_; omega,by show aT x.natAbs≤_; omega⟩,?_⟩
       conv=>whnf
       exact fin _ (NW h1 J).symm)
  ·have e2:jt.val (c,t)=.agg ⟨[.bool false,.string k]⟩:=by show aH (IV.z (c,t))=_; rw [← hy,we J,hk]
   conv=>whnf
   refine .inl ⟨3,[[],[0],[],[0,1,2],[0,1,2,3],[0,1,2,3,4]],by kernel_rfl,?_⟩
   conv=>whnf
   refine ⟨(b,s),rfl,hp.1,?_⟩;rw [e1];conv=>whnf
   refine ⟨(c,t),rfl,hp.2,?_⟩;rw [e2];conv=>whnf
   first
    | exact fin _ (ux (by omega)).symm
    | (refine ⟨(x.natAbs,y.natAbs),by rw [hm,hk]; rfl,⟨by show aT x.natAbs≤_; omega,by show aT y.natAbs≤_; omega⟩,?_⟩
       conv=>whnf
       exact fin _ (NV h1 J).symm)
 ·have e1:jt.val (b,s)=.agg ⟨[.bool false,.string m]⟩:=by show aH (IV.z (b,s))=_; rw [← hx,we h1,hm]
  rcases Int.lt_or_le y 0 with J | J
  ·have e2:jt.val (c,t)=.agg ⟨[.bool true,.string k]⟩:=by show aH (IV.z (c,t))=_; rw [← hy,wc J,hk]
   conv=>whnf
   refine .inl ⟨3,[[],[0],[],[0,1,2],[0,1,2,3],[0,1,2,3,4]],by kernel_rfl,?_⟩
   conv=>whnf
   refine ⟨(b,s),rfl,hp.1,?_⟩;rw [e1];conv=>whnf
   refine ⟨(c,t),rfl,hp.2,?_⟩;rw [e2];conv=>whnf
   first
    | exact fin _ (uy (by omega)).symm
    | (refine ⟨(y.natAbs,x.natAbs),by rw [hm,hk]; rfl,⟨by show aT y.natAbs≤_; omega,by show aT x.natAbs≤_; omega⟩,?_⟩
       conv=>whnf
       exact fin _ (NW h1 J).symm)
  ·have e2:jt.val (c,t)=.agg ⟨[.bool false,.string k]⟩:=by show aH (IV.z (c,t))=_; rw [← hy,we J,hk]
   conv=>whnf
   refine .inl ⟨3,[[],[0],[],[0,1,2],[0,1,2,3],[0,1,2,3,4]],by kernel_rfl,?_⟩
   conv=>whnf
   refine ⟨(b,s),rfl,hp.1,?_⟩;rw [e1];conv=>whnf
   refine ⟨(c,t),rfl,hp.2,?_⟩;rw [e2];conv=>whnf
   first
    | exact fin _ (ux (by omega)).symm
    | (refine ⟨(x.natAbs,y.natAbs),by rw [hm,hk]; rfl,⟨by show aT x.natAbs≤_; omega,by show aT y.natAbs≤_; omega⟩,?_⟩
       conv=>whnf
       exact fin _ (NV h1 J).symm)
open Go Go.Ae
theorem LR:bk Tryz.prog 189 wX:=by
 refine bn zK aQ Tryz.func189 (enters_of Tryz.func189 (by kernel_rfl) rfl) (fun _=>rfl) (fun _=>rfl) ?_
 intro ⟨s,t⟩ hp;have hp:s.size≤549755813896∧t.size≤549755813896:=hp;obtain ⟨m,hm⟩:∃ m:Nat,m=max s.size t.size:=⟨_,rfl⟩;obtain ⟨n,hn⟩:∃ n:Nat,n=m+1:=⟨_,rfl⟩;have em:(if ((t.size:Nat):Int) > ((s.size:Nat):Int) then ((t.size:Nat):Int) else ((s.size:Nat):Int))=(m:Int):=by split <;> omega
 have e1:IntKind.i64.wrap (((m:Nat):Int)+1)=((n:Nat):Int):=by rw [ax (by omega) (by omega)]; omega
 conv=>whnf
 rw [show (if (((s,t).snd.size:Nat):Int) > (((s,t).fst.size:Nat):Int) then (((s,t).snd.size:Nat):Int) else (((s,t).fst.size:Nat):Int))=(m:Int) from em,e1]
 refine ⟨⟨by omega,Int.le_refl _,by show ((n:Nat):Int)*((1:Nat):Int)≤_; omega⟩,?_⟩
 simp only [toNat_cast];conv=>whnf
 refine .inl ⟨fun mm tz hz=>∃ (j:Nat) (Y:Nat) (c:Nat) (g:Nat→List Value),bC (some (.string s)::some (.string t)::aF 3 (some (.int .i64 (n:Nat))::some (.slice (some ⟨0,0,none⟩) n n)::some (.int .i64 c)::some (.int .i64 ((j+1:Nat):Int))::aF 51 [])) tz∧hz=[some (.flat true n 1 g)]∧n - j=mm∧((j≤n∧c≤1)∧za (ab s) (ab t) j Y c∧mZ g n j Y),.inl ⟨_,0,0,0,_,(.aa (.aa (.sk 3 (.aa (.aa (.aa (.aa (.sk 51 .nil rfl))))) rfl))),rfl,rfl,?_⟩,?_⟩
 ·exact ⟨⟨Nat.zero_le _,by decide⟩,Sf _ _,Ki _⟩
 rintro mm aW _ ⟨j,Y,c,g,aB,rfl,rfl,⟨⟨hj,hc⟩,hY,hg⟩⟩
 obtain ⟨az,rfl⟩:∃ az:Nat→Value,aW=.string s::.string t::zs az 2 3 (.int .i64 (n:Nat)::.slice (some ⟨0,0,none⟩) n n::.int .i64 c::.int .i64 ((j+1:Nat):Int)::zs az 9 51 []):=bL aB;clear aB;conv=>whnf
 refine aN (fun h1=>?_) (fun h1=>?_)
 ·have h1:j < n:=by
   have:=of_decide_eq_true h1;omega
  obtain ⟨u,hu⟩:∃ u,u=c+bV (ab s) j:=⟨_,rfl⟩;obtain ⟨t',ht⟩:∃ t',t'=u+bV (ab t) j:=⟨_,rfl⟩;obtain ⟨da,pN⟩:∃ da,da=bV (ab s) j:=⟨_,rfl⟩;obtain ⟨dd,dc⟩:∃ dd,dd=bV (ab t) j:=⟨_,rfl⟩;have b1:bV (ab s) j < 256:=qB _ _;have b2:bV (ab t) j < 256:=qB _ _;obtain ⟨Y',aw,a8⟩:=SL (t:=t') hY hg h1 (by rw [ht,hu])
  obtain ⟨q,hq⟩:∃ q,q=n - (j+1):=⟨_,rfl⟩;rw [← hq] at a8;obtain ⟨x,hx⟩:=hg.1 q (by omega)
  rw [← pN] at hu b1;rw [← dc] at ht b2;have ea:IntKind.i64.wrap ((c:Int)+IntKind.i64.wrap (da:Int))=(u:Int):=by rw [ax (x:=(da:Int)) (by omega) (by omega),ax (by omega) (by omega)]; omega
  have ed:IntKind.i64.wrap ((u:Int)+IntKind.i64.wrap (dd:Int))=(t':Int):=by rw [ax (x:=(dd:Int)) (by omega) (by omega),ax (by omega) (by omega)]; omega
  have ej:IntKind.i64.wrap (((n:Nat):Int) - ((j+1:Nat):Int))=((q:Nat):Int):=by rw [ax (by omega) (by omega)]; omega
  have e7:IntKind.i64.wrap (((j+1:Nat):Int)+1)=((j+1+1:Nat):Int):=by rw [ax (by omega) (by omega)]; rfl
  have ediv:((t':Nat):Int) / 256=((t' / C:Nat):Int):=rfl;have DU:t'≤511:=by omega
  obtain ⟨tt,aeE⟩:∃ tt,tt=t:=⟨_,rfl⟩;obtain ⟨t,rfl⟩:∃ vB,vB=t':=⟨_,rfl⟩;subst aeE;conv=>whnf
  refine aN (fun J=>?_) (fun J=>?_)
  ·have J:j < s.size:=by
    have h4:((j+1:Nat):Int)≤((s.size:Nat):Int):=of_decide_eq_true J;omega
   have hb:=tW J;have ei:IntKind.i64.wrap (((s.size:Nat):Int) - ((j+1:Nat):Int))=((s.size - (j+1):Nat):Int):=by rw [ax (by omega) (by omega)]; omega
   conv=>whnf
   simp only [ei];refine ⟨⟨by omega,by omega⟩,?_⟩
   simp only [toNat_cast];conv=>whnf
   rw [hb,← pN,ea];refine aN (fun h3=>?_) (fun h3=>?_)
   ·have h3:j < tt.size:=by
     have:=of_decide_eq_true h3;have h4:((j+1:Nat):Int)≤((tt.size:Nat):Int):=this;omega
    have hb:=tW h3;have ei:IntKind.i64.wrap (((tt.size:Nat):Int) - ((j+1:Nat):Int))=((tt.size - (j+1):Nat):Int):=by rw [ax (by omega) (by omega)]; omega
    conv=>whnf
    simp only [ei];refine ⟨⟨by omega,by omega⟩,?_⟩
    simp only [toNat_cast];conv=>whnf
    rw [hb,← dc,ed];simp only [ej];refine ⟨⟨by omega,by omega⟩,?_⟩
    simp only [toNat_cast,aA,Nat.zero_add];conv=>whnf
    refine ⟨by show q < n; omega,?_⟩
    conv=>whnf
    rw [hx];conv=>whnf
    simp only [qA,c9,ediv,e7];refine .inl ⟨_,?_,j+1,Y',t / C,_,(.aa (.aa (.sk 3 (.aa (.aa (.aa (.aa (.sk 51 .nil rfl))))) rfl))),rfl,rfl,?_⟩
    ·omega
    ·exact ⟨⟨by omega,by show t / 256≤1; omega⟩,aw,a8⟩
   ·have h3:tt.size≤j:=by
     have h4:¬ ((j+1:Nat):Int)≤((tt.size:Nat):Int):=of_decide_eq_false h3;omega
    have h0:=BT h3;rw [dc,h0,Nat.add_zero] at ht;conv=>whnf
    rw [← ht];simp only [ej];refine ⟨⟨by omega,by omega⟩,?_⟩
    simp only [toNat_cast,aA,Nat.zero_add];conv=>whnf
    refine ⟨by show q < n; omega,?_⟩
    conv=>whnf
    rw [hx];conv=>whnf
    simp only [qA,c9,ediv,e7];refine .inl ⟨_,?_,j+1,Y',t / C,_,(.aa (.aa (.sk 3 (.aa (.aa (.aa (.aa (.sk 51 .nil rfl))))) rfl))),rfl,rfl,?_⟩
    ·omega
    ·exact ⟨⟨by omega,by show t / 256≤1; omega⟩,aw,a8⟩
  ·have J:s.size≤j:=by
    have h4:¬ ((j+1:Nat):Int)≤((s.size:Nat):Int):=of_decide_eq_false J;omega
   have h0:=BT J;rw [pN,h0,Nat.add_zero] at hu;conv=>whnf
   rw [← hu];refine aN (fun h3=>?_) (fun h3=>?_)
   ·have h3:j < tt.size:=by
     have:=of_decide_eq_true h3;have h4:((j+1:Nat):Int)≤((tt.size:Nat):Int):=this;omega
    have hb:=tW h3;have ei:IntKind.i64.wrap (((tt.size:Nat):Int) - ((j+1:Nat):Int))=((tt.size - (j+1):Nat):Int):=by rw [ax (by omega) (by omega)]; omega
    conv=>whnf
    simp only [ei];refine ⟨⟨by omega,by omega⟩,?_⟩
    simp only [toNat_cast];conv=>whnf
    rw [hb,← dc,ed];simp only [ej];refine ⟨⟨by omega,by omega⟩,?_⟩
    simp only [toNat_cast,aA,Nat.zero_add];conv=>whnf
    refine ⟨by show q < n; omega,?_⟩
    conv=>whnf
    rw [hx];conv=>whnf
    simp only [qA,c9,ediv,e7];refine .inl ⟨_,?_,j+1,Y',t / C,_,(.aa (.aa (.sk 3 (.aa (.aa (.aa (.aa (.sk 51 .nil rfl))))) rfl))),rfl,rfl,?_⟩
    ·omega
    ·exact ⟨⟨by omega,by show t / 256≤1; omega⟩,aw,a8⟩
   ·have h3:tt.size≤j:=by
     have h4:¬ ((j+1:Nat):Int)≤((tt.size:Nat):Int):=of_decide_eq_false h3;omega
    have h0:=BT h3;rw [dc,h0,Nat.add_zero] at ht;conv=>whnf
    rw [← ht];simp only [ej];refine ⟨⟨by omega,by omega⟩,?_⟩
    simp only [toNat_cast,aA,Nat.zero_add];conv=>whnf
    refine ⟨by show q < n; omega,?_⟩
    conv=>whnf
    rw [hx];conv=>whnf
    simp only [qA,c9,ediv,e7];refine .inl ⟨_,?_,j+1,Y',t / C,_,(.aa (.aa (.sk 3 (.aa (.aa (.aa (.aa (.sk 51 .nil rfl))))) rfl))),rfl,rfl,?_⟩
    ·omega
    ·exact ⟨⟨by omega,by show t / 256≤1; omega⟩,aw,a8⟩
 ·have h1:j=n:=by
   have h4:¬ ((j+1:Nat):Int)≤((n:Nat):Int):=of_decide_eq_false h1;omega
  subst h1;obtain ⟨v,hv,fG,pO⟩:=Tu hY hg ⟨by omega,by omega⟩
  subst hn;conv=>whnf
  refine ⟨⟨by show 0+(m+1)≤m+1; omega,fun r hr=>by show ∃ x,g (0+r)=_; rw [Nat.zero_add]; exact hg.1 r hr⟩,?_⟩
  rw [show (ai.flat true (m+1) 1 g).row=g from rfl,hv]
  conv=>whnf
  refine ⟨v,rfl,by show v.size≤_; omega,?_⟩
  conv=>whnf
  show Value.string (nb (ab v))=_
  rw [pO]
  rfl
open Go Go.Ae
theorem LS:bk Tryz.prog 190 r6:=by
 refine bn zK aQ Tryz.func190 (enters_of Tryz.func190 (by kernel_rfl) rfl) (fun _=>rfl) (fun _=>rfl) ?_
 intro ⟨s,t⟩ hp;have hp:(s.size≤549755813896∧t.size≤549755813896)∧ab t≤ab s:=hp;obtain ⟨n,hn⟩:∃ n:Nat,n=s.size:=⟨_,rfl⟩;conv=>whnf
 rw [show ((s,t).fst.size:Nat)=n from hn.symm]
 refine ⟨⟨by omega,Int.le_refl _,by show ((n:Nat):Int)*((1:Nat):Int)≤_; omega⟩,?_⟩
 simp only [toNat_cast];conv=>whnf
 refine .inl ⟨fun mm tz hz=>∃ (j:Nat) (Y:Nat) (c:Nat) (g:Nat→List Value),bC (some (.string s)::some (.string t)::aF 3 (some (.slice (some ⟨0,0,none⟩) n n)::some (.int .i64 c)::some (.int .i64 ((j+1:Nat):Int))::aF 47 [])) tz∧hz=[some (.flat true n 1 g)]∧n - j=mm∧((j≤n∧c≤1)∧zc (ab s) (ab t) j Y c∧mZ g n j Y),.inl ⟨_,0,0,0,_,(.aa (.aa (.sk 3 (.aa (.aa (.aa (.sk 47 .nil rfl)))) rfl))),rfl,rfl,?_⟩,?_⟩
 ·exact ⟨⟨Nat.zero_le _,by decide⟩,Sg _ _,Ki _⟩
 rintro mm aW _ ⟨j,Y,c,g,aB,rfl,rfl,⟨⟨hj,hc⟩,hY,hg⟩⟩
 obtain ⟨az,rfl⟩:∃ az:Nat→Value,aW=.string s::.string t::zs az 2 3 (.slice (some ⟨0,0,none⟩) n n::.int .i64 c::.int .i64 ((j+1:Nat):Int)::zs az 8 47 []):=bL aB;clear aB;conv=>whnf
 rw [← hn];refine aN (fun h1=>?_) (fun h1=>?_)
 ·have h1:j < n:=by
   have:=of_decide_eq_true h1;omega
  obtain ⟨da,pN⟩:∃ da,da=bV (ab s) j:=⟨_,rfl⟩;obtain ⟨dd,dc⟩:∃ dd,dd=bV (ab t) j:=⟨_,rfl⟩;have b1:da < 256:=by rw [pN]; exact qB _ _
  have b2:dd < 256:=by rw [dc]; exact qB _ _
  obtain ⟨q,hq⟩:∃ q,q=n - (j+1):=⟨_,rfl⟩;obtain ⟨x,hx⟩:=hg.1 q (by omega)
  have ej:IntKind.i64.wrap ((n:Int) - ((j+1:Nat):Int))=((q:Nat):Int):=by rw [ax (by omega) (by omega)]; omega
  have e7:IntKind.i64.wrap (((j+1:Nat):Int)+1)=((j+1+1:Nat):Int):=by rw [ax (by omega) (by omega)]; rfl
  have hb:b9 s q=da:=by rw [pN,hq,hn]; exact tW (by omega)
  have ea:IntKind.i64.wrap (IntKind.i64.wrap (da:Int) - (c:Int))=(da:Int) - c:=by rw [ax (x:=(da:Int)) (by omega) (by omega),ax (by omega) (by omega)]
  conv=>whnf
  rw [← hn,ej];refine ⟨⟨by omega,by omega⟩,?_⟩
  simp only [toNat_cast];conv=>whnf
  rw [hb,ea];refine aN (fun h3=>?_) (fun h3=>?_)
  ·have h3:j < t.size:=by
    have h4:((j+1:Nat):Int)≤((t.size:Nat):Int):=of_decide_eq_true h3;omega
   have c4:=tW h3;rw [← dc] at c4;have ei:IntKind.i64.wrap (((t.size:Nat):Int) - ((j+1:Nat):Int))=((t.size - (j+1):Nat):Int):=by rw [ax (by omega) (by omega)]; omega
   obtain ⟨w,hw⟩:∃ w:Int,w=(da:Int) - c - dd:=⟨_,rfl⟩;have ed:IntKind.i64.wrap (((da:Int) - c) - IntKind.i64.wrap (dd:Int))=w:=by rw [ax (x:=(dd:Int)) (by omega) (by omega),ax (by omega) (by omega),hw]
   conv=>whnf
   simp only [ei];refine ⟨⟨by omega,by omega⟩,?_⟩
   simp only [toNat_cast];conv=>whnf
   rw [c4,ed];rcases Int.lt_or_le w 0 with hw | hw
   ·obtain ⟨e,c',he,cF,hs,lg⟩:∃ e c':Nat,e < 256∧c'≤1∧e+c+dd=da+256*c'∧(w+256=(e:Int)∧c'=1):=⟨(w+256).toNat,1,by omega,by omega,by omega,by omega,rfl⟩
    have ew:IntKind.i64.wrap (w+256)=(e:Int):=by rw [ax (by omega) (by omega)]; exact lg.1
    have e0:=lg.2;subst e0;obtain ⟨Y',aw,a8⟩:=Bh hY hg h1 he (by rw [← pN,← dc]; exact hs)
    rw [← hq] at a8;refine m7 ?_ ?_
    ·exact decide_eq_true hw
    conv=>whnf
    rw [ew];simp only [← hn,ej];refine ⟨⟨by omega,by omega⟩,?_⟩
    simp only [toNat_cast,aA,Nat.zero_add];conv=>whnf
    refine ⟨by show q < n; omega,?_⟩
    conv=>whnf
    rw [hx];conv=>whnf
    simp only [uZ he,e7];refine .inl ⟨_,?_,j+1,Y',_,_,(.aa (.aa (.sk 3 (.aa (.aa (.aa (.sk 47 .nil rfl)))) rfl))),rfl,rfl,?_⟩
    ·omega
    ·exact ⟨⟨by omega,cF⟩,aw,a8⟩
   ·obtain ⟨e,c',he,cF,hs,lg⟩:∃ e c':Nat,e < 256∧c'≤1∧e+c+dd=da+256*c'∧(w=(e:Int)∧c'=0):=⟨w.toNat,0,by omega,by omega,by omega,by omega,rfl⟩
    have ew:w=(e:Int):=lg.1;have e0:=lg.2;subst e0;obtain ⟨Y',aw,a8⟩:=Bh hY hg h1 he (by rw [← pN,← dc]; exact hs)
    rw [← hq] at a8;refine aN (fun h=>absurd (of_decide_eq_true h) (by omega)) (fun _=>?_)
    conv=>whnf
    rw [ew];simp only [← hn,ej];refine ⟨⟨by omega,by omega⟩,?_⟩
    simp only [toNat_cast,aA,Nat.zero_add];conv=>whnf
    refine ⟨by show q < n; omega,?_⟩
    conv=>whnf
    rw [hx];conv=>whnf
    simp only [uZ he,e7];refine .inl ⟨_,?_,j+1,Y',_,_,(.aa (.aa (.sk 3 (.aa (.aa (.aa (.sk 47 .nil rfl)))) rfl))),rfl,rfl,?_⟩
    ·omega
    ·exact ⟨⟨by omega,cF⟩,aw,a8⟩
  ·have h3:t.size≤j:=by
    have h4:¬ ((j+1:Nat):Int)≤((t.size:Nat):Int):=of_decide_eq_false h3;omega
   have h0:=BT h3;obtain ⟨w,hw⟩:∃ w:Int,w=(da:Int) - c:=⟨_,rfl⟩;rw [← dc] at h0;conv=>whnf
   rw [← hw];rcases Int.lt_or_le w 0 with hw | hw
   ·obtain ⟨e,c',he,cF,hs,lg⟩:∃ e c':Nat,e < 256∧c'≤1∧e+c+dd=da+256*c'∧(w+256=(e:Int)∧c'=1):=⟨(w+256).toNat,1,by omega,by omega,by omega,by omega,rfl⟩
    have ew:IntKind.i64.wrap (w+256)=(e:Int):=by rw [ax (by omega) (by omega)]; exact lg.1
    have e0:=lg.2;subst e0;obtain ⟨Y',aw,a8⟩:=Bh hY hg h1 he (by rw [← pN,← dc]; exact hs)
    rw [← hq] at a8;refine m7 ?_ ?_
    ·exact decide_eq_true hw
    conv=>whnf
    rw [ew];simp only [← hn,ej];refine ⟨⟨by omega,by omega⟩,?_⟩
    simp only [toNat_cast,aA,Nat.zero_add];conv=>whnf
    refine ⟨by show q < n; omega,?_⟩
    conv=>whnf
    rw [hx];conv=>whnf
    simp only [uZ he,e7];refine .inl ⟨_,?_,j+1,Y',_,_,(.aa (.aa (.sk 3 (.aa (.aa (.aa (.sk 47 .nil rfl)))) rfl))),rfl,rfl,?_⟩
    ·omega
    ·exact ⟨⟨by omega,cF⟩,aw,a8⟩
   ·obtain ⟨e,c',he,cF,hs,lg⟩:∃ e c':Nat,e < 256∧c'≤1∧e+c+dd=da+256*c'∧(w=(e:Int)∧c'=0):=⟨w.toNat,0,by omega,by omega,by omega,by omega,rfl⟩
    have ew:w=(e:Int):=lg.1;have e0:=lg.2;subst e0;obtain ⟨Y',aw,a8⟩:=Bh hY hg h1 he (by rw [← pN,← dc]; exact hs)
    rw [← hq] at a8;refine aN (fun h=>absurd (of_decide_eq_true h) (by omega)) (fun _=>?_)
    conv=>whnf
    rw [ew];simp only [← hn,ej];refine ⟨⟨by omega,by omega⟩,?_⟩
    simp only [toNat_cast,aA,Nat.zero_add];conv=>whnf
    refine ⟨by show q < n; omega,?_⟩
    conv=>whnf
    rw [hx];conv=>whnf
    simp only [uZ he,e7];refine .inl ⟨_,?_,j+1,Y',_,_,(.aa (.aa (.sk 3 (.aa (.aa (.aa (.sk 47 .nil rfl)))) rfl))),rfl,rfl,?_⟩
    ·omega
    ·exact ⟨⟨by omega,cF⟩,aw,a8⟩
 ·have h1:j=n:=by
   have h4:¬ ((j+1:Nat):Int)≤((n:Nat):Int):=of_decide_eq_false h1;omega
  subst h1;obtain ⟨v,hv,fG,pO⟩:=Tw (g:=g) (by rw [← hn]; exact hY) hp.2 (by rw [← hn]; exact hg)
  rw [← hn] at hv fG;conv=>whnf
  rcases Nat.eq_zero_or_pos j with h0 | h0
  ·subst h0;conv=>whnf
   have e0:v=⟨#[]⟩:=hv.symm;subst e0;refine ⟨⟨#[]⟩,rfl,Nat.zero_le _,?_⟩;conv=>whnf
   show Value.string (nb (ab ⟨#[]⟩))=_
   rw [pO]
   rfl
  ·obtain ⟨k,rfl⟩:∃ k,j=k+1:=⟨j - 1,by omega⟩
   conv=>whnf
   refine ⟨⟨by show 0+(k+1)≤k+1; omega,fun r hr=>by show ∃ x,g (0+r)=_; rw [Nat.zero_add]; exact hg.1 r hr⟩,?_⟩
   rw [show (ai.flat true (k+1) 1 g).row=g from rfl,hv]
   conv=>whnf
   refine ⟨v,rfl,by show v.size≤_; omega,?_⟩
   conv=>whnf
   show Value.string (nb (ab v))=_
   rw [pO]
   rfl
open Go Go.Ae
theorem T7:bk Tryz.prog 182 GI:=by
 refine bn zK aQ Tryz.func182 (enters_of Tryz.func182 (by kernel_rfl) rfl) (fun _=>rfl) (fun _=>rfl) ?_
 intro ⟨s,t⟩ hp;have hp:s.size≤549755813888∧t.size≤549755813888:=hp;obtain ⟨a,ha⟩:∃ n:Nat,n=s.size:=⟨_,rfl⟩;obtain ⟨b,hb⟩:∃ n:Nat,n=t.size:=⟨_,rfl⟩;obtain ⟨n,hn⟩:∃ n:Nat,n=a+b:=⟨_,rfl⟩;have e1:IntKind.i64.wrap (((a:Nat):Int)+((b:Nat):Int))=((n:Nat):Int):=by rw [ax (by omega) (by omega)]; omega
 conv=>whnf
 rw [show ((s,t).fst.size:Nat)=a from ha.symm,show ((s,t).snd.size:Nat)=b from hb.symm,e1]
 refine ⟨⟨by omega,Int.le_refl _,by show ((n:Nat):Int)*((8:Nat):Int)≤_; omega⟩,?_⟩
 simp only [toNat_cast];conv=>whnf
 rw [show ((s,t).fst.size:Nat)=a from ha.symm]
 refine .inl ⟨fun mm tz hz=>∃ (u:Nat) (p:Nat) (Z:Nat) (g:Nat→List Value),bC (some (.string s)::some (.string t)::aF 3 (some (.slice (some ⟨0,0,none⟩) n n)::some (.int .i64 (IntKind.i64.wrap (((u:Nat):Int) - 1)))::aF 80 [])) tz∧hz=[some (.flat true n 1 g)]∧u=mm∧((u+p=a)∧ze (ab s) (ab t) p b Z∧qJ g n Z),.inr ⟨[0],[0,1,5,6],?_⟩,?_⟩
 ·conv=>whnf
  intro _;conv=>whnf
  refine ⟨_,a,0,0,_,(.aa (.aa (.sk 3 (.aa (.aa (.sk 80 .nil rfl))) rfl))),rfl,rfl,?_⟩;exact ⟨by omega,Sh _ _ _,SM _⟩
 rintro mm aW _ ⟨u,p,Z,g,aB,rfl,rfl,⟨hu,hY,hg⟩⟩
 obtain ⟨az,rfl⟩:∃ az:Nat→Value,aW=.string s::.string t::zs az 2 3 (.slice (some ⟨0,0,none⟩) n n::.int .i64 (IntKind.i64.wrap (((u:Nat):Int) - 1))::zs az 7 80 []):=bL aB;clear aB;conv=>whnf
 refine aN (fun h1=>?_) (fun h1=>?_)
 ·obtain ⟨i,rfl⟩:∃ i,u=i+1:=by
   rcases Nat.eq_zero_or_pos u with h | h
   ·subst h; exact absurd h1 (by decide)
   ·exact ⟨u - 1,by omega⟩
  have ei:IntKind.i64.wrap (((i+1:Nat):Int) - 1)=(i:Int):=by rw [ax (by omega) (by omega)]; omega
  rw [ei];conv=>whnf
  rw [← hb];refine .inl ⟨fun mm tz hz=>∃ (v:Nat) (q:Nat) (Z:Nat) (c:Nat) (g:Nat→List Value),bC (some (.string s)::some (.string t)::aF 3 (some (.slice (some ⟨0,0,none⟩) n n)::some (.int .i64 i)::some (.int .i64 c)::some (.int .i64 (IntKind.i64.wrap (((v:Nat):Int) - 1)))::aF 78 [])) tz∧hz=[some (.flat true n 1 g)]∧v=mm∧((v+q=b∧c < 256)∧zd (ab s) (ab t) p b q Z c∧qJ g n Z),.inr ⟨[0],[0,1,5,6,7,8],?_⟩,?_⟩
  ·conv=>whnf
   intro _;conv=>whnf
   refine ⟨_,b,0,Z,0,g,(.aa (.aa (.sk 3 (.aa (.aa (.aa (.aa (.sk 78 .nil rfl))))) rfl))),rfl,rfl,?_⟩;exact ⟨⟨by omega,by decide⟩,Si hY,hg⟩
  rintro mm aW _ ⟨v,q,Z,c,g,aB,rfl,rfl,⟨⟨hv,hc⟩,hI,hg⟩⟩
  obtain ⟨az,rfl⟩:∃ az:Nat→Value,aW=.string s::.string t::zs az 2 3 (.slice (some ⟨0,0,none⟩) n n::.int .i64 i::.int .i64 c::.int .i64 (IntKind.i64.wrap (((v:Nat):Int) - 1))::zs az 9 78 []):=bL aB;clear aB;clear hY;conv=>whnf
  refine aN (fun J=>?_) (fun J=>?_)
  ·obtain ⟨k,rfl⟩:∃ k,v=k+1:=by
    rcases Nat.eq_zero_or_pos v with h | h
    ·subst h; exact absurd J (by decide)
    ·exact ⟨v - 1,by omega⟩
   have ek:IntKind.i64.wrap (((k+1:Nat):Int) - 1)=(k:Int):=by rw [ax (by omega) (by omega)]; omega
   rw [ek];obtain ⟨x,hx⟩:∃ x,x=bV (ab s) p:=⟨_,rfl⟩;obtain ⟨y,hy⟩:∃ y,y=bV (ab t) q:=⟨_,rfl⟩;obtain ⟨z,hz⟩:∃ z,z=bV Z (p+q):=⟨_,rfl⟩;obtain ⟨w,hw⟩:∃ w,w=c+(x*y+z):=⟨_,rfl⟩;obtain ⟨r,hr⟩:∃ r,r=i+k+1:=⟨_,rfl⟩;have xb:x < 256:=by rw [hx]; exact qB _ _
   have yb:y < 256:=by rw [hy]; exact qB _ _
   have zb:z < 256:=by rw [hz]; exact qB _ _
   have er:r=n - 1 - (p+q):=by omega
   obtain ⟨Z',aw,a8⟩:=SN (t:=w) hI hg (by omega) (by omega) (by rw [hw,hx,hy,hz])
   rw [← er] at a8;have pP:=hg r (by omega)
   rw [show n - 1 - r=p+q by omega,← hz] at pP
   have D5:b9 s i=x:=by
    have:=tW (s:=s) (j:=p) (by omega)
    rw [show s.size - (p+1)=i by omega,← hx] at this
    exact this
   have AI:b9 t k=y:=by
    have:=tW (s:=t) (j:=q) (by omega)
    rw [show t.size - (q+1)=k by omega,← hy] at this
    exact this
   have xU:=Xo hc xb yb zb hw;obtain ⟨hwC,hw6⟩:=Tz hc xb yb zb hw;have hand:=Xp hw6;have erw:IntKind.i64.wrap (IntKind.i64.wrap ((i:Int)+(k:Int))+1)=(r:Int):=by rw [ax (x:=(i:Int)+(k:Int)) (by omega) (by omega),ax (by omega) (by omega)]; omega
   conv=>whnf
   refine .inl ⟨18,[[],[],[],[],[2,3],[2,3,4],[1,2,3,4,5],[1,2,3,4,5,6],[],[],[8,9],[8,9,10],[],[],[12,13],[12,13,14],[8,9,10,11,12,13,14,15],[1,2,3,4,5,6,7,8,9,10,11,12,13,14,15,16],[0,1,2,3,4,5,6,7,8,9,10,11,12,13,14,15,16,17],[0,1,2,3,4,5,6,7,8,9,10,11,12,13,14,15,16,17,18]],by kernel_rfl,?_⟩
   conv=>whnf
   simp only [erw,toNat_cast];refine ⟨⟨by omega,by omega⟩,?_⟩
   simp only [toNat_cast,aA,Nat.zero_add];conv=>whnf
   refine ⟨by show r < n; omega,?_⟩
   conv=>whnf
   rw [pP];conv=>whnf
   refine ⟨⟨by omega,by omega⟩,?_⟩
   simp only [toNat_cast];conv=>whnf
   rw [D5];refine ⟨⟨by omega,by omega⟩,?_⟩
   simp only [toNat_cast];conv=>whnf
   rw [AI];simp only [xU,erw];refine ⟨⟨by omega,by omega⟩,?_⟩
   simp only [toNat_cast,aA,Nat.zero_add];conv=>whnf
   refine ⟨by show r < n; omega,?_⟩
   conv=>whnf
   rw [pP];conv=>whnf
   have hwm:w % C < 256:=Nat.mod_lt _ (by decide)
   have ewm:IntKind.i64.wrap ((w % C:Nat):Int)=((w % C:Nat):Int):=by
    obtain ⟨k,hk⟩:∃ k,k=w % C:=⟨_,rfl⟩;rw [← hk] at hwm ⊢;exact ax (by omega) (by omega)
   simp only [c9,hand,ewm];rw [show ((w:Nat):Int) / 256=((w / C:Nat):Int) from rfl]
   refine .inr ⟨[0],[0,1,5,6,7,8],?_⟩;conv=>whnf
   intro _;conv=>whnf
   refine ⟨_,?_,k,q+1,Z',w / C,_,(.aa (.aa (.sk 3 (.aa (.aa (.aa (.aa (.sk 78 .nil rfl))))) rfl))),rfl,rfl,?_⟩
   ·omega
   ·exact ⟨⟨by omega,hwC⟩,aw,a8⟩
  ·have J:v=0:=by
    have:=of_decide_eq_false J;rcases Nat.eq_zero_or_pos v with h | h
    ·exact h
    ·rw [ax (by omega) (by omega)] at this
     omega
   subst J;have hq:q=b:=by omega
   subst hq;obtain ⟨h0,Z',aw,a8⟩:=Tx (n:=n) hI (by rw [hb]; exact gE t) hg (by omega) hc
   have er:i=n - 1 - (p+q):=by omega
   have pP:=hg i (by omega)
   rw [show n - 1 - i=p+q by omega,h0] at pP
   rw [← er] at a8;have ec:IntKind.i64.wrap (((0:Nat):Int)+(c:Int))=(c:Int):=by rw [ax (by omega) (by omega)]; omega
   conv=>whnf
   refine ⟨⟨by omega,by omega⟩,?_⟩
   simp only [toNat_cast,aA,Nat.zero_add];conv=>whnf
   refine ⟨by show i < n; omega,?_⟩
   conv=>whnf
   rw [pP];conv=>whnf
   refine ⟨⟨by omega,by omega⟩,?_⟩
   simp only [toNat_cast,aA,Nat.zero_add];conv=>whnf
   refine ⟨by show i < n; omega,?_⟩
   conv=>whnf
   rw [pP];conv=>whnf
   simp only [ec]
   skip
   refine .inr ⟨[0],[0,1,5,6],?_⟩;conv=>whnf
   intro _;conv=>whnf
   refine ⟨_,?_,i,p+1,Z',_,(.aa (.aa (.sk 3 (.aa (.aa (.sk 80 .nil rfl))) rfl))),rfl,rfl,?_⟩
   ·omega
   ·exact ⟨by omega,aw,a8⟩
 ·have h1:u=0:=by
   have:=of_decide_eq_false h1;rcases Nat.eq_zero_or_pos u with h | h
   ·exact h
   ·rw [ax (by omega) (by omega)] at this
    omega
  subst h1;have rr:p=a:=by omega
  subst rr;have hZ:Z=ab s*ab t:=Ty hY (by rw [ha]; exact gE s)
  have aeF:Z < C ^ n:=by rw [hZ,hn,ha,hb]; exact V2
  clear hY;conv=>whnf
  refine ⟨⟨by omega,Int.le_refl _,by show ((n:Nat):Int)*((1:Nat):Int)≤_; omega⟩,?_⟩
  simp only [toNat_cast];conv=>whnf
  refine .inl ⟨fun mm tz hz=>∃ (i:Nat) (e:Nat→List Value),bC (aF 5 (some (.slice (some ⟨0,0,none⟩) n n)::aF 3 (some (.slice (some ⟨1,0,none⟩) n n)::some (.int .i64 i)::aF 76 []))) tz∧hz=[some (.flat true n 1 g),some (.flat true n 1 e)]∧n - i=mm∧(i≤n∧wP e n i Z),.inl ⟨_,0,_,(.sk 5 (.aa (.sk 3 (.aa (.aa (.sk 76 .nil rfl))) rfl)) rfl),rfl,rfl,?_⟩,?_⟩
  ·exact ⟨Nat.zero_le _,RW _ _⟩
  rintro mm aW _ ⟨i,e,aB,rfl,rfl,⟨hi,he⟩⟩
  obtain ⟨az,rfl⟩:∃ az:Nat→Value,aW=zs az 0 5 (.slice (some ⟨0,0,none⟩) n n::zs az 6 3 (.slice (some ⟨1,0,none⟩) n n::.int .i64 i::zs az 11 76 [])):=bL aB;clear aB;conv=>whnf
  refine aN (fun J=>?_) (fun J=>?_)
  ·have J:i < n:=by
    have:=of_decide_eq_true J;omega
   obtain ⟨z,hz⟩:∃ z,z=bV Z (n - 1 - i):=⟨_,rfl⟩;have zb:z < 256:=by rw [hz]; exact qB _ _
   have pP:=hg i J;rw [← hz] at pP;have aw:=R0 he J;rw [← hz] at aw;obtain ⟨x,hx⟩:=he.1 i J;have e7:IntKind.i64.wrap ((i:Int)+1)=((i+1:Nat):Int):=by rw [ax (by omega) (by omega)]; rfl
   conv=>whnf
   refine ⟨⟨by omega,by omega⟩,?_⟩
   simp only [toNat_cast,aA,Nat.zero_add];conv=>whnf
   refine ⟨by show i < n; omega,?_⟩
   conv=>whnf
   rw [pP];conv=>whnf
   refine ⟨⟨by omega,by omega⟩,?_⟩
   simp only [toNat_cast,aA,Nat.zero_add];conv=>whnf
   refine ⟨by show i < n; omega,?_⟩
   conv=>whnf
   rw [hx];conv=>whnf
   simp only [uZ zb,e7];refine .inl ⟨_,?_,i+1,_,(.sk 5 (.aa (.sk 3 (.aa (.aa (.sk 76 .nil rfl))) rfl)) rfl),rfl,rfl,?_⟩
   ·omega
   ·exact ⟨by omega,aw⟩
  ·have J:i=n:=by
    have:=of_decide_eq_false J;omega
   subst J;obtain ⟨v,hv,fG,pO⟩:=Sk he aeF;conv=>whnf
   rcases Nat.eq_zero_or_pos i with h0 | h0
   ·subst h0;conv=>whnf
    have e0:v=⟨#[]⟩:=hv.symm;subst e0;refine ⟨⟨#[]⟩,rfl,Nat.zero_le _,?_⟩;conv=>whnf
    show Value.string (nb (ab ⟨#[]⟩))=_
    rw [pO,hZ]
    rfl
   ·obtain ⟨k,rfl⟩:∃ k,i=k+1:=⟨i - 1,by omega⟩
    conv=>whnf
    refine ⟨⟨by show 0+(k+1)≤k+1; omega,fun r hr=>by show ∃ x,e (0+r)=_; rw [Nat.zero_add]; exact he.1 r hr⟩,?_⟩
    rw [show (ai.flat true (k+1) 1 e).row=e from rfl,hv]
    conv=>whnf
    refine ⟨v,rfl,by show v.size≤_; omega,?_⟩
    conv=>whnf
    show Value.string (nb (ab v))=_
    rw [pO,hZ]
    rfl
open Go Go.Ae
def Erf:Env:=En [(191,.p kP),(189,.p wX),(190,.p r6),(180,.p r4)]
theorem ac0:EnvOk Tryz.prog Erf:=bK ⟨B0,LR,LS,Fk,trivial⟩ trivial
theorem LU:bk Tryz.prog 192 p9:=by
 refine bn ac0 aQ Tryz.func192 (enters_of Tryz.func192 (by kernel_rfl) rfl) (fun _=>rfl) (fun _=>rfl) ?_
 intro ⟨s,D⟩ hp;have hp:s.size≤549755813888∧aT D≤549755813888∧D≠0:=hp;obtain ⟨n,hn⟩:∃ n:Nat,n=s.size:=⟨_,rfl⟩;obtain ⟨b,hb⟩:∃ b,b=nb D:=⟨_,rfl⟩;have ht:=RR D;rw [← hb] at ht;conv=>whnf
 rw [show nb (s,D).snd=b from hb.symm]
 refine ⟨⟨by decide,by decide⟩,?_⟩
 conv=>whnf
 refine ⟨by decide,?_⟩
 conv=>whnf
 refine .inl ⟨fun mm tz hz=>∃ (i:Nat) (g:Nat→List Value),bC (some (.string s)::aF 5 (some (.pointer (some ⟨0,0,none⟩))::some (.int .i64 ((i+1:Nat):Int))::aF 68 [])) tz∧hz=[some (.flat true 8 1 g)]∧7 - i=mm∧(i≤7∧BB g (i+1) D),.inr ⟨[0],[0,6,7],?_⟩,?_⟩
 ·conv=>whnf
  intro _;conv=>whnf
  refine ⟨_,0,_,(.aa (.sk 5 (.aa (.aa (.sk 68 .nil rfl))) rfl)),rfl,rfl,?_⟩;exact ⟨by decide,ht⟩
 rintro mm aW _ ⟨i,g,aB,rfl,rfl,⟨hi,ht⟩⟩
 obtain ⟨az,rfl⟩:∃ az:Nat→Value,aW=.string s::zs az 1 5 (.pointer (some ⟨0,0,none⟩)::.int .i64 ((i+1:Nat):Int)::zs az 8 68 []):=bL aB;clear aB;conv=>whnf
 refine aN (fun h1=>?_) (fun h1=>?_)
 ·have h1:i+1 < 8:=by
   have:=of_decide_eq_true h1;omega
  obtain ⟨x,hx⟩:∃ x,x=nb (2 ^ i*D):=⟨_,rfl⟩;have JL:=ht.2 i (by omega)
  rw [← hx] at JL;have nD:x.size≤549755813889:=by
   rw [hx,gP]; exact Nat.le_trans (FE (by omega)) (by omega)
  have rI:ab x=2 ^ i*D:=by rw [hx,iy]
  obtain ⟨v,hv⟩:∃ v,v=nb (ab x+ab x):=⟨_,rfl⟩;have aw:=RX (v:=v) ht h1 (by rw [hv,rI])
  obtain ⟨y,hy⟩:=ht.1 (i+1) (by omega)
  have ei:IntKind.i64.wrap (((i+1:Nat):Int) - 1)=(i:Int):=by rw [ax (by omega) (by omega)]; omega
  obtain ⟨j,hj⟩:∃ j,j=i+1:=⟨_,rfl⟩;rw [← hj] at hy aw ei;rw [← hj];have e7:IntKind.i64.wrap ((j:Int)+1)=((j+1:Nat):Int):=by rw [ax (by omega) (by omega)]; rfl
  conv=>whnf
  refine .inl ⟨10,[[],[],[1],[1,2],[1,2,3],[],[5],[5,6],[5,6,7],[1,2,3,4,5,6,7,8],[0,1,2,3,4,5,6,7,8,9],[0,1,2,3,4,5,6,7,8,9,10]],by kernel_rfl,?_⟩
  conv=>whnf
  rw [ei];refine ⟨⟨by omega,by omega⟩,?_⟩
  simp only [toNat_cast,aA,Nat.zero_add];conv=>whnf
  refine ⟨by show i < 8; omega,?_⟩
  conv=>whnf
  rw [JL];conv=>whnf
  rw [ei];refine ⟨⟨by omega,by omega⟩,?_⟩
  simp only [toNat_cast,aA,Nat.zero_add];conv=>whnf
  refine ⟨by show i < 8; omega,?_⟩
  conv=>whnf
  rw [JL];conv=>whnf
  refine ⟨(x,x),rfl,⟨by show x.size≤_; omega,by show x.size≤_; omega⟩,?_⟩
  rw [show wX.val (x,x)=.string v from by rw [hv]; rfl]
  conv=>whnf
  refine ⟨⟨by omega,by omega⟩,?_⟩
  simp only [toNat_cast,aA,Nat.zero_add];conv=>whnf
  refine ⟨by show j < 8; omega,?_⟩
  conv=>whnf
  rw [hy];conv=>whnf
  simp only [e7];refine .inr ⟨[0],[0,6,7],?_⟩;conv=>whnf
  intro _;conv=>whnf
  refine ⟨_,?_,j,_,(.aa (.sk 5 (.aa (.aa (.sk 68 .nil rfl))) rfl)),rfl,rfl,?_⟩
  ·omega
  ·exact ⟨by omega,aw⟩
 ·have h1:i=7:=by
   have:=of_decide_eq_false h1;omega
  subst h1;conv=>whnf
  rw [← hn];refine ⟨⟨by omega,Int.le_refl _,by show ((n:Nat):Int)*((1:Nat):Int)≤_; omega⟩,?_⟩
  simp only [toNat_cast];conv=>whnf
  rw [← p8];refine .inl ⟨fun mm tz hz=>∃ (i:Nat) (Q:Nat) (R:Nat) (e:Nat→List Value),bC (some (.string s)::aF 5 (some (.pointer (some ⟨0,0,none⟩))::aF 1 (some (.slice (some ⟨1,0,none⟩) n n)::some (.string (nb R))::some (.int .i64 i)::aF 65 []))) tz∧hz=[some (.flat true 8 1 g),some (.flat true n 1 e)]∧n - i=mm∧(i≤n∧xk s D i Q R∧zE e n i Q),.inr ⟨[0,1],[0,6,8,9,10],?_⟩,?_⟩
  ·conv=>whnf
   intro _;conv=>whnf
   refine ⟨_,0,0,0,_,(.aa (.sk 5 (.aa (.sk 1 (.aa (.aa (.aa (.sk 65 .nil rfl)))) rfl)) rfl)),rfl,rfl,?_⟩;exact ⟨Nat.zero_le _,Sl _ hp.2.2,SQ _⟩
  rintro mm aW _ ⟨i,Q,R,e,aB,rfl,rfl,⟨hi,hI,he⟩⟩
  obtain ⟨az,rfl⟩:∃ az:Nat→Value,aW=.string s::zs az 1 5 (.pointer (some ⟨0,0,none⟩)::zs az 7 1 (.slice (some ⟨1,0,none⟩) n n::.string (nb R)::.int .i64 i::zs az 11 65 [])):=bL aB;clear aB;obtain ⟨x,hx⟩:∃ x,x=nb R:=⟨_,rfl⟩;have nD:x.size≤549755813888:=by
   rw [hx,gP]; exact Nat.le_trans (iZ (Nat.le_of_lt hI.lt)) hp.2.1
  rw [← hx];conv=>whnf
  rw [← hn];refine aN (fun J=>?_) (fun J=>?_)
  ·have J:i < n:=by
    have:=of_decide_eq_true J;omega
   have e7:IntKind.i64.wrap ((i:Int)+1)=((i+1:Nat):Int):=by rw [ax (by omega) (by omega)]; rfl
   obtain ⟨y,hy⟩:∃ y,y=s.extract i (i+1):=⟨_,rfl⟩;obtain ⟨nw,oh⟩:=UR R (s:=s) (i:=i) (by omega)
   obtain ⟨R',Rt⟩:∃ R',R'=R*256+b9 s i:=⟨_,rfl⟩;have hS:=R1 hI (by omega)
   rw [← Rt] at nw hS;rw [← hy,← hx] at nw oh;have c7:aT R≤549755813888:=by rw [← gP,← hx]; exact nD
   have DQ:y.size=1:=by
    have:(x++y).size=x.size+y.size:=ByteArray.size_append;have hxR:x.size=aT R:=by rw [hx,gP]
    omega
   conv=>whnf
   rw [e7];refine ⟨⟨by omega,by omega,by omega⟩,?_⟩
   simp only [toNat_cast];conv=>whnf
   rw [← hy];refine ⟨by omega,?_⟩
   conv=>whnf
   refine ⟨x++y,rfl,by show (x++y).size≤_; omega,?_⟩
   rw [show kP.val (x++y)=.string (nb R') from by rw [← nw]; rfl]
   conv=>whnf
   have hRs:aT R'≤549755813889:=Nat.le_trans (iZ (Nat.le_of_lt hS.lt)) (Nat.le_trans (FE (Nat.le_refl _)) (by omega))
   refine .inl ⟨fun mm tz hz=>∃ (k:Nat) (d:Nat) (R:Nat),bC (some (.string s)::aF 5 (some (.pointer (some ⟨0,0,none⟩))::aF 1 (some (.slice (some ⟨1,0,none⟩) n n)::some (.string (nb R))::some (.int .i64 i)::some (.int .i64 d)::some (.int .i64 (IntKind.i64.wrap ((k:Int) - 1)))::aF 63 []))) tz∧hz=[some (.flat true 8 1 g),some (.flat true n 1 e)]∧k=mm∧(k≤8∧uz D R' k d R),.inr ⟨[0,1],[0,6,8,9,10,11,12],?_⟩,?_⟩
   ·conv=>whnf
    intro _;conv=>whnf
    refine ⟨_,8,0,R',(.aa (.sk 5 (.aa (.sk 1 (.aa (.aa (.aa (.aa (.aa (.sk 63 .nil rfl)))))) rfl)) rfl)),rfl,rfl,?_⟩;exact ⟨Nat.le_refl _,hS⟩
   rintro mm aW _ ⟨k,d,R,aB,rfl,rfl,⟨hk,hS⟩⟩
   obtain ⟨az,rfl⟩:∃ az:Nat→Value,aW=.string s::zs az 1 5 (.pointer (some ⟨0,0,none⟩)::zs az 7 1 (.slice (some ⟨1,0,none⟩) n n::.string (nb R)::.int .i64 i::.int .i64 d::.int .i64 (IntKind.i64.wrap ((k:Int) - 1))::zs az 13 63 [])):=bL aB;clear aB;obtain ⟨x,hx⟩:∃ x,x=nb R:=⟨_,rfl⟩;have nD:x.size≤549755813889:=by
    rw [hx,gP];exact Nat.le_trans (iZ (by have:=hS.eq; omega)) hRs
   rw [← hx];conv=>whnf
   refine aN (fun h3=>?_) (fun h3=>?_)
   ·obtain ⟨j,rfl⟩:∃ j,k=j+1:=by
     rcases Nat.eq_zero_or_pos k with h | h
     ·subst h; exact absurd h3 (by decide)
     ·exact ⟨k - 1,by omega⟩
    have ek:IntKind.i64.wrap (((j+1:Nat):Int) - 1)=(j:Int):=by rw [ax (by omega) (by omega)]; omega
    rw [ek];obtain ⟨T,hT⟩:∃ T,T=2 ^ j*D:=⟨_,rfl⟩;obtain ⟨y,hy⟩:∃ y,y=nb T:=⟨_,rfl⟩;have DQ:y.size≤549755813889:=by
     rw [hy,hT,gP]; exact Nat.le_trans (FE (by omega)) (by omega)
    have JM:=ht.2 j (by omega)
    rw [← hT,← hy] at JM;obtain ⟨p,rr⟩:∃ p,p=2 ^ j:=⟨_,rfl⟩;have oF:=aec (k:=j) (by omega)
    rw [← rr] at oF;have lh:d+p≤256:=by
     have:=hS.d;rw [rr];rw [Nat.pow_succ] at this;omega
    have ed:IntKind.i64.wrap ((d:Int)+(p:Int))=((d+p:Nat):Int):=by rw [ax (by omega) (by omega)]; omega
    conv=>whnf
    refine ⟨⟨by omega,by omega⟩,?_⟩
    simp only [toNat_cast,aA,Nat.zero_add];conv=>whnf
    refine ⟨by show j < 8; omega,?_⟩
    conv=>whnf
    rw [JM];conv=>whnf
    refine ⟨(R,T),by rw [hx,hy]; rfl,⟨by rw [← gP,← hx]; omega,by show aT T≤_; rw [← gP,← hy]; omega⟩,?_⟩
    obtain ⟨c,hc⟩:∃ c,c=cM R T:=⟨_,rfl⟩;rw [show r4.val (R,T)=.int .i64 c from by rw [hc]; rfl]
    conv=>whnf
    refine aN (fun h4=>?_) (fun h4=>?_)
    ·have h4:T≤R:=by
      have:=of_decide_eq_true h4;rw [hc] at this;unfold cM at this
      split at this
      ·omega
      ·omega
     have aw:=SO hS (by rw [← hT]; exact h4)
     rw [← hT,← rr] at aw;conv=>whnf
     refine ⟨⟨by omega,by omega⟩,?_⟩
     simp only [toNat_cast,aA,Nat.zero_add];conv=>whnf
     refine ⟨by show j < 8; omega,?_⟩
     conv=>whnf
     rw [JM];conv=>whnf
     refine ⟨(x,y),rfl,⟨⟨by show x.size≤_; omega,by show y.size≤_; omega⟩,by show ab y≤ab x; rw [hx,hy,iy,iy]; exact h4⟩,?_⟩
     rw [show r6.val (x,y)=.string (nb (R - T)) from by show Value.string (nb (ab x - ab y))=_; rw [hx,hy,iy,iy]]
     conv=>whnf
     simp only [oF,ed];refine .inr ⟨[0,1],[0,6,8,9,10,11,12],?_⟩;conv=>whnf
     intro _;conv=>whnf
     refine ⟨_,?_,j,d+p,R - T,(.aa (.sk 5 (.aa (.sk 1 (.aa (.aa (.aa (.aa (.aa (.sk 63 .nil rfl)))))) rfl)) rfl)),rfl,rfl,?_⟩
     ·omega
     ·exact ⟨by omega,aw⟩
    ·have h4:R < T:=by
      have:=of_decide_eq_false h4;rw [hc] at this;unfold cM at this
      split at this
      ·assumption
      ·split at this <;> omega
     have aw:=TA hS (by rw [← hT]; exact h4)
     conv=>whnf
     rw [hx];refine .inr ⟨[0,1],[0,6,8,9,10,11,12],?_⟩;conv=>whnf
     intro _;conv=>whnf
     refine ⟨_,?_,j,d,R,(.aa (.sk 5 (.aa (.sk 1 (.aa (.aa (.aa (.aa (.aa (.sk 63 .nil rfl)))))) rfl)) rfl)),rfl,rfl,?_⟩
     ·omega
     ·exact ⟨by omega,aw⟩
   ·have h3:k=0:=by
     have:=of_decide_eq_false h3;rcases Nat.eq_zero_or_pos k with h | h
     ·exact h
     ·rw [ax (by omega) (by omega)] at this
      omega
    subst h3;have hd:d < 256:=by have:=hS.d; omega
    have aw:=SP hI (by omega) (by rw [← Rt]; exact hS)
    have a8:=TC he J hd;obtain ⟨y,hy⟩:=he.1 i J;conv=>whnf
    refine ⟨⟨by omega,by omega⟩,?_⟩
    simp only [toNat_cast,aA,Nat.zero_add];conv=>whnf
    refine ⟨by show i < n; omega,?_⟩
    conv=>whnf
    rw [hy];conv=>whnf
    simp only [uZ hd,e7];rw [hx]
    skip
    refine .inr ⟨[0,1],[0,6,8,9,10],?_⟩;conv=>whnf
    intro _;conv=>whnf
    refine ⟨_,?_,i+1,Q*256+d,R,_,(.aa (.sk 5 (.aa (.sk 1 (.aa (.aa (.aa (.sk 65 .nil rfl)))) rfl)) rfl)),rfl,rfl,?_⟩
    ·omega
    ·exact ⟨by omega,aw,a8⟩
  ·have J:i=n:=by
    have:=of_decide_eq_false J;omega
   subst J;obtain ⟨hQ,hR⟩:=TB (by rw [← hn]; exact hI)
   obtain ⟨v,hv,fG,pO⟩:=US he hI.q;conv=>whnf
   have fin:Value.tuple ⟨[.string (nb Q),.string x]⟩=p9.val (s,D):=by rw [hx,hQ,hR]; rfl
   rcases Nat.eq_zero_or_pos i with h0 | h0
   ·subst h0;conv=>whnf
    have e0:v=⟨#[]⟩:=hv.symm;subst e0;refine ⟨⟨#[]⟩,rfl,Nat.zero_le _,?_⟩;rw [show kP.val ⟨#[]⟩=.string (nb Q) from by show Value.string (nb (ab ⟨#[]⟩))=_; rw [pO]]
    conv=>whnf
    exact fin
   ·obtain ⟨k,rfl⟩:∃ k,i=k+1:=⟨i - 1,by omega⟩
    conv=>whnf
    refine ⟨⟨by show 0+(k+1)≤k+1; omega,fun r hr=>by show ∃ x,e (0+r)=_; rw [Nat.zero_add]; exact he.1 r hr⟩,?_⟩
    rw [show (ai.flat true (k+1) 1 e).row=e from rfl,hv]
    conv=>whnf
    refine ⟨v,rfl,by show v.size≤_; omega,?_⟩
    rw [show kP.val v=.string (nb Q) from by show Value.string (nb (ab v))=_; rw [pO]]
    conv=>whnf
    exact fin
open Go Go.Ae
def Erg:Env:=En [(179,.p jt),(181,.p xj),(155,.p eZ),(189,.p wX),(190,.p r6),(180,.p r4),(182,.p GI)]
theorem Pz:EnvOk Tryz.prog Erg:=bK ⟨FO,Vi,zi,LR,LS,Fk,T7,trivial⟩ trivial
theorem GW:bk Tryz.prog 173 jk:=by
 refine bn Pz aQ Tryz.func173 (enters_of Tryz.func173 (by kernel_rfl) rfl) (fun _=>rfl) (fun _=>rfl) ?_
 intro ⟨⟨b,s⟩,⟨c,t⟩⟩ hp;have hp:s.size≤549755813888∧t.size≤549755813888:=hp;obtain ⟨x,hx⟩:∃ x,x=IV.z (b,s):=⟨_,rfl⟩;obtain ⟨y,hy⟩:∃ y,y=IV.z (c,t):=⟨_,rfl⟩;have rI:aT x.natAbs≤549755813888:=by rw [hx]; exact IV.aT (i:=(b,s)) hp.1
 have ye:aT y.natAbs≤549755813888:=by rw [hy]; exact IV.aT (i:=(c,t)) hp.2
 obtain ⟨B,m,hE⟩:=EI.mk' x;obtain ⟨D,k,hF⟩:=EI.mk' y;have rm:=hE.size;have jC:=hF.size;have ec:jt.val (b,s)=.agg ⟨[.bool B,.string m]⟩:=by show aH (IV.z (b,s))=_; rw [← hx,hE.enc]
 have ed:jt.val (c,t)=.agg ⟨[.bool D,.string k]⟩:=by show aH (IV.z (c,t))=_; rw [← hy,hF.enc]
 have fin:∀ v:Value,v=aH (x+y)→v=jk.val ((b,s),(c,t)):=fun v h=>by rw [h,hx,hy]; rfl
 conv=>whnf
 refine .inl ⟨3,[[],[0],[],[0,1,2],[0,1,2,3],[0,1,2,3,4]],by kernel_rfl,?_⟩
 conv=>whnf
 refine ⟨(b,s),rfl,hp.1,?_⟩;rw [ec];conv=>whnf
 refine ⟨(c,t),rfl,hp.2,?_⟩;rw [ed];conv=>whnf
 by_cases h1:m.size < 8
 ·rw [show decide (((m.size:Nat):Int) < 8)=true from decide_eq_true (by omega)]
  conv=>whnf
  by_cases J:k.size < 8
  ·rw [show decide (((k.size:Nat):Int) < 8)=true from decide_eq_true (by omega)]
   conv=>whnf
   refine .inl ⟨3,[[],[0],[],[0,1,2],[0,1,2,3],[0,1,2,3,4],[0,1,2,3,4,5]],by kernel_rfl,?_⟩
   conv=>whnf
   refine ⟨(B,m),rfl,by show m.size≤7; omega,?_⟩
   rw [show xj.val (B,m)=.int .i64 x from by show Value.int .i64 (IV.z (B,m))=_; rw [hE.val]]
   conv=>whnf
   refine ⟨(D,k),rfl,by show k.size≤7; omega,?_⟩
   rw [show xj.val (D,k)=.int .i64 y from by show Value.int .i64 (IV.z (D,k))=_; rw [hF.val]]
   conv=>whnf
   have z1:=hE.small (by omega)
   have z2:=hF.small (by omega)
   rw [show IntKind.i64.wrap (x+y)=x+y from ax (by omega) (by omega)]
   refine ⟨x+y,rfl,⟨by omega,by omega⟩,?_⟩
   conv=>whnf
   exact fin _ rfl
  ·rw [show decide (((k.size:Nat):Int) < 8)=false from decide_eq_false (by omega)]
   conv=>whnf
   refine aN (fun h3=>?_) (fun h3=>?_)
   ·have h3:B=D:=eq_of_beq h3;have e:=hE.same hF h3;obtain ⟨v,hv⟩:∃ v,v=nb (ab m+ab k):=⟨_,rfl⟩;rw [← hv] at e;conv=>whnf
    refine .inl ⟨7,[[],[0],[],[2],[],[4],[2,3,4,5],[0,1,2,3,4,5,6],[0,1,2,3,4,5,6,7]],by kernel_rfl,?_⟩
    conv=>whnf
    refine ⟨(m,k),rfl,⟨by show m.size≤_; omega,by show k.size≤_; omega⟩,?_⟩
    rw [show wX.val (m,k)=.string v from by rw [hv]; rfl]
    conv=>whnf
    exact fin _ e
   ·have h3:B≠D:=by
     intro e;subst e;cases B <;> cases h3
    obtain ⟨q,hq⟩:∃ q,q=cM (ab m) (ab k):=⟨_,rfl⟩;conv=>whnf
    refine ⟨(ab m,ab k),by show [Value.string (nb (ab m)),Value.string (nb (ab k))]=[Value.string m,Value.string k]; rw [← hE.eta,← hF.eta],⟨by show aT (ab m)≤_; exact Nat.le_trans (jn _) (by omega),by show aT (ab k)≤_; exact Nat.le_trans (jn _) (by omega)⟩,?_⟩
    rw [show r4.val (ab m,ab k)=.int .i64 q from by rw [hq]; rfl]
    conv=>whnf
    refine aN (fun h4=>?_) (fun h4=>?_)
    ·have h4:ab k=ab m:=by
      have h4:q=0:=by simpa using h4
      rw [hq] at h4;unfold cM at h4
      split at h4
      ·omega
      ·split at h4 <;> omega
     have e:=hE.equal hF h3 h4;conv=>whnf
     exact fin _ (by rw [e]; exact wC.symm)
    ·have rf:ab k≠ab m:=by
      intro h5;have h6:q=0:=by rw [hq,h5]; unfold cM; simp
      subst h6;simp at h4
     conv=>whnf
     refine aN (fun h5=>?_) (fun h5=>?_)
     ·have h5:ab k < ab m:=by
       have h5:=of_decide_eq_true h5;rw [hq] at h5;unfold cM at h5
       split at h5
       ·omega
       ·split at h5 <;> omega
      have e:=hE.differ hF h3 h5;obtain ⟨v,hv⟩:∃ v,v=nb (ab m - ab k):=⟨_,rfl⟩;rw [← hv] at e;conv=>whnf
      refine .inl ⟨7,[[],[0],[],[2],[],[4],[2,3,4,5],[0,1,2,3,4,5,6],[0,1,2,3,4,5,6,7]],by kernel_rfl,?_⟩
      conv=>whnf
      refine ⟨(m,k),rfl,⟨⟨by show m.size≤_; omega,by show k.size≤_; omega⟩,Nat.le_of_lt h5⟩,?_⟩
      rw [show r6.val (m,k)=.string v from by rw [hv]; rfl]
      conv=>whnf
      exact fin _ e
     ·have h5:ab m < ab k:=by
       have h5:=of_decide_eq_false h5;rw [hq] at h5;unfold cM at h5
       split at h5
       ·omega
       ·split at h5 <;> omega
      have e:=hF.differ hE (Ne.symm h3) h5;rw [Int.add_comm] at e;obtain ⟨v,hv⟩:∃ v,v=nb (ab k - ab m):=⟨_,rfl⟩;rw [← hv] at e;conv=>whnf
      refine .inl ⟨7,[[],[0],[],[2],[],[4],[2,3,4,5],[0,1,2,3,4,5,6],[0,1,2,3,4,5,6,7]],by kernel_rfl,?_⟩
      conv=>whnf
      refine ⟨(k,m),rfl,⟨⟨by show k.size≤_; omega,by show m.size≤_; omega⟩,Nat.le_of_lt h5⟩,?_⟩
      rw [show r6.val (k,m)=.string v from by rw [hv]; rfl]
      conv=>whnf
      exact fin _ e
 ·rw [show decide (((m.size:Nat):Int) < 8)=false from decide_eq_false (by omega)]
  conv=>whnf
  refine aN (fun h3=>?_) (fun h3=>?_)
  ·have h3:B=D:=eq_of_beq h3;have e:=hE.same hF h3;obtain ⟨v,hv⟩:∃ v,v=nb (ab m+ab k):=⟨_,rfl⟩;rw [← hv] at e;conv=>whnf
   refine .inl ⟨7,[[],[0],[],[2],[],[4],[2,3,4,5],[0,1,2,3,4,5,6],[0,1,2,3,4,5,6,7]],by kernel_rfl,?_⟩
   conv=>whnf
   refine ⟨(m,k),rfl,⟨by show m.size≤_; omega,by show k.size≤_; omega⟩,?_⟩
   rw [show wX.val (m,k)=.string v from by rw [hv]; rfl]
   conv=>whnf
   exact fin _ e
  ·have h3:B≠D:=by
    intro e;subst e;cases B <;> cases h3
   obtain ⟨q,hq⟩:∃ q,q=cM (ab m) (ab k):=⟨_,rfl⟩;conv=>whnf
   refine ⟨(ab m,ab k),by show [Value.string (nb (ab m)),Value.string (nb (ab k))]=[Value.string m,Value.string k]; rw [← hE.eta,← hF.eta],⟨by show aT (ab m)≤_; exact Nat.le_trans (jn _) (by omega),by show aT (ab k)≤_; exact Nat.le_trans (jn _) (by omega)⟩,?_⟩
   rw [show r4.val (ab m,ab k)=.int .i64 q from by rw [hq]; rfl]
   conv=>whnf
   refine aN (fun h4=>?_) (fun h4=>?_)
   ·have h4:ab k=ab m:=by
     have h4:q=0:=by simpa using h4
     rw [hq] at h4;unfold cM at h4
     split at h4
     ·omega
     ·split at h4 <;> omega
    have e:=hE.equal hF h3 h4;conv=>whnf
    exact fin _ (by rw [e]; exact wC.symm)
   ·have rf:ab k≠ab m:=by
     intro h5;have h6:q=0:=by rw [hq,h5]; unfold cM; simp
     subst h6;simp at h4
    conv=>whnf
    refine aN (fun h5=>?_) (fun h5=>?_)
    ·have h5:ab k < ab m:=by
      have h5:=of_decide_eq_true h5;rw [hq] at h5;unfold cM at h5
      split at h5
      ·omega
      ·split at h5 <;> omega
     have e:=hE.differ hF h3 h5;obtain ⟨v,hv⟩:∃ v,v=nb (ab m - ab k):=⟨_,rfl⟩;rw [← hv] at e;conv=>whnf
     refine .inl ⟨7,[[],[0],[],[2],[],[4],[2,3,4,5],[0,1,2,3,4,5,6],[0,1,2,3,4,5,6,7]],by kernel_rfl,?_⟩
     conv=>whnf
     refine ⟨(m,k),rfl,⟨⟨by show m.size≤_; omega,by show k.size≤_; omega⟩,Nat.le_of_lt h5⟩,?_⟩
     rw [show r6.val (m,k)=.string v from by rw [hv]; rfl]
     conv=>whnf
     exact fin _ e
    ·have h5:ab m < ab k:=by
      have h5:=of_decide_eq_false h5;rw [hq] at h5;unfold cM at h5
      split at h5
      ·omega
      ·split at h5 <;> omega
     have e:=hF.differ hE (Ne.symm h3) h5;rw [Int.add_comm] at e;obtain ⟨v,hv⟩:∃ v,v=nb (ab k - ab m):=⟨_,rfl⟩;rw [← hv] at e;conv=>whnf
     refine .inl ⟨7,[[],[0],[],[2],[],[4],[2,3,4,5],[0,1,2,3,4,5,6],[0,1,2,3,4,5,6,7]],by kernel_rfl,?_⟩
     conv=>whnf
     refine ⟨(k,m),rfl,⟨⟨by show k.size≤_; omega,by show m.size≤_; omega⟩,Nat.le_of_lt h5⟩,?_⟩
     rw [show r6.val (k,m)=.string v from by rw [hv]; rfl]
     conv=>whnf
     exact fin _ e
def Erh:Env:=En [(174,.p ib),(173,.p jk)]
theorem ac1:EnvOk Tryz.prog Erh:=bK ⟨GV,GW,trivial⟩ trivial
theorem Zv:bk Tryz.prog 194 mL:=by
 refine bn ac1 aQ Tryz.func194 (enters_of Tryz.func194 (by kernel_rfl) rfl) (fun _=>rfl) (fun _=>rfl) ?_
 intro ⟨⟨b,s⟩,⟨c,t⟩⟩ hp;have hp:s.size≤549755813888∧t.size≤549755813888:=hp;obtain ⟨y,hy⟩:∃ y,y=IV.z (c,t):=⟨_,rfl⟩;have ye:aT y.natAbs≤549755813888:=by rw [hy]; exact IV.aT (i:=(c,t)) hp.2
 obtain ⟨D,k,hF⟩:=EI.mk' (-y);have jC:=hF.size;rw [Int.natAbs_neg] at jC;conv=>whnf
 refine .inl ⟨3,[[],[],[1],[0,1,2],[0,1,2,3]],by kernel_rfl,?_⟩
 conv=>whnf
 refine ⟨(c,t),rfl,hp.2,?_⟩;rw [show ib.val (c,t)=.agg ⟨[.bool D,.string k]⟩ from by show aH (-IV.z (c,t))=_; rw [← hy,hF.enc]]
 conv=>whnf
 refine ⟨((b,s),(D,k)),rfl,⟨hp.1,by show k.size≤_; omega⟩,?_⟩
 obtain ⟨V,n,hG⟩:=EI.mk' (IV.z (b,s)+-y);rw [show jk.val ((b,s),(D,k))=.agg ⟨[.bool V,.string n]⟩ from by show aH (IV.z (b,s)+IV.z (D,k))=_; rw [hF.val,hG.enc]]
 conv=>whnf
 rw [show mL.val ((b,s),(c,t))=.agg ⟨[.bool V,.string n]⟩ from by show aH (IV.z (b,s) - IV.z (c,t))=_; rw [← hy,Int.sub_eq_add_neg,hG.enc]]
 rfl
theorem Zw:bk Tryz.prog 160 fm:=by
 refine bn Pz aQ Tryz.func160 (enters_of Tryz.func160 (by kernel_rfl) rfl) (fun _=>rfl) (fun _=>rfl) ?_
 intro ⟨⟨b,s⟩,⟨c,t⟩⟩ hp;have hp:s.size≤549755813888∧t.size≤549755813888:=hp;obtain ⟨x,hx⟩:∃ x,x=IV.z (b,s):=⟨_,rfl⟩;obtain ⟨y,hy⟩:∃ y,y=IV.z (c,t):=⟨_,rfl⟩;have rI:aT x.natAbs≤549755813888:=by rw [hx]; exact IV.aT (i:=(b,s)) hp.1
 have ye:aT y.natAbs≤549755813888:=by rw [hy]; exact IV.aT (i:=(c,t)) hp.2
 obtain ⟨B,m,hE⟩:=EI.mk' x;obtain ⟨D,k,hF⟩:=EI.mk' y;have rm:=hE.size;have jC:=hF.size;have ec:jt.val (b,s)=.agg ⟨[.bool B,.string m]⟩:=by show aH (IV.z (b,s))=_; rw [← hx,hE.enc]
 have ed:jt.val (c,t)=.agg ⟨[.bool D,.string k]⟩:=by show aH (IV.z (c,t))=_; rw [← hy,hF.enc]
 have fin:∀ v:Value,v=aH (x*y)→v=fm.val ((b,s),(c,t)):=fun v h=>by rw [h,hx,hy]; rfl
 have ew:IntKind.i64.wrap (((m.size:Nat):Int)+((k.size:Nat):Int))=((m.size+k.size:Nat):Int):=by rw [ax (by omega) (by omega)]; omega
 conv=>whnf
 refine .inl ⟨3,[[],[0],[],[0,1,2],[0,1,2,3],[0,1,2,3,4]],by kernel_rfl,?_⟩
 conv=>whnf
 refine ⟨(b,s),rfl,hp.1,?_⟩;rw [ec];conv=>whnf
 refine ⟨(c,t),rfl,hp.2,?_⟩;rw [ed];conv=>whnf
 by_cases h1:x=0
 ·rw [show (m.toList == (⟨#[]⟩:ByteArray).toList)=true from by rw [hE.nil,decide_eq_true h1]]
  conv=>whnf
  exact fin _ (by rw [h1,Int.zero_mul]; exact wC.symm)
 ·rw [show (m.toList == (⟨#[]⟩:ByteArray).toList)=false from by rw [hE.nil,decide_eq_false h1]]
  conv=>whnf
  by_cases J:y=0
  ·rw [show (k.toList == (⟨#[]⟩:ByteArray).toList)=true from by rw [hF.nil,decide_eq_true J]]
   conv=>whnf
   exact fin _ (by rw [J,Int.mul_zero]; exact wC.symm)
  ·rw [show (k.toList == (⟨#[]⟩:ByteArray).toList)=false from by rw [hF.nil,decide_eq_false J]]
   conv=>whnf
   by_cases h3:m.size+k.size < 8
   ·refine m7 ?_ ?_
    ·exact decide_eq_true (by rw [ew]; omega)
    conv=>whnf
    refine .inl ⟨3,[[],[0],[],[0,1,2],[0,1,2,3],[0,1,2,3,4],[0,1,2,3,4,5]],by kernel_rfl,?_⟩
    conv=>whnf
    refine ⟨(B,m),rfl,by show m.size≤7; omega,?_⟩
    rw [show xj.val (B,m)=.int .i64 x from by show Value.int .i64 (IV.z (B,m))=_; rw [hE.val]]
    conv=>whnf
    refine ⟨(D,k),rfl,by show k.size≤7; omega,?_⟩
    rw [show xj.val (D,k)=.int .i64 y from by show Value.int .i64 (IV.z (D,k))=_; rw [hF.val]]
    conv=>whnf
    have hb:=R4 (x:=x) (y:=y) (by omega)
    obtain ⟨w,hw⟩:∃ w,w=x*y:=⟨_,rfl⟩;rw [← hw] at hb;rw [show IntKind.i64.wrap (x*y)=w from by rw [← hw]; exact ax hb.1 hb.2]
    refine ⟨w,rfl,hb,?_⟩;obtain ⟨V,n,hG⟩:=EI.mk' w;rw [show eZ.val w=.agg ⟨[.bool V,.string n]⟩ from hG.enc]
    conv=>whnf
    exact fin _ (by rw [← hw,hG.enc]; rfl)
   ·refine aN (fun h=>absurd (of_decide_eq_true h) (by rw [ew]; omega)) (fun _=>?_)
    obtain ⟨v,hv⟩:∃ v,v=nb (ab m*ab k):=⟨_,rfl⟩;have e:=hE.mul hF h1 J;rw [← hv] at e;conv=>whnf
    refine .inl ⟨10,[[],[0],[],[2],[0,1,2,3],[],[5],[],[7],[5,6,7,8],[0,1,2,3,4,5,6,7,8,9],[0,1,2,3,4,5,6,7,8,9,10]],by kernel_rfl,?_⟩
    conv=>whnf
    refine ⟨(m,k),rfl,⟨by show m.size≤_; omega,by show k.size≤_; omega⟩,?_⟩
    rw [show GI.val (m,k)=.string v from by rw [hv]; rfl]
    conv=>whnf
    exact fin _ e
open Go Go.Ae
def Eri:Env:=En [(191,.p kP),(193,.p kj),(155,.p eZ),(192,.p p9)]
theorem ac2:EnvOk Tryz.prog Eri:=bK ⟨B0,FP,zi,LU,trivial⟩ trivial
theorem Zx:bk Tryz.prog 175 vm:=by
 refine bn ac2 aQ Tryz.func175 (enters_of Tryz.func175 (by kernel_rfl) rfl) (fun _=>rfl) (fun _=>rfl) ?_
 intro ⟨⟨b,s⟩,⟨c,t⟩⟩ hp;have hp:s.size≤549755813888∧t.size≤549755813888:=hp;have hA:=jn s;have hD:=jn t;obtain ⟨G,hG⟩:∃ G,G=Nat.gcd (ab s) (ab t):=⟨_,rfl⟩;have fin:∀ v:Value,v=aH ((G:Nat):Int)→v=vm.val ((b,s),(c,t)):=fun v h=>by
  rw [h,hG];show _=aH ((Int.gcd (IV.z (b,s)) (IV.z (c,t)):Nat):Int)
  unfold Int.gcd IV.z;rw [uh,uh]
 conv=>whnf
 refine .inl ⟨5,[[],[0],[0,1],[],[3],[0,1,2,3,4],[0,1,2,3,4,5],[0,1,2,3,4,5,6]],by kernel_rfl,?_⟩
 conv=>whnf
 refine ⟨s,rfl,by show s.size≤_; omega,?_⟩
 conv=>whnf
 refine ⟨t,rfl,by show t.size≤_; omega,?_⟩
 conv=>whnf
 refine .inl ⟨fun mm tz hz=>∃ (A:Nat) (D:Nat),bC (aF 4 (some (.pointer (some ⟨0,0,none⟩))::some (.string (nb A))::some (.string (nb D))::aF 46 [])) tz∧hz=[some (.aS true 2 [[.bool false,.string ⟨#[]⟩]])]∧D=mm∧((aT A≤549755813888∧aT D≤549755813888)∧Nat.gcd A D=G),.inr ⟨[2],[4,5,6],?_⟩,?_⟩
 ·conv=>whnf
  intro _;conv=>whnf
  refine ⟨_,ab s,ab t,(.sk 4 (.aa (.aa (.aa (.sk 46 .nil rfl)))) rfl),rfl,rfl,?_⟩;exact ⟨⟨by omega,by omega⟩,hG.symm⟩
 rintro mm aW _ ⟨A,D,aB,rfl,rfl,⟨cL,hg⟩⟩
 obtain ⟨az,rfl⟩:∃ az:Nat→Value,aW=zs az 0 4 (.pointer (some ⟨0,0,none⟩)::.string (nb A)::.string (nb D)::zs az 7 46 []):=bL aB;clear aB;obtain ⟨x,hx⟩:∃ x,x=nb A:=⟨_,rfl⟩;obtain ⟨y,hy⟩:∃ y,y=nb D:=⟨_,rfl⟩;have nD:x.size=aT A:=by rw [hx,gP]
 have DQ:y.size=aT D:=by rw [hy,gP]
 have rI:ab x=A:=by rw [hx,iy]
 have ye:ab y=D:=by rw [hy,iy]
 rw [← hx,← hy];conv=>whnf
 by_cases h1:D=0
 ·rw [show (!y.toList == (⟨#[]⟩:ByteArray).toList)=false from by rw [hy]; exact wO h1]
  conv=>whnf
  rw [show (y.toList == (⟨#[]⟩:ByteArray).toList)=true from by
   have:=wO h1;rw [← hy] at this
   simpa using this]
  conv=>whnf
  rw [h1,Nat.gcd_zero_right] at hg;exact fin _ (by rw [hx,← hg]; exact wY (decide_eq_false (by omega)).symm (by omega))
 ·rw [show (!y.toList == (⟨#[]⟩:ByteArray).toList)=true from by rw [hy]; exact wV h1]
  conv=>whnf
  by_cases J:x.size > 7
  ·rw [show decide (((x.size:Nat):Int) > 7)=true from decide_eq_true (by omega)]
   conv=>whnf
   obtain ⟨q,hq⟩:∃ q,q=nb (A / D):=⟨_,rfl⟩;obtain ⟨r,hr⟩:∃ r,r=nb (A % D):=⟨_,rfl⟩;refine ⟨(x,D),by rw [hy]; rfl,⟨by show x.size≤_; omega,by show aT D≤_; omega,h1⟩,?_⟩
   rw [show p9.val (x,D)=.tuple ⟨[.string q,.string r]⟩ from by show Value.tuple ⟨[.string (nb (ab x / D)),.string (nb (ab x % D))]⟩=_; rw [rI,hq,hr]]
   conv=>whnf
   rw [hy,hr];have ll:aT (A % D)≤aT D:=iZ (Nat.le_of_lt (Nat.mod_lt _ (by omega)))
   refine .inr ⟨[0],[4,5,6],?_⟩;conv=>whnf
   intro _;conv=>whnf
   refine ⟨_,?_,D,A % D,(.sk 4 (.aa (.aa (.aa (.sk 46 .nil rfl)))) rfl),rfl,rfl,?_⟩
   ·exact Nat.mod_lt _ (by omega)
   ·exact ⟨⟨cL.2,by omega⟩,by rw [Nat.gcd_comm,← Nat.gcd_rec,Nat.gcd_comm]; exact hg⟩
  ·rw [show decide (((x.size:Nat):Int) > 7)=false from decide_eq_false (by omega)]
   conv=>whnf
   by_cases h3:y.size > 7
   ·rw [show decide (((y.size:Nat):Int) > 7)=true from decide_eq_true (by omega)]
    conv=>whnf
    obtain ⟨q,hq⟩:∃ q,q=nb (A / D):=⟨_,rfl⟩;obtain ⟨r,hr⟩:∃ r,r=nb (A % D):=⟨_,rfl⟩;refine ⟨(x,D),by rw [hy]; rfl,⟨by show x.size≤_; omega,by show aT D≤_; omega,h1⟩,?_⟩
    rw [show p9.val (x,D)=.tuple ⟨[.string q,.string r]⟩ from by show Value.tuple ⟨[.string (nb (ab x / D)),.string (nb (ab x % D))]⟩=_; rw [rI,hq,hr]]
    conv=>whnf
    rw [hy,hr];have ll:aT (A % D)≤aT D:=iZ (Nat.le_of_lt (Nat.mod_lt _ (by omega)))
    refine .inr ⟨[0],[4,5,6],?_⟩;conv=>whnf
    intro _;conv=>whnf
    refine ⟨_,?_,D,A % D,(.sk 4 (.aa (.aa (.aa (.sk 46 .nil rfl)))) rfl),rfl,rfl,?_⟩
    ·exact Nat.mod_lt _ (by omega)
    ·exact ⟨⟨cL.2,by omega⟩,by rw [Nat.gcd_comm,← Nat.gcd_rec,Nat.gcd_comm]; exact hg⟩
   ·rw [show decide (((y.size:Nat):Int) > 7)=false from decide_eq_false (by omega)]
    conv=>whnf
    rw [show (y.toList == (⟨#[]⟩:ByteArray).toList)=false from by
     have:=wV h1;rw [← hy] at this
     simpa using this]
    conv=>whnf
    refine ⟨x,rfl,by show x.size≤7; omega,?_⟩
    rw [show kj.val x=.int .i64 A from by show Value.int .i64 (ab x:Nat)=_; rw [rI]]
    conv=>whnf
    refine ⟨y,rfl,by show y.size≤7; omega,?_⟩
    rw [show kj.val y=.int .i64 D from by show Value.int .i64 (ab y:Nat)=_; rw [ye]]
    conv=>whnf
    have lA:A < 72057594037927936:=Nat.lt_of_lt_of_le (lG A) (n9 (by omega))
    have lD:D < 72057594037927936:=Nat.lt_of_lt_of_le (lG D) (n9 (by omega))
    refine .inl ⟨fun mm tz hz=>∃ (m:Nat) (n:Nat),bC (aF 4 (some (.pointer (some ⟨0,0,none⟩))::aF 4 (some (.int .i64 m)::some (.int .i64 n)::aF 42 []))) tz∧hz=[some (.aS true 2 [[.bool false,.string ⟨#[]⟩]])]∧n=mm∧((m < 72057594037927936∧n < 72057594037927936)∧Nat.gcd m n=G),.inr ⟨[0],[4,9,10],?_⟩,?_⟩
    ·conv=>whnf
     intro _;conv=>whnf
     refine ⟨_,A,D,(.sk 4 (.aa (.sk 4 (.aa (.aa (.sk 42 .nil rfl))) rfl)) rfl),rfl,rfl,?_⟩;exact ⟨⟨lA,lD⟩,hg⟩
    rintro mm aW _ ⟨m,n,aB,rfl,rfl,⟨hmn,tx⟩⟩
    obtain ⟨az,rfl⟩:∃ az:Nat→Value,aW=zs az 0 4 (.pointer (some ⟨0,0,none⟩)::zs az 5 4 (.int .i64 m::.int .i64 n::zs az 11 42 [])):=bL aB;clear aB;conv=>whnf
    refine aN (fun h4=>?_) (fun h4=>?_)
    ·have h4:0 < n:=by
      have:=of_decide_eq_true h4;omega
     have al:=Nat.mod_lt m h4;conv=>whnf
     refine .inl ⟨5,[[],[],[],[1,2],[0,1],[0,1,2,3,4]],by kernel_rfl,?_⟩
     conv=>whnf
     rw [show decide (((n:Nat):Int)≠0)=true from decide_eq_true (by omega)]
     conv=>whnf
     rw [show Int.tmod ((m:Nat):Int) ((n:Nat):Int)=((m % n:Nat):Int) from rfl]
     refine .inr ⟨[0],[4,9,10],?_⟩;conv=>whnf
     intro _;conv=>whnf
     refine ⟨_,?_,n,m % n,(.sk 4 (.aa (.sk 4 (.aa (.aa (.sk 42 .nil rfl))) rfl)) rfl),rfl,rfl,?_⟩
     ·exact al
     ·exact ⟨⟨hmn.2,by omega⟩,by rw [Nat.gcd_comm,← Nat.gcd_rec,Nat.gcd_comm]; exact tx⟩
    ·have h4:n=0:=by
      have:=of_decide_eq_false h4;omega
     subst h4;rw [Nat.gcd_zero_right] at tx;conv=>whnf
     refine ⟨((m:Nat):Int),rfl,⟨by omega,by omega⟩,?_⟩
     obtain ⟨V,n,hV⟩:=EI.mk' ((m:Nat):Int);rw [show eZ.val ((m:Nat):Int)=.agg ⟨[.bool V,.string n]⟩ from hV.enc]
     conv=>whnf
     exact fin _ (by rw [← tx,hV.enc]; rfl)
def Erj:Env:=En [(179,.p jt),(193,.p kj),(155,.p eZ),(192,.p p9),(174,.p ib),(194,.p mL)]
theorem ac3:EnvOk Tryz.prog Erj:=bK ⟨FO,FP,zi,LU,GV,Zv,trivial⟩ trivial
theorem Zy:bk Tryz.prog 176 iR:=by
 refine bn ac3 aQ Tryz.func176 (enters_of Tryz.func176 (by kernel_rfl) rfl) (fun _=>rfl) (fun _=>rfl) ?_
 intro ⟨⟨b,s⟩,⟨c,t⟩⟩ hp;have hp:s.size≤549755813888∧t.size≤549755813888:=hp;obtain ⟨x,hx⟩:∃ x,x=IV.z (b,s):=⟨_,rfl⟩;obtain ⟨y,hy⟩:∃ y,y=IV.z (c,t):=⟨_,rfl⟩;have rI:aT x.natAbs≤549755813888:=by rw [hx]; exact IV.aT (i:=(b,s)) hp.1
 have ye:aT y.natAbs≤549755813888:=by rw [hy]; exact IV.aT (i:=(c,t)) hp.2
 obtain ⟨B,m,hE⟩:=EI.mk' x;obtain ⟨D,k,hF⟩:=EI.mk' y;have rm:=hE.size;have jC:=hF.size;have ec:jt.val (b,s)=.agg ⟨[.bool B,.string m]⟩:=by show aH (IV.z (b,s))=_; rw [← hx,hE.enc]
 have ed:jt.val (c,t)=.agg ⟨[.bool D,.string k]⟩:=by show aH (IV.z (c,t))=_; rw [← hy,hF.enc]
 conv=>whnf
 refine .inl ⟨3,[[],[0],[],[0,1,2],[0,1,2,3],[0,1,2,3,4]],by kernel_rfl,?_⟩
 conv=>whnf
 refine ⟨(b,s),rfl,hp.1,?_⟩;rw [ec];conv=>whnf
 refine ⟨(c,t),rfl,hp.2,?_⟩;rw [ed];conv=>whnf
 by_cases J:y=0
 ·rw [show (k.toList == (⟨#[]⟩:ByteArray).toList)=true from by rw [hF.nil,decide_eq_true J]]
  conv=>whnf
  have e:Int.fdiv (IV.z (b,s)) 0=0:=Int.fdiv_zero _;have hz:IV.z (c,t)=0:=by rw [← hy]; exact J
  simp only [iR,hz,e,if_true,wC]
  rfl
 ·rw [show (k.toList == (⟨#[]⟩:ByteArray).toList)=false from by rw [hF.nil,decide_eq_false J]]
  have fin:∀ (q r:Value),q=aH (Int.fdiv x y)→r=aH (Int.fmod x y)→Value.tuple ⟨[q,r,.int .i64 0]⟩=iR.val ((b,s),(c,t)):=fun q r hq hr=>by
   rw [hx,hy] at hq hr;have hz:IV.z (c,t)≠0:=by rw [← hy]; exact J
   simp only [iR,if_neg hz];rw [hq,hr]
  obtain ⟨zq,mW⟩:∃ z:Int,z=((ab m / ab k:Nat):Int):=⟨_,rfl⟩;obtain ⟨zr,mX⟩:∃ z:Int,z=((ab m % ab k:Nat):Int):=⟨_,rfl⟩;obtain ⟨aeG,aeZ⟩:0≤zq∧zq≤ab m:=by rw [mW]; exact ⟨Int.natCast_nonneg _,Int.ofNat_le.2 (Nat.div_le_self _ _)⟩
  obtain ⟨qs,hq⟩:=EI.jd aeG;obtain ⟨rs,hr⟩:=EI.jd (show 0≤zr by rw [mX]; exact Int.natCast_nonneg _)
  have tf:ab k≠0:=by rw [hF.abs]; omega
  have pC:0≤zr∧zr < ab k:=by
   have:=Nat.mod_lt (ab m) (Nat.pos_of_ne_zero tf);omega
  have Em:aT zq.natAbs≤549755813888:=by
   have h3:=iZ (Nat.div_le_self (ab m) (ab k));have h4:=jn m;have:zq.natAbs=ab m / ab k:=by rw [mW]; rfl
   rw [this];omega
  have pM:aT zr.natAbs≤549755813888:=by
   have h3:=iZ (Nat.mod_le (ab m) (ab k));have h4:=jn m;have:zr.natAbs=ab m % ab k:=by rw [mX]; rfl
   rw [this];omega
  conv=>whnf
  by_cases h3:m.size < 8∧k.size < 8
  ·have lm:ab m < 72057594037927936:=Nat.lt_of_lt_of_le (gE m) (n9 (by omega))
   have lk:ab k < 72057594037927936:=Nat.lt_of_lt_of_le (gE k) (n9 (by omega))
   obtain ⟨M,hM⟩:∃ M,M=ab m:=⟨_,rfl⟩;obtain ⟨N,hN⟩:∃ N,N=ab k:=⟨_,rfl⟩;rw [show decide (((m.size:Nat):Int) < 8)=true from decide_eq_true (by omega)]
   conv=>whnf
   rw [show decide (((k.size:Nat):Int) < 8)=true from decide_eq_true (by omega)]
   conv=>whnf
   refine .inl ⟨5,[[],[0],[0,1],[],[3],[0,1,2,3,4],[0,1,2,3,4,5],[0,1,2,3,4,5,6]],by kernel_rfl,?_⟩
   conv=>whnf
   refine ⟨m,rfl,by show m.size≤7; omega,?_⟩
   rw [show kj.val m=.int .i64 M from by rw [hM]; rfl]
   conv=>whnf
   refine ⟨k,rfl,by show k.size≤7; omega,?_⟩
   rw [show kj.val k=.int .i64 N from by rw [hN]; rfl]
   conv=>whnf
   refine .inl ⟨7,[[],[],[0,1],[0,1,2],[],[],[4,5],[0,1,2,3,4,5,6],[0,1,2,3,4,5,6,7],[0,1,2,3,4,5,6,7,8]],by kernel_rfl,?_⟩
   have eq:IntKind.i64.wrap (Int.tdiv (M:Int) (N:Int))=zq:=by
    rw [F4,mW,hM,hN];exact M9 (Nat.lt_of_le_of_lt (Nat.div_le_self _ _) lm)
   have er:Int.tmod (M:Int) (N:Int)=zr:=by rw [M3,mX,hM,hN]
   conv=>whnf
   rw [show decide (((N:Nat):Int)≠0)=true from decide_eq_true (by omega)]
   conv=>whnf
   rw [eq];refine ⟨zq,rfl,?_,?_⟩
   ·exact ⟨by omega,by omega⟩
   rw [show eZ.val zq=.agg ⟨[.bool false,.string qs]⟩ from hq.enc]
   conv=>whnf
   rw [show decide (((N:Nat):Int)≠0)=true from decide_eq_true (by omega)]
   conv=>whnf
   rw [er];refine ⟨zr,rfl,⟨by omega,by omega⟩,?_⟩
   rw [show eZ.val zr=.agg ⟨[.bool false,.string rs]⟩ from hr.enc]
   conv=>whnf
   refine aN (fun h5=>?_) (fun h5=>?_)
   ·have h5:B≠D:=by
     intro e;subst e;cases B <;> cases h5
    obtain ⟨jF,iW,fu⟩:=EI.mk' (-zq);have zY:=fu.size;rw [Int.natAbs_neg] at zY;conv=>whnf
    refine ⟨(false,qs),rfl,by show qs.size≤_; rw [hq.size]; omega,?_⟩
    rw [show ib.val (false,qs)=.agg ⟨[.bool jF,.string iW]⟩ from by show aH (-IV.z (false,qs))=_; rw [hq.val,fu.enc]]
    conv=>whnf
    by_cases h6:zr=0
    ·rw [show (!rs.toList == (⟨#[]⟩:ByteArray).toList)=false from by rw [hr.nn]; exact decide_eq_false (by omega)]
     obtain ⟨hz,hw⟩:=FF hE hF J h5 mW mX h6;clear hq;have hq:=fu;conv=>whnf
     refine aN (fun h9=>?_) (fun h9=>?_)
     ·have cX:=hq.enc.symm.trans (congrArg aH hz);rw [h9,if_pos rfl] at hw;conv=>whnf
      refine ⟨(false,rs),rfl,by show rs.size≤_; rw [hr.size]; omega,?_⟩
      obtain ⟨V,n,hV⟩:=EI.mk' (-zr);rw [show ib.val (false,rs)=.agg ⟨[.bool V,.string n]⟩ from by show aH (-IV.z (false,rs))=_; rw [hr.val,hV.enc]]
      have cC:=hV.enc.symm.trans (congrArg aH hw);conv=>whnf
      refine .inr (.inl ⟨(.br 0 (.br 1 (.br 2 (.br 3 (.br 4 .leaf .leaf) .leaf) .leaf) (.br 2 (.br 1 (.br 3 (.br 4 .leaf .leaf) .leaf) .leaf) .leaf)) (.br 1 (.br 0 (.br 2 (.br 3 (.br 4 .leaf .leaf) .leaf) .leaf) .leaf) .leaf)),by kernel_rfl,?_⟩)
      repeat' ((conv=>whnf); first | exact True.intro | refine And.intro ?_ ?_)
      all_goals conv=>whnf
      all_goals exact fin _ _ cX cC
     ·have cX:=hq.enc.symm.trans (congrArg aH hz);rw [h9,if_neg (by decide)] at hw
      have cC:=hr.enc.symm.trans (congrArg aH hw);conv=>whnf
      refine .inr (.inl ⟨(.br 0 (.br 1 (.br 2 (.br 3 (.br 4 .leaf .leaf) .leaf) .leaf) (.br 2 (.br 1 (.br 3 (.br 4 .leaf .leaf) .leaf) .leaf) .leaf)) (.br 1 (.br 0 (.br 2 (.br 3 (.br 4 .leaf .leaf) .leaf) .leaf) .leaf) .leaf)),by kernel_rfl,?_⟩)
      repeat' ((conv=>whnf); first | exact True.intro | refine And.intro ?_ ?_)
      all_goals conv=>whnf
      all_goals exact fin _ _ cX cC
    ·rw [show (!rs.toList == (⟨#[]⟩:ByteArray).toList)=true from by rw [hr.nn]; exact decide_eq_true (by omega)]
     obtain ⟨hz,hw⟩:=F9 hE hF J h5 mW mX h6;obtain ⟨vb,v1,oG⟩:=EI.mk' 1;have Ru:=oG.size;have Ac:aT (Int.natAbs 1)≤1:=gX (by decide)
     have Qu:IV.z (jF,iW)=-zq:=fu.val;conv=>whnf
     refine .inl ⟨2,[[],[],[0,1],[0,1,2]],by kernel_rfl,?_⟩
     conv=>whnf
     refine ⟨(1:Int),rfl,⟨by decide,by decide⟩,?_⟩
     rw [show eZ.val (1:Int)=.agg ⟨[.bool vb,.string v1]⟩ from oG.enc]
     conv=>whnf
     refine ⟨((jF,iW),(vb,v1)),rfl,⟨by show iW.size≤_; omega,by show v1.size≤_; omega⟩,?_⟩
     obtain ⟨AM,AN,iu⟩:=EI.mk' (-zq - 1);rw [show mL.val ((jF,iW),(vb,v1))=.agg ⟨[.bool AM,.string AN]⟩ from by show aH (IV.z (jF,iW) - IV.z (vb,v1))=_; rw [fu.val,oG.val,iu.enc]]
     conv=>whnf
     refine ⟨((false,k),(false,rs)),rfl,⟨by show k.size≤_; omega,by show rs.size≤_; rw [hr.size]; omega⟩,?_⟩
     obtain ⟨tE,tF,oH⟩:=EI.mk' (((ab k:Nat):Int) - zr);rw [show mL.val ((false,k),(false,rs))=.agg ⟨[.bool tE,.string tF]⟩ from by show aH (IV.z (false,k) - IV.z (false,rs))=_; rw [hr.val,show IV.z (false,k)=((ab k:Nat):Int) from rfl,oH.enc]]
     have tG:aT (((ab k:Nat):Int) - zr).natAbs≤549755813888:=by
      have jD:=jn k;have:=iZ (show (((ab k:Nat):Int) - zr).natAbs≤ab k by have:=hF.abs; omega)
      omega
     clear hq hr pM;have hq:=iu;clear pC;obtain ⟨zr,AO⟩:∃ z,z=((ab k:Nat):Int) - zr:=⟨_,rfl⟩;rw [← AO] at oH hw tG;obtain ⟨rb,rfl⟩:∃ q',q'=tE:=⟨_,rfl⟩;obtain ⟨rs,rfl⟩:∃ q',q'=tF:=⟨_,rfl⟩;have hr:=oH;have pM:=tG;conv=>whnf
     refine aN (fun h9=>?_) (fun h9=>?_)
     ·have cX:=hq.enc.symm.trans (congrArg aH hz);rw [h9,if_pos rfl] at hw;conv=>whnf
      refine ⟨(rb,rs),rfl,by show rs.size≤_; rw [hr.size]; omega,?_⟩
      obtain ⟨V,n,hV⟩:=EI.mk' (-zr);rw [show ib.val (rb,rs)=.agg ⟨[.bool V,.string n]⟩ from by show aH (-IV.z (rb,rs))=_; rw [hr.val,hV.enc]]
      have cC:=hV.enc.symm.trans (congrArg aH hw);conv=>whnf
      refine .inr (.inl ⟨(.br 0 (.br 1 (.br 2 (.br 3 (.br 4 .leaf .leaf) .leaf) .leaf) (.br 2 (.br 1 (.br 3 (.br 4 .leaf .leaf) .leaf) .leaf) .leaf)) (.br 1 (.br 0 (.br 2 (.br 3 (.br 4 .leaf .leaf) .leaf) .leaf) .leaf) .leaf)),by kernel_rfl,?_⟩)
      repeat' ((conv=>whnf); first | exact True.intro | refine And.intro ?_ ?_)
      all_goals conv=>whnf
      all_goals exact fin _ _ cX cC
     ·have cX:=hq.enc.symm.trans (congrArg aH hz);rw [h9,if_neg (by decide)] at hw
      have cC:=hr.enc.symm.trans (congrArg aH hw);conv=>whnf
      refine .inr (.inl ⟨(.br 0 (.br 1 (.br 2 (.br 3 (.br 4 .leaf .leaf) .leaf) .leaf) (.br 2 (.br 1 (.br 3 (.br 4 .leaf .leaf) .leaf) .leaf) .leaf)) (.br 1 (.br 0 (.br 2 (.br 3 (.br 4 .leaf .leaf) .leaf) .leaf) .leaf) .leaf)),by kernel_rfl,?_⟩)
      repeat' ((conv=>whnf); first | exact True.intro | refine And.intro ?_ ?_)
      all_goals conv=>whnf
      all_goals exact fin _ _ cX cC
   ·have h5:B=D:=by
     cases B <;> cases D <;> first | rfl | cases h5
    obtain ⟨hz,hw⟩:=F8 hE hF J h5 mW mX;conv=>whnf
    refine aN (fun h9=>?_) (fun h9=>?_)
    ·have cX:=hq.enc.symm.trans (congrArg aH hz);rw [h9,if_pos rfl] at hw;conv=>whnf
     refine ⟨(false,rs),rfl,by show rs.size≤_; rw [hr.size]; omega,?_⟩
     obtain ⟨V,n,hV⟩:=EI.mk' (-zr);rw [show ib.val (false,rs)=.agg ⟨[.bool V,.string n]⟩ from by show aH (-IV.z (false,rs))=_; rw [hr.val,hV.enc]]
     have cC:=hV.enc.symm.trans (congrArg aH hw);conv=>whnf
     refine .inr (.inl ⟨(.br 0 (.br 1 (.br 2 (.br 3 (.br 4 .leaf .leaf) .leaf) .leaf) (.br 2 (.br 1 (.br 3 (.br 4 .leaf .leaf) .leaf) .leaf) .leaf)) (.br 1 (.br 0 (.br 2 (.br 3 (.br 4 .leaf .leaf) .leaf) .leaf) .leaf) .leaf)),by kernel_rfl,?_⟩)
     repeat' ((conv=>whnf); first | exact True.intro | refine And.intro ?_ ?_)
     all_goals conv=>whnf
     all_goals exact fin _ _ cX cC
    ·have cX:=hq.enc.symm.trans (congrArg aH hz);rw [h9,if_neg (by decide)] at hw
     have cC:=hr.enc.symm.trans (congrArg aH hw);conv=>whnf
     refine .inr (.inl ⟨(.br 0 (.br 1 (.br 2 (.br 3 (.br 4 .leaf .leaf) .leaf) .leaf) (.br 2 (.br 1 (.br 3 (.br 4 .leaf .leaf) .leaf) .leaf) .leaf)) (.br 1 (.br 0 (.br 2 (.br 3 (.br 4 .leaf .leaf) .leaf) .leaf) .leaf) .leaf)),by kernel_rfl,?_⟩)
     repeat' ((conv=>whnf); first | exact True.intro | refine And.intro ?_ ?_)
     all_goals conv=>whnf
     all_goals exact fin _ _ cX cC
  ·have ev:p9.val (m,ab k)=.tuple ⟨[.string qs,.string rs]⟩:=by
    show Value.tuple ⟨[.string (nb (ab m / ab k)),.string (nb (ab m % ab k))]⟩=_
    rw [hq.nH,hr.nH,mW,mX]
    rfl
   have ei:p9.args (m,ab k)=[.string m,.string k]:=by
    show [Value.string m,.string (nb (ab k))]=_
    rw [← hF.eta]
   have Qv:p9.pre (m,ab k):=⟨by show m.size≤_; omega,by show aT (ab k)≤_; rw [hF.abs]; omega,tf⟩
   by_cases h4:m.size < 8
   ·rw [show decide (((m.size:Nat):Int) < 8)=true from decide_eq_true (by omega)]
    conv=>whnf
    rw [show decide (((k.size:Nat):Int) < 8)=false from decide_eq_false (by omega)]
    conv=>whnf
    refine ⟨(m,ab k),ei,Qv,?_⟩;rw [ev];conv=>whnf
    refine aN (fun h5=>?_) (fun h5=>?_)
    ·have h5:B≠D:=by
      intro e;subst e;cases B <;> cases h5
     obtain ⟨jF,iW,fu⟩:=EI.mk' (-zq);have zY:=fu.size;rw [Int.natAbs_neg] at zY;conv=>whnf
     refine ⟨(false,qs),rfl,by show qs.size≤_; rw [hq.size]; omega,?_⟩
     rw [show ib.val (false,qs)=.agg ⟨[.bool jF,.string iW]⟩ from by show aH (-IV.z (false,qs))=_; rw [hq.val,fu.enc]]
     conv=>whnf
     by_cases h6:zr=0
     ·rw [show (!rs.toList == (⟨#[]⟩:ByteArray).toList)=false from by rw [hr.nn]; exact decide_eq_false (by omega)]
      obtain ⟨hz,hw⟩:=FF hE hF J h5 mW mX h6;clear hq;have hq:=fu;conv=>whnf
      refine aN (fun h9=>?_) (fun h9=>?_)
      ·have cX:=hq.enc.symm.trans (congrArg aH hz);rw [h9,if_pos rfl] at hw;conv=>whnf
       refine ⟨(false,rs),rfl,by show rs.size≤_; rw [hr.size]; omega,?_⟩
       obtain ⟨V,n,hV⟩:=EI.mk' (-zr);rw [show ib.val (false,rs)=.agg ⟨[.bool V,.string n]⟩ from by show aH (-IV.z (false,rs))=_; rw [hr.val,hV.enc]]
       have cC:=hV.enc.symm.trans (congrArg aH hw);conv=>whnf
       refine .inr (.inl ⟨(.br 0 (.br 1 (.br 2 (.br 3 (.br 4 .leaf .leaf) .leaf) .leaf) (.br 2 (.br 1 (.br 3 (.br 4 .leaf .leaf) .leaf) .leaf) .leaf)) (.br 1 (.br 0 (.br 2 (.br 3 (.br 4 .leaf .leaf) .leaf) .leaf) .leaf) .leaf)),by kernel_rfl,?_⟩)
       repeat' ((conv=>whnf); first | exact True.intro | refine And.intro ?_ ?_)
       all_goals conv=>whnf
       all_goals exact fin _ _ cX cC
      ·have cX:=hq.enc.symm.trans (congrArg aH hz);rw [h9,if_neg (by decide)] at hw
       have cC:=hr.enc.symm.trans (congrArg aH hw);conv=>whnf
       refine .inr (.inl ⟨(.br 0 (.br 1 (.br 2 (.br 3 (.br 4 .leaf .leaf) .leaf) .leaf) (.br 2 (.br 1 (.br 3 (.br 4 .leaf .leaf) .leaf) .leaf) .leaf)) (.br 1 (.br 0 (.br 2 (.br 3 (.br 4 .leaf .leaf) .leaf) .leaf) .leaf) .leaf)),by kernel_rfl,?_⟩)
       repeat' ((conv=>whnf); first | exact True.intro | refine And.intro ?_ ?_)
       all_goals conv=>whnf
       all_goals exact fin _ _ cX cC
     ·rw [show (!rs.toList == (⟨#[]⟩:ByteArray).toList)=true from by rw [hr.nn]; exact decide_eq_true (by omega)]
      obtain ⟨hz,hw⟩:=F9 hE hF J h5 mW mX h6;obtain ⟨vb,v1,oG⟩:=EI.mk' 1;have Ru:=oG.size;have Ac:aT (Int.natAbs 1)≤1:=gX (by decide)
      have Qu:IV.z (jF,iW)=-zq:=fu.val;conv=>whnf
      refine .inl ⟨2,[[],[],[0,1],[0,1,2]],by kernel_rfl,?_⟩
      conv=>whnf
      refine ⟨(1:Int),rfl,⟨by decide,by decide⟩,?_⟩
      rw [show eZ.val (1:Int)=.agg ⟨[.bool vb,.string v1]⟩ from oG.enc]
      conv=>whnf
      refine ⟨((jF,iW),(vb,v1)),rfl,⟨by show iW.size≤_; omega,by show v1.size≤_; omega⟩,?_⟩
      obtain ⟨AM,AN,iu⟩:=EI.mk' (-zq - 1);rw [show mL.val ((jF,iW),(vb,v1))=.agg ⟨[.bool AM,.string AN]⟩ from by show aH (IV.z (jF,iW) - IV.z (vb,v1))=_; rw [fu.val,oG.val,iu.enc]]
      conv=>whnf
      refine ⟨((false,k),(false,rs)),rfl,⟨by show k.size≤_; omega,by show rs.size≤_; rw [hr.size]; omega⟩,?_⟩
      obtain ⟨tE,tF,oH⟩:=EI.mk' (((ab k:Nat):Int) - zr);rw [show mL.val ((false,k),(false,rs))=.agg ⟨[.bool tE,.string tF]⟩ from by show aH (IV.z (false,k) - IV.z (false,rs))=_; rw [hr.val,show IV.z (false,k)=((ab k:Nat):Int) from rfl,oH.enc]]
      have tG:aT (((ab k:Nat):Int) - zr).natAbs≤549755813888:=by
       have jD:=jn k;have:=iZ (show (((ab k:Nat):Int) - zr).natAbs≤ab k by have:=hF.abs; omega)
       omega
      clear hq hr pM;have hq:=iu;clear pC;obtain ⟨zr,AO⟩:∃ z,z=((ab k:Nat):Int) - zr:=⟨_,rfl⟩;rw [← AO] at oH hw tG;obtain ⟨rb,rfl⟩:∃ q',q'=tE:=⟨_,rfl⟩;obtain ⟨rs,rfl⟩:∃ q',q'=tF:=⟨_,rfl⟩;have hr:=oH;have pM:=tG;conv=>whnf
      refine aN (fun h9=>?_) (fun h9=>?_)
      ·have cX:=hq.enc.symm.trans (congrArg aH hz);rw [h9,if_pos rfl] at hw;conv=>whnf
       refine ⟨(rb,rs),rfl,by show rs.size≤_; rw [hr.size]; omega,?_⟩
       obtain ⟨V,n,hV⟩:=EI.mk' (-zr);rw [show ib.val (rb,rs)=.agg ⟨[.bool V,.string n]⟩ from by show aH (-IV.z (rb,rs))=_; rw [hr.val,hV.enc]]
       have cC:=hV.enc.symm.trans (congrArg aH hw);conv=>whnf
       refine .inr (.inl ⟨(.br 0 (.br 1 (.br 2 (.br 3 (.br 4 .leaf .leaf) .leaf) .leaf) (.br 2 (.br 1 (.br 3 (.br 4 .leaf .leaf) .leaf) .leaf) .leaf)) (.br 1 (.br 0 (.br 2 (.br 3 (.br 4 .leaf .leaf) .leaf) .leaf) .leaf) .leaf)),by kernel_rfl,?_⟩)
       repeat' ((conv=>whnf); first | exact True.intro | refine And.intro ?_ ?_)
       all_goals conv=>whnf
       all_goals exact fin _ _ cX cC
      ·have cX:=hq.enc.symm.trans (congrArg aH hz);rw [h9,if_neg (by decide)] at hw
       have cC:=hr.enc.symm.trans (congrArg aH hw);conv=>whnf
       refine .inr (.inl ⟨(.br 0 (.br 1 (.br 2 (.br 3 (.br 4 .leaf .leaf) .leaf) .leaf) (.br 2 (.br 1 (.br 3 (.br 4 .leaf .leaf) .leaf) .leaf) .leaf)) (.br 1 (.br 0 (.br 2 (.br 3 (.br 4 .leaf .leaf) .leaf) .leaf) .leaf) .leaf)),by kernel_rfl,?_⟩)
       repeat' ((conv=>whnf); first | exact True.intro | refine And.intro ?_ ?_)
       all_goals conv=>whnf
       all_goals exact fin _ _ cX cC
    ·have h5:B=D:=by
      cases B <;> cases D <;> first | rfl | cases h5
     obtain ⟨hz,hw⟩:=F8 hE hF J h5 mW mX;conv=>whnf
     refine aN (fun h9=>?_) (fun h9=>?_)
     ·have cX:=hq.enc.symm.trans (congrArg aH hz);rw [h9,if_pos rfl] at hw;conv=>whnf
      refine ⟨(false,rs),rfl,by show rs.size≤_; rw [hr.size]; omega,?_⟩
      obtain ⟨V,n,hV⟩:=EI.mk' (-zr);rw [show ib.val (false,rs)=.agg ⟨[.bool V,.string n]⟩ from by show aH (-IV.z (false,rs))=_; rw [hr.val,hV.enc]]
      have cC:=hV.enc.symm.trans (congrArg aH hw);conv=>whnf
      refine .inr (.inl ⟨(.br 0 (.br 1 (.br 2 (.br 3 (.br 4 .leaf .leaf) .leaf) .leaf) (.br 2 (.br 1 (.br 3 (.br 4 .leaf .leaf) .leaf) .leaf) .leaf)) (.br 1 (.br 0 (.br 2 (.br 3 (.br 4 .leaf .leaf) .leaf) .leaf) .leaf) .leaf)),by kernel_rfl,?_⟩)
      repeat' ((conv=>whnf); first | exact True.intro | refine And.intro ?_ ?_)
      all_goals conv=>whnf
      all_goals exact fin _ _ cX cC
     ·have cX:=hq.enc.symm.trans (congrArg aH hz);rw [h9,if_neg (by decide)] at hw
      have cC:=hr.enc.symm.trans (congrArg aH hw);conv=>whnf
      refine .inr (.inl ⟨(.br 0 (.br 1 (.br 2 (.br 3 (.br 4 .leaf .leaf) .leaf) .leaf) (.br 2 (.br 1 (.br 3 (.br 4 .leaf .leaf) .leaf) .leaf) .leaf)) (.br 1 (.br 0 (.br 2 (.br 3 (.br 4 .leaf .leaf) .leaf) .leaf) .leaf) .leaf)),by kernel_rfl,?_⟩)
      repeat' ((conv=>whnf); first | exact True.intro | refine And.intro ?_ ?_)
      all_goals conv=>whnf
      all_goals exact fin _ _ cX cC
   ·rw [show decide (((m.size:Nat):Int) < 8)=false from decide_eq_false (by omega)]
    conv=>whnf
    refine ⟨(m,ab k),ei,Qv,?_⟩;rw [ev];conv=>whnf
    refine aN (fun h5=>?_) (fun h5=>?_)
    ·have h5:B≠D:=by
      intro e;subst e;cases B <;> cases h5
     obtain ⟨jF,iW,fu⟩:=EI.mk' (-zq);have zY:=fu.size;rw [Int.natAbs_neg] at zY;conv=>whnf
     refine ⟨(false,qs),rfl,by show qs.size≤_; rw [hq.size]; omega,?_⟩
     rw [show ib.val (false,qs)=.agg ⟨[.bool jF,.string iW]⟩ from by show aH (-IV.z (false,qs))=_; rw [hq.val,fu.enc]]
     conv=>whnf
     by_cases h6:zr=0
     ·rw [show (!rs.toList == (⟨#[]⟩:ByteArray).toList)=false from by rw [hr.nn]; exact decide_eq_false (by omega)]
      obtain ⟨hz,hw⟩:=FF hE hF J h5 mW mX h6;clear hq;have hq:=fu;conv=>whnf
      refine aN (fun h9=>?_) (fun h9=>?_)
      ·have cX:=hq.enc.symm.trans (congrArg aH hz);rw [h9,if_pos rfl] at hw;conv=>whnf
       refine ⟨(false,rs),rfl,by show rs.size≤_; rw [hr.size]; omega,?_⟩
       obtain ⟨V,n,hV⟩:=EI.mk' (-zr);rw [show ib.val (false,rs)=.agg ⟨[.bool V,.string n]⟩ from by show aH (-IV.z (false,rs))=_; rw [hr.val,hV.enc]]
       have cC:=hV.enc.symm.trans (congrArg aH hw);conv=>whnf
       refine .inr (.inl ⟨(.br 0 (.br 1 (.br 2 (.br 3 (.br 4 .leaf .leaf) .leaf) .leaf) (.br 2 (.br 1 (.br 3 (.br 4 .leaf .leaf) .leaf) .leaf) .leaf)) (.br 1 (.br 0 (.br 2 (.br 3 (.br 4 .leaf .leaf) .leaf) .leaf) .leaf) .leaf)),by kernel_rfl,?_⟩)
       repeat' ((conv=>whnf); first | exact True.intro | refine And.intro ?_ ?_)
       all_goals conv=>whnf
       all_goals exact fin _ _ cX cC
      ·have cX:=hq.enc.symm.trans (congrArg aH hz);rw [h9,if_neg (by decide)] at hw
       have cC:=hr.enc.symm.trans (congrArg aH hw);conv=>whnf
       refine .inr (.inl ⟨(.br 0 (.br 1 (.br 2 (.br 3 (.br 4 .leaf .leaf) .leaf) .leaf) (.br 2 (.br 1 (.br 3 (.br 4 .leaf .leaf) .leaf) .leaf) .leaf)) (.br 1 (.br 0 (.br 2 (.br 3 (.br 4 .leaf .leaf) .leaf) .leaf) .leaf) .leaf)),by kernel_rfl,?_⟩)
       repeat' ((conv=>whnf); first | exact True.intro | refine And.intro ?_ ?_)
       all_goals conv=>whnf
       all_goals exact fin _ _ cX cC
     ·rw [show (!rs.toList == (⟨#[]⟩:ByteArray).toList)=true from by rw [hr.nn]; exact decide_eq_true (by omega)]
      obtain ⟨hz,hw⟩:=F9 hE hF J h5 mW mX h6;obtain ⟨vb,v1,oG⟩:=EI.mk' 1;have Ru:=oG.size;have Ac:aT (Int.natAbs 1)≤1:=gX (by decide)
      have Qu:IV.z (jF,iW)=-zq:=fu.val;conv=>whnf
      refine .inl ⟨2,[[],[],[0,1],[0,1,2]],by kernel_rfl,?_⟩
      conv=>whnf
      refine ⟨(1:Int),rfl,⟨by decide,by decide⟩,?_⟩
      rw [show eZ.val (1:Int)=.agg ⟨[.bool vb,.string v1]⟩ from oG.enc]
      conv=>whnf
      refine ⟨((jF,iW),(vb,v1)),rfl,⟨by show iW.size≤_; omega,by show v1.size≤_; omega⟩,?_⟩
      obtain ⟨AM,AN,iu⟩:=EI.mk' (-zq - 1);rw [show mL.val ((jF,iW),(vb,v1))=.agg ⟨[.bool AM,.string AN]⟩ from by show aH (IV.z (jF,iW) - IV.z (vb,v1))=_; rw [fu.val,oG.val,iu.enc]]
      conv=>whnf
      refine ⟨((false,k),(false,rs)),rfl,⟨by show k.size≤_; omega,by show rs.size≤_; rw [hr.size]; omega⟩,?_⟩
      obtain ⟨tE,tF,oH⟩:=EI.mk' (((ab k:Nat):Int) - zr);rw [show mL.val ((false,k),(false,rs))=.agg ⟨[.bool tE,.string tF]⟩ from by show aH (IV.z (false,k) - IV.z (false,rs))=_; rw [hr.val,show IV.z (false,k)=((ab k:Nat):Int) from rfl,oH.enc]]
      have tG:aT (((ab k:Nat):Int) - zr).natAbs≤549755813888:=by
       have jD:=jn k;have:=iZ (show (((ab k:Nat):Int) - zr).natAbs≤ab k by have:=hF.abs; omega)
       omega
      clear hq hr pM;have hq:=iu;clear pC;obtain ⟨zr,AO⟩:∃ z,z=((ab k:Nat):Int) - zr:=⟨_,rfl⟩;rw [← AO] at oH hw tG;obtain ⟨rb,rfl⟩:∃ q',q'=tE:=⟨_,rfl⟩;obtain ⟨rs,rfl⟩:∃ q',q'=tF:=⟨_,rfl⟩;have hr:=oH;have pM:=tG;conv=>whnf
      refine aN (fun h9=>?_) (fun h9=>?_)
      ·have cX:=hq.enc.symm.trans (congrArg aH hz);rw [h9,if_pos rfl] at hw;conv=>whnf
       refine ⟨(rb,rs),rfl,by show rs.size≤_; rw [hr.size]; omega,?_⟩
       obtain ⟨V,n,hV⟩:=EI.mk' (-zr);rw [show ib.val (rb,rs)=.agg ⟨[.bool V,.string n]⟩ from by show aH (-IV.z (rb,rs))=_; rw [hr.val,hV.enc]]
       have cC:=hV.enc.symm.trans (congrArg aH hw);conv=>whnf
       refine .inr (.inl ⟨(.br 0 (.br 1 (.br 2 (.br 3 (.br 4 .leaf .leaf) .leaf) .leaf) (.br 2 (.br 1 (.br 3 (.br 4 .leaf .leaf) .leaf) .leaf) .leaf)) (.br 1 (.br 0 (.br 2 (.br 3 (.br 4 .leaf .leaf) .leaf) .leaf) .leaf) .leaf)),by kernel_rfl,?_⟩)
       repeat' ((conv=>whnf); first | exact True.intro | refine And.intro ?_ ?_)
       all_goals conv=>whnf
       all_goals exact fin _ _ cX cC
      ·have cX:=hq.enc.symm.trans (congrArg aH hz);rw [h9,if_neg (by decide)] at hw
       have cC:=hr.enc.symm.trans (congrArg aH hw);conv=>whnf
       refine .inr (.inl ⟨(.br 0 (.br 1 (.br 2 (.br 3 (.br 4 .leaf .leaf) .leaf) .leaf) (.br 2 (.br 1 (.br 3 (.br 4 .leaf .leaf) .leaf) .leaf) .leaf)) (.br 1 (.br 0 (.br 2 (.br 3 (.br 4 .leaf .leaf) .leaf) .leaf) .leaf) .leaf)),by kernel_rfl,?_⟩)
       repeat' ((conv=>whnf); first | exact True.intro | refine And.intro ?_ ?_)
       all_goals conv=>whnf
       all_goals exact fin _ _ cX cC
    ·have h5:B=D:=by
      cases B <;> cases D <;> first | rfl | cases h5
     obtain ⟨hz,hw⟩:=F8 hE hF J h5 mW mX;conv=>whnf
     refine aN (fun h9=>?_) (fun h9=>?_)
     ·have cX:=hq.enc.symm.trans (congrArg aH hz);rw [h9,if_pos rfl] at hw;conv=>whnf
      refine ⟨(false,rs),rfl,by show rs.size≤_; rw [hr.size]; omega,?_⟩
      obtain ⟨V,n,hV⟩:=EI.mk' (-zr);rw [show ib.val (false,rs)=.agg ⟨[.bool V,.string n]⟩ from by show aH (-IV.z (false,rs))=_; rw [hr.val,hV.enc]]
      have cC:=hV.enc.symm.trans (congrArg aH hw);conv=>whnf
      refine .inr (.inl ⟨(.br 0 (.br 1 (.br 2 (.br 3 (.br 4 .leaf .leaf) .leaf) .leaf) (.br 2 (.br 1 (.br 3 (.br 4 .leaf .leaf) .leaf) .leaf) .leaf)) (.br 1 (.br 0 (.br 2 (.br 3 (.br 4 .leaf .leaf) .leaf) .leaf) .leaf) .leaf)),by kernel_rfl,?_⟩)
      repeat' ((conv=>whnf); first | exact True.intro | refine And.intro ?_ ?_)
      all_goals conv=>whnf
      all_goals exact fin _ _ cX cC
     ·have cX:=hq.enc.symm.trans (congrArg aH hz);rw [h9,if_neg (by decide)] at hw
      have cC:=hr.enc.symm.trans (congrArg aH hw);conv=>whnf
      refine .inr (.inl ⟨(.br 0 (.br 1 (.br 2 (.br 3 (.br 4 .leaf .leaf) .leaf) .leaf) (.br 2 (.br 1 (.br 3 (.br 4 .leaf .leaf) .leaf) .leaf) .leaf)) (.br 1 (.br 0 (.br 2 (.br 3 (.br 4 .leaf .leaf) .leaf) .leaf) .leaf) .leaf)),by kernel_rfl,?_⟩)
      repeat' ((conv=>whnf); first | exact True.intro | refine And.intro ?_ ?_)
      all_goals conv=>whnf
      all_goals exact fin _ _ cX cC
open Go Go.Ae
def IK:List TypeId:=[24,26,121,40]
theorem abX:∀ t∈IK,∀ ti,tt t=some ti→xJ Tryz.prog t ti.zero:=by
 intro t ht ti h;simp only [IK,List.mem_cons,List.mem_nil_iff,or_false] at ht;rcases ht with rfl | rfl | rfl | rfl
 all_goals cases h; exact aea (by kernel_rfl) (by kernel_rfl)
def tH (cs:List (Nat × uO)) (fs:List (Nat × FT):=[]) (is:List (Nat × (Nat→FT→Nu→FT)):=[]) (iD:Bool:=false):Env:={ tt:=tt,eqs:=IK,iD:=iD,Φ:=qE cs,Ψ:=qE fs,It:=qE is }
theorem vw {cs:List (Nat × uO)} {fs:List (Nat × FT)} {is:List (Nat × (Nat→FT→Nu→FT))} {iD:Bool} (h:vh (Dc Tryz.prog) cs) (J:vh (gu Tryz.prog) fs):EnvOk Tryz.prog (tH cs fs is iD):=⟨vd,abX,fun _ _=>wH h,fun _ _=>wH J⟩
theorem T8:bk Tryz.prog 166 kj:=by
 refine bn lX aQ Tryz.func166 (enters_of Tryz.func166 (by kernel_rfl) rfl) (fun _=>rfl) (fun _=>rfl) ?_
 intro (s:ByteArray) hp;have hp:s.size≤7:=hp;conv=>whnf
 refine .inl ⟨fun mm tz hz=>∃ (i:Nat) (N:Nat),bC (some (.string s)::aF 2 (some (.int .i64 N)::aF 2 (some (.int .i64 s.size)::some (.int .i64 i)::aF 11 []))) tz∧hz=[]∧s.size - i=mm∧(i≤s.size∧N=ab s / C ^ (s.size - i)),.inl ⟨_,0,0,(.aa (.sk 2 (.aa (.sk 2 (.aa (.aa (.sk 11 .nil rfl))) rfl)) rfl)),rfl,rfl,?_⟩,?_⟩
 ·exact ⟨Nat.zero_le _,by rw [Nat.sub_zero,Nat.div_eq_of_lt (gE s)]⟩
 rintro mm aW _ ⟨i,N,aB,rfl,rfl,⟨hi,hN⟩⟩
 obtain ⟨az,rfl⟩:∃ az:Nat→Value,aW=.string s::zs az 1 2 (.int .i64 N::zs az 4 2 (.int .i64 s.size::.int .i64 i::zs az 8 11 [])):=bL aB;clear aB;have mV:=CL s hi;rw [← hN] at mV;have al:=Nat.lt_of_lt_of_le mV (n9 (show i≤7 by omega))
 conv=>whnf
 refine aN (fun J=>?_) (fun J=>?_)
 ·have J:i < s.size:=by simpa using J
  have aw:=yH J;rw [← hN] at aw;have hb:b9 s i < 256:=wB s i;have e3:IntKind.i64.wrap (((i:Nat):Int)+1)=((i+1:Nat):Int):=by rw [ax (by omega) (by omega)]; rfl
  have JK:=Nat.lt_of_lt_of_le mV (Dr (show i≤6 by omega))
  conv=>whnf
  refine ⟨⟨by omega,by omega⟩,?_⟩
  simp only [toNat_cast];conv=>whnf
  rw [M7 (by omega) hb,e3]
  refine .inl ⟨_,?_,i+1,N*256+b9 s i,(.aa (.sk 2 (.aa (.sk 2 (.aa (.aa (.sk 11 .nil rfl))) rfl)) rfl)),rfl,rfl,?_⟩
  ·omega
  ·exact ⟨by omega,aw.symm⟩
 ·have J:i=s.size:=by
   have J:¬ i < s.size:=by simpa using J
   omega
  subst J;rw [Nat.sub_self,Nat.pow_zero,Nat.div_one] at hN;subst hN;conv=>whnf
  rfl
theorem T9:bk Tryz.prog 178 kj:=by
 refine bn lX aQ Tryz.func178 (enters_of Tryz.func178 (by kernel_rfl) rfl) (fun _=>rfl) (fun _=>rfl) ?_
 intro (s:ByteArray) hp;have hp:s.size≤7:=hp;conv=>whnf
 refine .inl ⟨fun mm tz hz=>∃ (i:Nat) (N:Nat),bC (some (.string s)::aF 2 (some (.int .i64 N)::some (.int .i64 i)::aF 14 [])) tz∧hz=[]∧s.size - i=mm∧(i≤s.size∧N=ab s / C ^ (s.size - i)),.inl ⟨_,0,0,(.aa (.sk 2 (.aa (.aa (.sk 14 .nil rfl))) rfl)),rfl,rfl,?_⟩,?_⟩
 ·exact ⟨Nat.zero_le _,by rw [Nat.sub_zero,Nat.div_eq_of_lt (gE s)]⟩
 rintro mm aW _ ⟨i,N,aB,rfl,rfl,⟨hi,hN⟩⟩
 obtain ⟨az,rfl⟩:∃ az:Nat→Value,aW=.string s::zs az 1 2 (.int .i64 N::.int .i64 i::zs az 5 14 []):=bL aB;clear aB;have mV:=CL s hi;rw [← hN] at mV;have al:=Nat.lt_of_lt_of_le mV (n9 (show i≤7 by omega))
 conv=>whnf
 refine aN (fun J=>?_) (fun J=>?_)
 ·have J:i < s.size:=by simpa using J
  have aw:=yH J;rw [← hN] at aw;have hb:b9 s i < 256:=wB s i;have e3:IntKind.i64.wrap (((i:Nat):Int)+1)=((i+1:Nat):Int):=by rw [ax (by omega) (by omega)]; rfl
  have JK:=Nat.lt_of_lt_of_le mV (Dr (show i≤6 by omega))
  obtain ⟨b,Rv⟩:∃ b,b=b9 s i:=⟨_,rfl⟩;rw [← Rv] at hb aw;have ev:IntKind.i64.wrap (IntKind.i64.wrap (256*(N:Int))+IntKind.i64.wrap (b:Int))=((N*256+b:Nat):Int):=by
   rw [ax (x:=256*(N:Int)) (by omega) (by omega),ax (x:=(b:Int)) (by omega) (by omega),ax (by omega) (by omega)]; omega
  conv=>whnf
  refine ⟨⟨by omega,by omega⟩,?_⟩
  simp only [toNat_cast];conv=>whnf
  rw [← Rv,ev,e3];refine .inl ⟨_,?_,i+1,N*256+b,(.aa (.sk 2 (.aa (.aa (.sk 14 .nil rfl))) rfl)),rfl,rfl,?_⟩
  ·omega
  ·exact ⟨by omega,aw.symm⟩
 ·have J:i=s.size:=by
   have J:¬ i < s.size:=by simpa using J
   omega
  subst J;rw [Nat.sub_self,Nat.pow_zero,Nat.div_one] at hN;subst hN;conv=>whnf
  rfl
def Ema:Env:=En [(166,.p kj),(178,.p kj)]
theorem PA:EnvOk Tryz.prog Ema:=bK ⟨T8,T9,trivial⟩ trivial
theorem Zz:bk Tryz.prog 138 bG:=by
 refine bn PA aQ Tryz.func138 (enters_of Tryz.func138 (by kernel_rfl) rfl) (fun _=>rfl) (fun _=>rfl) ?_
 intro ⟨b,s,t⟩ _;have od:¬ RV.gh (b,s,t)→Value.tuple ⟨[.int .i64 0,.int .i64 0,.bool false]⟩=bG.val (b,s,t):=fun h=>by
  simp only [bG,if_neg h,decide_eq_false h]
 have mP:RV.gh (b,s,t)→∀ x y:Int,x=RV.n (b,s,t)→y=(RV.d (b,s,t):Int)→Value.tuple ⟨[.int .i64 x,.int .i64 y,.bool true]⟩=bG.val (b,s,t):=fun h x y hx hy=>by
  simp only [bG,if_pos h,decide_eq_true h,hx,hy]
 conv=>whnf
 by_cases h1:s.size≤3
 ·rw [show decide (((s.size:Nat):Int) > 3)=false from decide_eq_false (by omega)]
  conv=>whnf
  by_cases J:t.size≤3
  ·rw [show decide (((t.size:Nat):Int) > 3)=false from decide_eq_false (by omega)]
   have ht:RV.gh (b,s,t):=⟨h1,J⟩;obtain ⟨N,hN⟩:∃ N,N=ab s:=⟨_,rfl⟩;obtain ⟨D,hD⟩:∃ D,D=ab t:=⟨_,rfl⟩;have hn:=RV.Hf ht;have hd:=RV.Hg ht;conv=>whnf
   refine .inl ⟨5,[[],[0],[0,1],[],[3],[0,1,2,3,4],[0,1,2,3,4,5],[0,1,2,3,4,5,6]],by kernel_rfl,?_⟩
   conv=>whnf
   refine ⟨s,rfl,by show s.size≤7; omega,?_⟩
   rw [show kj.val s=.int .i64 N from by rw [hN]; rfl]
   conv=>whnf
   refine ⟨t,rfl,by show t.size≤7; omega,?_⟩
   rw [show kj.val t=.int .i64 D from by rw [hD]; rfl]
   conv=>whnf
   have bU:(RV.d (b,s,t):Int)=if D=0 then 1 else D:=by
    show (((if ab t=0 then 1 else ab t):Nat):Int)=_
    rw [← hD]
   refine aN (fun h3=>?_) (fun h3=>?_)
   ·have bR:RV.n (b,s,t)=-(N:Int):=by
     have h3:b=true:=h3;show a9 b (ab s)=_
     rw [h3,← hN]; rfl
    have en:IntKind.i64.wrap (0 - (N:Int))=-(N:Int):=by rw [ax (by omega) (by omega)]; omega
    conv=>whnf
    exact mP ht _ _ (by rw [bR]; exact en) (by rw [bU]; split <;> split <;> omega)
   ·have bR:RV.n (b,s,t)=(N:Int):=by
     have h3:b=false:=h3;show a9 b (ab s)=_
     rw [h3,← hN]; rfl
    conv=>whnf
    exact mP ht _ _ (by rw [bR]) (by rw [bU]; split <;> split <;> omega)
  ·rw [show decide (((t.size:Nat):Int) > 3)=true from decide_eq_true (by omega)]
   conv=>whnf
   exact od (fun h=>J h.2)
 ·rw [show decide (((s.size:Nat):Int) > 3)=true from decide_eq_true (by omega)]
  conv=>whnf
  exact od (fun h=>h1 h.1)
theorem WT:bk Tryz.prog 158 bG:=by
 refine bn PA aQ Tryz.func158 (enters_of Tryz.func158 (by kernel_rfl) rfl) (fun _=>rfl) (fun _=>rfl) ?_
 intro ⟨b,s,t⟩ _;have od:¬ RV.gh (b,s,t)→Value.tuple ⟨[.int .i64 0,.int .i64 0,.bool false]⟩=bG.val (b,s,t):=fun h=>by
  simp only [bG,if_neg h,decide_eq_false h]
 have mP:RV.gh (b,s,t)→∀ x y:Int,x=RV.n (b,s,t)→y=(RV.d (b,s,t):Int)→Value.tuple ⟨[.int .i64 x,.int .i64 y,.bool true]⟩=bG.val (b,s,t):=fun h x y hx hy=>by
  simp only [bG,if_pos h,decide_eq_true h,hx,hy]
 conv=>whnf
 by_cases h1:s.size≤3
 ·rw [show decide (((s.size:Nat):Int) > 3)=false from decide_eq_false (by omega)]
  conv=>whnf
  by_cases J:t.size≤3
  ·rw [show decide (((t.size:Nat):Int) > 3)=false from decide_eq_false (by omega)]
   have ht:RV.gh (b,s,t):=⟨h1,J⟩;obtain ⟨N,hN⟩:∃ N,N=ab s:=⟨_,rfl⟩;obtain ⟨D,hD⟩:∃ D,D=ab t:=⟨_,rfl⟩;have hn:=RV.Hf ht;have hd:=RV.Hg ht;conv=>whnf
   refine .inl ⟨5,[[],[0],[0,1],[],[3],[0,1,2,3,4],[0,1,2,3,4,5],[0,1,2,3,4,5,6]],by kernel_rfl,?_⟩
   conv=>whnf
   refine ⟨s,rfl,by show s.size≤7; omega,?_⟩
   rw [show kj.val s=.int .i64 N from by rw [hN]; rfl]
   conv=>whnf
   refine ⟨t,rfl,by show t.size≤7; omega,?_⟩
   rw [show kj.val t=.int .i64 D from by rw [hD]; rfl]
   conv=>whnf
   have bU:(RV.d (b,s,t):Int)=if D=0 then 1 else D:=by
    show (((if ab t=0 then 1 else ab t):Nat):Int)=_
    rw [← hD]
   refine aN (fun h4=>?_) (fun h4=>?_)
   ·have h4:D=0:=by
     have h4:((D:Nat):Int)=0:=by simpa using h4
     omega
    rw [if_pos h4] at bU;conv=>whnf
    refine aN (fun h3=>?_) (fun h3=>?_)
    ·have bR:RV.n (b,s,t)=-(N:Int):=by
      have h3:b=true:=h3;show a9 b (ab s)=_
      rw [h3,← hN]; rfl
     have en:IntKind.i64.wrap (0 - (N:Int))=-(N:Int):=by rw [ax (by omega) (by omega)]; omega
     conv=>whnf
     exact mP ht _ _ (by rw [bR]; exact en) (by rw [bU]; first | done | rfl)
    ·have bR:RV.n (b,s,t)=(N:Int):=by
      have h3:b=false:=h3;show a9 b (ab s)=_
      rw [h3,← hN]; rfl
     conv=>whnf
     exact mP ht _ _ (by rw [bR]) (by rw [bU]; first | done | rfl)
   ·have h4:D≠0:=by
     intro e;subst e;simp at h4
    rw [if_neg h4] at bU;conv=>whnf
    refine aN (fun h3=>?_) (fun h3=>?_)
    ·have bR:RV.n (b,s,t)=-(N:Int):=by
      have h3:b=true:=h3;show a9 b (ab s)=_
      rw [h3,← hN]; rfl
     have en:IntKind.i64.wrap (0 - (N:Int))=-(N:Int):=by rw [ax (by omega) (by omega)]; omega
     conv=>whnf
     exact mP ht _ _ (by rw [bR]; exact en) (by rw [bU]; first | done | rfl)
    ·have bR:RV.n (b,s,t)=(N:Int):=by
      have h3:b=false:=h3;show a9 b (ab s)=_
      rw [h3,← hN]; rfl
     conv=>whnf
     exact mP ht _ _ (by rw [bR]) (by rw [bU]; first | done | rfl)
  ·rw [show decide (((t.size:Nat):Int) > 3)=true from decide_eq_true (by omega)]
   conv=>whnf
   exact od (fun h=>J h.2)
 ·rw [show decide (((s.size:Nat):Int) > 3)=true from decide_eq_true (by omega)]
  conv=>whnf
  exact od (fun h=>h1 h.1)
open Go Go.Ae
theorem ZA:bk Tryz.prog 140 sI:=by
 refine bn lX aQ Tryz.func140 (enters_of Tryz.func140 (by kernel_rfl) rfl) (fun _=>rfl) (fun _=>rfl) ?_
 intro (n:Nat) hp;have hp:n < 72057594037927936:=hp;conv=>whnf
 refine .inl ⟨fun mm tz hz=>∃ (i:Nat) (m:Nat) (g:Nat→List Value),bC (some (.int .i64 m)::aF 2 (some (.pointer (some ⟨0,0,none⟩))::some (.int .i64 i)::aF 13 [])) tz∧hz=[some (.flat true 8 1 g)]∧m=mm∧((i≤8∧m=n / C ^ (8 - i))∧(i=8∨C ^ (8 - i - 1)≤n)∧(∀ r,i≤r→r < 8→g r=[.int .u8 ((n / C ^ (7 - r) % C:Nat):Int)])∧(∀ r,r < 8→∃ x:Int,g r=[.int .u8 x])),.inl ⟨_,8,n,_,(.aa (.sk 2 (.aa (.aa (.sk 13 .nil rfl))) rfl)),rfl,rfl,?_⟩,?_⟩
 ·exact ⟨⟨Nat.le_refl _,by simp⟩,.inl rfl,fun r h1 J=>absurd h1 (by omega),fun r hr=>⟨0,rfl⟩⟩
 rintro mm aW _ ⟨i,m,g,aB,rfl,rfl,⟨⟨hi,hm⟩,ho,hg,cZ⟩⟩
 obtain ⟨az,rfl⟩:∃ az:Nat→Value,aW=.int .i64 m::zs az 1 2 (.pointer (some ⟨0,0,none⟩)::.int .i64 i::zs az 5 13 []):=bL aB;clear aB;conv=>whnf
 refine aN (fun J=>?_) (fun J=>?_)
 ·have J:0 < m:=by
   have:=of_decide_eq_true J;omega
  have gk:0 < i:=by
   rcases Nat.eq_zero_or_pos i with h | h
   ·subst h;rw [hm] at J;rw [Qd (by omega)] at J
    exact absurd J (by decide)
   ·exact h
  obtain ⟨i,rfl⟩:∃ i',i=i'+1:=⟨i - 1,by omega⟩
  have ei:IntKind.i64.wrap (((i+1:Nat):Int) - 1)=((i:Nat):Int):=by rw [ax (by omega) (by omega)]; omega
  have eI:m / 256=n / C ^ (8 - i):=by
   rw [hm,EJ,show 8 - (i+1)+1=8 - i by omega]
  have IJ:C ^ (8 - (i+1))≤n:=by
   rcases Nat.lt_or_ge n (C ^ (8 - (i+1))) with h | h
   ·rw [hm,Nat.div_eq_of_lt h] at J;exact absurd J (by decide)
   ·exact h
  conv=>whnf
  simp only [ei];refine ⟨⟨by omega,by omega⟩,?_⟩
  simp only [toNat_cast,aA,Nat.zero_add];conv=>whnf
  refine ⟨by show i < 8; omega,?_⟩
  conv=>whnf
  obtain ⟨x,hx⟩:=cZ i (by omega)
  rw [hx];conv=>whnf
  rw [qA,c9,show ((m:Nat):Int) / 256=((m / 256:Nat):Int) from rfl]
  refine .inl ⟨_,?_,i,m / 256,_,(.aa (.sk 2 (.aa (.aa (.sk 13 .nil rfl))) rfl)),rfl,rfl,?_⟩
  ·omega
  ·refine ⟨⟨by omega,eI⟩,.inr (by rw [show 8 - i - 1=8 - (i+1) by omega]; exact IJ),fun r iJ fi=>?_,fun r hr=>?_⟩
   rotate_left
   ·by_cases he:r=i
    ·exact ⟨_,if_pos he⟩
    ·rw [if_neg he]; exact cZ r hr
   by_cases he:r=i
   ·subst he;rw [if_pos rfl,hm,show 7 - r=8 - (r+1) by omega]
   ·rw [if_neg he];exact hg r (by omega) fi
 ·have J:m=0:=by
   have:=of_decide_eq_false J;omega
  have al:n < C ^ (8 - i):=by
   rw [J] at hm;have h3:=Nat.mod_lt n (ia (8 - i));have h4:=Nat.mod_add_div n (C ^ (8 - i));rw [← hm,Nat.mul_zero,Nat.add_zero] at h4;rw [← h4]; exact h3
  rcases Nat.eq_zero_or_pos (8 - i) with hz | hz
  ·have h0:n=0:=by
    rw [hz,Nat.pow_zero] at al; omega
   obtain rfl:i=8:=by omega
   subst h0;conv=>whnf
   refine ⟨⟨by omega,by omega,Int.le_refl _,Nat.le_refl _,rfl⟩,?_⟩
   conv=>whnf
   show Value.string ⟨#[]⟩=Value.string (nb 0)
   rw [p8]
  ·obtain ⟨k,hk⟩:∃ k,8 - i=k+1:=⟨8 - i - 1,by omega⟩
   rw [hk] at al;have ho:C ^ k≤n:=by
    rcases ho with h | h
    ·omega
    ·rw [show 8 - i - 1=k by omega] at h; exact h
   have e:=EH (g:=g) (i:=i) (m:=k+1) (X:=n) (fun r hr=>by
    rw [hg (i+r) (by omega) (by omega),show 7 - (i+r)=k+1 - 1 - r by omega])
   conv=>whnf
   refine ⟨⟨by omega,by omega,Int.le_refl _,Nat.le_refl _,rfl⟩,?_⟩
   simp only [toNat_cast,aA,Nat.zero_add,hk];conv=>whnf
   refine ⟨⟨by show i+(k+1)≤8; omega,fun r hr=>cZ (i+r) (by omega)⟩,?_⟩
   conv=>whnf
   show Value.string ⟨⟨bytesOf g i (k+1)⟩⟩=Value.string (nb n)
   rw [e,xz al (.inr ho)]
theorem Ua:bk Tryz.prog 188 sI:=by
 refine bn lX aQ Tryz.func188 (enters_of Tryz.func188 (by kernel_rfl) rfl) (fun _=>rfl) (fun _=>rfl) ?_
 intro (n:Nat) hp;have hp:n < 72057594037927936:=hp;conv=>whnf
 refine .inl ⟨fun mm tz hz=>∃ (e:Nat) (k:Int) (out:Value) (hp:ay),bC (some (.int .i64 n)::aF 2 (some (out)::some (.int .i64 k)::aF 25 [])) tz∧hz=hp∧e=mm∧((e≤7∧k=8*(e:Int) - 8)∧((out=.slice none 0 0∧hp=[]∧n / C ^ e=0)∨(∃ m g,out=.slice (some ⟨0,0,none⟩) m aO∧hp=[some (.flat true m 1 g)]∧(1≤m∧m≤7 - e)∧n / C ^ e < C ^ m∧C ^ (m - 1)≤n / C ^ e∧∀ r,r < m→g r=[.int .u8 ((n / C ^ e / C ^ (m - 1 - r) % C:Nat):Int)]))),.inl ⟨_,7,48,.slice none 0 0,[],(.aa (.sk 2 (.aa (.aa (.sk 25 .nil rfl))) rfl)),rfl,rfl,?_⟩,?_⟩
 ·exact ⟨⟨Nat.le_refl _,rfl⟩,.inl ⟨rfl,rfl,acG hp⟩⟩
 rintro mm aW _ ⟨e,k,out,hp,aB,rfl,rfl,⟨⟨he,hk⟩,h⟩⟩
 obtain ⟨az,rfl⟩:∃ az:Nat→Value,aW=.int .i64 n::zs az 1 2 (out::.int .i64 k::zs az 5 25 []):=bL aB;clear aB;rcases h with ⟨rfl,rfl,hz⟩ | ⟨m,g,rfl,rfl,hm,pD,gy,hg⟩
 ·conv=>whnf
  refine aN (fun h1=>?_) (fun h1=>?_)
  ·have h1:=of_decide_eq_true h1;obtain ⟨e,rfl⟩:∃ e',e=e'+1:=⟨e - 1,by omega⟩
   have oF:=Qg (n:=n) k (e:=e) (by omega) (by omega)
   obtain ⟨P,hP⟩:∃ P,P=n / C ^ e:=⟨_,rfl⟩;rw [← hP] at oF;obtain ⟨D,hD⟩:∃ D,D=P % 256:=⟨_,rfl⟩;have ed:Int.tmod ((P:Nat):Int) 256=((D:Nat):Int):=by rw [hD]; rfl
   have rF:=KZ n e;rw [hz,← hP,← hD] at rF;have jD:IntKind.i64.wrap (k - 8)=8*(e:Int) - 8:=by rw [ax (by omega) (by omega)]; omega
   conv=>whnf
   rw [show decide (0≤k)=true from decide_eq_true (by omega)]
   conv=>whnf
   rw [oF,ed];by_cases J:0 < D
   ·rw [show decide (((D:Nat):Int) > 0)=true from decide_eq_true (by omega)]
    conv=>whnf
    rw [show decide (0≤k)=true from decide_eq_true (by omega)]
    conv=>whnf
    rw [oF,uZ (show P < 256 by omega)]
    refine ⟨by decide,?_⟩
    conv=>whnf
    rw [jD];refine .inr ⟨[1],[0,3,4],?_⟩;conv=>whnf
    intro _;conv=>whnf
    refine ⟨_,?_,e,8*(e:Int) - 8,.slice (some ⟨0,0,none⟩) 1 aO,[some (.flat true 1 1 _)],(.aa (.sk 2 (.aa (.aa (.sk 25 .nil rfl))) rfl)),rfl,rfl,?_⟩
    ·omega
    ·refine ⟨⟨by omega,rfl⟩,.inr ⟨1,_,rfl,rfl,⟨Nat.le_refl _,by omega⟩,by rw [← hP]; show P < 256; omega,by rw [← hP]; show 1≤P; omega,fun r hr=>?_⟩⟩
     have h0:r=0:=by omega
     subst h0;rw [← hP];have:P / C ^ (1 - 1 - 0) % C=P:=by
      show P / 1 % 256=P
      omega
     rw [this]
     rfl
   ·rw [show decide (((D:Nat):Int) > 0)=false from decide_eq_false (by omega)]
    conv=>whnf
    rw [jD];refine .inl ⟨_,?_,e,8*(e:Int) - 8,.slice none 0 0,[],(.aa (.sk 2 (.aa (.aa (.sk 25 .nil rfl))) rfl)),rfl,rfl,?_⟩
    ·omega
    ·exact ⟨⟨by omega,rfl⟩,.inl ⟨rfl,rfl,by rw [← hP]; omega⟩⟩
  ·have h1:=of_decide_eq_false h1;obtain rfl:e=0:=by omega
   have bO:n=0:=by simpa using hz
   subst bO;conv=>whnf
   show Value.string ⟨#[]⟩=Value.string (nb 0)
   rw [p8]
 ·conv=>whnf
  refine aN (fun h1=>?_) (fun h1=>?_)
  ·have h1:=of_decide_eq_true h1;obtain ⟨e,rfl⟩:∃ e',e=e'+1:=⟨e - 1,by omega⟩
   have oF:=Qg (n:=n) k (e:=e) (by omega) (by omega)
   obtain ⟨P,hP⟩:∃ P,P=n / C ^ e:=⟨_,rfl⟩;obtain ⟨Q,hQ⟩:∃ Q,Q=n / C ^ (e+1):=⟨_,rfl⟩;rw [← hP] at oF;obtain ⟨D,hD⟩:∃ D,D=P % 256:=⟨_,rfl⟩;have ed:Int.tmod ((P:Nat):Int) 256=((D:Nat):Int):=by rw [hD]; rfl
   have k9:D < 256:=by omega
   have rF:=KZ n e;rw [← hP,← hD,← hQ] at rF;rw [← hQ] at pD gy hg;have g1:=Xq pD k9;have g2:=Xr (d:=D) gy hm.1;rw [← rF] at g1 g2;have jD:IntKind.i64.wrap (k - 8)=8*(e:Int) - 8:=by rw [ax (by omega) (by omega)]; omega
   conv=>whnf
   rw [show decide (0≤k)=true from decide_eq_true (by omega)]
   conv=>whnf
   rw [oF,ed];by_cases J:0 < D
   ·rw [show decide (((D:Nat):Int) > 0)=true from decide_eq_true (by omega)]
    conv=>whnf
    rw [show decide (0≤k)=true from decide_eq_true (by omega)]
    conv=>whnf
    rw [oF,qA];refine ⟨⟨by decide,rfl,?_⟩,?_⟩
    ·show (m+1)*1≤_
     omega
    conv=>whnf
    refine ⟨[0,4],?_⟩;conv=>whnf
    intro _;conv=>whnf
    rw [jD];refine .inr ⟨[0],[0,3,4],?_⟩;conv=>whnf
    intro _;conv=>whnf
    refine ⟨_,?_,e,8*(e:Int) - 8,.slice (some ⟨0,0,none⟩) (m+1) aO,[some (.flat true (m+1) 1 _)],(.aa (.sk 2 (.aa (.aa (.sk 25 .nil rfl))) rfl)),rfl,rfl,?_⟩
    ·omega
    ·refine ⟨⟨by omega,rfl⟩,.inr ⟨m+1,_,rfl,rfl,⟨by omega,by omega⟩,by rw [← hP]; exact g1,by rw [← hP]; exact g2,fun r hr=>?_⟩⟩
     rw [← hP];exact Mu rF k9 hg r hr
   ·rw [show decide (((D:Nat):Int) > 0)=false from decide_eq_false (by omega)]
    conv=>whnf
    refine m7 ?_ ?_
    ·exact decide_eq_true (by omega)
    conv=>whnf
    rw [show decide (0≤k)=true from decide_eq_true (by omega)]
    conv=>whnf
    rw [oF,qA];refine ⟨⟨by decide,rfl,?_⟩,?_⟩
    ·show (m+1)*1≤_
     omega
    conv=>whnf
    refine ⟨[0,4],?_⟩;conv=>whnf
    intro _;conv=>whnf
    rw [jD];refine .inr ⟨[0],[0,3,4],?_⟩;conv=>whnf
    intro _;conv=>whnf
    refine ⟨_,?_,e,8*(e:Int) - 8,.slice (some ⟨0,0,none⟩) (m+1) aO,[some (.flat true (m+1) 1 _)],(.aa (.sk 2 (.aa (.aa (.sk 25 .nil rfl))) rfl)),rfl,rfl,?_⟩
    ·omega
    ·refine ⟨⟨by omega,rfl⟩,.inr ⟨m+1,_,rfl,rfl,⟨by omega,by omega⟩,by rw [← hP]; exact g1,by rw [← hP]; exact g2,fun r hr=>?_⟩⟩
     rw [← hP];exact Mu rF k9 hg r hr
  ·have h1:=of_decide_eq_false h1;obtain rfl:e=0:=by omega
   rw [Nat.pow_zero,Nat.div_one] at pD gy hg;obtain ⟨m,rfl⟩:∃ m',m=m'+1:=⟨m - 1,by omega⟩
   have hs:=wk hg;conv=>whnf
   refine ⟨⟨by show 0+(m+1)≤m+1; omega,fun r hr=>⟨_,by show g (0+r)=_; rw [Nat.zero_add]; exact hg r hr⟩⟩,?_⟩
   rw [show (ai.flat true (m+1) 1 g).row=g from rfl,hs]
   conv=>whnf
   show Value.string (be (m+1) n)=Value.string (nb n)
   rw [xz pD (.inr (by rw [show m+1 - 1=m by omega] at gy; exact gy))]
end Go.Proofs.YtlapbjdhekcipaaGreat
