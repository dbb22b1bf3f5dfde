import Derived.Test.YtlapbjdhekcipaaGreatMH
set_option linter.unusedVariables false
set_option linter.unusedSimpArgs false
set_option maxRecDepth 20000
set_option maxHeartbeats 1000000
namespace Go.Proofs.YtlapbjdhekcipaaGreat
open Go Go.Ae
def Emc:Env:=En [(140,.p sf),(188,.p sf)]
theorem O5:EnvOk Tryz.prog Emc:=bH ⟨Y6,TH,trivial⟩ trivial
theorem Wq:bh Tryz.prog 95 nG:=by
 refine bk O5 aP Tryz.func95 (enters_of Tryz.func95 (by kernel_rfl) rfl) (fun _=>rfl) (fun _=>rfl) ?_
 intro ⟨n,d⟩ hp;have hp:n.natAbs < 72057594037927936∧d≠0∧d < 72057594037927936:=hp;obtain ⟨g,hg⟩:∃ g,g=Int.gcd n d:=⟨_,rfl⟩;obtain ⟨fZ,bS,nw⟩:=AR hp.2.1 hg;have hgd:g≤d:=by
  have h3:=Nat.div_le_self d g;rcases Nat.lt_or_ge d g with h | h
  ·rw [Nat.div_eq_of_lt h] at bS; omega
  ·exact h
 have fin:∀ v:Value,v=bK (mkRat n d)→v=nG.val (n,d):=fun v h=>h
 conv=>whnf
 refine .inl ⟨fun mm tz hz=>∃ (a:Int) (b:Int),bB (some (.int .i64 n)::some (.int .i64 d)::aG 2 (some (.pointer (some ⟨0,0,none⟩))::some (.int .i64 a)::some (.int .i64 b)::aG 36 [])) tz∧hz=[some (.aS true 3 [[.bool false,.string ⟨#[]⟩,.string ⟨#[]⟩]])]∧b.natAbs=mm∧(((-72057594037927936 < a∧a < 72057594037927936)∧-72057594037927936 < b∧b < 72057594037927936)∧Int.gcd a b=g),.inr ⟨[0],[0,1,4,5,6],?_⟩,?_⟩
 ·conv=>whnf
  intro _;conv=>whnf
  refine ⟨_,n,d,(.aa (.aa (.sk 2 (.aa (.aa (.aa (.sk 36 .nil rfl)))) rfl))),rfl,rfl,?_⟩;exact ⟨⟨⟨by omega,by omega⟩,by omega,by omega⟩,hg.symm⟩
 rintro mm aW _ ⟨a,b,aC,rfl,rfl,⟨dI,he⟩⟩
 obtain ⟨az,rfl⟩:∃ az:Nat→Value,aW=.int .i64 n::.int .i64 d::zs az 2 2 (.pointer (some ⟨0,0,none⟩)::.int .i64 a::.int .i64 b::zs az 7 36 []):=bI aC;clear aC;conv=>whnf
 refine aN (fun h1=>?_) (fun h1=>?_)
 ·have h1:b≠0:=by
   intro e;subst e;simp at h1
  have al:(Int.tmod a b).natAbs < b.natAbs:=by
   rw [Int.natAbs_tmod]; exact Nat.mod_lt _ (by omega)
  obtain ⟨r,hr⟩:∃ r,r=Int.tmod a b:=⟨_,rfl⟩;rw [← hr] at al;conv=>whnf
  refine .inl ⟨5,[[],[],[],[1,2],[0,1],[0,1,2,3,4]],by kernel_rfl,?_⟩
  conv=>whnf
  rw [show decide (b≠0)=true from decide_eq_true h1]
  conv=>whnf
  rw [← hr];refine .inr ⟨[0],[0,1,4,5,6],?_⟩;conv=>whnf
  intro _;conv=>whnf
  refine ⟨_,?_,b,r,(.aa (.aa (.sk 2 (.aa (.aa (.aa (.sk 36 .nil rfl)))) rfl))),rfl,rfl,?_⟩
  ·exact al
  ·exact ⟨⟨dI.2,by omega,by omega⟩,by rw [hr,VC]; exact he⟩
 ·have h1:b=0:=by simpa using h1
  subst h1;have he:a.natAbs=g:=by rw [← he,Int.gcd_zero_right]
  have em:=NB a dI.1;rw [he] at em;have en:=NB n (by omega)
  obtain ⟨N,hN⟩:∃ N,N=n.natAbs:=⟨_,rfl⟩;rw [← hN] at en;conv=>whnf
  rw [em];by_cases J:n=0
  ·subst J;conv=>whnf
   exact fin _ (yk d).symm
  ·refine aN (fun h=>absurd (by simpa using h) J) (fun _=>?_)
   have eq:=Gu J hp.2.1 hg;rw [← hN] at eq;have ed:=Bp (a:=N) (g:=g) (by omega)
   have km:=Bp (a:=d) (g:=g) hp.2.2;obtain ⟨x,hx⟩:∃ x,x=nb (N / g):=⟨_,rfl⟩;obtain ⟨y,hy⟩:∃ y,y=nb (d / g):=⟨_,rfl⟩;have ex:sf.val (N / g)=.string x:=by rw [hx]; rfl
   have ey:sf.val (d / g)=.string y:=by rw [hy]; rfl
   rw [← hx] at eq;conv=>whnf
   rw [en,show decide (((g:Nat):Int)≠0)=true from decide_eq_true (by omega)]
   conv=>whnf
   rw [ed];refine ⟨N / g,rfl,by show N / g < _; exact Nat.lt_of_le_of_lt (Nat.div_le_self _ _) (by omega),?_⟩
   rw [ex];conv=>whnf
   refine aN (fun h3=>?_) (fun h3=>?_)
   ·have h3:d≠g:=by
     intro e;rw [e] at h3;simp at h3
    have e4:fy (d / g)=y:=by
     rw [hy]; unfold fy; rw [if_neg (fun h=>h3 (fZ.1 h))]
    rw [e4] at eq;conv=>whnf
    rw [show decide (((g:Nat):Int)≠0)=true from decide_eq_true (by omega)]
    conv=>whnf
    rw [km];refine ⟨d / g,rfl,by show d / g < _; exact Nat.lt_of_le_of_lt (Nat.div_le_self _ _) hp.2.2,?_⟩
    rw [ey];conv=>whnf
    exact fin _ eq.symm
   ·have h3:d=g:=by
     have:((d:Nat):Int)=g:=by simpa using h3
     omega
    have e4:fy (d / g)=⟨#[]⟩:=by unfold fy; rw [if_pos (fZ.2 h3)]
    rw [e4] at eq;conv=>whnf
    exact fin _ eq.symm
theorem Wr:bh Tryz.prog 172 nG:=by
 refine bk O5 aP Tryz.func172 (enters_of Tryz.func172 (by kernel_rfl) rfl) (fun _=>rfl) (fun _=>rfl) ?_
 intro ⟨n,d⟩ hp;have hp:n.natAbs < 72057594037927936∧d≠0∧d < 72057594037927936:=hp;obtain ⟨g,hg⟩:∃ g,g=Int.gcd n d:=⟨_,rfl⟩;obtain ⟨fZ,bS,nw⟩:=AR hp.2.1 hg;have fin:∀ v:Value,v=bK (mkRat n d)→v=nG.val (n,d):=fun v h=>h
 obtain ⟨N,hN⟩:∃ N,N=n.natAbs:=⟨_,rfl⟩;obtain ⟨B,hB⟩:∃ B,B=decide (n < 0):=⟨_,rfl⟩;have ed:=Bp (a:=N) (g:=g) (by omega)
 have km:=Bp (a:=d) (g:=g) hp.2.2;obtain ⟨x,hx⟩:∃ x,x=nb (N / g):=⟨_,rfl⟩;obtain ⟨y,hy⟩:∃ y,y=nb (d / g):=⟨_,rfl⟩;have ex:sf.val (N / g)=.string x:=by rw [hx]; rfl
 have ey:sf.val (d / g)=.string y:=by rw [hy]; rfl
 conv=>whnf
 refine aN (fun h1=>?_) (fun h1=>?_)
 ·have fc:=of_decide_eq_true h1;have fc:n < 0:=fc;have e0:IntKind.i64.wrap (0 - n)=(N:Int):=by rw [ay (by omega) (by omega)]; omega
  have J:n≠0:=by omega
  have eq:=Gu J hp.2.1 hg;rw [← hN,← hx,← hB] at eq;conv=>whnf
  rw [show decide ((n,d).fst < 0)=B from hB.symm]
  rw [show IntKind.i64.wrap (0 - (n,d).fst)=(N:Int) from e0]
  refine aN (fun h=>absurd (by simpa using h) (show N≠0 by omega)) (fun _=>?_)
  conv=>whnf
  refine .inl ⟨fun mm tz hz=>∃ (a:Nat) (b:Nat),bB (some (.int .i64 N)::some (.int .i64 d)::aG 2 (some (.pointer (some ⟨0,0,none⟩))::some (.pointer (some ⟨1,0,none⟩))::some (.int .i64 a)::some (.int .i64 b)::aG 33 [])) tz∧hz=[some (.aS true 3 [[.bool false,.string ⟨#[]⟩,.string ⟨#[]⟩]]),some (.aS true 3 [[.bool B,.string ⟨#[]⟩,.string ⟨#[]⟩]])]∧b=mm∧((a < 72057594037927936∧b < 72057594037927936)∧Nat.gcd a b=g),.inr ⟨[0,1],[0,1,4,5,6,7],?_⟩,?_⟩
  ·conv=>whnf
   intro _;conv=>whnf
   refine ⟨_,N,d,(.aa (.aa (.sk 2 (.aa (.aa (.aa (.aa (.sk 33 .nil rfl))))) rfl))),rfl,rfl,?_⟩;exact ⟨⟨by omega,by omega⟩,by rw [hg,hN]; rfl⟩
  rintro mm aW _ ⟨a,b,aC,rfl,rfl,⟨dI,he⟩⟩
  obtain ⟨az,rfl⟩:∃ az:Nat→Value,aW=.int .i64 N::.int .i64 d::zs az 2 2 (.pointer (some ⟨0,0,none⟩)::.pointer (some ⟨1,0,none⟩)::.int .i64 a::.int .i64 b::zs az 8 33 []):=bI aC;clear aC;conv=>whnf
  refine aN (fun h1=>?_) (fun h1=>?_)
  ·have h1:0 < b:=by
    have:=of_decide_eq_true h1;omega
   have al:=Nat.mod_lt a h1;conv=>whnf
   refine .inl ⟨5,[[],[],[],[1,2],[0,1],[0,1,2,3,4]],by kernel_rfl,?_⟩
   conv=>whnf
   rw [show decide (((b:Nat):Int)≠0)=true from decide_eq_true (by omega)]
   conv=>whnf
   rw [show Int.tmod ((a:Nat):Int) ((b:Nat):Int)=((a % b:Nat):Int) from rfl]
   refine .inr ⟨[0,1],[0,1,4,5,6,7],?_⟩;conv=>whnf
   intro _;conv=>whnf
   refine ⟨_,?_,b,a % b,(.aa (.aa (.sk 2 (.aa (.aa (.aa (.aa (.sk 33 .nil rfl))))) rfl))),rfl,rfl,?_⟩
   ·exact al
   ·exact ⟨⟨dI.2,by omega⟩,by rw [Nat.gcd_comm,← Nat.gcd_rec,Nat.gcd_comm]; exact he⟩
  ·have h1:b=0:=by
    have:=of_decide_eq_false h1;omega
   subst h1;obtain rfl:a=g:=by rw [← he,Nat.gcd_zero_right]
   conv=>whnf
   rw [show decide (((a:Nat):Int)≠0)=true from decide_eq_true (by omega)]
   conv=>whnf
   rw [ed];refine ⟨N / a,rfl,by show N / a < _; exact Nat.lt_of_le_of_lt (Nat.div_le_self _ _) (by omega),?_⟩
   rw [ex];conv=>whnf
   rw [show decide (((a:Nat):Int)≠0)=true from decide_eq_true (by omega)]
   obtain ⟨q,hq⟩:∃ q,q=d / a:=⟨_,rfl⟩;rw [← hq] at km ey eq fZ bS hy;conv=>whnf
   rw [km];refine aN (fun h3=>?_) (fun h3=>?_)
   ·have h3:q≠1:=by
     have:=of_decide_eq_true h3;omega
    have e4:fy q=y:=by
     rw [hy]; unfold fy; rw [if_neg h3]
    rw [e4] at eq;conv=>whnf
    rw [show decide (((a:Nat):Int)≠0)=true from decide_eq_true (by omega)]
    conv=>whnf
    rw [km];refine ⟨q,rfl,by show q < _; rw [hq]; exact Nat.lt_of_le_of_lt (Nat.div_le_self _ _) hp.2.2,?_⟩
    rw [ey];conv=>whnf
    exact fin _ eq.symm
   ·have h3:q=1:=by
     have:=of_decide_eq_false h3;omega
    have e4:fy q=⟨#[]⟩:=by unfold fy; rw [if_pos h3]
    rw [e4] at eq;conv=>whnf
    exact fin _ eq.symm
 ·have fc:=of_decide_eq_false h1;have fc:¬ n < 0:=fc;have e0:n=(N:Int):=by omega
  by_cases J:n=0
  ·subst J;conv=>whnf
   exact fin _ (yk d).symm
  ·have eq:=Gu J hp.2.1 hg;rw [← hN,← hx,← hB] at eq;conv=>whnf
   rw [show decide ((n,d).fst < 0)=B from hB.symm]
   refine aN (fun h=>absurd (by simpa using h) J) (fun _=>?_)
   conv=>whnf
   rw [show (n,d).fst=(N:Int) from e0]
   refine .inl ⟨fun mm tz hz=>∃ (a:Nat) (b:Nat),bB (some (.int .i64 N)::some (.int .i64 d)::aG 2 (some (.pointer (some ⟨0,0,none⟩))::some (.pointer (some ⟨1,0,none⟩))::some (.int .i64 a)::some (.int .i64 b)::aG 33 [])) tz∧hz=[some (.aS true 3 [[.bool false,.string ⟨#[]⟩,.string ⟨#[]⟩]]),some (.aS true 3 [[.bool B,.string ⟨#[]⟩,.string ⟨#[]⟩]])]∧b=mm∧((a < 72057594037927936∧b < 72057594037927936)∧Nat.gcd a b=g),.inr ⟨[0,1],[0,1,4,5,6,7],?_⟩,?_⟩
   ·conv=>whnf
    intro _;conv=>whnf
    refine ⟨_,N,d,(.aa (.aa (.sk 2 (.aa (.aa (.aa (.aa (.sk 33 .nil rfl))))) rfl))),rfl,rfl,?_⟩;exact ⟨⟨by omega,by omega⟩,by rw [hg,hN]; rfl⟩
   rintro mm aW _ ⟨a,b,aC,rfl,rfl,⟨dI,he⟩⟩
   obtain ⟨az,rfl⟩:∃ az:Nat→Value,aW=.int .i64 N::.int .i64 d::zs az 2 2 (.pointer (some ⟨0,0,none⟩)::.pointer (some ⟨1,0,none⟩)::.int .i64 a::.int .i64 b::zs az 8 33 []):=bI aC;clear aC;conv=>whnf
   refine aN (fun h1=>?_) (fun h1=>?_)
   ·have h1:0 < b:=by
     have:=of_decide_eq_true h1;omega
    have al:=Nat.mod_lt a h1;conv=>whnf
    refine .inl ⟨5,[[],[],[],[1,2],[0,1],[0,1,2,3,4]],by kernel_rfl,?_⟩
    conv=>whnf
    rw [show decide (((b:Nat):Int)≠0)=true from decide_eq_true (by omega)]
    conv=>whnf
    rw [show Int.tmod ((a:Nat):Int) ((b:Nat):Int)=((a % b:Nat):Int) from rfl]
    refine .inr ⟨[0,1],[0,1,4,5,6,7],?_⟩;conv=>whnf
    intro _;conv=>whnf
    refine ⟨_,?_,b,a % b,(.aa (.aa (.sk 2 (.aa (.aa (.aa (.aa (.sk 33 .nil rfl))))) rfl))),rfl,rfl,?_⟩
    ·exact al
    ·exact ⟨⟨dI.2,by omega⟩,by rw [Nat.gcd_comm,← Nat.gcd_rec,Nat.gcd_comm]; exact he⟩
   ·have h1:b=0:=by
     have:=of_decide_eq_false h1;omega
    subst h1;obtain rfl:a=g:=by rw [← he,Nat.gcd_zero_right]
    conv=>whnf
    rw [show decide (((a:Nat):Int)≠0)=true from decide_eq_true (by omega)]
    conv=>whnf
    rw [ed];refine ⟨N / a,rfl,by show N / a < _; exact Nat.lt_of_le_of_lt (Nat.div_le_self _ _) (by omega),?_⟩
    rw [ex];conv=>whnf
    rw [show decide (((a:Nat):Int)≠0)=true from decide_eq_true (by omega)]
    obtain ⟨q,hq⟩:∃ q,q=d / a:=⟨_,rfl⟩;rw [← hq] at km ey eq fZ bS hy;conv=>whnf
    rw [km];refine aN (fun h3=>?_) (fun h3=>?_)
    ·have h3:q≠1:=by
      have:=of_decide_eq_true h3;omega
     have e4:fy q=y:=by
      rw [hy]; unfold fy; rw [if_neg h3]
     rw [e4] at eq;conv=>whnf
     rw [show decide (((a:Nat):Int)≠0)=true from decide_eq_true (by omega)]
     conv=>whnf
     rw [km];refine ⟨q,rfl,by show q < _; rw [hq]; exact Nat.lt_of_le_of_lt (Nat.div_le_self _ _) hp.2.2,?_⟩
     rw [ey];conv=>whnf
     exact fin _ eq.symm
    ·have h3:q=1:=by
      have:=of_decide_eq_false h3;omega
     have e4:fy q=⟨#[]⟩:=by unfold fy; rw [if_pos h3]
     rw [e4] at eq;conv=>whnf
     exact fin _ eq.symm
open Go Go.Ae
def Emd:Env:=En [(83,.p eY),(87,.p lu)]
theorem acD:EnvOk Tryz.prog Emd:=bH ⟨r9,Ha,trivial⟩ trivial
theorem O6:bh Tryz.prog 132 gR:=by
 refine bk acD aP Tryz.func132 (enters_of Tryz.func132 (by kernel_rfl) rfl) (fun _=>rfl) (fun _=>rfl) ?_
 intro ⟨⟨b,s⟩,n⟩ hp;have hp:s.size≤549755813888∧-9223372036854775808≤n∧n < 9223372036854775808:=hp;obtain ⟨V,m,hV⟩:=EI.mk' n;have hm:m.size≤549755813888:=by
  rw [hV.size];have:=ud hp.2;omega
 obtain ⟨q,hq⟩:∃ q,q=dO (IV.z (b,s)) n:=⟨_,rfl⟩;conv=>whnf
 refine .inl ⟨3,[[],[],[1],[0,1,2],[0,1,2,3],[0,1,2,3,4]],by kernel_rfl,?_⟩
 conv=>whnf
 refine ⟨n,rfl,⟨by omega,by omega⟩,?_⟩
 rw [show eY.val n=.agg ⟨[.bool V,.string m]⟩ from hV.enc]
 conv=>whnf
 refine ⟨((b,s),(V,m)),rfl,⟨hp.1,hm⟩,?_⟩;rw [show lu.val ((b,s),(V,m))=.int .i64 q from by show Value.int .i64 (dO (IV.z (b,s)) (IV.z (V,m)))=_; rw [hV.val,hq]]
 conv=>whnf
 show Value.bool (q == 0)=Value.bool (decide (IV.z (b,s)=n))
 congr 1
 rw [hq];unfold dO
 split
 ·rw [decide_eq_false (by omega)]; rfl
 ·split
  ·rw [decide_eq_false (by omega)]; rfl
  ·rw [decide_eq_true (by omega)]; rfl
theorem TJ:bh Tryz.prog 137 MN:=by
 refine bk lG aP Tryz.func137 (enters_of Tryz.func137 (by kernel_rfl) rfl) (fun _=>rfl) (fun _=>rfl) ?_
 intro ⟨b,s⟩ _;conv=>whnf
 rfl
def Eme:Env:=En [(83,.p eY),(132,.p gR),(137,.p MN)]
theorem acE:EnvOk Tryz.prog Eme:=bH ⟨r9,O6,TJ,trivial⟩ trivial
theorem Hb:bh Tryz.prog 88 lz:=by
 refine bk acE aP Tryz.func88 (enters_of Tryz.func88 (by kernel_rfl) rfl) (fun _=>rfl) (fun _=>rfl) ?_
 intro ⟨b,s,t⟩ hp;have hp:t.size≤549755813888:=hp;conv=>whnf
 refine .inl ⟨10,[[],[0],[],[2],[0,1,2,3],[],[5],[0,1,2,3,4,5,6],[0,1,2,3,4,5,6,7],[],[0,1,2,3,4,5,6,7,8,9]],by kernel_rfl,?_⟩
 conv=>whnf
 refine ⟨(b,s),rfl,trivial,?_⟩;conv=>whnf
 refine ⟨(false,t),rfl,trivial,?_⟩;conv=>whnf
 refine ⟨((false,t),0),rfl,⟨hp,r0⟩,?_⟩;by_cases h:ab t=0
 ·rw [show gR.val ((false,t),0)=.bool true from by
   show Value.bool (decide (((ab t:Nat):Int)=0))=_
   rw [h]; rfl]
  obtain ⟨v,hv⟩:∃ v,v=nb 1:=⟨_,rfl⟩;conv=>whnf
  refine ⟨(1:Int),rfl,r1,?_⟩;rw [show eY.val (1:Int)=.agg ⟨[.bool false,.string v]⟩ from by rw [hv]; rfl]
  conv=>whnf
  show Value.agg ⟨[.bool b,.string s,.bool false,.string v]⟩=xm (b,s) (false,RV.den (b,s,t))
  unfold RV.den;rw [if_pos h,← hv]
  rfl
 ·rw [show gR.val ((false,t),0)=.bool false from by
   show Value.bool (decide (((ab t:Nat):Int)=0))=_
   rw [decide_eq_false (by omega)]]
  conv=>whnf
  show Value.agg ⟨[.bool b,.string s,.bool false,.string t]⟩=xm (b,s) (false,RV.den (b,s,t))
  unfold RV.den;rw [if_neg h]
  rfl
def Emf:Env:=En [(132,.p gR),(133,.p uZ),(134,.p iF)]
theorem acF:EnvOk Tryz.prog Emf:=bH ⟨O6,abt,abu,trivial⟩ trivial
theorem Mr:bh Tryz.prog 86 oF:=by
 refine bk acF aP Tryz.func86 (enters_of Tryz.func86 (by kernel_rfl) rfl) (fun _=>rfl) (fun _=>rfl) ?_
 intro ⟨⟨b,s⟩,⟨c,t⟩⟩ hp;have hp:s.size≤549755813888∧t.size≤549755813888∧0 < IV.z (c,t):=hp;obtain ⟨x,hx⟩:∃ x,x=IV.z (b,s):=⟨_,rfl⟩;obtain ⟨d,hd⟩:∃ d,d=(IV.z (c,t)).natAbs:=⟨_,rfl⟩;have bS:IV.z (c,t)=((d:Nat):Int):=by omega
 have fu:d≠0:=by omega
 obtain ⟨q,hq⟩:∃ q,q=mkRat x d:=⟨_,rfl⟩;have fin:∀ v:Value,v=bK q→v=oF.val ((b,s),(c,t)):=fun v h=>by rw [h,hq,hx,hd]; rfl
 conv=>whnf
 refine ⟨((b,s),0),rfl,⟨hp.1,r0⟩,?_⟩;rw [show gR.val ((b,s),0)=.bool (decide (x=0)) from by rw [hx]; rfl]
 by_cases h1:x=0
 ·rw [decide_eq_true h1];conv=>whnf
  exact fin _ (by rw [hq,h1]; exact (yk d).symm)
 ·rw [decide_eq_false h1];obtain ⟨g,hg⟩:∃ g,g=Int.gcd x d:=⟨_,rfl⟩;obtain ⟨gs,rn⟩:=EI.iO (show 0≤((g:Nat):Int) by omega)
  obtain ⟨qb,qs,hn⟩:=EI.mk' q.num;obtain ⟨es,he⟩:=EI.iO (show 0≤((q.den:Nat):Int) by omega)
  have nw:((g:Nat):Int)≠0:=by
   have:0 < g:=by rw [hg]; exact Int.gcd_pos_of_ne_zero_left _ h1
   omega
  have Iv:g≤d:=by
   have h3:=(AR fu hg).2.1;rcases Nat.lt_or_ge d g with h | h
   ·rw [Nat.div_eq_of_lt h] at h3; omega
   ·exact h
  have eP:aT d≤549755813888:=by rw [hd]; exact IV.aT (i:=(c,t)) hp.2.1
  have AA:gs.size≤549755813888:=by
   rw [rn.size,Int.natAbs_natCast];exact Nat.le_trans (iK Iv) eP
  have ah:es.size≤549755813888:=by
   rw [he.size,Int.natAbs_natCast];exact Nat.le_trans (iK (by rw [hq]; exact Oi x fu)) eP
  have Jz:x.fdiv ((g:Nat):Int)=q.num:=by rw [hg,hq]; exact GX x fu
  have rk:((d:Nat):Int).fdiv ((g:Nat):Int)=((q.den:Nat):Int):=by rw [hg,hq]; exact GY x fu
  conv=>whnf
  refine ⟨((b,s),(c,t)),rfl,⟨hp.1,hp.2.1⟩,?_⟩;rw [show uZ.val ((b,s),(c,t))=.agg ⟨[.bool false,.string gs]⟩ from by
   show aH ((Int.gcd (IV.z (b,s)) (IV.z (c,t)):Nat):Int)=_
   rw [← hx,bS,← hg,rn.enc]]
  conv=>whnf
  obtain ⟨fb,fs,hf⟩:=EI.mk' (x.fmod ((g:Nat):Int));refine ⟨((b,s),(false,gs)),rfl,⟨hp.1,AA⟩,?_⟩;rw [show iF.val ((b,s),(false,gs))=.tuple ⟨[.agg ⟨[.bool qb,.string qs]⟩,.agg ⟨[.bool fb,.string fs]⟩,.int .i64 0]⟩ from by
   simp only [iF,rn.val,if_neg nw];rw [← hx,Jz,hn.enc,hf.enc]]
  conv=>whnf
  obtain ⟨kb,ks,hk⟩:=EI.mk' (((d:Nat):Int).fmod ((g:Nat):Int));refine ⟨((c,t),(false,gs)),rfl,⟨hp.2.1,AA⟩,?_⟩;rw [show iF.val ((c,t),(false,gs))=.tuple ⟨[.agg ⟨[.bool false,.string es]⟩,.agg ⟨[.bool kb,.string ks]⟩,.int .i64 0]⟩ from by
   simp only [iF,rn.val,if_neg nw,bS];rw [rk,he.enc,hk.enc]]
  conv=>whnf
  refine ⟨((false,es),1),rfl,⟨ah,r1⟩,?_⟩;rw [show gR.val ((false,es),1)=.bool (decide (((q.den:Nat):Int)=1)) from by
   show Value.bool (decide (IV.z (false,es)=1))=_
   rw [he.val]]
  have enc:∀ y,fy q.den=y→Value.agg ⟨[.bool qb,.string qs,.string y]⟩=bK q:=fun y hy=>by
   unfold bK;rw [← hn.nt,← hn.sign,hy]
  by_cases J:q.den=1
  ·rw [decide_eq_true (by omega)]
   conv=>whnf
   exact fin _ (enc _ (by unfold fy; rw [if_pos J]))
  ·rw [decide_eq_false (by omega)]
   conv=>whnf
   exact fin _ (enc _ (by unfold fy; rw [if_neg J,he.nt,Int.natAbs_natCast]))
open Go Go.Ae
def Emg:Env:=En [(95,.p nG)]
theorem O7:EnvOk Tryz.prog Emg:=bH ⟨Wq,trivial⟩ trivial
theorem Y7:bh Tryz.prog 94 CO:=by
 refine bk O7 aP Tryz.func94 (enters_of Tryz.func94 (by kernel_rfl) rfl) (fun _=>rfl) (fun _=>rfl) ?_
 intro ⟨⟨n,d⟩,⟨m,e⟩⟩ hp;obtain ⟨h1,J,h3,h4⟩:=I4.bounds hp;simp only at h1 J h3 h4;obtain ⟨x,hx⟩:∃ x,x=n*(e:Int):=⟨_,rfl⟩;obtain ⟨y,hy⟩:∃ y,y=m*(d:Int):=⟨_,rfl⟩;obtain ⟨k,hk⟩:∃ k,k=d*e:=⟨_,rfl⟩;rw [← hx] at h1;rw [← hy] at J;rw [← hk] at h4;have e1:IntKind.i64.wrap (IntKind.i64.wrap (n*(e:Int))+IntKind.i64.wrap (m*(d:Int)))=x+y:=by
  rw [← hx,← hy,ay (x:=x) (by omega) (by omega),ay (x:=y) (by omega) (by omega),ay (by omega) (by omega)]
 have e2:IntKind.i64.wrap ((d:Int)*(e:Int))=(k:Int):=by
  rw [← Int.natCast_mul,← hk,ay (by omega) (by omega)]
 conv=>whnf
 rw [show IntKind.i64.wrap (IntKind.i64.wrap (((n,d),m,e).fst.fst*(((n,d),m,e).snd.snd:Int))+IntKind.i64.wrap (((n,d),m,e).snd.fst*(((n,d),m,e).fst.snd:Int)))=x+y from e1]
 rw [show IntKind.i64.wrap ((((n,d),m,e).fst.snd:Int)*(((n,d),m,e).snd.snd:Int))=(k:Int) from e2]
 refine ⟨(x+y,k),rfl,⟨by show (x+y).natAbs < _; omega,by show k≠0; omega,by show k < _; omega⟩,?_⟩
 obtain ⟨v,hv⟩:∃ v,v=mkRat (x+y) k:=⟨_,rfl⟩;rw [show nG.val (x+y,k)=(RV.of v).v from by rw [hv]; rfl]
 conv=>whnf
 show (RV.of v).v=bK (mkRat (n*e+m*d) (d*e))
 rw [hv,hx,hy,hk]
 rfl
theorem Y8:bh Tryz.prog 98 CP:=by
 refine bk O7 aP Tryz.func98 (enters_of Tryz.func98 (by kernel_rfl) rfl) (fun _=>rfl) (fun _=>rfl) ?_
 intro ⟨⟨n,d⟩,⟨m,e⟩⟩ hp;obtain ⟨h1,J,h3,h4⟩:=I4.bounds hp;simp only at h1 J h3 h4;obtain ⟨x,hx⟩:∃ x,x=n*m:=⟨_,rfl⟩;obtain ⟨k,hk⟩:∃ k,k=d*e:=⟨_,rfl⟩;rw [← hx] at h3;rw [← hk] at h4;have e1:IntKind.i64.wrap (n*m)=x:=by
  rw [← hx,ay (x:=x) (by omega) (by omega)]
 have e2:IntKind.i64.wrap ((d:Int)*(e:Int))=(k:Int):=by
  rw [← Int.natCast_mul,← hk,ay (by omega) (by omega)]
 conv=>whnf
 rw [show IntKind.i64.wrap (((n,d),m,e).fst.fst*((n,d),m,e).snd.fst)=x from e1]
 rw [show IntKind.i64.wrap ((((n,d),m,e).fst.snd:Int)*(((n,d),m,e).snd.snd:Int))=(k:Int) from e2]
 refine ⟨(x,k),rfl,⟨by show x.natAbs < _; omega,by show k≠0; omega,by show k < _; omega⟩,?_⟩
 obtain ⟨v,hv⟩:∃ v,v=mkRat x k:=⟨_,rfl⟩;rw [show nG.val (x,k)=(RV.of v).v from by rw [hv]; rfl]
 conv=>whnf
 show (RV.of v).v=bK (mkRat (n*m) (d*e))
 rw [hv,hx,hk]
 rfl
theorem Y9:bh Tryz.prog 90 zh:=by
 refine bk lG aP Tryz.func90 (enters_of Tryz.func90 (by kernel_rfl) rfl) (fun _=>rfl) (fun _=>rfl) ?_
 intro ⟨⟨n,d⟩,⟨m,e⟩⟩ hp;obtain ⟨h1,J,h3,h4⟩:=I4.bounds hp;simp only at h1 J h3 h4;obtain ⟨x,hx⟩:∃ x,x=n*(e:Int):=⟨_,rfl⟩;obtain ⟨y,hy⟩:∃ y,y=m*(d:Int):=⟨_,rfl⟩;rw [← hx] at h1;rw [← hy] at J;have e1:IntKind.i64.wrap (n*(e:Int))=x:=by rw [← hx,ay (x:=x) (by omega) (by omega)]
 have e2:IntKind.i64.wrap (m*(d:Int))=y:=by rw [← hy,ay (x:=y) (by omega) (by omega)]
 have fin:∀ z:Int,z=dO x y→Value.int .i64 z=zh.val ((n,d),(m,e)):=fun z h=>by rw [h,hx,hy]; rfl
 conv=>whnf
 rw [show IntKind.i64.wrap (((n,d),m,e).fst.fst*(((n,d),m,e).snd.snd:Int))=x from e1,show IntKind.i64.wrap (((n,d),m,e).snd.fst*(((n,d),m,e).fst.snd:Int))=y from e2]
 refine aN (fun h=>?_) (fun h=>?_)
 ·have h:=of_decide_eq_true h;conv=>whnf
  exact fin _ (ua h).symm
 ·have h:=of_decide_eq_false h;conv=>whnf
  refine aN (fun h5=>?_) (fun h5=>?_)
  ·have h5:=of_decide_eq_true h5;conv=>whnf
   exact fin _ (ub h5).symm
  ·have h5:=of_decide_eq_false h5;conv=>whnf
   refine fin _ ?_;unfold dO;rw [if_neg h,if_neg (show ¬ y < x from h5)]
def Emh:Env:=En [(92,.p fi),(97,.p iU),(87,.p lu),(86,.p oF)]
theorem HE:EnvOk Tryz.prog Emh:=bH ⟨OB,G9,Ha,Mr,trivial⟩ trivial
theorem Za:bh Tryz.prog 96 xn:=by
 refine bk HE aP Tryz.func96 (enters_of Tryz.func96 (by kernel_rfl) rfl) (fun _=>rfl) (fun _=>rfl) ?_
 intro ⟨⟨⟨b,s⟩,⟨c,t⟩⟩,⟨⟨b',s'⟩,⟨c',t'⟩⟩⟩ hp;have hp:((s.size≤17179869184∧t.size≤17179869184)∧0 < IV.z (c,t))∧(s'.size≤17179869184∧t'.size≤17179869184)∧0 < IV.z (c',t'):=hp;obtain ⟨⟨⟨hs,ht⟩,hd⟩,⟨vk,jt⟩,cV⟩:=hp;obtain ⟨B1,m1,h1⟩:=EI.mk' (IV.z (b,s)*IV.z (c',t'));obtain ⟨B2,m2,J⟩:=EI.mk' (IV.z (b',s')*IV.z (c,t));obtain ⟨B3,m3,h3⟩:=EI.mk' (IV.z (b,s)*IV.z (c',t')+IV.z (b',s')*IV.z (c,t));obtain ⟨B4,m4,h4⟩:=EI.mk' (IV.z (c,t)*IV.z (c',t'));have z1:=h1.gx (dE hs) (dE jt);have z2:=J.gx (dE vk) (dE ht);have z4:=h4.gx (dE ht) (dE jt);have z3:m3.size≤34359738369:=h3.FU (by rw [← h1.size]; omega) (by rw [← J.size]; omega)
 have lg:=Int.mul_pos hd cV;conv=>whnf
 refine .inl ⟨15,[[],[0],[],[2],[0,1,2,3],[],[5],[],[7],[0,1,2,3,4,5,6,7,8],[0,1,2,3,4,5,6,7,8,9],[],[11],[],[13],[0,1,2,3,4,5,6,7,8,9,10,11,12,13,14],[0,1,2,3,4,5,6,7,8,9,10,11,12,13,14,15],[0,1,2,3,4,5,6,7,8,9,10,11,12,13,14,15,16],[0,1,2,3,4,5,6,7,8,9,10,11,12,13,14,15,16,17]],by kernel_rfl,?_⟩
 conv=>whnf
 refine ⟨((b,s),(c',t')),rfl,⟨by show s.size≤_; omega,by show t'.size≤_; omega⟩,?_⟩
 rw [show fi.val ((b,s),(c',t'))=.agg ⟨[.bool B1,.string m1]⟩ from h1.enc]
 conv=>whnf
 refine ⟨((b',s'),(c,t)),rfl,⟨by show s'.size≤_; omega,by show t.size≤_; omega⟩,?_⟩
 rw [show fi.val ((b',s'),(c,t))=.agg ⟨[.bool B2,.string m2]⟩ from J.enc]
 conv=>whnf
 refine ⟨((B1,m1),(B2,m2)),rfl,⟨by show m1.size≤_; omega,by show m2.size≤_; omega⟩,?_⟩
 rw [show iU.val ((B1,m1),(B2,m2))=.agg ⟨[.bool B3,.string m3]⟩ from by
  show aH (IV.z (B1,m1)+IV.z (B2,m2))=_
  rw [h1.val,J.val,h3.enc]]
 conv=>whnf
 refine ⟨((c,t),(c',t')),rfl,⟨by show t.size≤_; omega,by show t'.size≤_; omega⟩,?_⟩
 rw [show fi.val ((c,t),(c',t'))=.agg ⟨[.bool B4,.string m4]⟩ from h4.enc]
 conv=>whnf
 refine ⟨((B3,m3),(B4,m4)),rfl,⟨by show m3.size≤_; omega,by show m4.size≤_; omega,by show 0 < IV.z (B4,m4); rw [h4.val]; exact lg⟩,?_⟩
 obtain ⟨v,hv⟩:∃ v,v=mkRat (IV.z (B3,m3)) (IV.z (B4,m4)).natAbs:=⟨_,rfl⟩;rw [show oF.val ((B3,m3),(B4,m4))=(RV.of v).v from by rw [hv]; rfl]
 rw [h3.val,h4.val] at hv;conv=>whnf
 show (RV.of v).v=bK _
 rw [hv]
 rfl
theorem Zb:bh Tryz.prog 99 xo:=by
 refine bk HE aP Tryz.func99 (enters_of Tryz.func99 (by kernel_rfl) rfl) (fun _=>rfl) (fun _=>rfl) ?_
 intro ⟨⟨⟨b,s⟩,⟨c,t⟩⟩,⟨⟨b',s'⟩,⟨c',t'⟩⟩⟩ hp;have hp:((s.size≤17179869184∧t.size≤17179869184)∧0 < IV.z (c,t))∧(s'.size≤17179869184∧t'.size≤17179869184)∧0 < IV.z (c',t'):=hp;obtain ⟨⟨⟨hs,ht⟩,hd⟩,⟨vk,jt⟩,cV⟩:=hp;obtain ⟨B3,m3,h3⟩:=EI.mk' (IV.z (b,s)*IV.z (b',s'));obtain ⟨B4,m4,h4⟩:=EI.mk' (IV.z (c,t)*IV.z (c',t'));have z3:=h3.gx (dE hs) (dE vk);have z4:=h4.gx (dE ht) (dE jt);have lg:=Int.mul_pos hd cV;conv=>whnf
 refine .inl ⟨9,[[],[0],[],[2],[0,1,2,3],[],[5],[],[7],[0,1,2,3,4,5,6,7,8],[0,1,2,3,4,5,6,7,8,9],[0,1,2,3,4,5,6,7,8,9,10],[0,1,2,3,4,5,6,7,8,9,10,11]],by kernel_rfl,?_⟩
 conv=>whnf
 refine ⟨((b,s),(b',s')),rfl,⟨by show s.size≤_; omega,by show s'.size≤_; omega⟩,?_⟩
 rw [show fi.val ((b,s),(b',s'))=.agg ⟨[.bool B3,.string m3]⟩ from h3.enc]
 conv=>whnf
 refine ⟨((c,t),(c',t')),rfl,⟨by show t.size≤_; omega,by show t'.size≤_; omega⟩,?_⟩
 rw [show fi.val ((c,t),(c',t'))=.agg ⟨[.bool B4,.string m4]⟩ from h4.enc]
 conv=>whnf
 refine ⟨((B3,m3),(B4,m4)),rfl,⟨by show m3.size≤_; omega,by show m4.size≤_; omega,by show 0 < IV.z (B4,m4); rw [h4.val]; exact lg⟩,?_⟩
 obtain ⟨v,hv⟩:∃ v,v=mkRat (IV.z (B3,m3)) (IV.z (B4,m4)).natAbs:=⟨_,rfl⟩;rw [show oF.val ((B3,m3),(B4,m4))=(RV.of v).v from by rw [hv]; rfl]
 rw [h3.val,h4.val] at hv;conv=>whnf
 show (RV.of v).v=bK _
 rw [hv]
 rfl
theorem Zc:bh Tryz.prog 91 xp:=by
 refine bk HE aP Tryz.func91 (enters_of Tryz.func91 (by kernel_rfl) rfl) (fun _=>rfl) (fun _=>rfl) ?_
 intro ⟨⟨⟨b,s⟩,⟨c,t⟩⟩,⟨⟨b',s'⟩,⟨c',t'⟩⟩⟩ hp;have hp:((s.size≤17179869184∧t.size≤17179869184)∧0 < IV.z (c,t))∧(s'.size≤17179869184∧t'.size≤17179869184)∧0 < IV.z (c',t'):=hp;obtain ⟨⟨⟨hs,ht⟩,hd⟩,⟨vk,jt⟩,cV⟩:=hp;obtain ⟨B1,m1,h1⟩:=EI.mk' (IV.z (b,s)*IV.z (c',t'));obtain ⟨B2,m2,J⟩:=EI.mk' (IV.z (b',s')*IV.z (c,t));have z1:=h1.gx (dE hs) (dE jt);have z2:=J.gx (dE vk) (dE ht);obtain ⟨q,hq⟩:∃ q,q=dO (IV.z (b,s)*IV.z (c',t')) (IV.z (b',s')*IV.z (c,t)):=⟨_,rfl⟩;conv=>whnf
 refine .inl ⟨9,[[],[0],[],[2],[0,1,2,3],[],[5],[],[7],[0,1,2,3,4,5,6,7,8],[0,1,2,3,4,5,6,7,8,9],[0,1,2,3,4,5,6,7,8,9,10]],by kernel_rfl,?_⟩
 conv=>whnf
 refine ⟨((b,s),(c',t')),rfl,⟨by show s.size≤_; omega,by show t'.size≤_; omega⟩,?_⟩
 rw [show fi.val ((b,s),(c',t'))=.agg ⟨[.bool B1,.string m1]⟩ from h1.enc]
 conv=>whnf
 refine ⟨((b',s'),(c,t)),rfl,⟨by show s'.size≤_; omega,by show t.size≤_; omega⟩,?_⟩
 rw [show fi.val ((b',s'),(c,t))=.agg ⟨[.bool B2,.string m2]⟩ from J.enc]
 conv=>whnf
 refine ⟨((B1,m1),(B2,m2)),rfl,⟨by show m1.size≤_; omega,by show m2.size≤_; omega⟩,?_⟩
 rw [show lu.val ((B1,m1),(B2,m2))=.int .i64 q from by
  show Value.int .i64 (dO (IV.z (B1,m1)) (IV.z (B2,m2)))=_
  rw [h1.val,J.val,hq]]
 conv=>whnf
 show Value.int .i64 q=_
 rw [hq]
 rfl
open Go Go.Ae
def AB:Env:=En [(138,.p bG),(88,.p lz),(94,.p CO),(96,.p xn),(98,.p CP),(99,.p xo),(90,.p zh),(91,.p xp)]
theorem O8:EnvOk Tryz.prog AB:=bH ⟨Y5,Hb,Y7,Za,Y8,Zb,Y9,Zc,trivial⟩ trivial
theorem Ws:gf Tryz.prog 93 (cl AB cK Tryz.f93):=by
 exact ji O8 aP Tryz.func93 (enters_of Tryz.func93 (by kernel_rfl) rfl)
theorem Wt:gf Tryz.prog 89 (cl AB cK Tryz.f89):=by
 exact ji O8 aP Tryz.func89 (enters_of Tryz.func89 (by kernel_rfl) rfl)
def Emk:Env:=En [] [(93,cl AB cK Tryz.f93),(89,cl AB cK Tryz.f89)]
theorem HF:EnvOk Tryz.prog Emk:=bH trivial ⟨Ws,Wt,trivial⟩
theorem Cd:bh Tryz.prog 36 kY:=by
 refine bk HF aP Tryz.func36 (enters_of Tryz.func36 (by kernel_rfl) rfl) (fun _=>rfl) (fun _=>rfl) ?_
 intro ⟨⟨b,s,t⟩,⟨c,u,v⟩⟩ hp;have hp:RV.ok (b,s,t)∧RV.ok (c,u,v):=hp;obtain ⟨w,hw⟩:∃ w,w=RV.q (b,s,t)+RV.q (c,u,v):=⟨_,rfl⟩;have fin:∀ x:Value,x=(RV.of w).v→x=kY.val ((b,s,t),(c,u,v)):=fun x h=>by rw [h,hw]; rfl
 obtain ⟨x,hx⟩:∃ x,x=RV.den (b,s,t):=⟨_,rfl⟩;obtain ⟨y,hy⟩:∃ y,y=RV.den (c,u,v):=⟨_,rfl⟩;have ex:lz.val (b,s,t)=.agg ⟨[.bool b,.string s,.bool false,.string x]⟩:=by rw [hx]; rfl
 have ey:lz.val (c,u,v)=.agg ⟨[.bool c,.string u,.bool false,.string y]⟩:=by rw [hy]; rfl
 have f1:=RV.lZ hp.1;have f2:=RV.lZ hp.2;have e2:xn.val (((b,s),(false,x)),((c,u),(false,y)))=(RV.of w).v:=by rw [hx,hy,hw]; exact ZN (b,s,t) (c,u,v)
 rw [← hx] at f1;rw [← hy] at f2;have e1:=ZK (b,s,t) (c,u,v);have hn:=RV.jI (i:=(b,s,t));have hm:=RV.jI (i:=(c,u,v));rw [← hw] at e1;obtain ⟨n,bO⟩:∃ n,n=RV.n (b,s,t):=⟨_,rfl⟩;obtain ⟨m,eH⟩:∃ n,n=RV.n (c,u,v):=⟨_,rfl⟩;obtain ⟨d,bS⟩:∃ n,n=RV.d (b,s,t):=⟨_,rfl⟩;obtain ⟨e,cj⟩:∃ n,n=RV.d (c,u,v):=⟨_,rfl⟩;rw [← bO,← bS] at hn e1;rw [← eH,← cj] at hm e1;conv=>whnf
 refine ⟨(b,s,t),rfl,trivial,?_⟩;by_cases h1:RV.fK (b,s,t)
 ·rw [show bG.val (b,s,t)=.tuple ⟨[.int .i64 n,.int .i64 d,.bool true]⟩ from by simp only [bG,if_pos h1,decide_eq_true h1,bO,bS]]
  conv=>whnf
  refine ⟨(c,u,v),rfl,trivial,?_⟩;by_cases J:RV.fK (c,u,v)
  ·rw [show bG.val (c,u,v)=.tuple ⟨[.int .i64 m,.int .i64 e,.bool true]⟩ from by simp only [bG,if_pos J,decide_eq_true J,eH,cj]]
   conv=>whnf
   refine ⟨((n,d),(m,e)),rfl,⟨hn h1,hm J⟩,?_⟩;rw [show CO.val ((n,d),(m,e))=(RV.of w).v from e1]
   conv=>whnf
   exact fin _ rfl
  ·rw [show bG.val (c,u,v)=.tuple ⟨[.int .i64 0,.int .i64 0,.bool false]⟩ from by simp only [bG,if_neg J,decide_eq_false J]]
   conv=>whnf
   refine .inl ⟨5,[[],[],[1],[],[1,2,3],[0,1,2,3,4],[0,1,2,3,4,5]],by kernel_rfl,?_⟩
   conv=>whnf
   refine ⟨(b,s,t),rfl,by have:=hp.1.2; show t.size≤_; exact Nat.le_trans this (by decide),?_⟩
   rw [ex];conv=>whnf
   refine ⟨(c,u,v),rfl,by have:=hp.2.2; show v.size≤_; exact Nat.le_trans this (by decide),?_⟩
   rw [ey];conv=>whnf
   refine ⟨(((b,s),(false,x)),((c,u),(false,y))),rfl,⟨f1,f2⟩,?_⟩;rw [show xn.val (((b,s),(false,x)),((c,u),(false,y)))=(RV.of w).v from e2]
   conv=>whnf
   exact fin _ rfl
 ·rw [show bG.val (b,s,t)=.tuple ⟨[.int .i64 0,.int .i64 0,.bool false]⟩ from by simp only [bG,if_neg h1,decide_eq_false h1]]
  conv=>whnf
  obtain ⟨k1,k2,k3,hk⟩:∃ (k1 k2:Int) (k3:Bool),bG.val (c,u,v)=.tuple ⟨[.int .i64 k1,.int .i64 k2,.bool k3]⟩:=⟨_,_,_,rfl⟩;refine ⟨(c,u,v),rfl,trivial,?_⟩;rw [hk];conv=>whnf
  refine .inl ⟨5,[[],[],[1],[],[1,2,3],[0,1,2,3,4],[0,1,2,3,4,5]],by kernel_rfl,?_⟩
  conv=>whnf
  refine ⟨(b,s,t),rfl,by have:=hp.1.2; show t.size≤_; exact Nat.le_trans this (by decide),?_⟩
  rw [ex];conv=>whnf
  refine ⟨(c,u,v),rfl,by have:=hp.2.2; show v.size≤_; exact Nat.le_trans this (by decide),?_⟩
  rw [ey];conv=>whnf
  refine ⟨(((b,s),(false,x)),((c,u),(false,y))),rfl,⟨f1,f2⟩,?_⟩;rw [show xn.val (((b,s),(false,x)),((c,u),(false,y)))=(RV.of w).v from e2]
  conv=>whnf
  exact fin _ rfl
theorem NW:bh Tryz.prog 37 kZ:=by
 refine bk HF aP Tryz.func37 (enters_of Tryz.func37 (by kernel_rfl) rfl) (fun _=>rfl) (fun _=>rfl) ?_
 intro ⟨⟨b,s,t⟩,⟨c,u,v⟩⟩ hp;have hp:RV.ok (b,s,t)∧RV.ok (c,u,v):=hp;obtain ⟨w,hw⟩:∃ w,w=RV.q (b,s,t)*RV.q (c,u,v):=⟨_,rfl⟩;have fin:∀ x:Value,x=(RV.of w).v→x=kZ.val ((b,s,t),(c,u,v)):=fun x h=>by rw [h,hw]; rfl
 obtain ⟨x,hx⟩:∃ x,x=RV.den (b,s,t):=⟨_,rfl⟩;obtain ⟨y,hy⟩:∃ y,y=RV.den (c,u,v):=⟨_,rfl⟩;have ex:lz.val (b,s,t)=.agg ⟨[.bool b,.string s,.bool false,.string x]⟩:=by rw [hx]; rfl
 have ey:lz.val (c,u,v)=.agg ⟨[.bool c,.string u,.bool false,.string y]⟩:=by rw [hy]; rfl
 have f1:=RV.lZ hp.1;have f2:=RV.lZ hp.2;have e2:xo.val (((b,s),(false,x)),((c,u),(false,y)))=(RV.of w).v:=by rw [hx,hy,hw]; exact ZO (b,s,t) (c,u,v)
 rw [← hx] at f1;rw [← hy] at f2;have e1:=ZL (b,s,t) (c,u,v);have hn:=RV.jI (i:=(b,s,t));have hm:=RV.jI (i:=(c,u,v));rw [← hw] at e1;obtain ⟨n,bO⟩:∃ n,n=RV.n (b,s,t):=⟨_,rfl⟩;obtain ⟨m,eH⟩:∃ n,n=RV.n (c,u,v):=⟨_,rfl⟩;obtain ⟨d,bS⟩:∃ n,n=RV.d (b,s,t):=⟨_,rfl⟩;obtain ⟨e,cj⟩:∃ n,n=RV.d (c,u,v):=⟨_,rfl⟩;rw [← bO,← bS] at hn e1;rw [← eH,← cj] at hm e1;conv=>whnf
 refine ⟨(b,s,t),rfl,trivial,?_⟩;by_cases h1:RV.fK (b,s,t)
 ·rw [show bG.val (b,s,t)=.tuple ⟨[.int .i64 n,.int .i64 d,.bool true]⟩ from by simp only [bG,if_pos h1,decide_eq_true h1,bO,bS]]
  conv=>whnf
  refine ⟨(c,u,v),rfl,trivial,?_⟩;by_cases J:RV.fK (c,u,v)
  ·rw [show bG.val (c,u,v)=.tuple ⟨[.int .i64 m,.int .i64 e,.bool true]⟩ from by simp only [bG,if_pos J,decide_eq_true J,eH,cj]]
   conv=>whnf
   refine ⟨((n,d),(m,e)),rfl,⟨hn h1,hm J⟩,?_⟩;rw [show CP.val ((n,d),(m,e))=(RV.of w).v from e1]
   conv=>whnf
   exact fin _ rfl
  ·rw [show bG.val (c,u,v)=.tuple ⟨[.int .i64 0,.int .i64 0,.bool false]⟩ from by simp only [bG,if_neg J,decide_eq_false J]]
   conv=>whnf
   refine .inl ⟨5,[[],[],[1],[],[1,2,3],[0,1,2,3,4],[0,1,2,3,4,5]],by kernel_rfl,?_⟩
   conv=>whnf
   refine ⟨(b,s,t),rfl,by have:=hp.1.2; show t.size≤_; exact Nat.le_trans this (by decide),?_⟩
   rw [ex];conv=>whnf
   refine ⟨(c,u,v),rfl,by have:=hp.2.2; show v.size≤_; exact Nat.le_trans this (by decide),?_⟩
   rw [ey];conv=>whnf
   refine ⟨(((b,s),(false,x)),((c,u),(false,y))),rfl,⟨f1,f2⟩,?_⟩;rw [show xo.val (((b,s),(false,x)),((c,u),(false,y)))=(RV.of w).v from e2]
   conv=>whnf
   exact fin _ rfl
 ·rw [show bG.val (b,s,t)=.tuple ⟨[.int .i64 0,.int .i64 0,.bool false]⟩ from by simp only [bG,if_neg h1,decide_eq_false h1]]
  conv=>whnf
  obtain ⟨k1,k2,k3,hk⟩:∃ (k1 k2:Int) (k3:Bool),bG.val (c,u,v)=.tuple ⟨[.int .i64 k1,.int .i64 k2,.bool k3]⟩:=⟨_,_,_,rfl⟩;refine ⟨(c,u,v),rfl,trivial,?_⟩;rw [hk];conv=>whnf
  refine .inl ⟨5,[[],[],[1],[],[1,2,3],[0,1,2,3,4],[0,1,2,3,4,5]],by kernel_rfl,?_⟩
  conv=>whnf
  refine ⟨(b,s,t),rfl,by have:=hp.1.2; show t.size≤_; exact Nat.le_trans this (by decide),?_⟩
  rw [ex];conv=>whnf
  refine ⟨(c,u,v),rfl,by have:=hp.2.2; show v.size≤_; exact Nat.le_trans this (by decide),?_⟩
  rw [ey];conv=>whnf
  refine ⟨(((b,s),(false,x)),((c,u),(false,y))),rfl,⟨f1,f2⟩,?_⟩;rw [show xo.val (((b,s),(false,x)),((c,u),(false,y)))=(RV.of w).v from e2]
  conv=>whnf
  exact fin _ rfl
theorem NX:bh Tryz.prog 35 jG:=by
 refine bk HF aP Tryz.func35 (enters_of Tryz.func35 (by kernel_rfl) rfl) (fun _=>rfl) (fun _=>rfl) ?_
 intro ⟨⟨b,s,t⟩,⟨c,u,v⟩⟩ hp;have hp:RV.ok (b,s,t)∧RV.ok (c,u,v):=hp;obtain ⟨w,hw⟩:∃ w,w=a8 (RV.q (b,s,t)) (RV.q (c,u,v)):=⟨_,rfl⟩;have fin:∀ x:Value,x=.int .i64 w→x=jG.val ((b,s,t),(c,u,v)):=fun x h=>by rw [h,hw]; rfl
 obtain ⟨x,hx⟩:∃ x,x=RV.den (b,s,t):=⟨_,rfl⟩;obtain ⟨y,hy⟩:∃ y,y=RV.den (c,u,v):=⟨_,rfl⟩;have ex:lz.val (b,s,t)=.agg ⟨[.bool b,.string s,.bool false,.string x]⟩:=by rw [hx]; rfl
 have ey:lz.val (c,u,v)=.agg ⟨[.bool c,.string u,.bool false,.string y]⟩:=by rw [hy]; rfl
 have f1:=RV.lZ hp.1;have f2:=RV.lZ hp.2;have e2:xp.val (((b,s),(false,x)),((c,u),(false,y)))=.int .i64 w:=by rw [hx,hy,hw]; exact ZP (b,s,t) (c,u,v)
 rw [← hx] at f1;rw [← hy] at f2;have e1:=ZM (b,s,t) (c,u,v);have hn:=RV.jI (i:=(b,s,t));have hm:=RV.jI (i:=(c,u,v));rw [← hw] at e1;obtain ⟨n,bO⟩:∃ n,n=RV.n (b,s,t):=⟨_,rfl⟩;obtain ⟨m,eH⟩:∃ n,n=RV.n (c,u,v):=⟨_,rfl⟩;obtain ⟨d,bS⟩:∃ n,n=RV.d (b,s,t):=⟨_,rfl⟩;obtain ⟨e,cj⟩:∃ n,n=RV.d (c,u,v):=⟨_,rfl⟩;rw [← bO,← bS] at hn e1;rw [← eH,← cj] at hm e1;conv=>whnf
 refine ⟨(b,s,t),rfl,trivial,?_⟩;by_cases h1:RV.fK (b,s,t)
 ·rw [show bG.val (b,s,t)=.tuple ⟨[.int .i64 n,.int .i64 d,.bool true]⟩ from by simp only [bG,if_pos h1,decide_eq_true h1,bO,bS]]
  conv=>whnf
  refine ⟨(c,u,v),rfl,trivial,?_⟩;by_cases J:RV.fK (c,u,v)
  ·rw [show bG.val (c,u,v)=.tuple ⟨[.int .i64 m,.int .i64 e,.bool true]⟩ from by simp only [bG,if_pos J,decide_eq_true J,eH,cj]]
   conv=>whnf
   refine ⟨((n,d),(m,e)),rfl,⟨hn h1,hm J⟩,?_⟩;rw [show zh.val ((n,d),(m,e))=.int .i64 w from e1]
   conv=>whnf
   exact fin _ rfl
  ·rw [show bG.val (c,u,v)=.tuple ⟨[.int .i64 0,.int .i64 0,.bool false]⟩ from by simp only [bG,if_neg J,decide_eq_false J]]
   conv=>whnf
   refine .inl ⟨5,[[],[],[1],[],[1,2,3],[0,1,2,3,4],[0,1,2,3,4,5]],by kernel_rfl,?_⟩
   conv=>whnf
   refine ⟨(b,s,t),rfl,by have:=hp.1.2; show t.size≤_; exact Nat.le_trans this (by decide),?_⟩
   rw [ex];conv=>whnf
   refine ⟨(c,u,v),rfl,by have:=hp.2.2; show v.size≤_; exact Nat.le_trans this (by decide),?_⟩
   rw [ey];conv=>whnf
   refine ⟨(((b,s),(false,x)),((c,u),(false,y))),rfl,⟨f1,f2⟩,?_⟩;rw [show xp.val (((b,s),(false,x)),((c,u),(false,y)))=.int .i64 w from e2]
   conv=>whnf
   exact fin _ rfl
 ·rw [show bG.val (b,s,t)=.tuple ⟨[.int .i64 0,.int .i64 0,.bool false]⟩ from by simp only [bG,if_neg h1,decide_eq_false h1]]
  conv=>whnf
  obtain ⟨k1,k2,k3,hk⟩:∃ (k1 k2:Int) (k3:Bool),bG.val (c,u,v)=.tuple ⟨[.int .i64 k1,.int .i64 k2,.bool k3]⟩:=⟨_,_,_,rfl⟩;refine ⟨(c,u,v),rfl,trivial,?_⟩;rw [hk];conv=>whnf
  refine .inl ⟨5,[[],[],[1],[],[1,2,3],[0,1,2,3,4],[0,1,2,3,4,5]],by kernel_rfl,?_⟩
  conv=>whnf
  refine ⟨(b,s,t),rfl,by have:=hp.1.2; show t.size≤_; exact Nat.le_trans this (by decide),?_⟩
  rw [ex];conv=>whnf
  refine ⟨(c,u,v),rfl,by have:=hp.2.2; show v.size≤_; exact Nat.le_trans this (by decide),?_⟩
  rw [ey];conv=>whnf
  refine ⟨(((b,s),(false,x)),((c,u),(false,y))),rfl,⟨f1,f2⟩,?_⟩;rw [show xp.val (((b,s),(false,x)),((c,u),(false,y)))=.int .i64 w from e2]
  conv=>whnf
  exact fin _ rfl
open Go Go.Ae
def Eml:Env:=th [(36,.p kY),(88,.p lz),(86,.p oF),(87,.p lu),(83,.p eY),(130,.p gP)]
theorem zt:EnvOk Tryz.prog Eml:=vf ⟨Cd,Hb,Mr,Ha,r9,abq,trivial⟩ trivial
theorem wT:bh Tryz.prog 38 gH:=by
 refine bk zt aP Tryz.func38 (enters_of Tryz.func38 (by kernel_rfl) rfl) (fun _=>rfl) (fun _=>rfl) ?_
 intro ⟨⟨b,s,t⟩,⟨c,u,v⟩⟩ hp;have hp:RV.ok (b,s,t)∧RV.ok (c,u,v):=hp;obtain ⟨w,hw⟩:∃ w,w=RV.q (b,s,t) - RV.q (c,u,v):=⟨_,rfl⟩;conv=>whnf
 refine ⟨((b,s,t),(!c,u,v)),rfl,hp,?_⟩;rw [show kY.val ((b,s,t),(!c,u,v))=(RV.of w).v from by
  rw [hw];show bK (RV.q (b,s,t)+RV.q (!c,u,v))=bK _
  rw [Oj,← Rat.sub_eq_add_neg]]
 conv=>whnf
 show (RV.of w).v=bK _
 rw [hw]
 rfl
theorem F9:bh Tryz.prog 34 iC:=by
 refine bk zt aP Tryz.func34 (enters_of Tryz.func34 (by kernel_rfl) rfl) (fun _=>rfl) (fun _=>rfl) ?_
 intro ⟨b,s,t⟩ hp;have hp:RV.ok (b,s,t):=hp;obtain ⟨x,hx⟩:∃ x,x=RV.den (b,s,t):=⟨_,rfl⟩;obtain ⟨w,hw⟩:∃ w,w=a8 (RV.q (b,s,t)) 0:=⟨_,rfl⟩;conv=>whnf
 refine ⟨(b,s,t),rfl,by have:=hp.2; show t.size≤_; exact Nat.le_trans this (by decide),?_⟩
 rw [show lz.val (b,s,t)=.agg ⟨[.bool b,.string s,.bool false,.string x]⟩ from by rw [hx]; rfl]
 conv=>whnf
 refine ⟨((b,s),(false,⟨#[]⟩)),rfl,⟨by have:=hp.1; show s.size≤_; exact Nat.le_trans this (by decide),Nat.zero_le _⟩,?_⟩
 rw [show lu.val ((b,s),(false,⟨#[]⟩))=.int .i64 w from by rw [hw,ZQ]; rfl]
 conv=>whnf
 show Value.int .i64 w=_
 rw [hw]
 rfl
theorem yX:bh Tryz.prog 33 mo:=by
 refine bk zt aP Tryz.func33 (enters_of Tryz.func33 (by kernel_rfl) rfl) (fun _=>rfl) (fun _=>rfl) ?_
 intro (n:Int) hp;have hp:-9223372036854775808≤n∧n < 9223372036854775808:=hp;obtain ⟨w,hw⟩:∃ w:Rat,w=(n:Rat):=⟨_,rfl⟩;obtain ⟨B,m,hE⟩:=EI.mk' n;obtain ⟨k,hF⟩:=EI.iO (show 0≤(1:Int) by decide)
 have hm:=hE.size;have hk:=hF.size;have h8:=ud hp;have h1:=ud r1;conv=>whnf
 refine ⟨n,rfl,hp,?_⟩;rw [show eY.val n=.agg ⟨[.bool B,.string m]⟩ from hE.enc]
 conv=>whnf
 refine ⟨(1:Int),rfl,r1,?_⟩;rw [show eY.val (1:Int)=.agg ⟨[.bool false,.string k]⟩ from hF.enc]
 conv=>whnf
 refine ⟨((B,m),(false,k)),rfl,⟨by show m.size≤_; omega,by show k.size≤_; omega,by show 0 < IV.z (false,k); rw [hF.val]; decide⟩,?_⟩
 rw [show oF.val ((B,m),(false,k))=(RV.of w).v from by
  rw [hw,ic n];show bK (mkRat (IV.z (B,m)) (IV.z (false,k)).natAbs)=_
  rw [hE.val,hF.val]; rfl]
 conv=>whnf
 show (RV.of w).v=bK _
 rw [hw]
 rfl
theorem UQ:bh Tryz.prog 129 mO:=by
 refine bk zt aP Tryz.func129 (enters_of Tryz.func129 (by kernel_rfl) rfl) (fun _=>rfl) (fun _=>rfl) ?_
 intro ⟨b,s,t⟩ hp;have hp:RV.ok (b,s,t):=hp;obtain ⟨⟨c,u,v⟩,hw⟩:∃ w,w=RV.of (RV.q (b,s,t)):=⟨_,rfl⟩;obtain ⟨x,hx⟩:∃ x,x=RV.den (b,s,t):=⟨_,rfl⟩;have f1:=RV.lZ hp;have e1:=RV.adP (b,s,t);rw [show RV.den (b,s,t)=x from hx.symm] at f1 e1
 have heq:=Ez (b,s,t) (c,u,v);conv=>whnf
 refine .inl ⟨4,[[],[],[1],[1,2],[0,1,2,3]],by kernel_rfl,?_⟩
 conv=>whnf
 refine ⟨(b,s,t),rfl,by have:=hp.2; show t.size≤_; exact Nat.le_trans this (by decide),?_⟩
 rw [show lz.val (b,s,t)=.agg ⟨[.bool b,.string s,.bool false,.string x]⟩ from by rw [hx]; rfl]
 conv=>whnf
 refine ⟨((b,s),(false,x)),rfl,⟨Nat.le_trans f1.1.1 (by decide),Nat.le_trans f1.1.2 (by decide),f1.2⟩,?_⟩
 rw [show oF.val ((b,s),(false,x))=RV.v (c,u,v) from by
  rw [hw,e1]; rfl]
 conv=>whnf
 by_cases h:(b,s,t)=(c,u,v)
 ·rw [decide_eq_true h] at heq;refine aN (fun J=>?_) (fun J=>?_)
  ·exfalso;rw [show eT [Value.bool b,.string s,.string t] [.bool c,.string u,.string v]=true from heq] at J
   cases J
  ·conv=>whnf
   show _=Value.int .i64 (if (b,s,t)=RV.of (RV.q (b,s,t)) then 0 else 1)
   rw [← hw,if_pos h]
 ·rw [decide_eq_false h] at heq;refine aN (fun J=>?_) (fun J=>?_)
  ·conv=>whnf
   show _=Value.int .i64 (if (b,s,t)=RV.of (RV.q (b,s,t)) then 0 else 1)
   rw [← hw,if_neg h]
  ·exfalso;rw [show eT [Value.bool b,.string s,.string t] [.bool c,.string u,.string v]=false from heq] at J
   cases J
theorem NY:bh Tryz.prog 82 uL:=by
 refine bk zt aP Tryz.func82 (enters_of Tryz.func82 (by kernel_rfl) rfl) (fun _=>rfl) (fun _=>rfl) ?_
 intro ⟨⟨b,s⟩,⟨c,t⟩⟩ hp;have hp:s.size≤549755813888∧t.size≤549755813888:=hp;obtain ⟨x,hx⟩:∃ x,x=IV.z (b,s):=⟨_,rfl⟩;obtain ⟨y,hy⟩:∃ y,y=IV.z (c,t):=⟨_,rfl⟩;obtain ⟨w,hw⟩:∃ w,w=Rat.divInt x y:=⟨_,rfl⟩;have ec:lu.val ((c,t),(false,⟨#[]⟩))=.int .i64 (dO y 0):=by rw [hy]; rfl
 have nX:y=0→∀ v,v=bK 0→Value.tuple ⟨[v,.int .i64 10]⟩=uL.val ((b,s),(c,t)):=fun h v hv=>by
  show _=lC (IV.z (b,s)) (IV.z (c,t))
  rw [← hy,hv]; unfold lC; rw [if_pos h,h,Rat.divInt_zero]
 have fin:y≠0→∀ v,v=bK w→Value.tuple ⟨[v,.int .i64 0]⟩=uL.val ((b,s),(c,t)):=fun h v hv=>by
  show _=lC (IV.z (b,s)) (IV.z (c,t))
  rw [← hx,← hy,hv]; unfold lC; rw [if_neg h,hw]
 conv=>whnf
 refine ⟨((c,t),(false,⟨#[]⟩)),rfl,⟨hp.2,Nat.zero_le _⟩,?_⟩;rw [ec];rcases Int.lt_trichotomy y 0 with h | h | h
 ·rw [ua h];obtain ⟨B,m,hE⟩:=EI.mk' (-x);obtain ⟨k,hF⟩:=EI.iO (show 0≤-y by omega)
  have hm:m.size≤549755813888:=by rw [hE.size,Int.natAbs_neg,hx]; exact dE hp.1
  have hk:k.size≤549755813888:=by rw [hF.size,Int.natAbs_neg,hy]; exact dE hp.2
  conv=>whnf
  refine .inl ⟨3,[[],[0],[],[0,1,2],[0,1,2,3],[0,1,2,3,4]],by kernel_rfl,?_⟩
  conv=>whnf
  refine ⟨(b,s),rfl,hp.1,?_⟩;rw [show gP.val (b,s)=.agg ⟨[.bool B,.string m]⟩ from by show aH (-IV.z (b,s))=_; rw [← hx,hE.enc]]
  conv=>whnf
  refine ⟨(c,t),rfl,hp.2,?_⟩;rw [show gP.val (c,t)=.agg ⟨[.bool false,.string k]⟩ from by show aH (-IV.z (c,t))=_; rw [← hy,hF.enc]]
  conv=>whnf
  refine ⟨((B,m),(false,k)),rfl,⟨hm,hk,by show 0 < IV.z (false,k); rw [hF.val]; omega⟩,?_⟩
  rw [show oF.val ((B,m),(false,k))=(RV.of w).v from by
   rw [hw,Sn h];show bK (mkRat (IV.z (B,m)) (IV.z (false,k)).natAbs)=_
   rw [hE.val,hF.val]; rfl]
  conv=>whnf
  exact fin (by omega) _ rfl
 ·rw [h];conv=>whnf
  exact nX h _ ace.symm
 ·rw [ub h];conv=>whnf
  refine ⟨((b,s),(c,t)),rfl,⟨hp.1,hp.2,by show 0 < IV.z (c,t); omega⟩,?_⟩
  rw [show oF.val ((b,s),(c,t))=(RV.of w).v from by
   rw [hw,Lf h,hx,hy]; rfl]
  conv=>whnf
  exact fin (by omega) _ rfl
def Emm:Env:=En [(82,.p uL),(83,.p eY)]
theorem acG:EnvOk Tryz.prog Emm:=bH ⟨NY,r9,trivial⟩ trivial
theorem UR:bh Tryz.prog 30 Gv:=by
 refine bk acG aP Tryz.func30 (enters_of Tryz.func30 (by kernel_rfl) rfl) (fun _=>rfl) (fun _=>rfl) ?_
 intro ⟨n,d⟩ hp;have hp:(-9223372036854775808≤n∧n < 9223372036854775808)∧-9223372036854775808≤d∧d < 9223372036854775808:=hp;obtain ⟨B,m,hE⟩:=EI.mk' n;obtain ⟨D,k,hF⟩:=EI.mk' d;have hm:=hE.size;have hk:=hF.size;have h8:=ud hp.1;have h1:=ud hp.2;obtain ⟨q,e,Q0⟩:∃ (q:Rat) (e:Int),lC n d=.tuple ⟨[(RV.of q).v,.int .i64 e]⟩:=by
  exact ⟨_,_,rfl⟩
 conv=>whnf
 refine ⟨n,rfl,hp.1,?_⟩;rw [show eY.val n=.agg ⟨[.bool B,.string m]⟩ from hE.enc]
 conv=>whnf
 refine ⟨d,rfl,hp.2,?_⟩;rw [show eY.val d=.agg ⟨[.bool D,.string k]⟩ from hF.enc]
 conv=>whnf
 refine ⟨((B,m),(D,k)),rfl,⟨by show m.size≤_; omega,by show k.size≤_; omega⟩,?_⟩
 rw [show uL.val ((B,m),(D,k))=.tuple ⟨[(RV.of q).v,.int .i64 e]⟩ from by
  show lC (IV.z (B,m)) (IV.z (D,k))=_
  rw [hE.val,hF.val,Q0]]
 conv=>whnf
 show Value.tuple ⟨[(RV.of q).v,.int .i64 e]⟩=lC n d
 rw [Q0]
open Go Go.Ae
def Eqa:Env:=En [(173,.p iU),(155,.p eY),(175,.p uZ),(176,.p iF),(174,.p gP)]
theorem O9:EnvOk Tryz.prog Eqa:=bH ⟨GH,yW,Y3,Y4,GG,trivial⟩ trivial
theorem Nc:bh Tryz.prog 157 nH:=by
 refine bk O9 aP Tryz.func157 (enters_of Tryz.func157 (by kernel_rfl) rfl) (fun _=>rfl) (fun _=>rfl) ?_
 intro ⟨b,s,t⟩ hp;have hp:s.size≤8589934592∧t.size≤8589934592:=hp;obtain ⟨B,m,hE⟩:=EI.mk' (RV.n (b,s,t));obtain ⟨k,hF⟩:=EI.iO (show 0≤((ab t:Nat):Int) by omega)
 obtain ⟨j,hG⟩:=EI.iO (show 0≤(1:Int) by decide)
 have fin:∀ (v:Value),v=aH ((RV.d (b,s,t):Nat):Int)→Value.tuple ⟨[.agg ⟨[.bool B,.string m]⟩,v]⟩=nH.val (b,s,t):=fun v h=>by
  rw [h,← hE.enc]; rfl
 conv=>whnf
 refine ⟨((b,s),(false,⟨#[]⟩)),rfl,⟨by show s.size≤_; omega,Nat.zero_le _⟩,?_⟩
 rw [show iU.val ((b,s),(false,⟨#[]⟩))=.agg ⟨[.bool B,.string m]⟩ from by
  show aH (IV.z (b,s)+0)=_
  rw [Int.add_zero]; exact hE.enc]
 conv=>whnf
 refine ⟨((false,t),(false,⟨#[]⟩)),rfl,⟨by show t.size≤_; omega,Nat.zero_le _⟩,?_⟩
 rw [show iU.val ((false,t),(false,⟨#[]⟩))=.agg ⟨[.bool false,.string k]⟩ from by
  show aH (((ab t:Nat):Int)+0)=_
  rw [Int.add_zero]; exact hF.enc]
 conv=>whnf
 rw [hF.nil];by_cases h:ab t=0
 ·rw [decide_eq_true (by omega)]
  have fin:=fin (.agg ⟨[.bool false,.string j]⟩) (by rw [← hG.enc]; unfold RV.d; rw [if_pos h]; rfl)
  conv=>whnf
  refine ⟨(1:Int),rfl,r1,?_⟩;rw [show eY.val (1:Int)=.agg ⟨[.bool false,.string j]⟩ from hG.enc]
  conv=>whnf
  refine .inr (.inl ⟨(.br 0 (.br 1 (.br 2 (.br 3 .leaf .leaf) .leaf) (.br 2 (.br 1 (.br 3 .leaf .leaf) .leaf) .leaf)) (.br 1 (.br 0 (.br 2 (.br 3 .leaf .leaf) .leaf) .leaf) .leaf)),by kernel_rfl,?_⟩)
  repeat' ((conv=>whnf); first | exact True.intro | refine And.intro ?_ ?_)
  all_goals conv=>whnf
  all_goals exact fin
 ·rw [decide_eq_false (by omega)]
  have fin:=fin (.agg ⟨[.bool false,.string k]⟩) (by rw [← hF.enc]; unfold RV.d; rw [if_neg h])
  conv=>whnf
  refine .inr (.inl ⟨(.br 0 (.br 1 (.br 2 (.br 3 .leaf .leaf) .leaf) (.br 2 (.br 1 (.br 3 .leaf .leaf) .leaf) .leaf)) (.br 1 (.br 0 (.br 2 (.br 3 .leaf .leaf) .leaf) .leaf) .leaf)),by kernel_rfl,?_⟩)
  repeat' ((conv=>whnf); first | exact True.intro | refine And.intro ?_ ?_)
  all_goals conv=>whnf
  all_goals exact fin
theorem US:bh Tryz.prog 154 pS:=by
 refine bk O9 aP Tryz.func154 (enters_of Tryz.func154 (by kernel_rfl) rfl) (fun _=>rfl) (fun _=>rfl) ?_
 intro ⟨⟨b,s⟩,⟨c,t⟩⟩ hp;have hp:s.size≤549755813888∧t.size≤549755813888∧0 < IV.z (c,t):=hp;obtain ⟨x,hx⟩:∃ x,x=IV.z (b,s):=⟨_,rfl⟩;obtain ⟨d,hd⟩:∃ d,d=(IV.z (c,t)).natAbs:=⟨_,rfl⟩;have bS:IV.z (c,t)=((d:Nat):Int):=by omega
 have fu:d≠0:=by omega
 obtain ⟨q,hq⟩:∃ q,q=mkRat x d:=⟨_,rfl⟩;have fin:∀ v:Value,v=bK q→v=pS.val ((b,s),(c,t)):=fun v h=>by rw [h,hq,hx,hd]; rfl
 obtain ⟨B,m,hE⟩:=EI.mk' x;obtain ⟨k,hF⟩:=EI.iO (show 0≤((d:Nat):Int) by omega)
 have eP:aT d≤549755813888:=by rw [hd]; exact IV.aT (i:=(c,t)) hp.2.1
 have qY:m.size≤549755813888:=by rw [hE.size,hx]; exact dE hp.1
 have jr:k.size≤549755813888:=by rw [hF.size,Int.natAbs_natCast]; exact eP
 conv=>whnf
 refine .inl ⟨5,[[],[],[0,1],[],[],[0,1,2,3,4],[0,1,2,3,4,5],[0,1,2,3,4,5,6]],by kernel_rfl,?_⟩
 conv=>whnf
 refine ⟨((b,s),(false,⟨#[]⟩)),rfl,⟨hp.1,Nat.zero_le _⟩,?_⟩;rw [show iU.val ((b,s),(false,⟨#[]⟩))=.agg ⟨[.bool B,.string m]⟩ from by
  show aH (IV.z (b,s)+0)=_
  rw [Int.add_zero,← hx]; exact hE.enc]
 conv=>whnf
 refine ⟨((c,t),(false,⟨#[]⟩)),rfl,⟨hp.2.1,Nat.zero_le _⟩,?_⟩;rw [show iU.val ((c,t),(false,⟨#[]⟩))=.agg ⟨[.bool false,.string k]⟩ from by
  show aH (IV.z (c,t)+0)=_
  rw [Int.add_zero,bS]; exact hF.enc]
 conv=>whnf
 rw [hE.nil];by_cases h1:x=0
 ·rw [decide_eq_true h1];conv=>whnf
  exact fin _ (by rw [hq,h1]; exact (yk d).symm)
 ·rw [decide_eq_false h1];obtain ⟨g,hg⟩:∃ g,g=Int.gcd x d:=⟨_,rfl⟩;obtain ⟨gs,rn⟩:=EI.iO (show 0≤((g:Nat):Int) by omega)
  obtain ⟨qb,qs,hn⟩:=EI.mk' q.num;obtain ⟨es,he⟩:=EI.iO (show 0≤((q.den:Nat):Int) by omega)
  have nw:((g:Nat):Int)≠0:=by
   have:0 < g:=by rw [hg]; exact Int.gcd_pos_of_ne_zero_left _ h1
   omega
  have Iv:g≤d:=by
   have h3:=(AR fu hg).2.1;rcases Nat.lt_or_ge d g with h | h
   ·rw [Nat.div_eq_of_lt h] at h3; omega
   ·exact h
  have AA:gs.size≤549755813888:=by
   rw [rn.size,Int.natAbs_natCast];exact Nat.le_trans (iK Iv) eP
  have Jz:x.fdiv ((g:Nat):Int)=q.num:=by rw [hg,hq]; exact GX x fu
  have rk:((d:Nat):Int).fdiv ((g:Nat):Int)=((q.den:Nat):Int):=by rw [hg,hq]; exact GY x fu
  conv=>whnf
  refine ⟨((B,m),(false,k)),rfl,⟨qY,jr⟩,?_⟩;rw [show uZ.val ((B,m),(false,k))=.agg ⟨[.bool false,.string gs]⟩ from by
   show aH ((Int.gcd (IV.z (B,m)) (IV.z (false,k)):Nat):Int)=_
   rw [hE.val,hF.val,← hg,rn.enc]]
  conv=>whnf
  obtain ⟨fb,fs,hf⟩:=EI.mk' (x.fmod ((g:Nat):Int));refine ⟨((B,m),(false,gs)),rfl,⟨qY,AA⟩,?_⟩;rw [show iF.val ((B,m),(false,gs))=.tuple ⟨[.agg ⟨[.bool qb,.string qs]⟩,.agg ⟨[.bool fb,.string fs]⟩,.int .i64 0]⟩ from by
   simp only [iF,rn.val,hE.val,if_neg nw];rw [Jz,hn.enc,hf.enc]]
  conv=>whnf
  obtain ⟨kb,ks,hk⟩:=EI.mk' (((d:Nat):Int).fmod ((g:Nat):Int));refine ⟨((false,k),(false,gs)),rfl,⟨jr,AA⟩,?_⟩;rw [show iF.val ((false,k),(false,gs))=.tuple ⟨[.agg ⟨[.bool false,.string es]⟩,.agg ⟨[.bool kb,.string ks]⟩,.int .i64 0]⟩ from by
   simp only [iF,rn.val,hF.val,if_neg nw];rw [rk,he.enc,hk.enc]]
  conv=>whnf
  have enc:∀ y,fy q.den=y→Value.agg ⟨[.bool qb,.string qs,.string y]⟩=bK q:=fun y hy=>by
   unfold bK;rw [← hn.nt,← hn.sign,hy]
  have ees:es=nb q.den:=he.nt;have qB:(es.toList == (⟨#[1]⟩:ByteArray).toList)=decide (q.den=1):=by
   rw [pZ,ees,show (⟨#[1]⟩:ByteArray)=nb 1 from adR.symm]
   by_cases h:q.den=1
   ·rw [h]; simp
   ·rw [decide_eq_false h,decide_eq_false (fun e=>h (Od e))]
  rw [qB];by_cases J:q.den=1
  ·rw [decide_eq_true J];conv=>whnf
   exact fin _ (enc _ (by unfold fy; rw [if_pos J]))
  ·rw [decide_eq_false J];conv=>whnf
   exact fin _ (enc _ (by unfold fy; rw [if_neg J,he.nt,Int.natAbs_natCast]))
open Go Go.Ae
def Eqb:Env:=th [(158,.p bG),(172,.p nG),(157,.p nH),(154,.p pS),(155,.p eY),(173,.p iU),(160,.p fi),(159,.p lu)]
theorem zu:EnvOk Tryz.prog Eqb:=vf ⟨Wp,Wr,Nc,US,yW,GH,Y2,Y0,trivial⟩ trivial
theorem Zd:bh Tryz.prog 120 mo:=by
 refine bk zu aP Tryz.func120 (enters_of Tryz.func120 (by kernel_rfl) rfl) (fun _=>rfl) (fun _=>rfl) ?_
 intro (n:Int) hp;have hp:-9223372036854775808≤n∧n < 9223372036854775808:=hp;obtain ⟨w,hw⟩:∃ w:Rat,w=(n:Rat):=⟨_,rfl⟩;obtain ⟨B,m,hE⟩:=EI.mk' n;obtain ⟨k,hF⟩:=EI.iO (show 0≤(1:Int) by decide)
 have hm:=hE.size;have hk:=hF.size;have h8:=ud hp;have h1:=ud r1;conv=>whnf
 refine ⟨n,rfl,hp,?_⟩;rw [show eY.val n=.agg ⟨[.bool B,.string m]⟩ from hE.enc]
 conv=>whnf
 refine ⟨(1:Int),rfl,r1,?_⟩;rw [show eY.val (1:Int)=.agg ⟨[.bool false,.string k]⟩ from hF.enc]
 conv=>whnf
 refine ⟨((B,m),(false,k)),rfl,⟨by show m.size≤_; omega,by show k.size≤_; omega,by show 0 < IV.z (false,k); rw [hF.val]; decide⟩,?_⟩
 rw [show pS.val ((B,m),(false,k))=(RV.of w).v from by
  rw [hw,ic n];show bK (mkRat (IV.z (B,m)) (IV.z (false,k)).natAbs)=_
  rw [hE.val,hF.val]; rfl]
 conv=>whnf
 show (RV.of w).v=bK _
 rw [hw]
 rfl
theorem Ms:bh Tryz.prog 153 yT:=by
 refine bk zu aP Tryz.func153 (enters_of Tryz.func153 (by kernel_rfl) rfl) (fun _=>rfl) (fun _=>rfl) ?_
 intro ⟨b,s,t⟩ hp;have hp:s.size≤8589934592∧t.size≤8589934592:=hp;obtain ⟨w,hw⟩:∃ w,w=RV.q (b,s,t):=⟨_,rfl⟩;have fin:∀ x:Value,x=(RV.of w).v→x=yT.val (b,s,t):=fun x h=>by rw [h,hw]; rfl
 have hn:=RV.jI (i:=(b,s,t));obtain ⟨n,bO⟩:∃ n,n=RV.n (b,s,t):=⟨_,rfl⟩;obtain ⟨d,bS⟩:∃ n,n=RV.d (b,s,t):=⟨_,rfl⟩;have fu:d≠0:=by rw [bS]; exact RV.jF _
 have Q1:w=mkRat n d:=by rw [hw,bO,bS]; rfl
 conv=>whnf
 refine ⟨(b,s,t),rfl,trivial,?_⟩;by_cases h1:RV.fK (b,s,t)
 ·rw [show bG.val (b,s,t)=.tuple ⟨[.int .i64 n,.int .i64 d,.bool true]⟩ from by simp only [bG,if_pos h1,decide_eq_true h1,bO,bS]]
  have hn:=hn h1;rw [← bO,← bS] at hn;have hn:(-16777216 < n∧n < 16777216)∧0 < d∧d < 16777216:=hn;conv=>whnf
  refine ⟨(n,d),rfl,⟨by show n.natAbs < _; omega,by show d≠0; omega,by show d < _; omega⟩,?_⟩
  rw [show nG.val (n,d)=(RV.of w).v from by rw [Q1]; rfl]
  conv=>whnf
  exact fin _ rfl
 ·rw [show bG.val (b,s,t)=.tuple ⟨[.int .i64 0,.int .i64 0,.bool false]⟩ from by simp only [bG,if_neg h1,decide_eq_false h1]]
  obtain ⟨B,m,hE⟩:=EI.mk' n;obtain ⟨k,hF⟩:=EI.iO (show 0≤((d:Nat):Int) by omega)
  have qY:m.size≤8589934592:=by rw [hE.size,bO]; exact dE (b:=b) hp.1
  have jr:k.size≤8589934593:=by
   rw [hF.size,bS,← RV.jH];exact dE (Nat.le_trans (RV.rK _) (Nat.succ_le_succ hp.2))
  conv=>whnf
  refine ⟨(b,s,t),rfl,hp,?_⟩;rw [show nH.val (b,s,t)=.tuple ⟨[.agg ⟨[.bool B,.string m]⟩,.agg ⟨[.bool false,.string k]⟩]⟩ from by
   rw [← hE.enc,← hF.enc,bO,bS]; rfl]
  conv=>whnf
  refine ⟨((B,m),(false,k)),rfl,⟨by show m.size≤_; omega,by show k.size≤_; omega,by show 0 < IV.z (false,k); rw [hF.val]; omega⟩,?_⟩
  rw [show pS.val ((B,m),(false,k))=(RV.of w).v from by
   show bK (mkRat (IV.z (B,m)) (IV.z (false,k)).natAbs)=_
   rw [hE.val,hF.val,Q1,Int.natAbs_natCast]; rfl]
  conv=>whnf
  exact fin _ rfl
def Eqc:Env:=th [(153,.p yT)]
theorem acH:EnvOk Tryz.prog Eqc:=vf ⟨Ms,trivial⟩ trivial
theorem TL:bh Tryz.prog 119 mO:=by
 refine bk acH aP Tryz.func119 (enters_of Tryz.func119 (by kernel_rfl) rfl) (fun _=>rfl) (fun _=>rfl) ?_
 intro ⟨b,s,t⟩ hp;have hp:RV.ok (b,s,t):=hp;obtain ⟨⟨c,u,v⟩,hw⟩:∃ w,w=RV.of (RV.q (b,s,t)):=⟨_,rfl⟩;have heq:=Ez (c,u,v) (b,s,t);conv=>whnf
 refine .inl ⟨3,[[],[0],[],[0,1,2]],by kernel_rfl,?_⟩
 conv=>whnf
 refine ⟨(b,s,t),rfl,hp,?_⟩;rw [show yT.val (b,s,t)=RV.v (c,u,v) from by rw [hw]; rfl]
 conv=>whnf
 by_cases h:(c,u,v)=(b,s,t)
 ·rw [decide_eq_true h] at heq;refine aN (fun J=>?_) (fun J=>?_)
  ·exfalso;rw [show eT [Value.bool c,.string u,.string v] [.bool b,.string s,.string t]=true from heq] at J
   cases J
  ·conv=>whnf
   show _=Value.int .i64 (if (b,s,t)=RV.of (RV.q (b,s,t)) then 0 else 1)
   rw [← hw,if_pos h.symm]
 ·rw [decide_eq_false h] at heq;refine aN (fun J=>?_) (fun J=>?_)
  ·conv=>whnf
   show _=Value.int .i64 (if (b,s,t)=RV.of (RV.q (b,s,t)) then 0 else 1)
   rw [← hw,if_neg (fun e=>h e.symm)]
  ·exfalso;rw [show eT [Value.bool c,.string u,.string v] [.bool b,.string s,.string t]=false from heq] at J
   cases J
open Go Go.Ae
theorem Nd:bh Tryz.prog 169 kY:=by
 refine bk zu aP Tryz.func169 (enters_of Tryz.func169 (by kernel_rfl) rfl) (fun _=>rfl) (fun _=>rfl) ?_
 intro ⟨⟨b,s,t⟩,⟨c,u,v⟩⟩ hp;have hp:(s.size≤8589934592∧t.size≤8589934592)∧u.size≤8589934592∧v.size≤8589934592:=hp;have hn:=RV.jI (i:=(b,s,t));have hm:=RV.jI (i:=(c,u,v));obtain ⟨n,bO⟩:∃ n,n=RV.n (b,s,t):=⟨_,rfl⟩;obtain ⟨m,eH⟩:∃ n,n=RV.n (c,u,v):=⟨_,rfl⟩;obtain ⟨d,bS⟩:∃ n,n=RV.d (b,s,t):=⟨_,rfl⟩;obtain ⟨e,cj⟩:∃ n,n=RV.d (c,u,v):=⟨_,rfl⟩;have fu:d≠0:=by rw [bS]; exact RV.jF _
 have Q5:e≠0:=by rw [cj]; exact RV.jF _
 rw [← bO,← bS] at hn;rw [← eH,← cj] at hm;obtain ⟨B,p,hP⟩:=EI.mk' n;obtain ⟨q,hQ⟩:=EI.iO (show 0≤((d:Nat):Int) by omega)
 obtain ⟨D,p',lR⟩:=EI.mk' m;obtain ⟨q',ko⟩:=EI.iO (show 0≤((e:Nat):Int) by omega)
 have sn:aT n.natAbs≤8589934593:=by rw [bO]; exact dE (b:=b) (Nat.le_succ_of_le hp.1.1)
 have sm:aT m.natAbs≤8589934593:=by rw [eH]; exact dE (b:=c) (Nat.le_succ_of_le hp.2.1)
 have sd:aT (Int.natAbs ((d:Nat):Int))≤8589934593:=by
  rw [bS,← RV.jH];exact dE (Nat.le_trans (RV.rK _) (Nat.succ_le_succ hp.1.2))
 have se:aT (Int.natAbs ((e:Nat):Int))≤8589934593:=by
  rw [cj,← RV.jH];exact dE (Nat.le_trans (RV.rK _) (Nat.succ_le_succ hp.2.2))
 have zp:p.size≤8589934593:=by rw [hP.size]; exact sn
 have zq:q.size≤8589934593:=by rw [hQ.size]; exact sd
 have Q6:p'.size≤8589934593:=by rw [lR.size]; exact sm
 have Q7:q'.size≤8589934593:=by rw [ko.size]; exact se
 have pa:nH.val (b,s,t)=.tuple ⟨[.agg ⟨[.bool B,.string p]⟩,.agg ⟨[.bool false,.string q]⟩]⟩:=by
  rw [← hP.enc,← hQ.enc,bO,bS]; rfl
 have pb:nH.val (c,u,v)=.tuple ⟨[.agg ⟨[.bool D,.string p']⟩,.agg ⟨[.bool false,.string q']⟩]⟩:=by
  rw [← lR.enc,← ko.enc,eH,cj]; rfl
 obtain ⟨w,hw⟩:∃ w,w=mkRat (n*e+m*d) (d*e):=⟨_,rfl⟩;have fin:∀ x:Value,x=(RV.of w).v→x=kY.val ((b,s,t),(c,u,v)):=fun x h=>by
  rw [h,hw,bO,eH,bS,cj];show bK _=bK (RV.q (b,s,t)+RV.q (c,u,v))
  rw [Hv]
 conv=>whnf
 refine ⟨(b,s,t),rfl,trivial,?_⟩;by_cases h1:RV.fK (b,s,t)
 ·rw [show bG.val (b,s,t)=.tuple ⟨[.int .i64 n,.int .i64 d,.bool true]⟩ from by simp only [bG,if_pos h1,decide_eq_true h1,bO,bS]]
  conv=>whnf
  refine ⟨(c,u,v),rfl,trivial,?_⟩;by_cases J:RV.fK (c,u,v)
  ·rw [show bG.val (c,u,v)=.tuple ⟨[.int .i64 m,.int .i64 e,.bool true]⟩ from by simp only [bG,if_pos J,decide_eq_true J,eH,cj]]
   have bf:I4.ok ((n,d),(m,e)):=⟨hn h1,hm J⟩;obtain ⟨b1,b2,b3,b4⟩:=I4.bounds bf;simp only at b1 b2 b3 b4;conv=>whnf
   obtain ⟨x,hx⟩:∃ x,x=n*(e:Int):=⟨_,rfl⟩;obtain ⟨y,hy⟩:∃ y,y=m*(d:Int):=⟨_,rfl⟩;obtain ⟨k,hk⟩:∃ k,k=d*e:=⟨_,rfl⟩;rw [← hx] at b1;rw [← hy] at b2;rw [← hk] at b4;have e1:IntKind.i64.wrap (IntKind.i64.wrap (n*(e:Int))+IntKind.i64.wrap (m*(d:Int)))=x+y:=by
    rw [← hx,← hy,ay (x:=x) (by omega) (by omega),ay (x:=y) (by omega) (by omega),ay (by omega) (by omega)]
   have e2:IntKind.i64.wrap ((d:Int)*(e:Int))=(k:Int):=by
    rw [← Int.natCast_mul,← hk,ay (by omega) (by omega)]
   rw [e1,e2];refine ⟨(x+y,k),rfl,⟨by show (x+y).natAbs < _; omega,by show k≠0; omega,by show k < _; omega⟩,?_⟩
   rw [show nG.val (x+y,k)=(RV.of w).v from by rw [hw,hx,hy,hk]; rfl]
   conv=>whnf
   exact fin _ rfl
  ·rw [show bG.val (c,u,v)=.tuple ⟨[.int .i64 0,.int .i64 0,.bool false]⟩ from by simp only [bG,if_neg J,decide_eq_false J]]
   conv=>whnf
   refine ⟨(b,s,t),rfl,hp.1,?_⟩;rw [pa];conv=>whnf
   refine ⟨(c,u,v),rfl,hp.2,?_⟩;rw [pb];obtain ⟨B1,m1,g1⟩:=EI.mk' (n*(e:Int));obtain ⟨B2,m2,g2⟩:=EI.mk' (m*(d:Int));obtain ⟨B3,m3,g3⟩:=EI.mk' (n*(e:Int)+m*(d:Int));obtain ⟨B4,m4,g4⟩:=EI.mk' ((d:Int)*(e:Int));have z1:=g1.gx sn se;have z2:=g2.gx sm sd;have z4:=g4.gx sd se;have z3:m3.size≤17179869187:=g3.FU (by rw [← g1.size]; omega) (by rw [← g2.size]; omega)
   have lg:(0:Int) < (d:Int)*(e:Int):=Int.mul_pos (by omega) (by omega)
   conv=>whnf
   refine .inl ⟨9,[[],[],[0,1],[],[],[0,1,2,3,4],[0,1,2,3,4,5],[],[],[0,1,2,3,4,5,6,7,8],[0,1,2,3,4,5,6,7,8,9],[0,1,2,3,4,5,6,7,8,9,10]],by kernel_rfl,?_⟩
   conv=>whnf
   refine ⟨((B,p),(false,q')),rfl,⟨by show p.size≤_; omega,by show q'.size≤_; omega⟩,?_⟩
   rw [show fi.val ((B,p),(false,q'))=.agg ⟨[.bool B1,.string m1]⟩ from by show aH (IV.z (B,p)*IV.z (false,q'))=_; rw [hP.val,ko.val,g1.enc]]
   conv=>whnf
   refine ⟨((D,p'),(false,q)),rfl,⟨by show p'.size≤_; omega,by show q.size≤_; omega⟩,?_⟩
   rw [show fi.val ((D,p'),(false,q))=.agg ⟨[.bool B2,.string m2]⟩ from by show aH (IV.z (D,p')*IV.z (false,q))=_; rw [lR.val,hQ.val,g2.enc]]
   conv=>whnf
   refine ⟨((B1,m1),(B2,m2)),rfl,⟨by show m1.size≤_; omega,by show m2.size≤_; omega⟩,?_⟩
   rw [show iU.val ((B1,m1),(B2,m2))=.agg ⟨[.bool B3,.string m3]⟩ from by show aH (IV.z (B1,m1)+IV.z (B2,m2))=_; rw [g1.val,g2.val,g3.enc]]
   conv=>whnf
   refine ⟨((false,q),(false,q')),rfl,⟨by show q.size≤_; omega,by show q'.size≤_; omega⟩,?_⟩
   rw [show fi.val ((false,q),(false,q'))=.agg ⟨[.bool B4,.string m4]⟩ from by show aH (IV.z (false,q)*IV.z (false,q'))=_; rw [hQ.val,ko.val,g4.enc]]
   conv=>whnf
   refine ⟨((B3,m3),(B4,m4)),rfl,⟨by show m3.size≤_; omega,by show m4.size≤_; omega,by show 0 < IV.z (B4,m4); rw [g4.val]; exact lg⟩,?_⟩
   rw [show pS.val ((B3,m3),(B4,m4))=(RV.of w).v from by
    show bK (mkRat (IV.z (B3,m3)) (IV.z (B4,m4)).natAbs)=_
    rw [g3.val,g4.val,hw,← Int.natCast_mul,Int.natAbs_natCast]; rfl]
   conv=>whnf
   exact fin _ rfl
 ·rw [show bG.val (b,s,t)=.tuple ⟨[.int .i64 0,.int .i64 0,.bool false]⟩ from by simp only [bG,if_neg h1,decide_eq_false h1]]
  conv=>whnf
  obtain ⟨k1,k2,k3,hk⟩:∃ (k1 k2:Int) (k3:Bool),bG.val (c,u,v)=.tuple ⟨[.int .i64 k1,.int .i64 k2,.bool k3]⟩:=⟨_,_,_,rfl⟩;refine ⟨(c,u,v),rfl,trivial,?_⟩;rw [hk];conv=>whnf
  refine ⟨(b,s,t),rfl,hp.1,?_⟩;rw [pa];conv=>whnf
  refine ⟨(c,u,v),rfl,hp.2,?_⟩;rw [pb];obtain ⟨B1,m1,g1⟩:=EI.mk' (n*(e:Int));obtain ⟨B2,m2,g2⟩:=EI.mk' (m*(d:Int));obtain ⟨B3,m3,g3⟩:=EI.mk' (n*(e:Int)+m*(d:Int));obtain ⟨B4,m4,g4⟩:=EI.mk' ((d:Int)*(e:Int));have z1:=g1.gx sn se;have z2:=g2.gx sm sd;have z4:=g4.gx sd se;have z3:m3.size≤17179869187:=g3.FU (by rw [← g1.size]; omega) (by rw [← g2.size]; omega)
  have lg:(0:Int) < (d:Int)*(e:Int):=Int.mul_pos (by omega) (by omega)
  conv=>whnf
  refine .inl ⟨9,[[],[],[0,1],[],[],[0,1,2,3,4],[0,1,2,3,4,5],[],[],[0,1,2,3,4,5,6,7,8],[0,1,2,3,4,5,6,7,8,9],[0,1,2,3,4,5,6,7,8,9,10]],by kernel_rfl,?_⟩
  conv=>whnf
  refine ⟨((B,p),(false,q')),rfl,⟨by show p.size≤_; omega,by show q'.size≤_; omega⟩,?_⟩
  rw [show fi.val ((B,p),(false,q'))=.agg ⟨[.bool B1,.string m1]⟩ from by show aH (IV.z (B,p)*IV.z (false,q'))=_; rw [hP.val,ko.val,g1.enc]]
  conv=>whnf
  refine ⟨((D,p'),(false,q)),rfl,⟨by show p'.size≤_; omega,by show q.size≤_; omega⟩,?_⟩
  rw [show fi.val ((D,p'),(false,q))=.agg ⟨[.bool B2,.string m2]⟩ from by show aH (IV.z (D,p')*IV.z (false,q))=_; rw [lR.val,hQ.val,g2.enc]]
  conv=>whnf
  refine ⟨((B1,m1),(B2,m2)),rfl,⟨by show m1.size≤_; omega,by show m2.size≤_; omega⟩,?_⟩
  rw [show iU.val ((B1,m1),(B2,m2))=.agg ⟨[.bool B3,.string m3]⟩ from by show aH (IV.z (B1,m1)+IV.z (B2,m2))=_; rw [g1.val,g2.val,g3.enc]]
  conv=>whnf
  refine ⟨((false,q),(false,q')),rfl,⟨by show q.size≤_; omega,by show q'.size≤_; omega⟩,?_⟩
  rw [show fi.val ((false,q),(false,q'))=.agg ⟨[.bool B4,.string m4]⟩ from by show aH (IV.z (false,q)*IV.z (false,q'))=_; rw [hQ.val,ko.val,g4.enc]]
  conv=>whnf
  refine ⟨((B3,m3),(B4,m4)),rfl,⟨by show m3.size≤_; omega,by show m4.size≤_; omega,by show 0 < IV.z (B4,m4); rw [g4.val]; exact lg⟩,?_⟩
  rw [show pS.val ((B3,m3),(B4,m4))=(RV.of w).v from by
   show bK (mkRat (IV.z (B3,m3)) (IV.z (B4,m4)).natAbs)=_
   rw [g3.val,g4.val,hw,← Int.natCast_mul,Int.natAbs_natCast]; rfl]
  conv=>whnf
  exact fin _ rfl
theorem Nf:bh Tryz.prog 156 kZ:=by
 refine bk zu aP Tryz.func156 (enters_of Tryz.func156 (by kernel_rfl) rfl) (fun _=>rfl) (fun _=>rfl) ?_
 intro ⟨⟨b,s,t⟩,⟨c,u,v⟩⟩ hp;have hp:(s.size≤8589934592∧t.size≤8589934592)∧u.size≤8589934592∧v.size≤8589934592:=hp;have hn:=RV.jI (i:=(b,s,t));have hm:=RV.jI (i:=(c,u,v));obtain ⟨n,bO⟩:∃ n,n=RV.n (b,s,t):=⟨_,rfl⟩;obtain ⟨m,eH⟩:∃ n,n=RV.n (c,u,v):=⟨_,rfl⟩;obtain ⟨d,bS⟩:∃ n,n=RV.d (b,s,t):=⟨_,rfl⟩;obtain ⟨e,cj⟩:∃ n,n=RV.d (c,u,v):=⟨_,rfl⟩;have fu:d≠0:=by rw [bS]; exact RV.jF _
 have Q5:e≠0:=by rw [cj]; exact RV.jF _
 rw [← bO,← bS] at hn;rw [← eH,← cj] at hm;obtain ⟨B,p,hP⟩:=EI.mk' n;obtain ⟨q,hQ⟩:=EI.iO (show 0≤((d:Nat):Int) by omega)
 obtain ⟨D,p',lR⟩:=EI.mk' m;obtain ⟨q',ko⟩:=EI.iO (show 0≤((e:Nat):Int) by omega)
 have sn:aT n.natAbs≤8589934593:=by rw [bO]; exact dE (b:=b) (Nat.le_succ_of_le hp.1.1)
 have sm:aT m.natAbs≤8589934593:=by rw [eH]; exact dE (b:=c) (Nat.le_succ_of_le hp.2.1)
 have sd:aT (Int.natAbs ((d:Nat):Int))≤8589934593:=by
  rw [bS,← RV.jH];exact dE (Nat.le_trans (RV.rK _) (Nat.succ_le_succ hp.1.2))
 have se:aT (Int.natAbs ((e:Nat):Int))≤8589934593:=by
  rw [cj,← RV.jH];exact dE (Nat.le_trans (RV.rK _) (Nat.succ_le_succ hp.2.2))
 have zp:p.size≤8589934593:=by rw [hP.size]; exact sn
 have zq:q.size≤8589934593:=by rw [hQ.size]; exact sd
 have Q6:p'.size≤8589934593:=by rw [lR.size]; exact sm
 have Q7:q'.size≤8589934593:=by rw [ko.size]; exact se
 have pa:nH.val (b,s,t)=.tuple ⟨[.agg ⟨[.bool B,.string p]⟩,.agg ⟨[.bool false,.string q]⟩]⟩:=by
  rw [← hP.enc,← hQ.enc,bO,bS]; rfl
 have pb:nH.val (c,u,v)=.tuple ⟨[.agg ⟨[.bool D,.string p']⟩,.agg ⟨[.bool false,.string q']⟩]⟩:=by
  rw [← lR.enc,← ko.enc,eH,cj]; rfl
 obtain ⟨w,hw⟩:∃ w,w=mkRat (n*m) (d*e):=⟨_,rfl⟩;have fin:∀ x:Value,x=(RV.of w).v→x=kZ.val ((b,s,t),(c,u,v)):=fun x h=>by
  rw [h,hw,bO,eH,bS,cj];show bK _=bK (RV.q (b,s,t)*RV.q (c,u,v))
  rw [Hw]
 conv=>whnf
 refine ⟨(b,s,t),rfl,trivial,?_⟩;by_cases h1:RV.fK (b,s,t)
 ·rw [show bG.val (b,s,t)=.tuple ⟨[.int .i64 n,.int .i64 d,.bool true]⟩ from by simp only [bG,if_pos h1,decide_eq_true h1,bO,bS]]
  conv=>whnf
  refine ⟨(c,u,v),rfl,trivial,?_⟩;by_cases J:RV.fK (c,u,v)
  ·rw [show bG.val (c,u,v)=.tuple ⟨[.int .i64 m,.int .i64 e,.bool true]⟩ from by simp only [bG,if_pos J,decide_eq_true J,eH,cj]]
   have bf:I4.ok ((n,d),(m,e)):=⟨hn h1,hm J⟩;obtain ⟨b1,b2,b3,b4⟩:=I4.bounds bf;simp only at b1 b2 b3 b4;conv=>whnf
   obtain ⟨x,hx⟩:∃ x,x=n*m:=⟨_,rfl⟩;obtain ⟨k,hk⟩:∃ k,k=d*e:=⟨_,rfl⟩;rw [← hx] at b3;rw [← hk] at b4;have e1:IntKind.i64.wrap (n*m)=x:=by
    rw [← hx,ay (x:=x) (by omega) (by omega)]
   have e2:IntKind.i64.wrap ((d:Int)*(e:Int))=(k:Int):=by
    rw [← Int.natCast_mul,← hk,ay (by omega) (by omega)]
   rw [e1,e2];refine ⟨(x,k),rfl,⟨by show x.natAbs < _; omega,by show k≠0; omega,by show k < _; omega⟩,?_⟩
   rw [show nG.val (x,k)=(RV.of w).v from by rw [hw,hx,hk]; rfl]
   conv=>whnf
   exact fin _ rfl
  ·rw [show bG.val (c,u,v)=.tuple ⟨[.int .i64 0,.int .i64 0,.bool false]⟩ from by simp only [bG,if_neg J,decide_eq_false J]]
   conv=>whnf
   refine ⟨(b,s,t),rfl,hp.1,?_⟩;rw [pa];conv=>whnf
   refine ⟨(c,u,v),rfl,hp.2,?_⟩;rw [pb];obtain ⟨B1,m1,g1⟩:=EI.mk' (n*m);obtain ⟨B4,m4,g4⟩:=EI.mk' ((d:Int)*(e:Int));have z1:=g1.gx sn sm;have z4:=g4.gx sd se;have lg:(0:Int) < (d:Int)*(e:Int):=Int.mul_pos (by omega) (by omega)
   conv=>whnf
   refine .inl ⟨5,[[],[],[0,1],[],[],[0,1,2,3,4],[0,1,2,3,4,5],[0,1,2,3,4,5,6]],by kernel_rfl,?_⟩
   conv=>whnf
   refine ⟨((B,p),(D,p')),rfl,⟨by show p.size≤_; omega,by show p'.size≤_; omega⟩,?_⟩
   rw [show fi.val ((B,p),(D,p'))=.agg ⟨[.bool B1,.string m1]⟩ from by show aH (IV.z (B,p)*IV.z (D,p'))=_; rw [hP.val,lR.val,g1.enc]]
   conv=>whnf
   refine ⟨((false,q),(false,q')),rfl,⟨by show q.size≤_; omega,by show q'.size≤_; omega⟩,?_⟩
   rw [show fi.val ((false,q),(false,q'))=.agg ⟨[.bool B4,.string m4]⟩ from by show aH (IV.z (false,q)*IV.z (false,q'))=_; rw [hQ.val,ko.val,g4.enc]]
   conv=>whnf
   refine ⟨((B1,m1),(B4,m4)),rfl,⟨by show m1.size≤_; omega,by show m4.size≤_; omega,by show 0 < IV.z (B4,m4); rw [g4.val]; exact lg⟩,?_⟩
   rw [show pS.val ((B1,m1),(B4,m4))=(RV.of w).v from by
    show bK (mkRat (IV.z (B1,m1)) (IV.z (B4,m4)).natAbs)=_
    rw [g1.val,g4.val,hw,← Int.natCast_mul,Int.natAbs_natCast]; rfl]
   conv=>whnf
   exact fin _ rfl
 ·rw [show bG.val (b,s,t)=.tuple ⟨[.int .i64 0,.int .i64 0,.bool false]⟩ from by simp only [bG,if_neg h1,decide_eq_false h1]]
  conv=>whnf
  obtain ⟨k1,k2,k3,hk⟩:∃ (k1 k2:Int) (k3:Bool),bG.val (c,u,v)=.tuple ⟨[.int .i64 k1,.int .i64 k2,.bool k3]⟩:=⟨_,_,_,rfl⟩;refine ⟨(c,u,v),rfl,trivial,?_⟩;rw [hk];conv=>whnf
  refine ⟨(b,s,t),rfl,hp.1,?_⟩;rw [pa];conv=>whnf
  refine ⟨(c,u,v),rfl,hp.2,?_⟩;rw [pb];obtain ⟨B1,m1,g1⟩:=EI.mk' (n*m);obtain ⟨B4,m4,g4⟩:=EI.mk' ((d:Int)*(e:Int));have z1:=g1.gx sn sm;have z4:=g4.gx sd se;have lg:(0:Int) < (d:Int)*(e:Int):=Int.mul_pos (by omega) (by omega)
  conv=>whnf
  refine .inl ⟨5,[[],[],[0,1],[],[],[0,1,2,3,4],[0,1,2,3,4,5],[0,1,2,3,4,5,6]],by kernel_rfl,?_⟩
  conv=>whnf
  refine ⟨((B,p),(D,p')),rfl,⟨by show p.size≤_; omega,by show p'.size≤_; omega⟩,?_⟩
  rw [show fi.val ((B,p),(D,p'))=.agg ⟨[.bool B1,.string m1]⟩ from by show aH (IV.z (B,p)*IV.z (D,p'))=_; rw [hP.val,lR.val,g1.enc]]
  conv=>whnf
  refine ⟨((false,q),(false,q')),rfl,⟨by show q.size≤_; omega,by show q'.size≤_; omega⟩,?_⟩
  rw [show fi.val ((false,q),(false,q'))=.agg ⟨[.bool B4,.string m4]⟩ from by show aH (IV.z (false,q)*IV.z (false,q'))=_; rw [hQ.val,ko.val,g4.enc]]
  conv=>whnf
  refine ⟨((B1,m1),(B4,m4)),rfl,⟨by show m1.size≤_; omega,by show m4.size≤_; omega,by show 0 < IV.z (B4,m4); rw [g4.val]; exact lg⟩,?_⟩
  rw [show pS.val ((B1,m1),(B4,m4))=(RV.of w).v from by
   show bK (mkRat (IV.z (B1,m1)) (IV.z (B4,m4)).natAbs)=_
   rw [g1.val,g4.val,hw,← Int.natCast_mul,Int.natAbs_natCast]; rfl]
  conv=>whnf
  exact fin _ rfl
theorem Ga:bh Tryz.prog 128 jG:=by
 refine bk zu aP Tryz.func128 (enters_of Tryz.func128 (by kernel_rfl) rfl) (fun _=>rfl) (fun _=>rfl) ?_
 intro ⟨⟨b,s,t⟩,⟨c,u,v⟩⟩ hp;have hp:(s.size≤8589934592∧t.size≤8589934592)∧u.size≤8589934592∧v.size≤8589934592:=hp;have hn:=RV.jI (i:=(b,s,t));have hm:=RV.jI (i:=(c,u,v));obtain ⟨n,bO⟩:∃ n,n=RV.n (b,s,t):=⟨_,rfl⟩;obtain ⟨m,eH⟩:∃ n,n=RV.n (c,u,v):=⟨_,rfl⟩;obtain ⟨d,bS⟩:∃ n,n=RV.d (b,s,t):=⟨_,rfl⟩;obtain ⟨e,cj⟩:∃ n,n=RV.d (c,u,v):=⟨_,rfl⟩;have fu:d≠0:=by rw [bS]; exact RV.jF _
 have Q5:e≠0:=by rw [cj]; exact RV.jF _
 rw [← bO,← bS] at hn;rw [← eH,← cj] at hm;obtain ⟨B,p,hP⟩:=EI.mk' n;obtain ⟨q,hQ⟩:=EI.iO (show 0≤((d:Nat):Int) by omega)
 obtain ⟨D,p',lR⟩:=EI.mk' m;obtain ⟨q',ko⟩:=EI.iO (show 0≤((e:Nat):Int) by omega)
 have sn:aT n.natAbs≤8589934593:=by rw [bO]; exact dE (b:=b) (Nat.le_succ_of_le hp.1.1)
 have sm:aT m.natAbs≤8589934593:=by rw [eH]; exact dE (b:=c) (Nat.le_succ_of_le hp.2.1)
 have sd:aT (Int.natAbs ((d:Nat):Int))≤8589934593:=by
  rw [bS,← RV.jH];exact dE (Nat.le_trans (RV.rK _) (Nat.succ_le_succ hp.1.2))
 have se:aT (Int.natAbs ((e:Nat):Int))≤8589934593:=by
  rw [cj,← RV.jH];exact dE (Nat.le_trans (RV.rK _) (Nat.succ_le_succ hp.2.2))
 have zp:p.size≤8589934593:=by rw [hP.size]; exact sn
 have zq:q.size≤8589934593:=by rw [hQ.size]; exact sd
 have Q6:p'.size≤8589934593:=by rw [lR.size]; exact sm
 have Q7:q'.size≤8589934593:=by rw [ko.size]; exact se
 have pa:nH.val (b,s,t)=.tuple ⟨[.agg ⟨[.bool B,.string p]⟩,.agg ⟨[.bool false,.string q]⟩]⟩:=by
  rw [← hP.enc,← hQ.enc,bO,bS]; rfl
 have pb:nH.val (c,u,v)=.tuple ⟨[.agg ⟨[.bool D,.string p']⟩,.agg ⟨[.bool false,.string q']⟩]⟩:=by
  rw [← lR.enc,← ko.enc,eH,cj]; rfl
 obtain ⟨w,hw⟩:∃ w,w=dO (n*e) (m*d):=⟨_,rfl⟩;have fin:∀ x:Int,x=w→Value.int .i64 x=jG.val ((b,s,t),(c,u,v)):=fun x h=>by
  rw [h,hw,bO,eH,bS,cj];show Value.int .i64 _=.int .i64 (a8 (RV.q (b,s,t)) (RV.q (c,u,v)))
  rw [CN]
 conv=>whnf
 refine ⟨(b,s,t),rfl,trivial,?_⟩;by_cases h1:RV.fK (b,s,t)
 ·rw [show bG.val (b,s,t)=.tuple ⟨[.int .i64 n,.int .i64 d,.bool true]⟩ from by simp only [bG,if_pos h1,decide_eq_true h1,bO,bS]]
  conv=>whnf
  refine ⟨(c,u,v),rfl,trivial,?_⟩;by_cases J:RV.fK (c,u,v)
  ·rw [show bG.val (c,u,v)=.tuple ⟨[.int .i64 m,.int .i64 e,.bool true]⟩ from by simp only [bG,if_pos J,decide_eq_true J,eH,cj]]
   have bf:I4.ok ((n,d),(m,e)):=⟨hn h1,hm J⟩;obtain ⟨b1,b2,b3,b4⟩:=I4.bounds bf;simp only at b1 b2 b3 b4;conv=>whnf
   obtain ⟨x,hx⟩:∃ x,x=n*(e:Int):=⟨_,rfl⟩;obtain ⟨y,hy⟩:∃ y,y=m*(d:Int):=⟨_,rfl⟩;rw [← hx] at b1;rw [← hy] at b2;have e1:IntKind.i64.wrap (n*(e:Int))=x:=by rw [← hx,ay (x:=x) (by omega) (by omega)]
   have e2:IntKind.i64.wrap (m*(d:Int))=y:=by rw [← hy,ay (x:=y) (by omega) (by omega)]
   rw [← hx,← hy] at hw;rw [e1,e2];refine aN (fun h=>?_) (fun h=>?_)
   ·have h:=of_decide_eq_true h;conv=>whnf
    exact fin _ (hw.trans (ua h)).symm
   ·have h:=of_decide_eq_false h;conv=>whnf
    rw [e1,e2];refine aN (fun h5=>?_) (fun h5=>?_)
    ·have h5:=of_decide_eq_true h5;conv=>whnf
     exact fin _ (hw.trans (ub h5)).symm
    ·have h5:=of_decide_eq_false h5;conv=>whnf
     refine fin _ ?_;rw [hw];unfold dO;rw [if_neg h,if_neg (show ¬ y < x from h5)]
  ·rw [show bG.val (c,u,v)=.tuple ⟨[.int .i64 0,.int .i64 0,.bool false]⟩ from by simp only [bG,if_neg J,decide_eq_false J]]
   conv=>whnf
   refine ⟨(b,s,t),rfl,hp.1,?_⟩;rw [pa];conv=>whnf
   refine ⟨(c,u,v),rfl,hp.2,?_⟩;rw [pb];obtain ⟨B1,m1,g1⟩:=EI.mk' (n*(e:Int));obtain ⟨B2,m2,g2⟩:=EI.mk' (m*(d:Int));have z1:=g1.gx sn se;have z2:=g2.gx sm sd;conv=>whnf
   refine .inl ⟨5,[[],[],[0,1],[],[],[0,1,2,3,4],[0,1,2,3,4,5],[0,1,2,3,4,5,6]],by kernel_rfl,?_⟩
   conv=>whnf
   refine ⟨((B,p),(false,q')),rfl,⟨by show p.size≤_; omega,by show q'.size≤_; omega⟩,?_⟩
   rw [show fi.val ((B,p),(false,q'))=.agg ⟨[.bool B1,.string m1]⟩ from by show aH (IV.z (B,p)*IV.z (false,q'))=_; rw [hP.val,ko.val,g1.enc]]
   conv=>whnf
   refine ⟨((D,p'),(false,q)),rfl,⟨by show p'.size≤_; omega,by show q.size≤_; omega⟩,?_⟩
   rw [show fi.val ((D,p'),(false,q))=.agg ⟨[.bool B2,.string m2]⟩ from by show aH (IV.z (D,p')*IV.z (false,q))=_; rw [lR.val,hQ.val,g2.enc]]
   conv=>whnf
   refine ⟨((B1,m1),(B2,m2)),rfl,⟨by show m1.size≤_; omega,by show m2.size≤_; omega⟩,?_⟩
   rw [show lu.val ((B1,m1),(B2,m2))=.int .i64 w from by show Value.int .i64 (dO (IV.z (B1,m1)) (IV.z (B2,m2)))=_; rw [g1.val,g2.val,hw]]
   conv=>whnf
   exact fin _ rfl
 ·rw [show bG.val (b,s,t)=.tuple ⟨[.int .i64 0,.int .i64 0,.bool false]⟩ from by simp only [bG,if_neg h1,decide_eq_false h1]]
  conv=>whnf
  obtain ⟨k1,k2,k3,hk⟩:∃ (k1 k2:Int) (k3:Bool),bG.val (c,u,v)=.tuple ⟨[.int .i64 k1,.int .i64 k2,.bool k3]⟩:=⟨_,_,_,rfl⟩;refine ⟨(c,u,v),rfl,trivial,?_⟩;rw [hk];conv=>whnf
  refine ⟨(b,s,t),rfl,hp.1,?_⟩;rw [pa];conv=>whnf
  refine ⟨(c,u,v),rfl,hp.2,?_⟩;rw [pb];obtain ⟨B1,m1,g1⟩:=EI.mk' (n*(e:Int));obtain ⟨B2,m2,g2⟩:=EI.mk' (m*(d:Int));have z1:=g1.gx sn se;have z2:=g2.gx sm sd;conv=>whnf
  refine .inl ⟨5,[[],[],[0,1],[],[],[0,1,2,3,4],[0,1,2,3,4,5],[0,1,2,3,4,5,6]],by kernel_rfl,?_⟩
  conv=>whnf
  refine ⟨((B,p),(false,q')),rfl,⟨by show p.size≤_; omega,by show q'.size≤_; omega⟩,?_⟩
  rw [show fi.val ((B,p),(false,q'))=.agg ⟨[.bool B1,.string m1]⟩ from by show aH (IV.z (B,p)*IV.z (false,q'))=_; rw [hP.val,ko.val,g1.enc]]
  conv=>whnf
  refine ⟨((D,p'),(false,q)),rfl,⟨by show p'.size≤_; omega,by show q.size≤_; omega⟩,?_⟩
  rw [show fi.val ((D,p'),(false,q))=.agg ⟨[.bool B2,.string m2]⟩ from by show aH (IV.z (D,p')*IV.z (false,q))=_; rw [lR.val,hQ.val,g2.enc]]
  conv=>whnf
  refine ⟨((B1,m1),(B2,m2)),rfl,⟨by show m1.size≤_; omega,by show m2.size≤_; omega⟩,?_⟩
  rw [show lu.val ((B1,m1),(B2,m2))=.int .i64 w from by show Value.int .i64 (dO (IV.z (B1,m1)) (IV.z (B2,m2)))=_; rw [g1.val,g2.val,hw]]
  conv=>whnf
  exact fin _ rfl
def Eqd:Env:=En [(169,.p kY),(128,.p jG)]
theorem acI:EnvOk Tryz.prog Eqd:=bH ⟨Nd,Ga,trivial⟩ trivial
theorem Wu:bh Tryz.prog 146 gH:=by
 refine bk acI aP Tryz.func146 (enters_of Tryz.func146 (by kernel_rfl) rfl) (fun _=>rfl) (fun _=>rfl) ?_
 intro ⟨⟨b,s,t⟩,⟨c,u,v⟩⟩ hp;have hp:RV.ok (b,s,t)∧RV.ok (c,u,v):=hp;obtain ⟨w,hw⟩:∃ w,w=RV.q (b,s,t) - RV.q (c,u,v):=⟨_,rfl⟩;conv=>whnf
 refine ⟨((b,s,t),(!c,u,v)),rfl,hp,?_⟩;rw [show kY.val ((b,s,t),(!c,u,v))=(RV.of w).v from by
  rw [hw];show bK (RV.q (b,s,t)+RV.q (!c,u,v))=bK _
  rw [Oj,← Rat.sub_eq_add_neg]]
 conv=>whnf
 show (RV.of w).v=bK _
 rw [hw]
 rfl
open Go Go.Ae
def JA:Env:=En [(36,.p kY),(38,.p gH),(37,.p kZ)]
theorem acJ:EnvOk Tryz.prog JA:=bH ⟨Cd,wT,NW,trivial⟩ trivial
theorem Ze:gf Tryz.prog 81 (cl JA cK Tryz.f81):=by
 exact ji acJ aP Tryz.func81 (enters_of Tryz.func81 (by kernel_rfl) rfl)
def Evb:Env:=En [(33,.p mo),(36,.p kY),(38,.p gH),(35,.p jG),(129,.p mO)] [(81,cl JA cK Tryz.f81)]
theorem uQ:EnvOk Tryz.prog Evb:=bH ⟨yX,Cd,wT,NX,UQ,trivial⟩ ⟨Ze,trivial⟩
def Evr:Env:=En [(120,.p mo),(169,.p kY),(146,.p gH),(156,.p kZ),(128,.p jG),(119,.p mO),(153,.p yT)]
theorem CV:EnvOk Tryz.prog Evr:=bH ⟨Zd,Nd,Wu,Nf,Ga,TL,Ms,trivial⟩ trivial
theorem OC:bh Tryz.prog 55 qF:=by
 refine bk uQ aP Tryz.func55 (enters_of Tryz.func55 (by kernel_rfl) rfl) (fun _=>rfl) (fun _=>rfl) ?_
 intro ⟨n,m⟩ hp;have hp:vx n∧vx m:=hp;obtain ⟨x,hx⟩:∃ x:Rat,x=(n:Rat):=⟨_,rfl⟩;obtain ⟨y,hy⟩:∃ x:Rat,x=(m:Rat):=⟨_,rfl⟩;conv=>whnf
 refine ⟨n,rfl,hp.1,?_⟩;rw [show mo.val n=(RV.of x).v from by rw [hx]; rfl]
 conv=>whnf
 refine ⟨m,rfl,hp.2,?_⟩;rw [show mo.val m=(RV.of y).v from by rw [hy]; rfl]
 conv=>whnf
 show PV.v (RV.of x,RV.of y)=mq _ _
 rw [hx,hy]
 rfl
theorem Zf:bh Tryz.prog 29 Hx:=by
 refine bk uQ aP Tryz.func29 (enters_of Tryz.func29 (by kernel_rfl) rfl) (fun _=>rfl) (fun _=>rfl) ?_
 intro ⟨p,q⟩ hp;have hp:p.sz 8589934592∧q.sz 8589934592:=hp;obtain ⟨x,hx⟩:∃ x,x=p.1.q+q.1.q:=⟨_,rfl⟩;obtain ⟨y,hy⟩:∃ x,x=p.2.q+q.2.q:=⟨_,rfl⟩;conv=>whnf
 refine .inl ⟨11,[[],[],[1],[],[3],[0,1,2,3,4],[],[],[7],[],[9],[0,1,2,3,4,5,6,7,8,9,10],[0,1,2,3,4,5,6,7,8,9,10,11],[0,1,2,3,4,5,6,7,8,9,10,11,12]],by kernel_rfl,?_⟩
 conv=>whnf
 refine ⟨(p.1,q.1),rfl,⟨hp.1.1,hp.2.1⟩,?_⟩;rw [show kY.val (p.1,q.1)=(RV.of x).v from by rw [hx]; rfl]
 conv=>whnf
 refine ⟨(p.2,q.2),rfl,⟨hp.1.2,hp.2.2⟩,?_⟩;rw [show kY.val (p.2,q.2)=(RV.of y).v from by rw [hy]; rfl]
 conv=>whnf
 show PV.v (RV.of x,RV.of y)=mq _ _
 rw [hx,hy]
 rfl
theorem Ce:bh Tryz.prog 85 kC:=by
 refine bk uQ aP Tryz.func85 (enters_of Tryz.func85 (by kernel_rfl) rfl) (fun _=>rfl) (fun _=>rfl) ?_
 intro ⟨p,q⟩ hp;have hp:p.sz 8589934592∧q.sz 8589934592:=hp;obtain ⟨x,hx⟩:∃ x,x=p.1.q - q.1.q:=⟨_,rfl⟩;obtain ⟨y,hy⟩:∃ x,x=p.2.q - q.2.q:=⟨_,rfl⟩;conv=>whnf
 refine .inl ⟨11,[[],[],[1],[],[3],[0,1,2,3,4],[],[],[7],[],[9],[0,1,2,3,4,5,6,7,8,9,10],[0,1,2,3,4,5,6,7,8,9,10,11],[0,1,2,3,4,5,6,7,8,9,10,11,12]],by kernel_rfl,?_⟩
 conv=>whnf
 refine ⟨(p.1,q.1),rfl,⟨hp.1.1,hp.2.1⟩,?_⟩;rw [show gH.val (p.1,q.1)=(RV.of x).v from by rw [hx]; rfl]
 conv=>whnf
 refine ⟨(p.2,q.2),rfl,⟨hp.1.2,hp.2.2⟩,?_⟩;rw [show gH.val (p.2,q.2)=(RV.of y).v from by rw [hy]; rfl]
 conv=>whnf
 show PV.v (RV.of x,RV.of y)=mq _ _
 rw [hx,hy]
 rfl
theorem Wv:bh Tryz.prog 121 kC:=by
 refine bk CV aP Tryz.func121 (enters_of Tryz.func121 (by kernel_rfl) rfl) (fun _=>rfl) (fun _=>rfl) ?_
 intro ⟨p,q⟩ hp;have hp:p.sz 8589934592∧q.sz 8589934592:=hp;obtain ⟨x,hx⟩:∃ x,x=p.1.q - q.1.q:=⟨_,rfl⟩;obtain ⟨y,hy⟩:∃ x,x=p.2.q - q.2.q:=⟨_,rfl⟩;conv=>whnf
 refine .inl ⟨9,[[],[0],[],[2],[0,1,2,3],[],[5],[],[7],[0,1,2,3,4,5,6,7,8],[0,1,2,3,4,5,6,7,8,9],[0,1,2,3,4,5,6,7,8,9,10]],by kernel_rfl,?_⟩
 conv=>whnf
 refine ⟨(p.1,q.1),rfl,⟨hp.1.1,hp.2.1⟩,?_⟩;rw [show gH.val (p.1,q.1)=(RV.of x).v from by rw [hx]; rfl]
 conv=>whnf
 refine ⟨(p.2,q.2),rfl,⟨hp.1.2,hp.2.2⟩,?_⟩;rw [show gH.val (p.2,q.2)=(RV.of y).v from by rw [hy]; rfl]
 conv=>whnf
 show PV.v (RV.of x,RV.of y)=mq _ _
 rw [hx,hy]
 rfl
theorem UT:bh Tryz.prog 31 Gw:=by
 refine bk uQ aP Tryz.func31 (enters_of Tryz.func31 (by kernel_rfl) rfl) (fun _=>rfl) (fun _=>rfl) ?_
 intro ⟨p,q⟩ hp;have hp:p.sz 8589934592∧q.sz 8589934592:=hp;obtain ⟨x,hx⟩:∃ x,x=p.1.q*q.q:=⟨_,rfl⟩;obtain ⟨y,hy⟩:∃ x,x=p.2.q*q.q:=⟨_,rfl⟩;conv=>whnf
 refine .inl ⟨11,[[],[],[1],[],[3],[0,1,2,3,4],[],[],[7],[],[9],[0,1,2,3,4,5,6,7,8,9,10],[0,1,2,3,4,5,6,7,8,9,10,11],[0,1,2,3,4,5,6,7,8,9,10,11,12]],by kernel_rfl,?_⟩
 conv=>whnf
 refine ⟨(p.1,q),rfl,⟨hp.1.1,hp.2⟩,?_⟩;rw [show kZ.val (p.1,q)=(RV.of x).v from by rw [hx]; rfl]
 conv=>whnf
 refine ⟨(p.2,q),rfl,⟨hp.1.2,hp.2⟩,?_⟩;rw [show kZ.val (p.2,q)=(RV.of y).v from by rw [hy]; rfl]
 conv=>whnf
 show PV.v (RV.of x,RV.of y)=mq _ _
 rw [hx,hy]
 rfl
theorem Mt:bh Tryz.prog 84 pT:=by
 refine bk uQ aP Tryz.func84 (enters_of Tryz.func84 (by kernel_rfl) rfl) (fun _=>rfl) (fun _=>rfl) ?_
 intro ⟨p,q⟩ hp;have hp:p.sz 1073741824∧q.sz 1073741824:=hp;obtain ⟨x,hx⟩:∃ x,x=p.1.q*q.2.q:=⟨_,rfl⟩;obtain ⟨y,hy⟩:∃ x,x=p.2.q*q.1.q:=⟨_,rfl⟩;obtain ⟨z,hz⟩:∃ z,z=x - y:=⟨_,rfl⟩;have sx:(RV.of x).ok:=RV.bV (RV.mY (by rw [hx]; exact (RV.jQ hp.1.1 (by decide)).mul (RV.jQ hp.2.2 (by decide)))) (by decide)
 have sy:(RV.of y).ok:=RV.bV (RV.mY (by rw [hy]; exact (RV.jQ hp.1.2 (by decide)).mul (RV.jQ hp.2.1 (by decide)))) (by decide)
 conv=>whnf
 refine .inl ⟨11,[[],[],[1],[],[3],[0,1,2,3,4],[],[],[7],[],[9],[0,1,2,3,4,5,6,7,8,9,10],[0,1,2,3,4,5,6,7,8,9,10,11],[0,1,2,3,4,5,6,7,8,9,10,11,12]],by kernel_rfl,?_⟩
 conv=>whnf
 refine ⟨(p.1,q.2),rfl,⟨RV.bV hp.1.1 (by decide),RV.bV hp.2.2 (by decide)⟩,?_⟩
 rw [show kZ.val (p.1,q.2)=(RV.of x).v from by rw [hx]; rfl]
 conv=>whnf
 refine ⟨(p.2,q.1),rfl,⟨RV.bV hp.1.2 (by decide),RV.bV hp.2.1 (by decide)⟩,?_⟩
 rw [show kZ.val (p.2,q.1)=(RV.of y).v from by rw [hy]; rfl]
 conv=>whnf
 refine ⟨(RV.of x,RV.of y),rfl,⟨sx,sy⟩,?_⟩;rw [show gH.val (RV.of x,RV.of y)=(RV.of z).v from by
  show bK ((RV.of x).q - (RV.of y).q)=_
  rw [RV.ic,RV.ic,hz]; rfl]
 conv=>whnf
 show (RV.of z).v=bK _
 rw [hz,hx,hy]
 rfl
theorem TM:bh Tryz.prog 122 pT:=by
 refine bk CV aP Tryz.func122 (enters_of Tryz.func122 (by kernel_rfl) rfl) (fun _=>rfl) (fun _=>rfl) ?_
 intro ⟨p,q⟩ hp;have hp:p.sz 1073741824∧q.sz 1073741824:=hp;obtain ⟨x,hx⟩:∃ x,x=p.1.q*q.2.q:=⟨_,rfl⟩;obtain ⟨y,hy⟩:∃ x,x=p.2.q*q.1.q:=⟨_,rfl⟩;obtain ⟨z,hz⟩:∃ z,z=x - y:=⟨_,rfl⟩;have sx:(RV.of x).ok:=RV.bV (RV.mY (by rw [hx]; exact (RV.jQ hp.1.1 (by decide)).mul (RV.jQ hp.2.2 (by decide)))) (by decide)
 have sy:(RV.of y).ok:=RV.bV (RV.mY (by rw [hy]; exact (RV.jQ hp.1.2 (by decide)).mul (RV.jQ hp.2.1 (by decide)))) (by decide)
 conv=>whnf
 refine .inl ⟨9,[[],[0],[],[2],[0,1,2,3],[],[5],[],[7],[0,1,2,3,4,5,6,7,8],[0,1,2,3,4,5,6,7,8,9],[0,1,2,3,4,5,6,7,8,9,10]],by kernel_rfl,?_⟩
 conv=>whnf
 refine ⟨(p.1,q.2),rfl,⟨RV.bV hp.1.1 (by decide),RV.bV hp.2.2 (by decide)⟩,?_⟩
 rw [show kZ.val (p.1,q.2)=(RV.of x).v from by rw [hx]; rfl]
 conv=>whnf
 refine ⟨(p.2,q.1),rfl,⟨RV.bV hp.1.2 (by decide),RV.bV hp.2.1 (by decide)⟩,?_⟩
 rw [show kZ.val (p.2,q.1)=(RV.of y).v from by rw [hy]; rfl]
 conv=>whnf
 refine ⟨(RV.of x,RV.of y),rfl,⟨sx,sy⟩,?_⟩;rw [show gH.val (RV.of x,RV.of y)=(RV.of z).v from by
  show bK ((RV.of x).q - (RV.of y).q)=_
  rw [RV.ic,RV.ic,hz]; rfl]
 conv=>whnf
 show (RV.of z).v=bK _
 rw [hz,hx,hy]
 rfl
theorem NZ:bh Tryz.prog 74 oW:=by
 refine bk uQ aP Tryz.func74 (enters_of Tryz.func74 (by kernel_rfl) rfl) (fun _=>rfl) (fun _=>rfl) ?_
 intro ⟨p,q⟩ hp;have hp:p.sz 8589934592∧q.sz 8589934592:=hp;obtain ⟨x,hx⟩:∃ x,x=a8 p.1.q q.1.q:=⟨_,rfl⟩;obtain ⟨y,hy⟩:∃ x,x=a8 p.2.q q.2.q:=⟨_,rfl⟩;have fin:∀ z:Int,z=(if x≠0 then x else y)→Value.int .i64 z=oW.val (p,q):=fun z h=>by rw [h,hx,hy]; rfl
 conv=>whnf
 refine ⟨(p.1,q.1),rfl,⟨hp.1.1,hp.2.1⟩,?_⟩;rw [show jG.val (p.1,q.1)=.int .i64 x from by rw [hx]; rfl]
 conv=>whnf
 refine aN (fun h=>?_) (fun h=>?_)
 ·have h:x≠0:=by
   intro e;subst e;simp at h
  conv=>whnf
  exact fin _ (if_pos h).symm
 ·have h:x=0:=by simpa using h
  conv=>whnf
  refine ⟨(p.2,q.2),rfl,⟨hp.1.2,hp.2.2⟩,?_⟩;rw [show jG.val (p.2,q.2)=.int .i64 y from by rw [hy]; rfl]
  conv=>whnf
  exact fin _ (if_neg (fun e=>e h)).symm
theorem Ww:bh Tryz.prog 76 oW:=by
 refine bk CV aP Tryz.func76 (enters_of Tryz.func76 (by kernel_rfl) rfl) (fun _=>rfl) (fun _=>rfl) ?_
 intro ⟨p,q⟩ hp;have hp:p.sz 8589934592∧q.sz 8589934592:=hp;obtain ⟨x,hx⟩:∃ x,x=a8 p.1.q q.1.q:=⟨_,rfl⟩;obtain ⟨y,hy⟩:∃ x,x=a8 p.2.q q.2.q:=⟨_,rfl⟩;have fin:∀ z:Int,z=(if x≠0 then x else y)→Value.int .i64 z=oW.val (p,q):=fun z h=>by rw [h,hx,hy]; rfl
 conv=>whnf
 refine ⟨(p.1,q.1),rfl,⟨hp.1.1,hp.2.1⟩,?_⟩;rw [show jG.val (p.1,q.1)=.int .i64 x from by rw [hx]; rfl]
 conv=>whnf
 refine aN (fun h=>?_) (fun h=>?_)
 ·have h:x≠0:=by
   intro e;subst e;simp at h
  conv=>whnf
  exact fin _ (if_pos h).symm
 ·have h:x=0:=by simpa using h
  conv=>whnf
  refine ⟨(p.2,q.2),rfl,⟨hp.1.2,hp.2.2⟩,?_⟩;rw [show jG.val (p.2,q.2)=.int .i64 y from by rw [hy]; rfl]
  conv=>whnf
  exact fin _ (if_neg (fun e=>e h)).symm
open Go Go.Ae
theorem Mu:bh Tryz.prog 80 jW:=by
 refine bk uQ aP Tryz.func80 (enters_of Tryz.func80 (by kernel_rfl) rfl) (fun _=>rfl) (fun _=>rfl) ?_
 intro (p:PV) hp;have hp:p.sz 8589934592:=hp;have nX:p.1=RV.of p.1.q→p.2=RV.of p.2.q→Value.int .i64 0=jW.val p:=fun h1 J=>by
  show _=Value.int .i64 (if p.canon then 0 else 1)
  rw [if_pos ⟨h1,J⟩]
 have mu:¬ p.canon→Value.int .i64 1=jW.val p:=fun h=>by
  show _=Value.int .i64 (if p.canon then 0 else 1)
  rw [if_neg h]
 conv=>whnf
 refine .inr ⟨3,?_⟩;conv=>whnf
 refine ⟨⟨by decide,by decide⟩,?_⟩
 conv=>whnf
 refine ⟨p.1,rfl,hp.1,?_⟩;by_cases h1:p.1=RV.of p.1.q
 ·rw [show mO.val p.1=.int .i64 0 from by show Value.int .i64 (if p.1=RV.of p.1.q then 0 else 1)=_; rw [if_pos h1]]
  conv=>whnf
  refine ⟨⟨by decide,by decide⟩,?_⟩
  conv=>whnf
  refine ⟨p.2,rfl,hp.2,?_⟩;by_cases J:p.2=RV.of p.2.q
  ·rw [show mO.val p.2=.int .i64 0 from by show Value.int .i64 (if p.2=RV.of p.2.q then 0 else 1)=_; rw [if_pos J]]
   conv=>whnf
   exact nX h1 J
  ·rw [show mO.val p.2=.int .i64 1 from by show Value.int .i64 (if p.2=RV.of p.2.q then 0 else 1)=_; rw [if_neg J]]
   conv=>whnf
   exact mu (fun h=>J h.2)
 ·rw [show mO.val p.1=.int .i64 1 from by show Value.int .i64 (if p.1=RV.of p.1.q then 0 else 1)=_; rw [if_neg h1]]
  conv=>whnf
  exact mu (fun h=>h1 h.1)
theorem TN:bh Tryz.prog 68 jW:=by
 refine bk CV aP Tryz.func68 (enters_of Tryz.func68 (by kernel_rfl) rfl) (fun _=>rfl) (fun _=>rfl) ?_
 intro (p:PV) hp;have hp:p.sz 8589934592:=hp;have nX:p.1=RV.of p.1.q→p.2=RV.of p.2.q→Value.int .i64 0=jW.val p:=fun h1 J=>by
  show _=Value.int .i64 (if p.canon then 0 else 1)
  rw [if_pos ⟨h1,J⟩]
 have mu:¬ p.canon→Value.int .i64 1=jW.val p:=fun h=>by
  show _=Value.int .i64 (if p.canon then 0 else 1)
  rw [if_neg h]
 conv=>whnf
 refine ⟨p.1,rfl,hp.1,?_⟩;by_cases h1:p.1=RV.of p.1.q
 ·rw [show mO.val p.1=.int .i64 0 from by show Value.int .i64 (if p.1=RV.of p.1.q then 0 else 1)=_; rw [if_pos h1]]
  conv=>whnf
  refine ⟨p.2,rfl,hp.2,?_⟩;by_cases J:p.2=RV.of p.2.q
  ·rw [show mO.val p.2=.int .i64 0 from by show Value.int .i64 (if p.2=RV.of p.2.q then 0 else 1)=_; rw [if_pos J]]
   conv=>whnf
   exact nX h1 J
  ·rw [show mO.val p.2=.int .i64 1 from by show Value.int .i64 (if p.2=RV.of p.2.q then 0 else 1)=_; rw [if_neg J]]
   conv=>whnf
   exact mu (fun h=>J h.2)
 ·rw [show mO.val p.1=.int .i64 1 from by show Value.int .i64 (if p.1=RV.of p.1.q then 0 else 1)=_; rw [if_neg h1]]
  conv=>whnf
  exact mu (fun h=>h1 h.1)
def Evf:Env:=En [(85,.p kC),(31,.p Gw),(29,.p Hx)]
theorem acK:EnvOk Tryz.prog Evf:=bH ⟨Ce,UT,Zf,trivial⟩ trivial
theorem abw:bh Tryz.prog 39 xC:=by
 refine bk acK aP Tryz.func39 (enters_of Tryz.func39 (by kernel_rfl) rfl) (fun _=>rfl) (fun _=>rfl) ?_
 intro ⟨⟨p,q⟩,t⟩ hp;have hp:(p.sz 268435456∧q.sz 268435456)∧t.sz 268435456:=hp;obtain ⟨⟨hp,hq⟩,ht⟩:=hp;obtain ⟨x,hx⟩:∃ x,x=q.1.q - p.1.q:=⟨_,rfl⟩;obtain ⟨y,hy⟩:∃ x,x=q.2.q - p.2.q:=⟨_,rfl⟩;obtain ⟨x2,nZ⟩:∃ z,z=x*t.q:=⟨_,rfl⟩;obtain ⟨y2,n3⟩:∃ z,z=y*t.q:=⟨_,rfl⟩;obtain ⟨x3,Q8⟩:∃ z,z=p.1.q+x2:=⟨_,rfl⟩;obtain ⟨y3,Q9⟩:∃ z,z=p.2.q+y2:=⟨_,rfl⟩;have bx:QB x 536870913:=by rw [hx]; exact (RV.jQ hq.1 (by decide)).sub (RV.jQ hp.1 (by decide))
 have Ra:QB y 536870913:=by rw [hy]; exact (RV.jQ hq.2 (by decide)).sub (RV.jQ hp.2 (by decide))
 have bx2:QB x2 805306369:=by rw [nZ]; exact bx.mul (RV.jQ ht (by decide))
 have by2:QB y2 805306369:=by rw [n3]; exact Ra.mul (RV.jQ ht (by decide))
 conv=>whnf
 refine .inl ⟨6,[[],[],[],[1,2],[],[1,2,3,4],[0,1,2,3,4,5],[0,1,2,3,4,5,6]],by kernel_rfl,?_⟩
 conv=>whnf
 refine ⟨(q,p),rfl,⟨PV.aQ hq (by decide),PV.aQ hp (by decide)⟩,?_⟩
 rw [show kC.val (q,p)=PV.v (RV.of x,RV.of y) from by rw [hx,hy]; rfl]
 conv=>whnf
 refine ⟨((RV.of x,RV.of y),t),rfl,⟨⟨RV.mY (bx.mono (by decide)),RV.mY (Ra.mono (by decide))⟩,RV.aQ ht (by decide)⟩,?_⟩
 rw [show Gw.val ((RV.of x,RV.of y),t)=PV.v (RV.of x2,RV.of y2) from by
  show mq ((RV.of x).q*t.q) ((RV.of y).q*t.q)=_
  rw [RV.ic,RV.ic,← nZ,← n3]; rfl]
 conv=>whnf
 refine ⟨(p,(RV.of x2,RV.of y2)),rfl,⟨PV.aQ hp (by decide),RV.mY (bx2.mono (by decide)),RV.mY (by2.mono (by decide))⟩,?_⟩
 rw [show Hx.val (p,(RV.of x2,RV.of y2))=PV.v (RV.of x3,RV.of y3) from by
  show mq (p.1.q+(RV.of x2).q) (p.2.q+(RV.of y2).q)=_
  rw [RV.ic,RV.ic,← Q8,← Q9]; rfl]
 conv=>whnf
 show PV.v (RV.of x3,RV.of y3)=mq _ _
 rw [Q8,Q9,nZ,n3,hx,hy]
 rfl
open Go Go.Ae
open Go Go.Ae
open Go Go.Ae
def Emn:Env:=En [(88,.p lz),(92,.p fi),(82,.p uL)]
theorem acL:EnvOk Tryz.prog Emn:=bH ⟨Hb,OB,NY,trivial⟩ trivial
theorem N0:bh Tryz.prog 71 qj:=by
 refine bk acL aP Tryz.func71 (enters_of Tryz.func71 (by kernel_rfl) rfl) (fun _=>rfl) (fun _=>rfl) ?_
 intro ⟨⟨b,s,t⟩,⟨b',s',t'⟩⟩ hp;have hp:RV.ok (b,s,t)∧RV.ok (b',s',t'):=hp;obtain ⟨x,hx⟩:∃ x,x=RV.den (b,s,t):=⟨_,rfl⟩;obtain ⟨y,hy⟩:∃ x,x=RV.den (b',s',t'):=⟨_,rfl⟩;have f1:=RV.lZ hp.1;have f2:=RV.lZ hp.2;have g1:=RV.jH (b,s,t);have g2:=RV.jH (b',s',t');rw [← hx] at f1 g1;rw [← hy] at f2 g2;have hq:=acf (b,s,t) (b',s',t');obtain ⟨B1,m1,h1⟩:=EI.mk' (IV.z (b,s)*IV.z (false,y));obtain ⟨B2,m2,J⟩:=EI.mk' (IV.z (false,x)*IV.z (b',s'));have z1:=h1.gx (dE f1.1.1) (dE f2.1.2);have z2:=J.gx (dE f1.1.2) (dE f2.1.1);obtain ⟨w,hw⟩:∃ w,w=RV.q (b,s,t) / RV.q (b',s',t'):=⟨_,rfl⟩;obtain ⟨e,he⟩:∃ e:Int,e=if RV.q (b',s',t')=0 then 10 else 0:=⟨_,rfl⟩
 have hN:uL.val ((B1,m1),(B2,m2))=.tuple ⟨[(RV.of w).v,.int .i64 e]⟩:=by
  show lC (IV.z (B1,m1)) (IV.z (B2,m2))=_
  rw [h1.val,J.val,g1,g2,hw,he];exact hq
 conv=>whnf
 refine .inl ⟨6,[[],[0],[],[0,1,2],[],[],[0,1,2,3,4,5],[0,1,2,3,4,5,6]],by kernel_rfl,?_⟩
 conv=>whnf
 refine ⟨(b,s,t),rfl,by have:=hp.1.2; show t.size≤_; exact Nat.le_trans this (by decide),?_⟩
 rw [show lz.val (b,s,t)=.agg ⟨[.bool b,.string s,.bool false,.string x]⟩ from by rw [hx]; rfl]
 conv=>whnf
 refine ⟨(b',s',t'),rfl,by have:=hp.2.2; show t'.size≤_; exact Nat.le_trans this (by decide),?_⟩
 rw [show lz.val (b',s',t')=.agg ⟨[.bool b',.string s',.bool false,.string y]⟩ from by rw [hy]; rfl]
 conv=>whnf
 refine .inl ⟨13,[[],[0],[],[2],[0,1,2,3],[],[5],[],[7],[0,1,2,3,4,5,6,7,8],[0,1,2,3,4,5,6,7,8,9],[0,1,2,3,4,5,6,7,8,9,10],[0,1,2,3,4,5,6,7,8,9,10],[0,1,2,3,4,5,6,7,8,9,10,11,12],[0,1,2,3,4,5,6,7,8,9,10,11,12,13]],by kernel_rfl,?_⟩
 conv=>whnf
 refine ⟨((b,s),(false,y)),rfl,⟨Nat.le_trans f1.1.1 (by decide),Nat.le_trans f2.1.2 (by decide)⟩,?_⟩
 rw [show fi.val ((b,s),(false,y))=.agg ⟨[.bool B1,.string m1]⟩ from h1.enc]
 conv=>whnf
 refine ⟨((false,x),(b',s')),rfl,⟨Nat.le_trans f1.1.2 (by decide),Nat.le_trans f2.1.1 (by decide)⟩,?_⟩
 rw [show fi.val ((false,x),(b',s'))=.agg ⟨[.bool B2,.string m2]⟩ from J.enc]
 conv=>whnf
 refine ⟨((B1,m1),(B2,m2)),rfl,⟨by show m1.size≤_; omega,by show m2.size≤_; omega⟩,?_⟩
 rw [hN];conv=>whnf
 show Value.tuple ⟨[(RV.of w).v,.int .i64 e]⟩=Value.tuple ⟨[bK _,.int .i64 _]⟩
 rw [hw,he]
 rfl
open Go Go.Ae
def Epa:Env:=En [(85,.p kC),(84,.p pT),(34,.p iC),(37,.p kZ),(38,.p gH),(36,.p kY)]
theorem acM:EnvOk Tryz.prog Epa:=bH ⟨Ce,Mt,F9,NW,wT,Cd,trivial⟩ trivial
theorem FA:bh Tryz.prog 32 lW:=by
 refine bk acM aP Tryz.func32 (enters_of Tryz.func32 (by kernel_rfl) rfl) (fun _=>rfl) (fun _=>rfl) ?_
 intro ⟨a,b,c⟩ hp;obtain ⟨sa,sb,sc⟩:a.sz 1048576∧b.sz 1048576∧c.sz 1048576:=hp;have pa:Q2.sz 1048576 a.p:=PV.dy sa (by decide)
 have pb:Q2.sz 1048576 b.p:=PV.dy sb (by decide)
 have pc:Q2.sz 1048576 c.p:=PV.dy sc (by decide)
 obtain ⟨w,hw⟩:∃ w,w=ao a.p b.p c.p:=⟨_,rfl⟩;obtain ⟨u,hu⟩:∃ u,u=cB (sI b.p a.p):=⟨_,rfl⟩;obtain ⟨v,hv⟩:∃ v,v=cB (sI c.p a.p):=⟨_,rfl⟩;have su:u.sz 1073741824:=by rw [hu]; exact ur (oN pb pa) (by decide)
 have sv:v.sz 1073741824:=by rw [hv]; exact ur (oN pc pa) (by decide)
 have sw:(RV.of w).ok:=by rw [hw]; exact ZT (yu (oN pb pa) (oN pc pa)) (by decide)
 conv=>whnf
 refine .inl ⟨5,[[],[],[0,1],[],[],[0,1,2,3,4],[0,1,2,3,4,5],[0,1,2,3,4,5,6],[0,1,2,3,4,5,6,7]],by kernel_rfl,?_⟩
 conv=>whnf
 refine ⟨(b,a),rfl,⟨PV.aQ sb (by decide),PV.aQ sa (by decide)⟩,?_⟩
 rw [show kC.val (b,a)=u.v from by rw [NC,hu]]
 conv=>whnf
 refine ⟨(c,a),rfl,⟨PV.aQ sc (by decide),PV.aQ sa (by decide)⟩,?_⟩
 rw [show kC.val (c,a)=v.v from by rw [NC,hv]]
 conv=>whnf
 refine ⟨(u,v),rfl,⟨su,sv⟩,?_⟩;rw [show pT.val (u,v)=(RV.of w).v from by rw [Uv,hu,hv,ia,ia,hw]; rfl]
 conv=>whnf
 refine ⟨RV.of w,rfl,sw,?_⟩;rw [VF,RV.ic];conv=>whnf
 show Value.int .i64 _=Value.int .i64 _
 rw [hw]
set_option maxHeartbeats 4000000
open Go Go.Ae
def JB:Env:=th [(80,.p jW),(74,.p oW),(32,.p lW),(85,.p kC),(84,.p pT)]
theorem qm:EnvOk Tryz.prog JB:=vf ⟨Mu,NZ,FA,Ce,Mt,trivial⟩ trivial
theorem Zg:bh Tryz.prog 108 CU:=by
 refine bk qm aP Tryz.func108 (enters_of Tryz.func108 (by kernel_rfl) rfl) (fun _=>rfl) (fun _=>rfl) ?_
 intro (p:PV) hp;have sp:p.sz 2048:=hp;conv=>whnf
 refine ⟨p,rfl,PV.aQ sp (by decide),?_⟩
 by_cases h:p.canon
 ·rw [show jW.val p=.int .i64 0 from congrArg (Value.int .i64) (if_pos h)]
  conv=>whnf
  show Value.bool false=.bool (decide (¬ p.canon))
  rw [decide_eq_false (fun e=>e h)]
 ·rw [show jW.val p=.int .i64 1 from congrArg (Value.int .i64) (if_neg h)]
  conv=>whnf
  show Value.bool true=.bool (decide (¬ p.canon))
  rw [decide_eq_true h]
theorem Zh:dk Tryz.prog 75 si:=by
 refine eI qm aP Tryz.func75 (enters_of Tryz.func75 (by kernel_rfl) rfl) ?_ ?_ ?_
 ·intro i b hb; simp [si] at hb; rcases hb with rfl | rfl <;> rfl
 ·intro i b hb; simp [si] at hb
 intro ⟨a,b,p⟩ hp;have hp:a.sz 2048∧b.sz 2048∧p.sz 2048:=hp;obtain ⟨sa,sb,sp⟩:=hp;have qa:=PV.dy sa (by decide)
 have qb:=PV.dy sb (by decide)
 have qp:=PV.dy sp (by decide)
 have fin:∀ z:Bool,z=sL a b p→∃ v',cR (List.range 2) 3 (si.val (a,b,p))=some v'∧fe (.bool z) v':=fun z h=>⟨.bool z,by rw [h]; rfl,.refl _⟩
 conv=>whnf
 refine ⟨by decide,?_⟩
 conv=>whnf
 rw [Df p a];by_cases h1:p=a
 ·rw [decide_eq_true h1];conv=>whnf
  exact fin false (decide_eq_false fun e=>e.1 h1).symm
 rw [decide_eq_false h1];conv=>whnf
 refine ⟨by decide,?_⟩
 conv=>whnf
 rw [Df p b];by_cases J:p=b
 ·rw [decide_eq_true J];conv=>whnf
  exact fin false (decide_eq_false fun e=>e.2.1 J).symm
 rw [decide_eq_false J];conv=>whnf
 refine ⟨by decide,?_⟩
 conv=>whnf
 refine ⟨by decide,?_⟩
 conv=>whnf
 obtain ⟨z,ez,pz⟩:=eU (a8 (ao a.p b.p p.p) 0);refine ⟨(a,b,p),rfl,⟨PV.aQ sa (by decide),PV.aQ sb (by decide),PV.aQ sp (by decide)⟩,?_⟩
 rw [show lW.val (a,b,p)=.int .i64 z from ez]
 conv=>whnf
 refine fin _ ?_;unfold sL;rw [← pz];by_cases h3:z≤0
 ·rw [decide_eq_true h3,decide_eq_true ⟨h1,J,h3⟩]; rfl
 ·rw [decide_eq_false h3,decide_eq_false fun e=>h3 e.2.2]; rfl
theorem Mv:bh Tryz.prog 70 pW:=by
 refine bk qm aP Tryz.func70 (enters_of Tryz.func70 (by kernel_rfl) rfl) (fun _=>rfl) (fun _=>rfl) ?_
 intro ⟨a,b,p⟩ hp;have hp:a.sz 1048576∧b.sz 1048576∧p.sz 1048576:=hp;obtain ⟨sa,sb,sp⟩:=hp;have qa:=PV.dy sa (by decide)
 have qb:=PV.dy sb (by decide)
 have qp:=PV.dy sp (by decide)
 conv=>whnf
 refine .inl ⟨5,[[],[],[0,1],[],[],[0,1,2,3,4],[0,1,2,3,4,5],[0,1,2,3,4,5,6]],by kernel_rfl,?_⟩
 conv=>whnf
 obtain ⟨u,eu,pu,su,qu⟩:=sh (oN qb qa);refine ⟨(b,a),rfl,⟨PV.aQ sb (by decide),PV.aQ sa (by decide)⟩,?_⟩
 rw [show kC.val (b,a)=u.v from eu]
 conv=>whnf
 obtain ⟨v,ev,pv,sv,qv⟩:=sh (oN qp qa);refine ⟨(p,a),rfl,⟨PV.aQ sp (by decide),PV.aQ sa (by decide)⟩,?_⟩
 rw [show kC.val (p,a)=v.v from ev]
 conv=>whnf
 obtain ⟨w,ew,pw,sw,qw⟩:=gI (yu qu qv);refine ⟨(u,v),rfl,⟨PV.aQ su (by decide),PV.aQ sv (by decide)⟩,?_⟩
 rw [show pT.val (u,v)=w.v from ew]
 conv=>whnf
 show w.v=(RV.of (ao a.p b.p p.p)).v
 rw [(RV.nU ew).symm,pu,pv]
 rfl
open Go Go.Ae
theorem UU:gf Tryz.prog 73 (cl JB cK Tryz.f73):=by
 exact ji qm aP Tryz.func73 (enters_of Tryz.func73 (by kernel_rfl) rfl)
def JC:Env:=En [(108,.p CU),(75,.q si)] [(73,cl JB cK Tryz.f73)]
theorem acN:EnvOk Tryz.prog JC:=bH ⟨Zg,Zh,trivial⟩ ⟨UU,trivial⟩
theorem UW:gf Tryz.prog 106 (cl JC cK Tryz.f106):=by
 exact ji acN aP Tryz.func106 (enters_of Tryz.func106 (by kernel_rfl) rfl)
def DX:Env:=En [] [(106,cl JC cK Tryz.f106)]
theorem acO:EnvOk Tryz.prog DX:=bH trivial ⟨UW,trivial⟩
theorem Kr:gf Tryz.prog 49 (cl DX cK Tryz.f49):=by
 exact ji acO aP Tryz.func49 (enters_of Tryz.func49 (by kernel_rfl) rfl)
def Ev4:Env:=En [] [(49,cl DX cK Tryz.f49)]
theorem acP:EnvOk Tryz.prog Ev4:=bH trivial ⟨Kr,trivial⟩
theorem Eu:dk Tryz.prog 56 eL:=by
 refine eI acP aP Tryz.func56 (enters_of Tryz.func56 (by kernel_rfl) rfl) ?_ ?_ ?_
 ·intro i b hb;cases i with
  | none=>simp [eL,PL.ae] at hb
  | some i=>simp [eL,PL.ae] at hb; rw [hb]; rfl
 ·intro i b hb; simp [eL] at hb
 intro i hp;have hp:i.list.length≤1099511627776∧∀ v∈i.list,v.sz 2048:=hp;obtain ⟨hlen,bc⟩:=hp;cases i with
 | none =>
  conv=>whnf
  refine .inr ⟨1,?_⟩;conv=>whnf
  exact ⟨.bool true,rfl,.refl _⟩
 | some i =>
  obtain ⟨L,c⟩:=i;have hlen:L.length≤1099511627776:=hlen;have bc:∀ v∈L,PV.sz 2048 v:=bc;obtain ⟨n,hn⟩:∃ n,n=L.length:=⟨_,rfl⟩;obtain ⟨g,hg⟩:∃ g,g=di L:=⟨_,rfl⟩;have fin:∀ z:Bool,z=!dL L→∃ v',cR (List.range 1) 3 (eL.val (some (L,c)))=some v'∧fe (.bool z) v':=fun z h=>⟨.bool z,by rw [h]; rfl,.refl _⟩
  rw [show eL.ae (some (L,c))=[.flat false n 6 g] from by rw [hn,hg]; rfl,show eL.args (some (L,c))=[.slice (some ⟨0,0,none⟩) n c] from by rw [hn]; rfl]
  rw [← hn] at hlen;conv=>whnf
  refine .inl ⟨fun mm tz hz=>∃ (i:Nat),bB (some (.slice (some ⟨0,0,none⟩) n c)::some (.func (.func 108) #[] #[])::aG 5 (some (.int .i64 n)::some (.int .i64 i)::aG 10 [])) tz∧hz=[some (.flat false n 6 g)]∧n - i=mm∧(i≤n∧uN L i),.inr ⟨[0],[0,1,7,8],?_⟩,?_⟩
  ·conv=>whnf
   intro _;conv=>whnf
   refine ⟨_,0,(.aa (.aa (.sk 5 (.aa (.aa (.sk 10 .nil rfl))) rfl))),rfl,rfl,?_⟩;exact ⟨Nat.zero_le _,KL _⟩
  rintro mm aW _ ⟨i,aC,rfl,rfl,⟨hi,hU⟩⟩
  obtain ⟨az,rfl⟩:∃ az:Nat→Value,aW=.slice (some ⟨0,0,none⟩) n c::.func (.func 108) #[] #[]::zs az 2 5 (.int .i64 n::.int .i64 i::zs az 9 10 []):=bI aC;clear aC;conv=>whnf
  refine aN (fun h3=>?_) (fun h3=>?_)
  ·have h3:i < n:=by
    have:=of_decide_eq_true h3;omega
   have e7:IntKind.i64.wrap ((i:Int)+1)=((i+1:Nat):Int):=by rw [ay (by omega) (by omega)]; rfl
   obtain ⟨m,kO,mE,aZ⟩:=rG (l:=L) (i:=i) (by omega)
   rw [← hg] at aZ;conv=>whnf
   refine ⟨⟨by omega,by omega⟩,?_⟩
   simp only [toNat_cast,aB,Nat.zero_add];conv=>whnf
   refine ⟨by show i < n; omega,?_⟩
   conv=>whnf
   rw [aZ];conv=>whnf
   refine ⟨m,rfl,bc m mE,?_⟩;by_cases h4:m.canon
   ·rw [show CU.val m=.bool false from congrArg Value.bool (decide_eq_false fun e=>e h4)]
    conv=>whnf
    rw [e7];refine .inr ⟨[0],[0,1,7,8],?_⟩;conv=>whnf
    intro _;conv=>whnf
    refine ⟨_,?_,i+1,(.aa (.aa (.sk 5 (.aa (.aa (.sk 10 .nil rfl))) rfl))),rfl,rfl,?_⟩
    ·omega
    ·exact ⟨by omega,Lq hU kO h4⟩
   ·rw [show CU.val m=.bool true from congrArg Value.bool (decide_eq_true h4)]
    conv=>whnf
    rw [show decide ((i:Int) ≥ 0)=true from decide_eq_true (by omega)]
    conv=>whnf
    exact fin false (by rw [show dL L=true from List.any_eq_true.2 ⟨m,mE,decide_eq_true h4⟩]; rfl)
  ·have h3:i=n:=by
    have:=of_decide_eq_false h3;omega
   subst h3;conv=>whnf
   exact fin true (by rw [Me (by rw [← hn]; exact hU)]; rfl)
end Go.Proofs.YtlapbjdhekcipaaGreat
