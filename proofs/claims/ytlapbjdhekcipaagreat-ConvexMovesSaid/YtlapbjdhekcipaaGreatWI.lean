import Derived.Test.YtlapbjdhekcipaaGreatWH
set_option linter.unusedVariables false
set_option linter.unusedSimpArgs false
set_option maxRecDepth 20000
set_option maxHeartbeats 1000000
namespace Go.Proofs.YtlapbjdhekcipaaGreat
open Go Go.Ae
def Emc:Env:=En [(140,.p sI),(188,.p sI)]
theorem PB:EnvOk Tryz.prog Emc:=bK ⟨ZA,Ua,trivial⟩ trivial
theorem WU:bk Tryz.prog 95 nR:=by
 refine bn PB aQ Tryz.func95 (enters_of Tryz.func95 (by kernel_rfl) rfl) (fun _=>rfl) (fun _=>rfl) ?_
 intro ⟨n,d⟩ hp;have hp:n.natAbs < 72057594037927936∧d≠0∧d < 72057594037927936:=hp;obtain ⟨g,hg⟩:∃ g,g=Int.gcd n d:=⟨_,rfl⟩;obtain ⟨gp,bU,nJ⟩:=A6 hp.2.1 hg;have jI:g≤d:=by
  have h3:=Nat.div_le_self d g;rcases Nat.lt_or_ge d g with h | h
  ·rw [Nat.div_eq_of_lt h] at bU; omega
  ·exact h
 have fin:∀ v:Value,v=bM (mkRat n d)→v=nR.val (n,d):=fun v h=>h
 conv=>whnf
 refine .inl ⟨fun mm tz hz=>∃ (a:Int) (b:Int),bC (some (.int .i64 n)::some (.int .i64 d)::aF 2 (some (.pointer (some ⟨0,0,none⟩))::some (.int .i64 a)::some (.int .i64 b)::aF 36 [])) tz∧hz=[some (.aS true 3 [[.bool false,.string ⟨#[]⟩,.string ⟨#[]⟩]])]∧b.natAbs=mm∧(((-72057594037927936 < a∧a < 72057594037927936)∧-72057594037927936 < b∧b < 72057594037927936)∧Int.gcd a b=g),.inr ⟨[0],[0,1,4,5,6],?_⟩,?_⟩
 ·conv=>whnf
  intro _;conv=>whnf
  refine ⟨_,n,d,(.aa (.aa (.sk 2 (.aa (.aa (.aa (.sk 36 .nil rfl)))) rfl))),rfl,rfl,?_⟩;exact ⟨⟨⟨by omega,by omega⟩,by omega,by omega⟩,hg.symm⟩
 rintro mm aW _ ⟨a,b,aB,rfl,rfl,⟨dJ,he⟩⟩
 obtain ⟨az,rfl⟩:∃ az:Nat→Value,aW=.int .i64 n::.int .i64 d::zs az 2 2 (.pointer (some ⟨0,0,none⟩)::.int .i64 a::.int .i64 b::zs az 7 36 []):=bL aB;clear aB;conv=>whnf
 refine aN (fun h1=>?_) (fun h1=>?_)
 ·have h1:b≠0:=by
   intro e;subst e;simp at h1
  have al:(Int.tmod a b).natAbs < b.natAbs:=by
   rw [Int.natAbs_tmod]; exact Nat.mod_lt _ (by omega)
  obtain ⟨r,hr⟩:∃ r,r=Int.tmod a b:=⟨_,rfl⟩;rw [← hr] at al;conv=>whnf
  refine .inl ⟨5,[[],[],[],[1,2],[0,1],[0,1,2,3,4]],by kernel_rfl,?_⟩
  conv=>whnf
  rw [show decide (b≠0)=true from decide_eq_true h1]
  conv=>whnf
  rw [← hr];refine .inr ⟨[0],[0,1,4,5,6],?_⟩;conv=>whnf
  intro _;conv=>whnf
  refine ⟨_,?_,b,r,(.aa (.aa (.sk 2 (.aa (.aa (.aa (.sk 36 .nil rfl)))) rfl))),rfl,rfl,?_⟩
  ·exact al
  ·exact ⟨⟨dJ.2,by omega,by omega⟩,by rw [hr,V3]; exact he⟩
 ·have h1:b=0:=by simpa using h1
  subst h1;have he:a.natAbs=g:=by rw [← he,Int.gcd_zero_right]
  have em:=NY a dJ.1;rw [he] at em;have en:=NY n (by omega)
  obtain ⟨N,hN⟩:∃ N,N=n.natAbs:=⟨_,rfl⟩;rw [← hN] at en;conv=>whnf
  rw [em];by_cases J:n=0
  ·subst J;conv=>whnf
   exact fin _ (yz d).symm
  ·refine aN (fun h=>absurd (by simpa using h) J) (fun _=>?_)
   have eq:=GJ J hp.2.1 hg;rw [← hN] at eq;have ed:=BC (a:=N) (g:=g) (by omega)
   have kL:=BC (a:=d) (g:=g) hp.2.2;obtain ⟨x,hx⟩:∃ x,x=nb (N / g):=⟨_,rfl⟩;obtain ⟨y,hy⟩:∃ y,y=nb (d / g):=⟨_,rfl⟩;have ex:sI.val (N / g)=.string x:=by rw [hx]; rfl
   have ey:sI.val (d / g)=.string y:=by rw [hy]; rfl
   rw [← hx] at eq;conv=>whnf
   rw [en,show decide (((g:Nat):Int)≠0)=true from decide_eq_true (by omega)]
   conv=>whnf
   rw [ed];refine ⟨N / g,rfl,by show N / g < _; exact Nat.lt_of_le_of_lt (Nat.div_le_self _ _) (by omega),?_⟩
   rw [ex];conv=>whnf
   refine aN (fun h3=>?_) (fun h3=>?_)
   ·have h3:d≠g:=by
     intro e;rw [e] at h3;simp at h3
    have e4:fO (d / g)=y:=by
     rw [hy]; unfold fO; rw [if_neg (fun h=>h3 (gp.1 h))]
    rw [e4] at eq;conv=>whnf
    rw [show decide (((g:Nat):Int)≠0)=true from decide_eq_true (by omega)]
    conv=>whnf
    rw [kL];refine ⟨d / g,rfl,by show d / g < _; exact Nat.lt_of_le_of_lt (Nat.div_le_self _ _) hp.2.2,?_⟩
    rw [ey];conv=>whnf
    exact fin _ eq.symm
   ·have h3:d=g:=by
     have:((d:Nat):Int)=g:=by simpa using h3
     omega
    have e4:fO (d / g)=⟨#[]⟩:=by unfold fO; rw [if_pos (gp.2 h3)]
    rw [e4] at eq;conv=>whnf
    exact fin _ eq.symm
theorem WV:bk Tryz.prog 172 nR:=by
 refine bn PB aQ Tryz.func172 (enters_of Tryz.func172 (by kernel_rfl) rfl) (fun _=>rfl) (fun _=>rfl) ?_
 intro ⟨n,d⟩ hp;have hp:n.natAbs < 72057594037927936∧d≠0∧d < 72057594037927936:=hp;obtain ⟨g,hg⟩:∃ g,g=Int.gcd n d:=⟨_,rfl⟩;obtain ⟨gp,bU,nJ⟩:=A6 hp.2.1 hg;have fin:∀ v:Value,v=bM (mkRat n d)→v=nR.val (n,d):=fun v h=>h
 obtain ⟨N,hN⟩:∃ N,N=n.natAbs:=⟨_,rfl⟩;obtain ⟨B,hB⟩:∃ B,B=decide (n < 0):=⟨_,rfl⟩;have ed:=BC (a:=N) (g:=g) (by omega)
 have kL:=BC (a:=d) (g:=g) hp.2.2;obtain ⟨x,hx⟩:∃ x,x=nb (N / g):=⟨_,rfl⟩;obtain ⟨y,hy⟩:∃ y,y=nb (d / g):=⟨_,rfl⟩;have ex:sI.val (N / g)=.string x:=by rw [hx]; rfl
 have ey:sI.val (d / g)=.string y:=by rw [hy]; rfl
 conv=>whnf
 refine aN (fun h1=>?_) (fun h1=>?_)
 ·have fg:=of_decide_eq_true h1;have fg:n < 0:=fg;have e0:IntKind.i64.wrap (0 - n)=(N:Int):=by rw [ax (by omega) (by omega)]; omega
  have J:n≠0:=by omega
  have eq:=GJ J hp.2.1 hg;rw [← hN,← hx,← hB] at eq;conv=>whnf
  rw [show decide ((n,d).fst < 0)=B from hB.symm]
  rw [show IntKind.i64.wrap (0 - (n,d).fst)=(N:Int) from e0]
  refine aN (fun h=>absurd (by simpa using h) (show N≠0 by omega)) (fun _=>?_)
  conv=>whnf
  refine .inl ⟨fun mm tz hz=>∃ (a:Nat) (b:Nat),bC (some (.int .i64 N)::some (.int .i64 d)::aF 2 (some (.pointer (some ⟨0,0,none⟩))::some (.pointer (some ⟨1,0,none⟩))::some (.int .i64 a)::some (.int .i64 b)::aF 33 [])) tz∧hz=[some (.aS true 3 [[.bool false,.string ⟨#[]⟩,.string ⟨#[]⟩]]),some (.aS true 3 [[.bool B,.string ⟨#[]⟩,.string ⟨#[]⟩]])]∧b=mm∧((a < 72057594037927936∧b < 72057594037927936)∧Nat.gcd a b=g),.inr ⟨[0,1],[0,1,4,5,6,7],?_⟩,?_⟩
  ·conv=>whnf
   intro _;conv=>whnf
   refine ⟨_,N,d,(.aa (.aa (.sk 2 (.aa (.aa (.aa (.aa (.sk 33 .nil rfl))))) rfl))),rfl,rfl,?_⟩;exact ⟨⟨by omega,by omega⟩,by rw [hg,hN]; rfl⟩
  rintro mm aW _ ⟨a,b,aB,rfl,rfl,⟨dJ,he⟩⟩
  obtain ⟨az,rfl⟩:∃ az:Nat→Value,aW=.int .i64 N::.int .i64 d::zs az 2 2 (.pointer (some ⟨0,0,none⟩)::.pointer (some ⟨1,0,none⟩)::.int .i64 a::.int .i64 b::zs az 8 33 []):=bL aB;clear aB;conv=>whnf
  refine aN (fun h1=>?_) (fun h1=>?_)
  ·have h1:0 < b:=by
    have:=of_decide_eq_true h1;omega
   have al:=Nat.mod_lt a h1;conv=>whnf
   refine .inl ⟨5,[[],[],[],[1,2],[0,1],[0,1,2,3,4]],by kernel_rfl,?_⟩
   conv=>whnf
   rw [show decide (((b:Nat):Int)≠0)=true from decide_eq_true (by omega)]
   conv=>whnf
   rw [show Int.tmod ((a:Nat):Int) ((b:Nat):Int)=((a % b:Nat):Int) from rfl]
   refine .inr ⟨[0,1],[0,1,4,5,6,7],?_⟩;conv=>whnf
   intro _;conv=>whnf
   refine ⟨_,?_,b,a % b,(.aa (.aa (.sk 2 (.aa (.aa (.aa (.aa (.sk 33 .nil rfl))))) rfl))),rfl,rfl,?_⟩
   ·exact al
   ·exact ⟨⟨dJ.2,by omega⟩,by rw [Nat.gcd_comm,← Nat.gcd_rec,Nat.gcd_comm]; exact he⟩
  ·have h1:b=0:=by
    have:=of_decide_eq_false h1;omega
   subst h1;obtain rfl:a=g:=by rw [← he,Nat.gcd_zero_right]
   conv=>whnf
   rw [show decide (((a:Nat):Int)≠0)=true from decide_eq_true (by omega)]
   conv=>whnf
   rw [ed];refine ⟨N / a,rfl,by show N / a < _; exact Nat.lt_of_le_of_lt (Nat.div_le_self _ _) (by omega),?_⟩
   rw [ex];conv=>whnf
   rw [show decide (((a:Nat):Int)≠0)=true from decide_eq_true (by omega)]
   obtain ⟨q,hq⟩:∃ q,q=d / a:=⟨_,rfl⟩;rw [← hq] at kL ey eq gp bU hy;conv=>whnf
   rw [kL];refine aN (fun h3=>?_) (fun h3=>?_)
   ·have h3:q≠1:=by
     have:=of_decide_eq_true h3;omega
    have e4:fO q=y:=by
     rw [hy]; unfold fO; rw [if_neg h3]
    rw [e4] at eq;conv=>whnf
    rw [show decide (((a:Nat):Int)≠0)=true from decide_eq_true (by omega)]
    conv=>whnf
    rw [kL];refine ⟨q,rfl,by show q < _; rw [hq]; exact Nat.lt_of_le_of_lt (Nat.div_le_self _ _) hp.2.2,?_⟩
    rw [ey];conv=>whnf
    exact fin _ eq.symm
   ·have h3:q=1:=by
     have:=of_decide_eq_false h3;omega
    have e4:fO q=⟨#[]⟩:=by unfold fO; rw [if_pos h3]
    rw [e4] at eq;conv=>whnf
    exact fin _ eq.symm
 ·have fg:=of_decide_eq_false h1;have fg:¬ n < 0:=fg;have e0:n=(N:Int):=by omega
  by_cases J:n=0
  ·subst J;conv=>whnf
   exact fin _ (yz d).symm
  ·have eq:=GJ J hp.2.1 hg;rw [← hN,← hx,← hB] at eq;conv=>whnf
   rw [show decide ((n,d).fst < 0)=B from hB.symm]
   refine aN (fun h=>absurd (by simpa using h) J) (fun _=>?_)
   conv=>whnf
   rw [show (n,d).fst=(N:Int) from e0]
   refine .inl ⟨fun mm tz hz=>∃ (a:Nat) (b:Nat),bC (some (.int .i64 N)::some (.int .i64 d)::aF 2 (some (.pointer (some ⟨0,0,none⟩))::some (.pointer (some ⟨1,0,none⟩))::some (.int .i64 a)::some (.int .i64 b)::aF 33 [])) tz∧hz=[some (.aS true 3 [[.bool false,.string ⟨#[]⟩,.string ⟨#[]⟩]]),some (.aS true 3 [[.bool B,.string ⟨#[]⟩,.string ⟨#[]⟩]])]∧b=mm∧((a < 72057594037927936∧b < 72057594037927936)∧Nat.gcd a b=g),.inr ⟨[0,1],[0,1,4,5,6,7],?_⟩,?_⟩
   ·conv=>whnf
    intro _;conv=>whnf
    refine ⟨_,N,d,(.aa (.aa (.sk 2 (.aa (.aa (.aa (.aa (.sk 33 .nil rfl))))) rfl))),rfl,rfl,?_⟩;exact ⟨⟨by omega,by omega⟩,by rw [hg,hN]; rfl⟩
   rintro mm aW _ ⟨a,b,aB,rfl,rfl,⟨dJ,he⟩⟩
   obtain ⟨az,rfl⟩:∃ az:Nat→Value,aW=.int .i64 N::.int .i64 d::zs az 2 2 (.pointer (some ⟨0,0,none⟩)::.pointer (some ⟨1,0,none⟩)::.int .i64 a::.int .i64 b::zs az 8 33 []):=bL aB;clear aB;conv=>whnf
   refine aN (fun h1=>?_) (fun h1=>?_)
   ·have h1:0 < b:=by
     have:=of_decide_eq_true h1;omega
    have al:=Nat.mod_lt a h1;conv=>whnf
    refine .inl ⟨5,[[],[],[],[1,2],[0,1],[0,1,2,3,4]],by kernel_rfl,?_⟩
    conv=>whnf
    rw [show decide (((b:Nat):Int)≠0)=true from decide_eq_true (by omega)]
    conv=>whnf
    rw [show Int.tmod ((a:Nat):Int) ((b:Nat):Int)=((a % b:Nat):Int) from rfl]
    refine .inr ⟨[0,1],[0,1,4,5,6,7],?_⟩;conv=>whnf
    intro _;conv=>whnf
    refine ⟨_,?_,b,a % b,(.aa (.aa (.sk 2 (.aa (.aa (.aa (.aa (.sk 33 .nil rfl))))) rfl))),rfl,rfl,?_⟩
    ·exact al
    ·exact ⟨⟨dJ.2,by omega⟩,by rw [Nat.gcd_comm,← Nat.gcd_rec,Nat.gcd_comm]; exact he⟩
   ·have h1:b=0:=by
     have:=of_decide_eq_false h1;omega
    subst h1;obtain rfl:a=g:=by rw [← he,Nat.gcd_zero_right]
    conv=>whnf
    rw [show decide (((a:Nat):Int)≠0)=true from decide_eq_true (by omega)]
    conv=>whnf
    rw [ed];refine ⟨N / a,rfl,by show N / a < _; exact Nat.lt_of_le_of_lt (Nat.div_le_self _ _) (by omega),?_⟩
    rw [ex];conv=>whnf
    rw [show decide (((a:Nat):Int)≠0)=true from decide_eq_true (by omega)]
    obtain ⟨q,hq⟩:∃ q,q=d / a:=⟨_,rfl⟩;rw [← hq] at kL ey eq gp bU hy;conv=>whnf
    rw [kL];refine aN (fun h3=>?_) (fun h3=>?_)
    ·have h3:q≠1:=by
      have:=of_decide_eq_true h3;omega
     have e4:fO q=y:=by
      rw [hy]; unfold fO; rw [if_neg h3]
     rw [e4] at eq;conv=>whnf
     rw [show decide (((a:Nat):Int)≠0)=true from decide_eq_true (by omega)]
     conv=>whnf
     rw [kL];refine ⟨q,rfl,by show q < _; rw [hq]; exact Nat.lt_of_le_of_lt (Nat.div_le_self _ _) hp.2.2,?_⟩
     rw [ey];conv=>whnf
     exact fin _ eq.symm
    ·have h3:q=1:=by
      have:=of_decide_eq_false h3;omega
     have e4:fO q=⟨#[]⟩:=by unfold fO; rw [if_pos h3]
     rw [e4] at eq;conv=>whnf
     exact fin _ eq.symm
open Go Go.Ae
def Emd:Env:=En [(83,.p eZ),(87,.p lS)]
theorem ac4:EnvOk Tryz.prog Emd:=bK ⟨sH,Ho,trivial⟩ trivial
theorem PC:bk Tryz.prog 132 ig:=by
 refine bn ac4 aQ Tryz.func132 (enters_of Tryz.func132 (by kernel_rfl) rfl) (fun _=>rfl) (fun _=>rfl) ?_
 intro ⟨⟨b,s⟩,n⟩ hp;have hp:s.size≤549755813888∧-9223372036854775808≤n∧n < 9223372036854775808:=hp;obtain ⟨V,m,hV⟩:=EI.mk' n;have hm:m.size≤549755813888:=by
  rw [hV.size];have:=uA hp.2;omega
 obtain ⟨q,hq⟩:∃ q,q=dO (IV.z (b,s)) n:=⟨_,rfl⟩;conv=>whnf
 refine .inl ⟨3,[[],[],[1],[0,1,2],[0,1,2,3],[0,1,2,3,4]],by kernel_rfl,?_⟩
 conv=>whnf
 refine ⟨n,rfl,⟨by omega,by omega⟩,?_⟩
 rw [show eZ.val n=.agg ⟨[.bool V,.string m]⟩ from hV.enc]
 conv=>whnf
 refine ⟨((b,s),(V,m)),rfl,⟨hp.1,hm⟩,?_⟩;rw [show lS.val ((b,s),(V,m))=.int .i64 q from by show Value.int .i64 (dO (IV.z (b,s)) (IV.z (V,m)))=_; rw [hV.val,hq]]
 conv=>whnf
 show Value.bool (q == 0)=Value.bool (decide (IV.z (b,s)=n))
 congr 1
 rw [hq];unfold dO
 split
 ·rw [decide_eq_false (by omega)]; rfl
 ·split
  ·rw [decide_eq_false (by omega)]; rfl
  ·rw [decide_eq_true (by omega)]; rfl
theorem Ub:bk Tryz.prog 137 Na:=by
 refine bn lX aQ Tryz.func137 (enters_of Tryz.func137 (by kernel_rfl) rfl) (fun _=>rfl) (fun _=>rfl) ?_
 intro ⟨b,s⟩ _;conv=>whnf
 rfl
def Eme:Env:=En [(83,.p eZ),(132,.p ig),(137,.p Na)]
theorem ac5:EnvOk Tryz.prog Eme:=bK ⟨sH,PC,Ub,trivial⟩ trivial
theorem Hp:bk Tryz.prog 88 lT:=by
 refine bn ac5 aQ Tryz.func88 (enters_of Tryz.func88 (by kernel_rfl) rfl) (fun _=>rfl) (fun _=>rfl) ?_
 intro ⟨b,s,t⟩ hp;have hp:t.size≤549755813888:=hp;conv=>whnf
 refine .inl ⟨10,[[],[0],[],[2],[0,1,2,3],[],[5],[0,1,2,3,4,5,6],[0,1,2,3,4,5,6,7],[],[0,1,2,3,4,5,6,7,8,9]],by kernel_rfl,?_⟩
 conv=>whnf
 refine ⟨(b,s),rfl,trivial,?_⟩;conv=>whnf
 refine ⟨(false,t),rfl,trivial,?_⟩;conv=>whnf
 refine ⟨((false,t),0),rfl,⟨hp,r0⟩,?_⟩;by_cases h:ab t=0
 ·rw [show ig.val ((false,t),0)=.bool true from by
   show Value.bool (decide (((ab t:Nat):Int)=0))=_
   rw [h]; rfl]
  obtain ⟨v,hv⟩:∃ v,v=nb 1:=⟨_,rfl⟩;conv=>whnf
  refine ⟨(1:Int),rfl,r1,?_⟩;rw [show eZ.val (1:Int)=.agg ⟨[.bool false,.string v]⟩ from by rw [hv]; rfl]
  conv=>whnf
  show Value.agg ⟨[.bool b,.string s,.bool false,.string v]⟩=xA (b,s) (false,RV.den (b,s,t))
  unfold RV.den;rw [if_pos h,← hv]
  rfl
 ·rw [show ig.val ((false,t),0)=.bool false from by
   show Value.bool (decide (((ab t:Nat):Int)=0))=_
   rw [decide_eq_false (by omega)]]
  conv=>whnf
  show Value.agg ⟨[.bool b,.string s,.bool false,.string t]⟩=xA (b,s) (false,RV.den (b,s,t))
  unfold RV.den;rw [if_neg h]
  rfl
def Emf:Env:=En [(132,.p ig),(133,.p vm),(134,.p iR)]
theorem ac6:EnvOk Tryz.prog Emf:=bK ⟨PC,abV,abW,trivial⟩ trivial
theorem MM:bk Tryz.prog 86 oS:=by
 refine bn ac6 aQ Tryz.func86 (enters_of Tryz.func86 (by kernel_rfl) rfl) (fun _=>rfl) (fun _=>rfl) ?_
 intro ⟨⟨b,s⟩,⟨c,t⟩⟩ hp;have hp:s.size≤549755813888∧t.size≤549755813888∧0 < IV.z (c,t):=hp;obtain ⟨x,hx⟩:∃ x,x=IV.z (b,s):=⟨_,rfl⟩;obtain ⟨d,hd⟩:∃ d,d=(IV.z (c,t)).natAbs:=⟨_,rfl⟩;have bU:IV.z (c,t)=((d:Nat):Int):=by omega
 have fJ:d≠0:=by omega
 obtain ⟨q,hq⟩:∃ q,q=mkRat x d:=⟨_,rfl⟩;have fin:∀ v:Value,v=bM q→v=oS.val ((b,s),(c,t)):=fun v h=>by rw [h,hq,hx,hd]; rfl
 conv=>whnf
 refine ⟨((b,s),0),rfl,⟨hp.1,r0⟩,?_⟩;rw [show ig.val ((b,s),0)=.bool (decide (x=0)) from by rw [hx]; rfl]
 by_cases h1:x=0
 ·rw [decide_eq_true h1];conv=>whnf
  exact fin _ (by rw [hq,h1]; exact (yz d).symm)
 ·rw [decide_eq_false h1];obtain ⟨g,hg⟩:∃ g,g=Int.gcd x d:=⟨_,rfl⟩;obtain ⟨gs,rJ⟩:=EI.jd (show 0≤((g:Nat):Int) by omega)
  obtain ⟨qb,qs,hn⟩:=EI.mk' q.num;obtain ⟨es,he⟩:=EI.jd (show 0≤((q.den:Nat):Int) by omega)
  have nJ:((g:Nat):Int)≠0:=by
   have:0 < g:=by rw [hg]; exact Int.gcd_pos_of_ne_zero_left _ h1
   omega
  have IL:g≤d:=by
   have h3:=(A6 fJ hg).2.1;rcases Nat.lt_or_ge d g with h | h
   ·rw [Nat.div_eq_of_lt h] at h3; omega
   ·exact h
  have eT:aT d≤549755813888:=by rw [hd]; exact IV.aT (i:=(c,t)) hp.2.1
  have AP:gs.size≤549755813888:=by
   rw [rJ.size,Int.natAbs_natCast];exact Nat.le_trans (iZ IL) eT
  have ae:es.size≤549755813888:=by
   rw [he.size,Int.natAbs_natCast];exact Nat.le_trans (iZ (by rw [hq]; exact OL x fJ)) eT
  have JN:x.fdiv ((g:Nat):Int)=q.num:=by rw [hg,hq]; exact Hd x fJ
  have rG:((d:Nat):Int).fdiv ((g:Nat):Int)=((q.den:Nat):Int):=by rw [hg,hq]; exact He x fJ
  conv=>whnf
  refine ⟨((b,s),(c,t)),rfl,⟨hp.1,hp.2.1⟩,?_⟩;rw [show vm.val ((b,s),(c,t))=.agg ⟨[.bool false,.string gs]⟩ from by
   show aH ((Int.gcd (IV.z (b,s)) (IV.z (c,t)):Nat):Int)=_
   rw [← hx,bU,← hg,rJ.enc]]
  conv=>whnf
  obtain ⟨fb,fs,hf⟩:=EI.mk' (x.fmod ((g:Nat):Int));refine ⟨((b,s),(false,gs)),rfl,⟨hp.1,AP⟩,?_⟩;rw [show iR.val ((b,s),(false,gs))=.tuple ⟨[.agg ⟨[.bool qb,.string qs]⟩,.agg ⟨[.bool fb,.string fs]⟩,.int .i64 0]⟩ from by
   simp only [iR,rJ.val,if_neg nJ];rw [← hx,JN,hn.enc,hf.enc]]
  conv=>whnf
  obtain ⟨kb,ks,hk⟩:=EI.mk' (((d:Nat):Int).fmod ((g:Nat):Int));refine ⟨((c,t),(false,gs)),rfl,⟨hp.2.1,AP⟩,?_⟩;rw [show iR.val ((c,t),(false,gs))=.tuple ⟨[.agg ⟨[.bool false,.string es]⟩,.agg ⟨[.bool kb,.string ks]⟩,.int .i64 0]⟩ from by
   simp only [iR,rJ.val,if_neg nJ,bU];rw [rG,he.enc,hk.enc]]
  conv=>whnf
  refine ⟨((false,es),1),rfl,⟨ae,r1⟩,?_⟩;rw [show ig.val ((false,es),1)=.bool (decide (((q.den:Nat):Int)=1)) from by
   show Value.bool (decide (IV.z (false,es)=1))=_
   rw [he.val]]
  have enc:∀ y,fO q.den=y→Value.agg ⟨[.bool qb,.string qs,.string y]⟩=bM q:=fun y hy=>by
   unfold bM;rw [← hn.nH,← hn.sign,hy]
  by_cases J:q.den=1
  ·rw [decide_eq_true (by omega)]
   conv=>whnf
   exact fin _ (enc _ (by unfold fO; rw [if_pos J]))
  ·rw [decide_eq_false (by omega)]
   conv=>whnf
   exact fin _ (enc _ (by unfold fO; rw [if_neg J,he.nH,Int.natAbs_natCast]))
open Go Go.Ae
def Emg:Env:=En [(95,.p nR)]
theorem PD:EnvOk Tryz.prog Emg:=bK ⟨WU,trivial⟩ trivial
theorem ZB:bk Tryz.prog 94 C4:=by
 refine bn PD aQ Tryz.func94 (enters_of Tryz.func94 (by kernel_rfl) rfl) (fun _=>rfl) (fun _=>rfl) ?_
 intro ⟨⟨n,d⟩,⟨m,e⟩⟩ hp;obtain ⟨h1,J,h3,h4⟩:=I4.bounds hp;simp only at h1 J h3 h4;obtain ⟨x,hx⟩:∃ x,x=n*(e:Int):=⟨_,rfl⟩;obtain ⟨y,hy⟩:∃ y,y=m*(d:Int):=⟨_,rfl⟩;obtain ⟨k,hk⟩:∃ k,k=d*e:=⟨_,rfl⟩;rw [← hx] at h1;rw [← hy] at J;rw [← hk] at h4;have e1:IntKind.i64.wrap (IntKind.i64.wrap (n*(e:Int))+IntKind.i64.wrap (m*(d:Int)))=x+y:=by
  rw [← hx,← hy,ax (x:=x) (by omega) (by omega),ax (x:=y) (by omega) (by omega),ax (by omega) (by omega)]
 have e2:IntKind.i64.wrap ((d:Int)*(e:Int))=(k:Int):=by
  rw [← Int.natCast_mul,← hk,ax (by omega) (by omega)]
 conv=>whnf
 rw [show IntKind.i64.wrap (IntKind.i64.wrap (((n,d),m,e).fst.fst*(((n,d),m,e).snd.snd:Int))+IntKind.i64.wrap (((n,d),m,e).snd.fst*(((n,d),m,e).fst.snd:Int)))=x+y from e1]
 rw [show IntKind.i64.wrap ((((n,d),m,e).fst.snd:Int)*(((n,d),m,e).snd.snd:Int))=(k:Int) from e2]
 refine ⟨(x+y,k),rfl,⟨by show (x+y).natAbs < _; omega,by show k≠0; omega,by show k < _; omega⟩,?_⟩
 obtain ⟨v,hv⟩:∃ v,v=mkRat (x+y) k:=⟨_,rfl⟩;rw [show nR.val (x+y,k)=(RV.of v).v from by rw [hv]; rfl]
 conv=>whnf
 show (RV.of v).v=bM (mkRat (n*e+m*d) (d*e))
 rw [hv,hx,hy,hk]
 rfl
theorem ZC:bk Tryz.prog 98 C5:=by
 refine bn PD aQ Tryz.func98 (enters_of Tryz.func98 (by kernel_rfl) rfl) (fun _=>rfl) (fun _=>rfl) ?_
 intro ⟨⟨n,d⟩,⟨m,e⟩⟩ hp;obtain ⟨h1,J,h3,h4⟩:=I4.bounds hp;simp only at h1 J h3 h4;obtain ⟨x,hx⟩:∃ x,x=n*m:=⟨_,rfl⟩;obtain ⟨k,hk⟩:∃ k,k=d*e:=⟨_,rfl⟩;rw [← hx] at h3;rw [← hk] at h4;have e1:IntKind.i64.wrap (n*m)=x:=by
  rw [← hx,ax (x:=x) (by omega) (by omega)]
 have e2:IntKind.i64.wrap ((d:Int)*(e:Int))=(k:Int):=by
  rw [← Int.natCast_mul,← hk,ax (by omega) (by omega)]
 conv=>whnf
 rw [show IntKind.i64.wrap (((n,d),m,e).fst.fst*((n,d),m,e).snd.fst)=x from e1]
 rw [show IntKind.i64.wrap ((((n,d),m,e).fst.snd:Int)*(((n,d),m,e).snd.snd:Int))=(k:Int) from e2]
 refine ⟨(x,k),rfl,⟨by show x.natAbs < _; omega,by show k≠0; omega,by show k < _; omega⟩,?_⟩
 obtain ⟨v,hv⟩:∃ v,v=mkRat x k:=⟨_,rfl⟩;rw [show nR.val (x,k)=(RV.of v).v from by rw [hv]; rfl]
 conv=>whnf
 show (RV.of v).v=bM (mkRat (n*m) (d*e))
 rw [hv,hx,hk]
 rfl
theorem ZD:bk Tryz.prog 90 zF:=by
 refine bn lX aQ Tryz.func90 (enters_of Tryz.func90 (by kernel_rfl) rfl) (fun _=>rfl) (fun _=>rfl) ?_
 intro ⟨⟨n,d⟩,⟨m,e⟩⟩ hp;obtain ⟨h1,J,h3,h4⟩:=I4.bounds hp;simp only at h1 J h3 h4;obtain ⟨x,hx⟩:∃ x,x=n*(e:Int):=⟨_,rfl⟩;obtain ⟨y,hy⟩:∃ y,y=m*(d:Int):=⟨_,rfl⟩;rw [← hx] at h1;rw [← hy] at J;have e1:IntKind.i64.wrap (n*(e:Int))=x:=by rw [← hx,ax (x:=x) (by omega) (by omega)]
 have e2:IntKind.i64.wrap (m*(d:Int))=y:=by rw [← hy,ax (x:=y) (by omega) (by omega)]
 have fin:∀ z:Int,z=dO x y→Value.int .i64 z=zF.val ((n,d),(m,e)):=fun z h=>by rw [h,hx,hy]; rfl
 conv=>whnf
 rw [show IntKind.i64.wrap (((n,d),m,e).fst.fst*(((n,d),m,e).snd.snd:Int))=x from e1,show IntKind.i64.wrap (((n,d),m,e).snd.fst*(((n,d),m,e).fst.snd:Int))=y from e2]
 refine aN (fun h=>?_) (fun h=>?_)
 ·have h:=of_decide_eq_true h;conv=>whnf
  exact fin _ (ux h).symm
 ·have h:=of_decide_eq_false h;conv=>whnf
  refine aN (fun h5=>?_) (fun h5=>?_)
  ·have h5:=of_decide_eq_true h5;conv=>whnf
   exact fin _ (uy h5).symm
  ·have h5:=of_decide_eq_false h5;conv=>whnf
   refine fin _ ?_;unfold dO;rw [if_neg h,if_neg (show ¬ y < x from h5)]
def Emh:Env:=En [(92,.p fm),(97,.p jk),(87,.p lS),(86,.p oS)]
theorem HS:EnvOk Tryz.prog Emh:=bK ⟨O4,Hn,Ho,MM,trivial⟩ trivial
theorem ZF:bk Tryz.prog 96 xB:=by
 refine bn HS aQ Tryz.func96 (enters_of Tryz.func96 (by kernel_rfl) rfl) (fun _=>rfl) (fun _=>rfl) ?_
 intro ⟨⟨⟨b,s⟩,⟨c,t⟩⟩,⟨⟨b',s'⟩,⟨c',t'⟩⟩⟩ hp;have hp:((s.size≤17179869184∧t.size≤17179869184)∧0 < IV.z (c,t))∧(s'.size≤17179869184∧t'.size≤17179869184)∧0 < IV.z (c',t'):=hp;obtain ⟨⟨⟨hs,ht⟩,hd⟩,⟨vD,jE⟩,cU⟩:=hp;obtain ⟨B1,m1,h1⟩:=EI.mk' (IV.z (b,s)*IV.z (c',t'));obtain ⟨B2,m2,J⟩:=EI.mk' (IV.z (b',s')*IV.z (c,t));obtain ⟨B3,m3,h3⟩:=EI.mk' (IV.z (b,s)*IV.z (c',t')+IV.z (b',s')*IV.z (c,t));obtain ⟨B4,m4,h4⟩:=EI.mk' (IV.z (c,t)*IV.z (c',t'));have z1:=h1.gN (dH hs) (dH jE);have z2:=J.gN (dH vD) (dH ht);have z4:=h4.gN (dH ht) (dH jE);have z3:m3.size≤34359738369:=h3.Ga (by rw [← h1.size]; omega) (by rw [← J.size]; omega)
 have lP:=Int.mul_pos hd cU;conv=>whnf
 refine .inl ⟨15,[[],[0],[],[2],[0,1,2,3],[],[5],[],[7],[0,1,2,3,4,5,6,7,8],[0,1,2,3,4,5,6,7,8,9],[],[11],[],[13],[0,1,2,3,4,5,6,7,8,9,10,11,12,13,14],[0,1,2,3,4,5,6,7,8,9,10,11,12,13,14,15],[0,1,2,3,4,5,6,7,8,9,10,11,12,13,14,15,16],[0,1,2,3,4,5,6,7,8,9,10,11,12,13,14,15,16,17]],by kernel_rfl,?_⟩
 conv=>whnf
 refine ⟨((b,s),(c',t')),rfl,⟨by show s.size≤_; omega,by show t'.size≤_; omega⟩,?_⟩
 rw [show fm.val ((b,s),(c',t'))=.agg ⟨[.bool B1,.string m1]⟩ from h1.enc]
 conv=>whnf
 refine ⟨((b',s'),(c,t)),rfl,⟨by show s'.size≤_; omega,by show t.size≤_; omega⟩,?_⟩
 rw [show fm.val ((b',s'),(c,t))=.agg ⟨[.bool B2,.string m2]⟩ from J.enc]
 conv=>whnf
 refine ⟨((B1,m1),(B2,m2)),rfl,⟨by show m1.size≤_; omega,by show m2.size≤_; omega⟩,?_⟩
 rw [show jk.val ((B1,m1),(B2,m2))=.agg ⟨[.bool B3,.string m3]⟩ from by
  show aH (IV.z (B1,m1)+IV.z (B2,m2))=_
  rw [h1.val,J.val,h3.enc]]
 conv=>whnf
 refine ⟨((c,t),(c',t')),rfl,⟨by show t.size≤_; omega,by show t'.size≤_; omega⟩,?_⟩
 rw [show fm.val ((c,t),(c',t'))=.agg ⟨[.bool B4,.string m4]⟩ from h4.enc]
 conv=>whnf
 refine ⟨((B3,m3),(B4,m4)),rfl,⟨by show m3.size≤_; omega,by show m4.size≤_; omega,by show 0 < IV.z (B4,m4); rw [h4.val]; exact lP⟩,?_⟩
 obtain ⟨v,hv⟩:∃ v,v=mkRat (IV.z (B3,m3)) (IV.z (B4,m4)).natAbs:=⟨_,rfl⟩;rw [show oS.val ((B3,m3),(B4,m4))=(RV.of v).v from by rw [hv]; rfl]
 rw [h3.val,h4.val] at hv;conv=>whnf
 show (RV.of v).v=bM _
 rw [hv]
 rfl
theorem ZG:bk Tryz.prog 99 xC:=by
 refine bn HS aQ Tryz.func99 (enters_of Tryz.func99 (by kernel_rfl) rfl) (fun _=>rfl) (fun _=>rfl) ?_
 intro ⟨⟨⟨b,s⟩,⟨c,t⟩⟩,⟨⟨b',s'⟩,⟨c',t'⟩⟩⟩ hp;have hp:((s.size≤17179869184∧t.size≤17179869184)∧0 < IV.z (c,t))∧(s'.size≤17179869184∧t'.size≤17179869184)∧0 < IV.z (c',t'):=hp;obtain ⟨⟨⟨hs,ht⟩,hd⟩,⟨vD,jE⟩,cU⟩:=hp;obtain ⟨B3,m3,h3⟩:=EI.mk' (IV.z (b,s)*IV.z (b',s'));obtain ⟨B4,m4,h4⟩:=EI.mk' (IV.z (c,t)*IV.z (c',t'));have z3:=h3.gN (dH hs) (dH vD);have z4:=h4.gN (dH ht) (dH jE);have lP:=Int.mul_pos hd cU;conv=>whnf
 refine .inl ⟨9,[[],[0],[],[2],[0,1,2,3],[],[5],[],[7],[0,1,2,3,4,5,6,7,8],[0,1,2,3,4,5,6,7,8,9],[0,1,2,3,4,5,6,7,8,9,10],[0,1,2,3,4,5,6,7,8,9,10,11]],by kernel_rfl,?_⟩
 conv=>whnf
 refine ⟨((b,s),(b',s')),rfl,⟨by show s.size≤_; omega,by show s'.size≤_; omega⟩,?_⟩
 rw [show fm.val ((b,s),(b',s'))=.agg ⟨[.bool B3,.string m3]⟩ from h3.enc]
 conv=>whnf
 refine ⟨((c,t),(c',t')),rfl,⟨by show t.size≤_; omega,by show t'.size≤_; omega⟩,?_⟩
 rw [show fm.val ((c,t),(c',t'))=.agg ⟨[.bool B4,.string m4]⟩ from h4.enc]
 conv=>whnf
 refine ⟨((B3,m3),(B4,m4)),rfl,⟨by show m3.size≤_; omega,by show m4.size≤_; omega,by show 0 < IV.z (B4,m4); rw [h4.val]; exact lP⟩,?_⟩
 obtain ⟨v,hv⟩:∃ v,v=mkRat (IV.z (B3,m3)) (IV.z (B4,m4)).natAbs:=⟨_,rfl⟩;rw [show oS.val ((B3,m3),(B4,m4))=(RV.of v).v from by rw [hv]; rfl]
 rw [h3.val,h4.val] at hv;conv=>whnf
 show (RV.of v).v=bM _
 rw [hv]
 rfl
theorem ZH:bk Tryz.prog 91 xD:=by
 refine bn HS aQ Tryz.func91 (enters_of Tryz.func91 (by kernel_rfl) rfl) (fun _=>rfl) (fun _=>rfl) ?_
 intro ⟨⟨⟨b,s⟩,⟨c,t⟩⟩,⟨⟨b',s'⟩,⟨c',t'⟩⟩⟩ hp;have hp:((s.size≤17179869184∧t.size≤17179869184)∧0 < IV.z (c,t))∧(s'.size≤17179869184∧t'.size≤17179869184)∧0 < IV.z (c',t'):=hp;obtain ⟨⟨⟨hs,ht⟩,hd⟩,⟨vD,jE⟩,cU⟩:=hp;obtain ⟨B1,m1,h1⟩:=EI.mk' (IV.z (b,s)*IV.z (c',t'));obtain ⟨B2,m2,J⟩:=EI.mk' (IV.z (b',s')*IV.z (c,t));have z1:=h1.gN (dH hs) (dH jE);have z2:=J.gN (dH vD) (dH ht);obtain ⟨q,hq⟩:∃ q,q=dO (IV.z (b,s)*IV.z (c',t')) (IV.z (b',s')*IV.z (c,t)):=⟨_,rfl⟩;conv=>whnf
 refine .inl ⟨9,[[],[0],[],[2],[0,1,2,3],[],[5],[],[7],[0,1,2,3,4,5,6,7,8],[0,1,2,3,4,5,6,7,8,9],[0,1,2,3,4,5,6,7,8,9,10]],by kernel_rfl,?_⟩
 conv=>whnf
 refine ⟨((b,s),(c',t')),rfl,⟨by show s.size≤_; omega,by show t'.size≤_; omega⟩,?_⟩
 rw [show fm.val ((b,s),(c',t'))=.agg ⟨[.bool B1,.string m1]⟩ from h1.enc]
 conv=>whnf
 refine ⟨((b',s'),(c,t)),rfl,⟨by show s'.size≤_; omega,by show t.size≤_; omega⟩,?_⟩
 rw [show fm.val ((b',s'),(c,t))=.agg ⟨[.bool B2,.string m2]⟩ from J.enc]
 conv=>whnf
 refine ⟨((B1,m1),(B2,m2)),rfl,⟨by show m1.size≤_; omega,by show m2.size≤_; omega⟩,?_⟩
 rw [show lS.val ((B1,m1),(B2,m2))=.int .i64 q from by
  show Value.int .i64 (dO (IV.z (B1,m1)) (IV.z (B2,m2)))=_
  rw [h1.val,J.val,hq]]
 conv=>whnf
 show Value.int .i64 q=_
 rw [hq]
 rfl
open Go Go.Ae
def AQ:Env:=En [(138,.p bG),(88,.p lT),(94,.p C4),(96,.p xB),(98,.p C5),(99,.p xC),(90,.p zF),(91,.p xD)]
theorem PF:EnvOk Tryz.prog AQ:=bK ⟨Zz,Hp,ZB,ZF,ZC,ZG,ZD,ZH,trivial⟩ trivial
theorem WW:gu Tryz.prog 93 (cD AQ cR Tryz.f93):=by
 exact jw PF aQ Tryz.func93 (enters_of Tryz.func93 (by kernel_rfl) rfl)
theorem WX:gu Tryz.prog 89 (cD AQ cR Tryz.f89):=by
 exact jw PF aQ Tryz.func89 (enters_of Tryz.func89 (by kernel_rfl) rfl)
def Emk:Env:=En [] [(93,cD AQ cR Tryz.f93),(89,cD AQ cR Tryz.f89)]
theorem HT:EnvOk Tryz.prog Emk:=bK trivial ⟨WW,WX,trivial⟩
theorem Cr:bk Tryz.prog 36 lK:=by
 refine bn HT aQ Tryz.func36 (enters_of Tryz.func36 (by kernel_rfl) rfl) (fun _=>rfl) (fun _=>rfl) ?_
 intro ⟨⟨b,s,t⟩,⟨c,u,v⟩⟩ hp;have hp:RV.ok (b,s,t)∧RV.ok (c,u,v):=hp;obtain ⟨w,hw⟩:∃ w,w=RV.q (b,s,t)+RV.q (c,u,v):=⟨_,rfl⟩;have fin:∀ x:Value,x=(RV.of w).v→x=lK.val ((b,s,t),(c,u,v)):=fun x h=>by rw [h,hw]; rfl
 obtain ⟨x,hx⟩:∃ x,x=RV.den (b,s,t):=⟨_,rfl⟩;obtain ⟨y,hy⟩:∃ y,y=RV.den (c,u,v):=⟨_,rfl⟩;have ex:lT.val (b,s,t)=.agg ⟨[.bool b,.string s,.bool false,.string x]⟩:=by rw [hx]; rfl
 have ey:lT.val (c,u,v)=.agg ⟨[.bool c,.string u,.bool false,.string y]⟩:=by rw [hy]; rfl
 have f1:=RV.mw hp.1;have f2:=RV.mw hp.2;have e2:xB.val (((b,s),(false,x)),((c,u),(false,y)))=(RV.of w).v:=by rw [hx,hy,hw]; exact aae (b,s,t) (c,u,v)
 rw [← hx] at f1;rw [← hy] at f2;have e1:=aab (b,s,t) (c,u,v);have hn:=RV.jV (i:=(b,s,t));have hm:=RV.jV (i:=(c,u,v));rw [← hw] at e1;obtain ⟨n,bR⟩:∃ n,n=RV.n (b,s,t):=⟨_,rfl⟩;obtain ⟨m,eI⟩:∃ n,n=RV.n (c,u,v):=⟨_,rfl⟩;obtain ⟨d,bU⟩:∃ n,n=RV.d (b,s,t):=⟨_,rfl⟩;obtain ⟨e,bW⟩:∃ n,n=RV.d (c,u,v):=⟨_,rfl⟩;rw [← bR,← bU] at hn e1;rw [← eI,← bW] at hm e1;conv=>whnf
 refine ⟨(b,s,t),rfl,trivial,?_⟩;by_cases h1:RV.gh (b,s,t)
 ·rw [show bG.val (b,s,t)=.tuple ⟨[.int .i64 n,.int .i64 d,.bool true]⟩ from by simp only [bG,if_pos h1,decide_eq_true h1,bR,bU]]
  conv=>whnf
  refine ⟨(c,u,v),rfl,trivial,?_⟩;by_cases J:RV.gh (c,u,v)
  ·rw [show bG.val (c,u,v)=.tuple ⟨[.int .i64 m,.int .i64 e,.bool true]⟩ from by simp only [bG,if_pos J,decide_eq_true J,eI,bW]]
   conv=>whnf
   refine ⟨((n,d),(m,e)),rfl,⟨hn h1,hm J⟩,?_⟩;rw [show C4.val ((n,d),(m,e))=(RV.of w).v from e1]
   conv=>whnf
   exact fin _ rfl
  ·rw [show bG.val (c,u,v)=.tuple ⟨[.int .i64 0,.int .i64 0,.bool false]⟩ from by simp only [bG,if_neg J,decide_eq_false J]]
   conv=>whnf
   refine .inl ⟨5,[[],[],[1],[],[1,2,3],[0,1,2,3,4],[0,1,2,3,4,5]],by kernel_rfl,?_⟩
   conv=>whnf
   refine ⟨(b,s,t),rfl,by have:=hp.1.2; show t.size≤_; exact Nat.le_trans this (by decide),?_⟩
   rw [ex];conv=>whnf
   refine ⟨(c,u,v),rfl,by have:=hp.2.2; show v.size≤_; exact Nat.le_trans this (by decide),?_⟩
   rw [ey];conv=>whnf
   refine ⟨(((b,s),(false,x)),((c,u),(false,y))),rfl,⟨f1,f2⟩,?_⟩;rw [show xB.val (((b,s),(false,x)),((c,u),(false,y)))=(RV.of w).v from e2]
   conv=>whnf
   exact fin _ rfl
 ·rw [show bG.val (b,s,t)=.tuple ⟨[.int .i64 0,.int .i64 0,.bool false]⟩ from by simp only [bG,if_neg h1,decide_eq_false h1]]
  conv=>whnf
  obtain ⟨k1,k2,k3,hk⟩:∃ (k1 k2:Int) (k3:Bool),bG.val (c,u,v)=.tuple ⟨[.int .i64 k1,.int .i64 k2,.bool k3]⟩:=⟨_,_,_,rfl⟩;refine ⟨(c,u,v),rfl,trivial,?_⟩;rw [hk];conv=>whnf
  refine .inl ⟨5,[[],[],[1],[],[1,2,3],[0,1,2,3,4],[0,1,2,3,4,5]],by kernel_rfl,?_⟩
  conv=>whnf
  refine ⟨(b,s,t),rfl,by have:=hp.1.2; show t.size≤_; exact Nat.le_trans this (by decide),?_⟩
  rw [ex];conv=>whnf
  refine ⟨(c,u,v),rfl,by have:=hp.2.2; show v.size≤_; exact Nat.le_trans this (by decide),?_⟩
  rw [ey];conv=>whnf
  refine ⟨(((b,s),(false,x)),((c,u),(false,y))),rfl,⟨f1,f2⟩,?_⟩;rw [show xB.val (((b,s),(false,x)),((c,u),(false,y)))=(RV.of w).v from e2]
  conv=>whnf
  exact fin _ rfl
theorem Om:bk Tryz.prog 37 lL:=by
 refine bn HT aQ Tryz.func37 (enters_of Tryz.func37 (by kernel_rfl) rfl) (fun _=>rfl) (fun _=>rfl) ?_
 intro ⟨⟨b,s,t⟩,⟨c,u,v⟩⟩ hp;have hp:RV.ok (b,s,t)∧RV.ok (c,u,v):=hp;obtain ⟨w,hw⟩:∃ w,w=RV.q (b,s,t)*RV.q (c,u,v):=⟨_,rfl⟩;have fin:∀ x:Value,x=(RV.of w).v→x=lL.val ((b,s,t),(c,u,v)):=fun x h=>by rw [h,hw]; rfl
 obtain ⟨x,hx⟩:∃ x,x=RV.den (b,s,t):=⟨_,rfl⟩;obtain ⟨y,hy⟩:∃ y,y=RV.den (c,u,v):=⟨_,rfl⟩;have ex:lT.val (b,s,t)=.agg ⟨[.bool b,.string s,.bool false,.string x]⟩:=by rw [hx]; rfl
 have ey:lT.val (c,u,v)=.agg ⟨[.bool c,.string u,.bool false,.string y]⟩:=by rw [hy]; rfl
 have f1:=RV.mw hp.1;have f2:=RV.mw hp.2;have e2:xC.val (((b,s),(false,x)),((c,u),(false,y)))=(RV.of w).v:=by rw [hx,hy,hw]; exact aaf (b,s,t) (c,u,v)
 rw [← hx] at f1;rw [← hy] at f2;have e1:=aac (b,s,t) (c,u,v);have hn:=RV.jV (i:=(b,s,t));have hm:=RV.jV (i:=(c,u,v));rw [← hw] at e1;obtain ⟨n,bR⟩:∃ n,n=RV.n (b,s,t):=⟨_,rfl⟩;obtain ⟨m,eI⟩:∃ n,n=RV.n (c,u,v):=⟨_,rfl⟩;obtain ⟨d,bU⟩:∃ n,n=RV.d (b,s,t):=⟨_,rfl⟩;obtain ⟨e,bW⟩:∃ n,n=RV.d (c,u,v):=⟨_,rfl⟩;rw [← bR,← bU] at hn e1;rw [← eI,← bW] at hm e1;conv=>whnf
 refine ⟨(b,s,t),rfl,trivial,?_⟩;by_cases h1:RV.gh (b,s,t)
 ·rw [show bG.val (b,s,t)=.tuple ⟨[.int .i64 n,.int .i64 d,.bool true]⟩ from by simp only [bG,if_pos h1,decide_eq_true h1,bR,bU]]
  conv=>whnf
  refine ⟨(c,u,v),rfl,trivial,?_⟩;by_cases J:RV.gh (c,u,v)
  ·rw [show bG.val (c,u,v)=.tuple ⟨[.int .i64 m,.int .i64 e,.bool true]⟩ from by simp only [bG,if_pos J,decide_eq_true J,eI,bW]]
   conv=>whnf
   refine ⟨((n,d),(m,e)),rfl,⟨hn h1,hm J⟩,?_⟩;rw [show C5.val ((n,d),(m,e))=(RV.of w).v from e1]
   conv=>whnf
   exact fin _ rfl
  ·rw [show bG.val (c,u,v)=.tuple ⟨[.int .i64 0,.int .i64 0,.bool false]⟩ from by simp only [bG,if_neg J,decide_eq_false J]]
   conv=>whnf
   refine .inl ⟨5,[[],[],[1],[],[1,2,3],[0,1,2,3,4],[0,1,2,3,4,5]],by kernel_rfl,?_⟩
   conv=>whnf
   refine ⟨(b,s,t),rfl,by have:=hp.1.2; show t.size≤_; exact Nat.le_trans this (by decide),?_⟩
   rw [ex];conv=>whnf
   refine ⟨(c,u,v),rfl,by have:=hp.2.2; show v.size≤_; exact Nat.le_trans this (by decide),?_⟩
   rw [ey];conv=>whnf
   refine ⟨(((b,s),(false,x)),((c,u),(false,y))),rfl,⟨f1,f2⟩,?_⟩;rw [show xC.val (((b,s),(false,x)),((c,u),(false,y)))=(RV.of w).v from e2]
   conv=>whnf
   exact fin _ rfl
 ·rw [show bG.val (b,s,t)=.tuple ⟨[.int .i64 0,.int .i64 0,.bool false]⟩ from by simp only [bG,if_neg h1,decide_eq_false h1]]
  conv=>whnf
  obtain ⟨k1,k2,k3,hk⟩:∃ (k1 k2:Int) (k3:Bool),bG.val (c,u,v)=.tuple ⟨[.int .i64 k1,.int .i64 k2,.bool k3]⟩:=⟨_,_,_,rfl⟩;refine ⟨(c,u,v),rfl,trivial,?_⟩;rw [hk];conv=>whnf
  refine .inl ⟨5,[[],[],[1],[],[1,2,3],[0,1,2,3,4],[0,1,2,3,4,5]],by kernel_rfl,?_⟩
  conv=>whnf
  refine ⟨(b,s,t),rfl,by have:=hp.1.2; show t.size≤_; exact Nat.le_trans this (by decide),?_⟩
  rw [ex];conv=>whnf
  refine ⟨(c,u,v),rfl,by have:=hp.2.2; show v.size≤_; exact Nat.le_trans this (by decide),?_⟩
  rw [ey];conv=>whnf
  refine ⟨(((b,s),(false,x)),((c,u),(false,y))),rfl,⟨f1,f2⟩,?_⟩;rw [show xC.val (((b,s),(false,x)),((c,u),(false,y)))=(RV.of w).v from e2]
  conv=>whnf
  exact fin _ rfl
theorem On:bk Tryz.prog 35 jT:=by
 refine bn HT aQ Tryz.func35 (enters_of Tryz.func35 (by kernel_rfl) rfl) (fun _=>rfl) (fun _=>rfl) ?_
 intro ⟨⟨b,s,t⟩,⟨c,u,v⟩⟩ hp;have hp:RV.ok (b,s,t)∧RV.ok (c,u,v):=hp;obtain ⟨w,hw⟩:∃ w,w=ba (RV.q (b,s,t)) (RV.q (c,u,v)):=⟨_,rfl⟩;have fin:∀ x:Value,x=.int .i64 w→x=jT.val ((b,s,t),(c,u,v)):=fun x h=>by rw [h,hw]; rfl
 obtain ⟨x,hx⟩:∃ x,x=RV.den (b,s,t):=⟨_,rfl⟩;obtain ⟨y,hy⟩:∃ y,y=RV.den (c,u,v):=⟨_,rfl⟩;have ex:lT.val (b,s,t)=.agg ⟨[.bool b,.string s,.bool false,.string x]⟩:=by rw [hx]; rfl
 have ey:lT.val (c,u,v)=.agg ⟨[.bool c,.string u,.bool false,.string y]⟩:=by rw [hy]; rfl
 have f1:=RV.mw hp.1;have f2:=RV.mw hp.2;have e2:xD.val (((b,s),(false,x)),((c,u),(false,y)))=.int .i64 w:=by rw [hx,hy,hw]; exact aag (b,s,t) (c,u,v)
 rw [← hx] at f1;rw [← hy] at f2;have e1:=aad (b,s,t) (c,u,v);have hn:=RV.jV (i:=(b,s,t));have hm:=RV.jV (i:=(c,u,v));rw [← hw] at e1;obtain ⟨n,bR⟩:∃ n,n=RV.n (b,s,t):=⟨_,rfl⟩;obtain ⟨m,eI⟩:∃ n,n=RV.n (c,u,v):=⟨_,rfl⟩;obtain ⟨d,bU⟩:∃ n,n=RV.d (b,s,t):=⟨_,rfl⟩;obtain ⟨e,bW⟩:∃ n,n=RV.d (c,u,v):=⟨_,rfl⟩;rw [← bR,← bU] at hn e1;rw [← eI,← bW] at hm e1;conv=>whnf
 refine ⟨(b,s,t),rfl,trivial,?_⟩;by_cases h1:RV.gh (b,s,t)
 ·rw [show bG.val (b,s,t)=.tuple ⟨[.int .i64 n,.int .i64 d,.bool true]⟩ from by simp only [bG,if_pos h1,decide_eq_true h1,bR,bU]]
  conv=>whnf
  refine ⟨(c,u,v),rfl,trivial,?_⟩;by_cases J:RV.gh (c,u,v)
  ·rw [show bG.val (c,u,v)=.tuple ⟨[.int .i64 m,.int .i64 e,.bool true]⟩ from by simp only [bG,if_pos J,decide_eq_true J,eI,bW]]
   conv=>whnf
   refine ⟨((n,d),(m,e)),rfl,⟨hn h1,hm J⟩,?_⟩;rw [show zF.val ((n,d),(m,e))=.int .i64 w from e1]
   conv=>whnf
   exact fin _ rfl
  ·rw [show bG.val (c,u,v)=.tuple ⟨[.int .i64 0,.int .i64 0,.bool false]⟩ from by simp only [bG,if_neg J,decide_eq_false J]]
   conv=>whnf
   refine .inl ⟨5,[[],[],[1],[],[1,2,3],[0,1,2,3,4],[0,1,2,3,4,5]],by kernel_rfl,?_⟩
   conv=>whnf
   refine ⟨(b,s,t),rfl,by have:=hp.1.2; show t.size≤_; exact Nat.le_trans this (by decide),?_⟩
   rw [ex];conv=>whnf
   refine ⟨(c,u,v),rfl,by have:=hp.2.2; show v.size≤_; exact Nat.le_trans this (by decide),?_⟩
   rw [ey];conv=>whnf
   refine ⟨(((b,s),(false,x)),((c,u),(false,y))),rfl,⟨f1,f2⟩,?_⟩;rw [show xD.val (((b,s),(false,x)),((c,u),(false,y)))=.int .i64 w from e2]
   conv=>whnf
   exact fin _ rfl
 ·rw [show bG.val (b,s,t)=.tuple ⟨[.int .i64 0,.int .i64 0,.bool false]⟩ from by simp only [bG,if_neg h1,decide_eq_false h1]]
  conv=>whnf
  obtain ⟨k1,k2,k3,hk⟩:∃ (k1 k2:Int) (k3:Bool),bG.val (c,u,v)=.tuple ⟨[.int .i64 k1,.int .i64 k2,.bool k3]⟩:=⟨_,_,_,rfl⟩;refine ⟨(c,u,v),rfl,trivial,?_⟩;rw [hk];conv=>whnf
  refine .inl ⟨5,[[],[],[1],[],[1,2,3],[0,1,2,3,4],[0,1,2,3,4,5]],by kernel_rfl,?_⟩
  conv=>whnf
  refine ⟨(b,s,t),rfl,by have:=hp.1.2; show t.size≤_; exact Nat.le_trans this (by decide),?_⟩
  rw [ex];conv=>whnf
  refine ⟨(c,u,v),rfl,by have:=hp.2.2; show v.size≤_; exact Nat.le_trans this (by decide),?_⟩
  rw [ey];conv=>whnf
  refine ⟨(((b,s),(false,x)),((c,u),(false,y))),rfl,⟨f1,f2⟩,?_⟩;rw [show xD.val (((b,s),(false,x)),((c,u),(false,y)))=.int .i64 w from e2]
  conv=>whnf
  exact fin _ rfl
open Go Go.Ae
def Eml:Env:=tH [(36,.p lK),(88,.p lT),(86,.p oS),(87,.p lS),(83,.p eZ),(130,.p ib)]
theorem zL:EnvOk Tryz.prog Eml:=vw ⟨Cr,Hp,MM,Ho,sH,abT,trivial⟩ trivial
theorem xc:bk Tryz.prog 38 gZ:=by
 refine bn zL aQ Tryz.func38 (enters_of Tryz.func38 (by kernel_rfl) rfl) (fun _=>rfl) (fun _=>rfl) ?_
 intro ⟨⟨b,s,t⟩,⟨c,u,v⟩⟩ hp;have hp:RV.ok (b,s,t)∧RV.ok (c,u,v):=hp;obtain ⟨w,hw⟩:∃ w,w=RV.q (b,s,t) - RV.q (c,u,v):=⟨_,rfl⟩;conv=>whnf
 refine ⟨((b,s,t),(!c,u,v)),rfl,hp,?_⟩;rw [show lK.val ((b,s,t),(!c,u,v))=(RV.of w).v from by
  rw [hw];show bM (RV.q (b,s,t)+RV.q (!c,u,v))=bM _
  rw [OM,← Rat.sub_eq_add_neg]]
 conv=>whnf
 show (RV.of w).v=bM _
 rw [hw]
 rfl
theorem Gn:bk Tryz.prog 34 iO:=by
 refine bn zL aQ Tryz.func34 (enters_of Tryz.func34 (by kernel_rfl) rfl) (fun _=>rfl) (fun _=>rfl) ?_
 intro ⟨b,s,t⟩ hp;have hp:RV.ok (b,s,t):=hp;obtain ⟨x,hx⟩:∃ x,x=RV.den (b,s,t):=⟨_,rfl⟩;obtain ⟨w,hw⟩:∃ w,w=ba (RV.q (b,s,t)) 0:=⟨_,rfl⟩;conv=>whnf
 refine ⟨(b,s,t),rfl,by have:=hp.2; show t.size≤_; exact Nat.le_trans this (by decide),?_⟩
 rw [show lT.val (b,s,t)=.agg ⟨[.bool b,.string s,.bool false,.string x]⟩ from by rw [hx]; rfl]
 conv=>whnf
 refine ⟨((b,s),(false,⟨#[]⟩)),rfl,⟨by have:=hp.1; show s.size≤_; exact Nat.le_trans this (by decide),Nat.zero_le _⟩,?_⟩
 rw [show lS.val ((b,s),(false,⟨#[]⟩))=.int .i64 w from by rw [hw,aah]; rfl]
 conv=>whnf
 show Value.int .i64 w=_
 rw [hw]
 rfl
theorem zj:bk Tryz.prog 33 mM:=by
 refine bn zL aQ Tryz.func33 (enters_of Tryz.func33 (by kernel_rfl) rfl) (fun _=>rfl) (fun _=>rfl) ?_
 intro (n:Int) hp;have hp:-9223372036854775808≤n∧n < 9223372036854775808:=hp;obtain ⟨w,hw⟩:∃ w:Rat,w=(n:Rat):=⟨_,rfl⟩;obtain ⟨B,m,hE⟩:=EI.mk' n;obtain ⟨k,hF⟩:=EI.jd (show 0≤(1:Int) by decide)
 have hm:=hE.size;have hk:=hF.size;have h8:=uA hp;have h1:=uA r1;conv=>whnf
 refine ⟨n,rfl,hp,?_⟩;rw [show eZ.val n=.agg ⟨[.bool B,.string m]⟩ from hE.enc]
 conv=>whnf
 refine ⟨(1:Int),rfl,r1,?_⟩;rw [show eZ.val (1:Int)=.agg ⟨[.bool false,.string k]⟩ from hF.enc]
 conv=>whnf
 refine ⟨((B,m),(false,k)),rfl,⟨by show m.size≤_; omega,by show k.size≤_; omega,by show 0 < IV.z (false,k); rw [hF.val]; decide⟩,?_⟩
 rw [show oS.val ((B,m),(false,k))=(RV.of w).v from by
  rw [hw,iE n];show bM (mkRat (IV.z (B,m)) (IV.z (false,k)).natAbs)=_
  rw [hE.val,hF.val]; rfl]
 conv=>whnf
 show (RV.of w).v=bM _
 rw [hw]
 rfl
theorem Vj:bk Tryz.prog 129 m5:=by
 refine bn zL aQ Tryz.func129 (enters_of Tryz.func129 (by kernel_rfl) rfl) (fun _=>rfl) (fun _=>rfl) ?_
 intro ⟨b,s,t⟩ hp;have hp:RV.ok (b,s,t):=hp;obtain ⟨⟨c,u,v⟩,hw⟩:∃ w,w=RV.of (RV.q (b,s,t)):=⟨_,rfl⟩;obtain ⟨x,hx⟩:∃ x,x=RV.den (b,s,t):=⟨_,rfl⟩;have f1:=RV.mw hp;have e1:=RV.aed (b,s,t);rw [show RV.den (b,s,t)=x from hx.symm] at f1 e1
 have heq:=ER (b,s,t) (c,u,v);conv=>whnf
 refine .inl ⟨4,[[],[],[1],[1,2],[0,1,2,3]],by kernel_rfl,?_⟩
 conv=>whnf
 refine ⟨(b,s,t),rfl,by have:=hp.2; show t.size≤_; exact Nat.le_trans this (by decide),?_⟩
 rw [show lT.val (b,s,t)=.agg ⟨[.bool b,.string s,.bool false,.string x]⟩ from by rw [hx]; rfl]
 conv=>whnf
 refine ⟨((b,s),(false,x)),rfl,⟨Nat.le_trans f1.1.1 (by decide),Nat.le_trans f1.1.2 (by decide),f1.2⟩,?_⟩
 rw [show oS.val ((b,s),(false,x))=RV.v (c,u,v) from by
  rw [hw,e1]; rfl]
 conv=>whnf
 by_cases h:(b,s,t)=(c,u,v)
 ·rw [decide_eq_true h] at heq;refine aN (fun J=>?_) (fun J=>?_)
  ·exfalso;rw [show eU [Value.bool b,.string s,.string t] [.bool c,.string u,.string v]=true from heq] at J
   cases J
  ·conv=>whnf
   show _=Value.int .i64 (if (b,s,t)=RV.of (RV.q (b,s,t)) then 0 else 1)
   rw [← hw,if_pos h]
 ·rw [decide_eq_false h] at heq;refine aN (fun J=>?_) (fun J=>?_)
  ·conv=>whnf
   show _=Value.int .i64 (if (b,s,t)=RV.of (RV.q (b,s,t)) then 0 else 1)
   rw [← hw,if_neg h]
  ·exfalso;rw [show eU [Value.bool b,.string s,.string t] [.bool c,.string u,.string v]=false from heq] at J
   cases J
theorem Oo:bk Tryz.prog 82 u0:=by
 refine bn zL aQ Tryz.func82 (enters_of Tryz.func82 (by kernel_rfl) rfl) (fun _=>rfl) (fun _=>rfl) ?_
 intro ⟨⟨b,s⟩,⟨c,t⟩⟩ hp;have hp:s.size≤549755813888∧t.size≤549755813888:=hp;obtain ⟨x,hx⟩:∃ x,x=IV.z (b,s):=⟨_,rfl⟩;obtain ⟨y,hy⟩:∃ y,y=IV.z (c,t):=⟨_,rfl⟩;obtain ⟨w,hw⟩:∃ w,w=Rat.divInt x y:=⟨_,rfl⟩;have ec:lS.val ((c,t),(false,⟨#[]⟩))=.int .i64 (dO y 0):=by rw [hy]; rfl
 have od:y=0→∀ v,v=bM 0→Value.tuple ⟨[v,.int .i64 10]⟩=u0.val ((b,s),(c,t)):=fun h v hv=>by
  show _=lU (IV.z (b,s)) (IV.z (c,t))
  rw [← hy,hv]; unfold lU; rw [if_pos h,h,Rat.divInt_zero]
 have fin:y≠0→∀ v,v=bM w→Value.tuple ⟨[v,.int .i64 0]⟩=u0.val ((b,s),(c,t)):=fun h v hv=>by
  show _=lU (IV.z (b,s)) (IV.z (c,t))
  rw [← hx,← hy,hv]; unfold lU; rw [if_neg h,hw]
 conv=>whnf
 refine ⟨((c,t),(false,⟨#[]⟩)),rfl,⟨hp.2,Nat.zero_le _⟩,?_⟩;rw [ec];rcases Int.lt_trichotomy y 0 with h | h | h
 ·rw [ux h];obtain ⟨B,m,hE⟩:=EI.mk' (-x);obtain ⟨k,hF⟩:=EI.jd (show 0≤-y by omega)
  have hm:m.size≤549755813888:=by rw [hE.size,Int.natAbs_neg,hx]; exact dH hp.1
  have hk:k.size≤549755813888:=by rw [hF.size,Int.natAbs_neg,hy]; exact dH hp.2
  conv=>whnf
  refine .inl ⟨3,[[],[0],[],[0,1,2],[0,1,2,3],[0,1,2,3,4]],by kernel_rfl,?_⟩
  conv=>whnf
  refine ⟨(b,s),rfl,hp.1,?_⟩;rw [show ib.val (b,s)=.agg ⟨[.bool B,.string m]⟩ from by show aH (-IV.z (b,s))=_; rw [← hx,hE.enc]]
  conv=>whnf
  refine ⟨(c,t),rfl,hp.2,?_⟩;rw [show ib.val (c,t)=.agg ⟨[.bool false,.string k]⟩ from by show aH (-IV.z (c,t))=_; rw [← hy,hF.enc]]
  conv=>whnf
  refine ⟨((B,m),(false,k)),rfl,⟨hm,hk,by show 0 < IV.z (false,k); rw [hF.val]; omega⟩,?_⟩
  rw [show oS.val ((B,m),(false,k))=(RV.of w).v from by
   rw [hw,SR h];show bM (mkRat (IV.z (B,m)) (IV.z (false,k)).natAbs)=_
   rw [hE.val,hF.val]; rfl]
  conv=>whnf
  exact fin (by omega) _ rfl
 ·rw [h];conv=>whnf
  exact od h _ acH.symm
 ·rw [uy h];conv=>whnf
  refine ⟨((b,s),(c,t)),rfl,⟨hp.1,hp.2,by show 0 < IV.z (c,t); omega⟩,?_⟩
  rw [show oS.val ((b,s),(c,t))=(RV.of w).v from by
   rw [hw,LA h,hx,hy]; rfl]
  conv=>whnf
  exact fin (by omega) _ rfl
def Emm:Env:=En [(82,.p u0),(83,.p eZ)]
theorem ac7:EnvOk Tryz.prog Emm:=bK ⟨Oo,sH,trivial⟩ trivial
theorem Vk:bk Tryz.prog 30 GK:=by
 refine bn ac7 aQ Tryz.func30 (enters_of Tryz.func30 (by kernel_rfl) rfl) (fun _=>rfl) (fun _=>rfl) ?_
 intro ⟨n,d⟩ hp;have hp:(-9223372036854775808≤n∧n < 9223372036854775808)∧-9223372036854775808≤d∧d < 9223372036854775808:=hp;obtain ⟨B,m,hE⟩:=EI.mk' n;obtain ⟨D,k,hF⟩:=EI.mk' d;have hm:=hE.size;have hk:=hF.size;have h8:=uA hp.1;have h1:=uA hp.2;obtain ⟨q,e,Rw⟩:∃ (q:Rat) (e:Int),lU n d=.tuple ⟨[(RV.of q).v,.int .i64 e]⟩:=by
  exact ⟨_,_,rfl⟩
 conv=>whnf
 refine ⟨n,rfl,hp.1,?_⟩;rw [show eZ.val n=.agg ⟨[.bool B,.string m]⟩ from hE.enc]
 conv=>whnf
 refine ⟨d,rfl,hp.2,?_⟩;rw [show eZ.val d=.agg ⟨[.bool D,.string k]⟩ from hF.enc]
 conv=>whnf
 refine ⟨((B,m),(D,k)),rfl,⟨by show m.size≤_; omega,by show k.size≤_; omega⟩,?_⟩
 rw [show u0.val ((B,m),(D,k))=.tuple ⟨[(RV.of q).v,.int .i64 e]⟩ from by
  show lU (IV.z (B,m)) (IV.z (D,k))=_
  rw [hE.val,hF.val,Rw]]
 conv=>whnf
 show Value.tuple ⟨[(RV.of q).v,.int .i64 e]⟩=lU n d
 rw [Rw]
open Go Go.Ae
def Eqa:Env:=En [(173,.p jk),(155,.p eZ),(175,.p vm),(176,.p iR),(174,.p ib)]
theorem PG:EnvOk Tryz.prog Eqa:=bK ⟨GW,zi,Zx,Zy,GV,trivial⟩ trivial
theorem NA:bk Tryz.prog 157 nS:=by
 refine bn PG aQ Tryz.func157 (enters_of Tryz.func157 (by kernel_rfl) rfl) (fun _=>rfl) (fun _=>rfl) ?_
 intro ⟨b,s,t⟩ hp;have hp:s.size≤8589934592∧t.size≤8589934592:=hp;obtain ⟨B,m,hE⟩:=EI.mk' (RV.n (b,s,t));obtain ⟨k,hF⟩:=EI.jd (show 0≤((ab t:Nat):Int) by omega)
 obtain ⟨j,hG⟩:=EI.jd (show 0≤(1:Int) by decide)
 have fin:∀ (v:Value),v=aH ((RV.d (b,s,t):Nat):Int)→Value.tuple ⟨[.agg ⟨[.bool B,.string m]⟩,v]⟩=nS.val (b,s,t):=fun v h=>by
  rw [h,← hE.enc]; rfl
 conv=>whnf
 refine ⟨((b,s),(false,⟨#[]⟩)),rfl,⟨by show s.size≤_; omega,Nat.zero_le _⟩,?_⟩
 rw [show jk.val ((b,s),(false,⟨#[]⟩))=.agg ⟨[.bool B,.string m]⟩ from by
  show aH (IV.z (b,s)+0)=_
  rw [Int.add_zero]; exact hE.enc]
 conv=>whnf
 refine ⟨((false,t),(false,⟨#[]⟩)),rfl,⟨by show t.size≤_; omega,Nat.zero_le _⟩,?_⟩
 rw [show jk.val ((false,t),(false,⟨#[]⟩))=.agg ⟨[.bool false,.string k]⟩ from by
  show aH (((ab t:Nat):Int)+0)=_
  rw [Int.add_zero]; exact hF.enc]
 conv=>whnf
 rw [hF.nil];by_cases h:ab t=0
 ·rw [decide_eq_true (by omega)]
  have fin:=fin (.agg ⟨[.bool false,.string j]⟩) (by rw [← hG.enc]; unfold RV.d; rw [if_pos h]; rfl)
  conv=>whnf
  refine ⟨(1:Int),rfl,r1,?_⟩;rw [show eZ.val (1:Int)=.agg ⟨[.bool false,.string j]⟩ from hG.enc]
  conv=>whnf
  refine .inr (.inl ⟨(.br 0 (.br 1 (.br 2 (.br 3 .leaf .leaf) .leaf) (.br 2 (.br 1 (.br 3 .leaf .leaf) .leaf) .leaf)) (.br 1 (.br 0 (.br 2 (.br 3 .leaf .leaf) .leaf) .leaf) .leaf)),by kernel_rfl,?_⟩)
  repeat' ((conv=>whnf); first | exact True.intro | refine And.intro ?_ ?_)
  all_goals conv=>whnf
  all_goals exact fin
 ·rw [decide_eq_false (by omega)]
  have fin:=fin (.agg ⟨[.bool false,.string k]⟩) (by rw [← hF.enc]; unfold RV.d; rw [if_neg h])
  conv=>whnf
  refine .inr (.inl ⟨(.br 0 (.br 1 (.br 2 (.br 3 .leaf .leaf) .leaf) (.br 2 (.br 1 (.br 3 .leaf .leaf) .leaf) .leaf)) (.br 1 (.br 0 (.br 2 (.br 3 .leaf .leaf) .leaf) .leaf) .leaf)),by kernel_rfl,?_⟩)
  repeat' ((conv=>whnf); first | exact True.intro | refine And.intro ?_ ?_)
  all_goals conv=>whnf
  all_goals exact fin
theorem Vl:bk Tryz.prog 154 qe:=by
 refine bn PG aQ Tryz.func154 (enters_of Tryz.func154 (by kernel_rfl) rfl) (fun _=>rfl) (fun _=>rfl) ?_
 intro ⟨⟨b,s⟩,⟨c,t⟩⟩ hp;have hp:s.size≤549755813888∧t.size≤549755813888∧0 < IV.z (c,t):=hp;obtain ⟨x,hx⟩:∃ x,x=IV.z (b,s):=⟨_,rfl⟩;obtain ⟨d,hd⟩:∃ d,d=(IV.z (c,t)).natAbs:=⟨_,rfl⟩;have bU:IV.z (c,t)=((d:Nat):Int):=by omega
 have fJ:d≠0:=by omega
 obtain ⟨q,hq⟩:∃ q,q=mkRat x d:=⟨_,rfl⟩;have fin:∀ v:Value,v=bM q→v=qe.val ((b,s),(c,t)):=fun v h=>by rw [h,hq,hx,hd]; rfl
 obtain ⟨B,m,hE⟩:=EI.mk' x;obtain ⟨k,hF⟩:=EI.jd (show 0≤((d:Nat):Int) by omega)
 have eT:aT d≤549755813888:=by rw [hd]; exact IV.aT (i:=(c,t)) hp.2.1
 have rm:m.size≤549755813888:=by rw [hE.size,hx]; exact dH hp.1
 have jC:k.size≤549755813888:=by rw [hF.size,Int.natAbs_natCast]; exact eT
 conv=>whnf
 refine .inl ⟨5,[[],[],[0,1],[],[],[0,1,2,3,4],[0,1,2,3,4,5],[0,1,2,3,4,5,6]],by kernel_rfl,?_⟩
 conv=>whnf
 refine ⟨((b,s),(false,⟨#[]⟩)),rfl,⟨hp.1,Nat.zero_le _⟩,?_⟩;rw [show jk.val ((b,s),(false,⟨#[]⟩))=.agg ⟨[.bool B,.string m]⟩ from by
  show aH (IV.z (b,s)+0)=_
  rw [Int.add_zero,← hx]; exact hE.enc]
 conv=>whnf
 refine ⟨((c,t),(false,⟨#[]⟩)),rfl,⟨hp.2.1,Nat.zero_le _⟩,?_⟩;rw [show jk.val ((c,t),(false,⟨#[]⟩))=.agg ⟨[.bool false,.string k]⟩ from by
  show aH (IV.z (c,t)+0)=_
  rw [Int.add_zero,bU]; exact hF.enc]
 conv=>whnf
 rw [hE.nil];by_cases h1:x=0
 ·rw [decide_eq_true h1];conv=>whnf
  exact fin _ (by rw [hq,h1]; exact (yz d).symm)
 ·rw [decide_eq_false h1];obtain ⟨g,hg⟩:∃ g,g=Int.gcd x d:=⟨_,rfl⟩;obtain ⟨gs,rJ⟩:=EI.jd (show 0≤((g:Nat):Int) by omega)
  obtain ⟨qb,qs,hn⟩:=EI.mk' q.num;obtain ⟨es,he⟩:=EI.jd (show 0≤((q.den:Nat):Int) by omega)
  have nJ:((g:Nat):Int)≠0:=by
   have:0 < g:=by rw [hg]; exact Int.gcd_pos_of_ne_zero_left _ h1
   omega
  have IL:g≤d:=by
   have h3:=(A6 fJ hg).2.1;rcases Nat.lt_or_ge d g with h | h
   ·rw [Nat.div_eq_of_lt h] at h3; omega
   ·exact h
  have AP:gs.size≤549755813888:=by
   rw [rJ.size,Int.natAbs_natCast];exact Nat.le_trans (iZ IL) eT
  have JN:x.fdiv ((g:Nat):Int)=q.num:=by rw [hg,hq]; exact Hd x fJ
  have rG:((d:Nat):Int).fdiv ((g:Nat):Int)=((q.den:Nat):Int):=by rw [hg,hq]; exact He x fJ
  conv=>whnf
  refine ⟨((B,m),(false,k)),rfl,⟨rm,jC⟩,?_⟩;rw [show vm.val ((B,m),(false,k))=.agg ⟨[.bool false,.string gs]⟩ from by
   show aH ((Int.gcd (IV.z (B,m)) (IV.z (false,k)):Nat):Int)=_
   rw [hE.val,hF.val,← hg,rJ.enc]]
  conv=>whnf
  obtain ⟨fb,fs,hf⟩:=EI.mk' (x.fmod ((g:Nat):Int));refine ⟨((B,m),(false,gs)),rfl,⟨rm,AP⟩,?_⟩;rw [show iR.val ((B,m),(false,gs))=.tuple ⟨[.agg ⟨[.bool qb,.string qs]⟩,.agg ⟨[.bool fb,.string fs]⟩,.int .i64 0]⟩ from by
   simp only [iR,rJ.val,hE.val,if_neg nJ];rw [JN,hn.enc,hf.enc]]
  conv=>whnf
  obtain ⟨kb,ks,hk⟩:=EI.mk' (((d:Nat):Int).fmod ((g:Nat):Int));refine ⟨((false,k),(false,gs)),rfl,⟨jC,AP⟩,?_⟩;rw [show iR.val ((false,k),(false,gs))=.tuple ⟨[.agg ⟨[.bool false,.string es]⟩,.agg ⟨[.bool kb,.string ks]⟩,.int .i64 0]⟩ from by
   simp only [iR,rJ.val,hF.val,if_neg nJ];rw [rG,he.enc,hk.enc]]
  conv=>whnf
  have enc:∀ y,fO q.den=y→Value.agg ⟨[.bool qb,.string qs,.string y]⟩=bM q:=fun y hy=>by
   unfold bM;rw [← hn.nH,← hn.sign,hy]
  have ees:es=nb q.den:=he.nH;have qP:(es.toList == (⟨#[1]⟩:ByteArray).toList)=decide (q.den=1):=by
   rw [qz,ees,show (⟨#[1]⟩:ByteArray)=nb 1 from aef.symm]
   by_cases h:q.den=1
   ·rw [h]; simp
   ·rw [decide_eq_false h,decide_eq_false (fun e=>h (OG e))]
  rw [qP];by_cases J:q.den=1
  ·rw [decide_eq_true J];conv=>whnf
   exact fin _ (enc _ (by unfold fO; rw [if_pos J]))
  ·rw [decide_eq_false J];conv=>whnf
   exact fin _ (enc _ (by unfold fO; rw [if_neg J,he.nH,Int.natAbs_natCast]))
open Go Go.Ae
def Eqb:Env:=tH [(158,.p bG),(172,.p nR),(157,.p nS),(154,.p qe),(155,.p eZ),(173,.p jk),(160,.p fm),(159,.p lS)]
theorem zM:EnvOk Tryz.prog Eqb:=vw ⟨WT,WV,NA,Vl,zi,GW,Zw,Zu,trivial⟩ trivial
theorem ZI:bk Tryz.prog 120 mM:=by
 refine bn zM aQ Tryz.func120 (enters_of Tryz.func120 (by kernel_rfl) rfl) (fun _=>rfl) (fun _=>rfl) ?_
 intro (n:Int) hp;have hp:-9223372036854775808≤n∧n < 9223372036854775808:=hp;obtain ⟨w,hw⟩:∃ w:Rat,w=(n:Rat):=⟨_,rfl⟩;obtain ⟨B,m,hE⟩:=EI.mk' n;obtain ⟨k,hF⟩:=EI.jd (show 0≤(1:Int) by decide)
 have hm:=hE.size;have hk:=hF.size;have h8:=uA hp;have h1:=uA r1;conv=>whnf
 refine ⟨n,rfl,hp,?_⟩;rw [show eZ.val n=.agg ⟨[.bool B,.string m]⟩ from hE.enc]
 conv=>whnf
 refine ⟨(1:Int),rfl,r1,?_⟩;rw [show eZ.val (1:Int)=.agg ⟨[.bool false,.string k]⟩ from hF.enc]
 conv=>whnf
 refine ⟨((B,m),(false,k)),rfl,⟨by show m.size≤_; omega,by show k.size≤_; omega,by show 0 < IV.z (false,k); rw [hF.val]; decide⟩,?_⟩
 rw [show qe.val ((B,m),(false,k))=(RV.of w).v from by
  rw [hw,iE n];show bM (mkRat (IV.z (B,m)) (IV.z (false,k)).natAbs)=_
  rw [hE.val,hF.val]; rfl]
 conv=>whnf
 show (RV.of w).v=bM _
 rw [hw]
 rfl
theorem MN:bk Tryz.prog 153 zf:=by
 refine bn zM aQ Tryz.func153 (enters_of Tryz.func153 (by kernel_rfl) rfl) (fun _=>rfl) (fun _=>rfl) ?_
 intro ⟨b,s,t⟩ hp;have hp:s.size≤8589934592∧t.size≤8589934592:=hp;obtain ⟨w,hw⟩:∃ w,w=RV.q (b,s,t):=⟨_,rfl⟩;have fin:∀ x:Value,x=(RV.of w).v→x=zf.val (b,s,t):=fun x h=>by rw [h,hw]; rfl
 have hn:=RV.jV (i:=(b,s,t));obtain ⟨n,bR⟩:∃ n,n=RV.n (b,s,t):=⟨_,rfl⟩;obtain ⟨d,bU⟩:∃ n,n=RV.d (b,s,t):=⟨_,rfl⟩;have fJ:d≠0:=by rw [bU]; exact RV.jS _
 have Rx:w=mkRat n d:=by rw [hw,bR,bU]; rfl
 conv=>whnf
 refine ⟨(b,s,t),rfl,trivial,?_⟩;by_cases h1:RV.gh (b,s,t)
 ·rw [show bG.val (b,s,t)=.tuple ⟨[.int .i64 n,.int .i64 d,.bool true]⟩ from by simp only [bG,if_pos h1,decide_eq_true h1,bR,bU]]
  have hn:=hn h1;rw [← bR,← bU] at hn;have hn:(-16777216 < n∧n < 16777216)∧0 < d∧d < 16777216:=hn;conv=>whnf
  refine ⟨(n,d),rfl,⟨by show n.natAbs < _; omega,by show d≠0; omega,by show d < _; omega⟩,?_⟩
  rw [show nR.val (n,d)=(RV.of w).v from by rw [Rx]; rfl]
  conv=>whnf
  exact fin _ rfl
 ·rw [show bG.val (b,s,t)=.tuple ⟨[.int .i64 0,.int .i64 0,.bool false]⟩ from by simp only [bG,if_neg h1,decide_eq_false h1]]
  obtain ⟨B,m,hE⟩:=EI.mk' n;obtain ⟨k,hF⟩:=EI.jd (show 0≤((d:Nat):Int) by omega)
  have rm:m.size≤8589934592:=by rw [hE.size,bR]; exact dH (b:=b) hp.1
  have jC:k.size≤8589934593:=by
   rw [hF.size,bU,← RV.jU];exact dH (Nat.le_trans (RV.rU _) (Nat.succ_le_succ hp.2))
  conv=>whnf
  refine ⟨(b,s,t),rfl,hp,?_⟩;rw [show nS.val (b,s,t)=.tuple ⟨[.agg ⟨[.bool B,.string m]⟩,.agg ⟨[.bool false,.string k]⟩]⟩ from by
   rw [← hE.enc,← hF.enc,bR,bU]; rfl]
  conv=>whnf
  refine ⟨((B,m),(false,k)),rfl,⟨by show m.size≤_; omega,by show k.size≤_; omega,by show 0 < IV.z (false,k); rw [hF.val]; omega⟩,?_⟩
  rw [show qe.val ((B,m),(false,k))=(RV.of w).v from by
   show bM (mkRat (IV.z (B,m)) (IV.z (false,k)).natAbs)=_
   rw [hE.val,hF.val,Rx,Int.natAbs_natCast]; rfl]
  conv=>whnf
  exact fin _ rfl
def Eqc:Env:=tH [(153,.p zf)]
theorem ac8:EnvOk Tryz.prog Eqc:=vw ⟨MN,trivial⟩ trivial
theorem Uc:bk Tryz.prog 119 m5:=by
 refine bn ac8 aQ Tryz.func119 (enters_of Tryz.func119 (by kernel_rfl) rfl) (fun _=>rfl) (fun _=>rfl) ?_
 intro ⟨b,s,t⟩ hp;have hp:RV.ok (b,s,t):=hp;obtain ⟨⟨c,u,v⟩,hw⟩:∃ w,w=RV.of (RV.q (b,s,t)):=⟨_,rfl⟩;have heq:=ER (c,u,v) (b,s,t);conv=>whnf
 refine .inl ⟨3,[[],[0],[],[0,1,2]],by kernel_rfl,?_⟩
 conv=>whnf
 refine ⟨(b,s,t),rfl,hp,?_⟩;rw [show zf.val (b,s,t)=RV.v (c,u,v) from by rw [hw]; rfl]
 conv=>whnf
 by_cases h:(c,u,v)=(b,s,t)
 ·rw [decide_eq_true h] at heq;refine aN (fun J=>?_) (fun J=>?_)
  ·exfalso;rw [show eU [Value.bool c,.string u,.string v] [.bool b,.string s,.string t]=true from heq] at J
   cases J
  ·conv=>whnf
   show _=Value.int .i64 (if (b,s,t)=RV.of (RV.q (b,s,t)) then 0 else 1)
   rw [← hw,if_pos h.symm]
 ·rw [decide_eq_false h] at heq;refine aN (fun J=>?_) (fun J=>?_)
  ·conv=>whnf
   show _=Value.int .i64 (if (b,s,t)=RV.of (RV.q (b,s,t)) then 0 else 1)
   rw [← hw,if_neg (fun e=>h e.symm)]
  ·exfalso;rw [show eU [Value.bool c,.string u,.string v] [.bool b,.string s,.string t]=false from heq] at J
   cases J
open Go Go.Ae
theorem NB:bk Tryz.prog 169 lK:=by
 refine bn zM aQ Tryz.func169 (enters_of Tryz.func169 (by kernel_rfl) rfl) (fun _=>rfl) (fun _=>rfl) ?_
 intro ⟨⟨b,s,t⟩,⟨c,u,v⟩⟩ hp;have hp:(s.size≤8589934592∧t.size≤8589934592)∧u.size≤8589934592∧v.size≤8589934592:=hp;have hn:=RV.jV (i:=(b,s,t));have hm:=RV.jV (i:=(c,u,v));obtain ⟨n,bR⟩:∃ n,n=RV.n (b,s,t):=⟨_,rfl⟩;obtain ⟨m,eI⟩:∃ n,n=RV.n (c,u,v):=⟨_,rfl⟩;obtain ⟨d,bU⟩:∃ n,n=RV.d (b,s,t):=⟨_,rfl⟩;obtain ⟨e,bW⟩:∃ n,n=RV.d (c,u,v):=⟨_,rfl⟩;have fJ:d≠0:=by rw [bU]; exact RV.jS _
 have Ry:e≠0:=by rw [bW]; exact RV.jS _
 rw [← bR,← bU] at hn;rw [← eI,← bW] at hm;obtain ⟨B,p,hP⟩:=EI.mk' n;obtain ⟨q,hQ⟩:=EI.jd (show 0≤((d:Nat):Int) by omega)
 obtain ⟨D,p',mi⟩:=EI.mk' m;obtain ⟨q',kM⟩:=EI.jd (show 0≤((e:Nat):Int) by omega)
 have sn:aT n.natAbs≤8589934593:=by rw [bR]; exact dH (b:=b) (Nat.le_succ_of_le hp.1.1)
 have sm:aT m.natAbs≤8589934593:=by rw [eI]; exact dH (b:=c) (Nat.le_succ_of_le hp.2.1)
 have sd:aT (Int.natAbs ((d:Nat):Int))≤8589934593:=by
  rw [bU,← RV.jU];exact dH (Nat.le_trans (RV.rU _) (Nat.succ_le_succ hp.1.2))
 have se:aT (Int.natAbs ((e:Nat):Int))≤8589934593:=by
  rw [bW,← RV.jU];exact dH (Nat.le_trans (RV.rU _) (Nat.succ_le_succ hp.2.2))
 have zp:p.size≤8589934593:=by rw [hP.size]; exact sn
 have zq:q.size≤8589934593:=by rw [hQ.size]; exact sd
 have Rz:p'.size≤8589934593:=by rw [mi.size]; exact sm
 have RA:q'.size≤8589934593:=by rw [kM.size]; exact se
 have pa:nS.val (b,s,t)=.tuple ⟨[.agg ⟨[.bool B,.string p]⟩,.agg ⟨[.bool false,.string q]⟩]⟩:=by
  rw [← hP.enc,← hQ.enc,bR,bU]; rfl
 have pb:nS.val (c,u,v)=.tuple ⟨[.agg ⟨[.bool D,.string p']⟩,.agg ⟨[.bool false,.string q']⟩]⟩:=by
  rw [← mi.enc,← kM.enc,eI,bW]; rfl
 obtain ⟨w,hw⟩:∃ w,w=mkRat (n*e+m*d) (d*e):=⟨_,rfl⟩;have fin:∀ x:Value,x=(RV.of w).v→x=lK.val ((b,s,t),(c,u,v)):=fun x h=>by
  rw [h,hw,bR,eI,bU,bW];show bM _=bM (RV.q (b,s,t)+RV.q (c,u,v))
  rw [HK]
 conv=>whnf
 refine ⟨(b,s,t),rfl,trivial,?_⟩;by_cases h1:RV.gh (b,s,t)
 ·rw [show bG.val (b,s,t)=.tuple ⟨[.int .i64 n,.int .i64 d,.bool true]⟩ from by simp only [bG,if_pos h1,decide_eq_true h1,bR,bU]]
  conv=>whnf
  refine ⟨(c,u,v),rfl,trivial,?_⟩;by_cases J:RV.gh (c,u,v)
  ·rw [show bG.val (c,u,v)=.tuple ⟨[.int .i64 m,.int .i64 e,.bool true]⟩ from by simp only [bG,if_pos J,decide_eq_true J,eI,bW]]
   have bf:I4.ok ((n,d),(m,e)):=⟨hn h1,hm J⟩;obtain ⟨b1,b2,b3,b4⟩:=I4.bounds bf;simp only at b1 b2 b3 b4;conv=>whnf
   obtain ⟨x,hx⟩:∃ x,x=n*(e:Int):=⟨_,rfl⟩;obtain ⟨y,hy⟩:∃ y,y=m*(d:Int):=⟨_,rfl⟩;obtain ⟨k,hk⟩:∃ k,k=d*e:=⟨_,rfl⟩;rw [← hx] at b1;rw [← hy] at b2;rw [← hk] at b4;have e1:IntKind.i64.wrap (IntKind.i64.wrap (n*(e:Int))+IntKind.i64.wrap (m*(d:Int)))=x+y:=by
    rw [← hx,← hy,ax (x:=x) (by omega) (by omega),ax (x:=y) (by omega) (by omega),ax (by omega) (by omega)]
   have e2:IntKind.i64.wrap ((d:Int)*(e:Int))=(k:Int):=by
    rw [← Int.natCast_mul,← hk,ax (by omega) (by omega)]
   rw [e1,e2];refine ⟨(x+y,k),rfl,⟨by show (x+y).natAbs < _; omega,by show k≠0; omega,by show k < _; omega⟩,?_⟩
   rw [show nR.val (x+y,k)=(RV.of w).v from by rw [hw,hx,hy,hk]; rfl]
   conv=>whnf
   exact fin _ rfl
  ·rw [show bG.val (c,u,v)=.tuple ⟨[.int .i64 0,.int .i64 0,.bool false]⟩ from by simp only [bG,if_neg J,decide_eq_false J]]
   conv=>whnf
   refine ⟨(b,s,t),rfl,hp.1,?_⟩;rw [pa];conv=>whnf
   refine ⟨(c,u,v),rfl,hp.2,?_⟩;rw [pb];obtain ⟨B1,m1,g1⟩:=EI.mk' (n*(e:Int));obtain ⟨B2,m2,g2⟩:=EI.mk' (m*(d:Int));obtain ⟨B3,m3,g3⟩:=EI.mk' (n*(e:Int)+m*(d:Int));obtain ⟨B4,m4,g4⟩:=EI.mk' ((d:Int)*(e:Int));have z1:=g1.gN sn se;have z2:=g2.gN sm sd;have z4:=g4.gN sd se;have z3:m3.size≤17179869187:=g3.Ga (by rw [← g1.size]; omega) (by rw [← g2.size]; omega)
   have lP:(0:Int) < (d:Int)*(e:Int):=Int.mul_pos (by omega) (by omega)
   conv=>whnf
   refine .inl ⟨9,[[],[],[0,1],[],[],[0,1,2,3,4],[0,1,2,3,4,5],[],[],[0,1,2,3,4,5,6,7,8],[0,1,2,3,4,5,6,7,8,9],[0,1,2,3,4,5,6,7,8,9,10]],by kernel_rfl,?_⟩
   conv=>whnf
   refine ⟨((B,p),(false,q')),rfl,⟨by show p.size≤_; omega,by show q'.size≤_; omega⟩,?_⟩
   rw [show fm.val ((B,p),(false,q'))=.agg ⟨[.bool B1,.string m1]⟩ from by show aH (IV.z (B,p)*IV.z (false,q'))=_; rw [hP.val,kM.val,g1.enc]]
   conv=>whnf
   refine ⟨((D,p'),(false,q)),rfl,⟨by show p'.size≤_; omega,by show q.size≤_; omega⟩,?_⟩
   rw [show fm.val ((D,p'),(false,q))=.agg ⟨[.bool B2,.string m2]⟩ from by show aH (IV.z (D,p')*IV.z (false,q))=_; rw [mi.val,hQ.val,g2.enc]]
   conv=>whnf
   refine ⟨((B1,m1),(B2,m2)),rfl,⟨by show m1.size≤_; omega,by show m2.size≤_; omega⟩,?_⟩
   rw [show jk.val ((B1,m1),(B2,m2))=.agg ⟨[.bool B3,.string m3]⟩ from by show aH (IV.z (B1,m1)+IV.z (B2,m2))=_; rw [g1.val,g2.val,g3.enc]]
   conv=>whnf
   refine ⟨((false,q),(false,q')),rfl,⟨by show q.size≤_; omega,by show q'.size≤_; omega⟩,?_⟩
   rw [show fm.val ((false,q),(false,q'))=.agg ⟨[.bool B4,.string m4]⟩ from by show aH (IV.z (false,q)*IV.z (false,q'))=_; rw [hQ.val,kM.val,g4.enc]]
   conv=>whnf
   refine ⟨((B3,m3),(B4,m4)),rfl,⟨by show m3.size≤_; omega,by show m4.size≤_; omega,by show 0 < IV.z (B4,m4); rw [g4.val]; exact lP⟩,?_⟩
   rw [show qe.val ((B3,m3),(B4,m4))=(RV.of w).v from by
    show bM (mkRat (IV.z (B3,m3)) (IV.z (B4,m4)).natAbs)=_
    rw [g3.val,g4.val,hw,← Int.natCast_mul,Int.natAbs_natCast]; rfl]
   conv=>whnf
   exact fin _ rfl
 ·rw [show bG.val (b,s,t)=.tuple ⟨[.int .i64 0,.int .i64 0,.bool false]⟩ from by simp only [bG,if_neg h1,decide_eq_false h1]]
  conv=>whnf
  obtain ⟨k1,k2,k3,hk⟩:∃ (k1 k2:Int) (k3:Bool),bG.val (c,u,v)=.tuple ⟨[.int .i64 k1,.int .i64 k2,.bool k3]⟩:=⟨_,_,_,rfl⟩;refine ⟨(c,u,v),rfl,trivial,?_⟩;rw [hk];conv=>whnf
  refine ⟨(b,s,t),rfl,hp.1,?_⟩;rw [pa];conv=>whnf
  refine ⟨(c,u,v),rfl,hp.2,?_⟩;rw [pb];obtain ⟨B1,m1,g1⟩:=EI.mk' (n*(e:Int));obtain ⟨B2,m2,g2⟩:=EI.mk' (m*(d:Int));obtain ⟨B3,m3,g3⟩:=EI.mk' (n*(e:Int)+m*(d:Int));obtain ⟨B4,m4,g4⟩:=EI.mk' ((d:Int)*(e:Int));have z1:=g1.gN sn se;have z2:=g2.gN sm sd;have z4:=g4.gN sd se;have z3:m3.size≤17179869187:=g3.Ga (by rw [← g1.size]; omega) (by rw [← g2.size]; omega)
  have lP:(0:Int) < (d:Int)*(e:Int):=Int.mul_pos (by omega) (by omega)
  conv=>whnf
  refine .inl ⟨9,[[],[],[0,1],[],[],[0,1,2,3,4],[0,1,2,3,4,5],[],[],[0,1,2,3,4,5,6,7,8],[0,1,2,3,4,5,6,7,8,9],[0,1,2,3,4,5,6,7,8,9,10]],by kernel_rfl,?_⟩
  conv=>whnf
  refine ⟨((B,p),(false,q')),rfl,⟨by show p.size≤_; omega,by show q'.size≤_; omega⟩,?_⟩
  rw [show fm.val ((B,p),(false,q'))=.agg ⟨[.bool B1,.string m1]⟩ from by show aH (IV.z (B,p)*IV.z (false,q'))=_; rw [hP.val,kM.val,g1.enc]]
  conv=>whnf
  refine ⟨((D,p'),(false,q)),rfl,⟨by show p'.size≤_; omega,by show q.size≤_; omega⟩,?_⟩
  rw [show fm.val ((D,p'),(false,q))=.agg ⟨[.bool B2,.string m2]⟩ from by show aH (IV.z (D,p')*IV.z (false,q))=_; rw [mi.val,hQ.val,g2.enc]]
  conv=>whnf
  refine ⟨((B1,m1),(B2,m2)),rfl,⟨by show m1.size≤_; omega,by show m2.size≤_; omega⟩,?_⟩
  rw [show jk.val ((B1,m1),(B2,m2))=.agg ⟨[.bool B3,.string m3]⟩ from by show aH (IV.z (B1,m1)+IV.z (B2,m2))=_; rw [g1.val,g2.val,g3.enc]]
  conv=>whnf
  refine ⟨((false,q),(false,q')),rfl,⟨by show q.size≤_; omega,by show q'.size≤_; omega⟩,?_⟩
  rw [show fm.val ((false,q),(false,q'))=.agg ⟨[.bool B4,.string m4]⟩ from by show aH (IV.z (false,q)*IV.z (false,q'))=_; rw [hQ.val,kM.val,g4.enc]]
  conv=>whnf
  refine ⟨((B3,m3),(B4,m4)),rfl,⟨by show m3.size≤_; omega,by show m4.size≤_; omega,by show 0 < IV.z (B4,m4); rw [g4.val]; exact lP⟩,?_⟩
  rw [show qe.val ((B3,m3),(B4,m4))=(RV.of w).v from by
   show bM (mkRat (IV.z (B3,m3)) (IV.z (B4,m4)).natAbs)=_
   rw [g3.val,g4.val,hw,← Int.natCast_mul,Int.natAbs_natCast]; rfl]
  conv=>whnf
  exact fin _ rfl
theorem NC:bk Tryz.prog 156 lL:=by
 refine bn zM aQ Tryz.func156 (enters_of Tryz.func156 (by kernel_rfl) rfl) (fun _=>rfl) (fun _=>rfl) ?_
 intro ⟨⟨b,s,t⟩,⟨c,u,v⟩⟩ hp;have hp:(s.size≤8589934592∧t.size≤8589934592)∧u.size≤8589934592∧v.size≤8589934592:=hp;have hn:=RV.jV (i:=(b,s,t));have hm:=RV.jV (i:=(c,u,v));obtain ⟨n,bR⟩:∃ n,n=RV.n (b,s,t):=⟨_,rfl⟩;obtain ⟨m,eI⟩:∃ n,n=RV.n (c,u,v):=⟨_,rfl⟩;obtain ⟨d,bU⟩:∃ n,n=RV.d (b,s,t):=⟨_,rfl⟩;obtain ⟨e,bW⟩:∃ n,n=RV.d (c,u,v):=⟨_,rfl⟩;have fJ:d≠0:=by rw [bU]; exact RV.jS _
 have Ry:e≠0:=by rw [bW]; exact RV.jS _
 rw [← bR,← bU] at hn;rw [← eI,← bW] at hm;obtain ⟨B,p,hP⟩:=EI.mk' n;obtain ⟨q,hQ⟩:=EI.jd (show 0≤((d:Nat):Int) by omega)
 obtain ⟨D,p',mi⟩:=EI.mk' m;obtain ⟨q',kM⟩:=EI.jd (show 0≤((e:Nat):Int) by omega)
 have sn:aT n.natAbs≤8589934593:=by rw [bR]; exact dH (b:=b) (Nat.le_succ_of_le hp.1.1)
 have sm:aT m.natAbs≤8589934593:=by rw [eI]; exact dH (b:=c) (Nat.le_succ_of_le hp.2.1)
 have sd:aT (Int.natAbs ((d:Nat):Int))≤8589934593:=by
  rw [bU,← RV.jU];exact dH (Nat.le_trans (RV.rU _) (Nat.succ_le_succ hp.1.2))
 have se:aT (Int.natAbs ((e:Nat):Int))≤8589934593:=by
  rw [bW,← RV.jU];exact dH (Nat.le_trans (RV.rU _) (Nat.succ_le_succ hp.2.2))
 have zp:p.size≤8589934593:=by rw [hP.size]; exact sn
 have zq:q.size≤8589934593:=by rw [hQ.size]; exact sd
 have Rz:p'.size≤8589934593:=by rw [mi.size]; exact sm
 have RA:q'.size≤8589934593:=by rw [kM.size]; exact se
 have pa:nS.val (b,s,t)=.tuple ⟨[.agg ⟨[.bool B,.string p]⟩,.agg ⟨[.bool false,.string q]⟩]⟩:=by
  rw [← hP.enc,← hQ.enc,bR,bU]; rfl
 have pb:nS.val (c,u,v)=.tuple ⟨[.agg ⟨[.bool D,.string p']⟩,.agg ⟨[.bool false,.string q']⟩]⟩:=by
  rw [← mi.enc,← kM.enc,eI,bW]; rfl
 obtain ⟨w,hw⟩:∃ w,w=mkRat (n*m) (d*e):=⟨_,rfl⟩;have fin:∀ x:Value,x=(RV.of w).v→x=lL.val ((b,s,t),(c,u,v)):=fun x h=>by
  rw [h,hw,bR,eI,bU,bW];show bM _=bM (RV.q (b,s,t)*RV.q (c,u,v))
  rw [HL]
 conv=>whnf
 refine ⟨(b,s,t),rfl,trivial,?_⟩;by_cases h1:RV.gh (b,s,t)
 ·rw [show bG.val (b,s,t)=.tuple ⟨[.int .i64 n,.int .i64 d,.bool true]⟩ from by simp only [bG,if_pos h1,decide_eq_true h1,bR,bU]]
  conv=>whnf
  refine ⟨(c,u,v),rfl,trivial,?_⟩;by_cases J:RV.gh (c,u,v)
  ·rw [show bG.val (c,u,v)=.tuple ⟨[.int .i64 m,.int .i64 e,.bool true]⟩ from by simp only [bG,if_pos J,decide_eq_true J,eI,bW]]
   have bf:I4.ok ((n,d),(m,e)):=⟨hn h1,hm J⟩;obtain ⟨b1,b2,b3,b4⟩:=I4.bounds bf;simp only at b1 b2 b3 b4;conv=>whnf
   obtain ⟨x,hx⟩:∃ x,x=n*m:=⟨_,rfl⟩;obtain ⟨k,hk⟩:∃ k,k=d*e:=⟨_,rfl⟩;rw [← hx] at b3;rw [← hk] at b4;have e1:IntKind.i64.wrap (n*m)=x:=by
    rw [← hx,ax (x:=x) (by omega) (by omega)]
   have e2:IntKind.i64.wrap ((d:Int)*(e:Int))=(k:Int):=by
    rw [← Int.natCast_mul,← hk,ax (by omega) (by omega)]
   rw [e1,e2];refine ⟨(x,k),rfl,⟨by show x.natAbs < _; omega,by show k≠0; omega,by show k < _; omega⟩,?_⟩
   rw [show nR.val (x,k)=(RV.of w).v from by rw [hw,hx,hk]; rfl]
   conv=>whnf
   exact fin _ rfl
  ·rw [show bG.val (c,u,v)=.tuple ⟨[.int .i64 0,.int .i64 0,.bool false]⟩ from by simp only [bG,if_neg J,decide_eq_false J]]
   conv=>whnf
   refine ⟨(b,s,t),rfl,hp.1,?_⟩;rw [pa];conv=>whnf
   refine ⟨(c,u,v),rfl,hp.2,?_⟩;rw [pb];obtain ⟨B1,m1,g1⟩:=EI.mk' (n*m);obtain ⟨B4,m4,g4⟩:=EI.mk' ((d:Int)*(e:Int));have z1:=g1.gN sn sm;have z4:=g4.gN sd se;have lP:(0:Int) < (d:Int)*(e:Int):=Int.mul_pos (by omega) (by omega)
   conv=>whnf
   refine .inl ⟨5,[[],[],[0,1],[],[],[0,1,2,3,4],[0,1,2,3,4,5],[0,1,2,3,4,5,6]],by kernel_rfl,?_⟩
   conv=>whnf
   refine ⟨((B,p),(D,p')),rfl,⟨by show p.size≤_; omega,by show p'.size≤_; omega⟩,?_⟩
   rw [show fm.val ((B,p),(D,p'))=.agg ⟨[.bool B1,.string m1]⟩ from by show aH (IV.z (B,p)*IV.z (D,p'))=_; rw [hP.val,mi.val,g1.enc]]
   conv=>whnf
   refine ⟨((false,q),(false,q')),rfl,⟨by show q.size≤_; omega,by show q'.size≤_; omega⟩,?_⟩
   rw [show fm.val ((false,q),(false,q'))=.agg ⟨[.bool B4,.string m4]⟩ from by show aH (IV.z (false,q)*IV.z (false,q'))=_; rw [hQ.val,kM.val,g4.enc]]
   conv=>whnf
   refine ⟨((B1,m1),(B4,m4)),rfl,⟨by show m1.size≤_; omega,by show m4.size≤_; omega,by show 0 < IV.z (B4,m4); rw [g4.val]; exact lP⟩,?_⟩
   rw [show qe.val ((B1,m1),(B4,m4))=(RV.of w).v from by
    show bM (mkRat (IV.z (B1,m1)) (IV.z (B4,m4)).natAbs)=_
    rw [g1.val,g4.val,hw,← Int.natCast_mul,Int.natAbs_natCast]; rfl]
   conv=>whnf
   exact fin _ rfl
 ·rw [show bG.val (b,s,t)=.tuple ⟨[.int .i64 0,.int .i64 0,.bool false]⟩ from by simp only [bG,if_neg h1,decide_eq_false h1]]
  conv=>whnf
  obtain ⟨k1,k2,k3,hk⟩:∃ (k1 k2:Int) (k3:Bool),bG.val (c,u,v)=.tuple ⟨[.int .i64 k1,.int .i64 k2,.bool k3]⟩:=⟨_,_,_,rfl⟩;refine ⟨(c,u,v),rfl,trivial,?_⟩;rw [hk];conv=>whnf
  refine ⟨(b,s,t),rfl,hp.1,?_⟩;rw [pa];conv=>whnf
  refine ⟨(c,u,v),rfl,hp.2,?_⟩;rw [pb];obtain ⟨B1,m1,g1⟩:=EI.mk' (n*m);obtain ⟨B4,m4,g4⟩:=EI.mk' ((d:Int)*(e:Int));have z1:=g1.gN sn sm;have z4:=g4.gN sd se;have lP:(0:Int) < (d:Int)*(e:Int):=Int.mul_pos (by omega) (by omega)
  conv=>whnf
  refine .inl ⟨5,[[],[],[0,1],[],[],[0,1,2,3,4],[0,1,2,3,4,5],[0,1,2,3,4,5,6]],by kernel_rfl,?_⟩
  conv=>whnf
  refine ⟨((B,p),(D,p')),rfl,⟨by show p.size≤_; omega,by show p'.size≤_; omega⟩,?_⟩
  rw [show fm.val ((B,p),(D,p'))=.agg ⟨[.bool B1,.string m1]⟩ from by show aH (IV.z (B,p)*IV.z (D,p'))=_; rw [hP.val,mi.val,g1.enc]]
  conv=>whnf
  refine ⟨((false,q),(false,q')),rfl,⟨by show q.size≤_; omega,by show q'.size≤_; omega⟩,?_⟩
  rw [show fm.val ((false,q),(false,q'))=.agg ⟨[.bool B4,.string m4]⟩ from by show aH (IV.z (false,q)*IV.z (false,q'))=_; rw [hQ.val,kM.val,g4.enc]]
  conv=>whnf
  refine ⟨((B1,m1),(B4,m4)),rfl,⟨by show m1.size≤_; omega,by show m4.size≤_; omega,by show 0 < IV.z (B4,m4); rw [g4.val]; exact lP⟩,?_⟩
  rw [show qe.val ((B1,m1),(B4,m4))=(RV.of w).v from by
   show bM (mkRat (IV.z (B1,m1)) (IV.z (B4,m4)).natAbs)=_
   rw [g1.val,g4.val,hw,← Int.natCast_mul,Int.natAbs_natCast]; rfl]
  conv=>whnf
  exact fin _ rfl
theorem Gp:bk Tryz.prog 128 jT:=by
 refine bn zM aQ Tryz.func128 (enters_of Tryz.func128 (by kernel_rfl) rfl) (fun _=>rfl) (fun _=>rfl) ?_
 intro ⟨⟨b,s,t⟩,⟨c,u,v⟩⟩ hp;have hp:(s.size≤8589934592∧t.size≤8589934592)∧u.size≤8589934592∧v.size≤8589934592:=hp;have hn:=RV.jV (i:=(b,s,t));have hm:=RV.jV (i:=(c,u,v));obtain ⟨n,bR⟩:∃ n,n=RV.n (b,s,t):=⟨_,rfl⟩;obtain ⟨m,eI⟩:∃ n,n=RV.n (c,u,v):=⟨_,rfl⟩;obtain ⟨d,bU⟩:∃ n,n=RV.d (b,s,t):=⟨_,rfl⟩;obtain ⟨e,bW⟩:∃ n,n=RV.d (c,u,v):=⟨_,rfl⟩;have fJ:d≠0:=by rw [bU]; exact RV.jS _
 have Ry:e≠0:=by rw [bW]; exact RV.jS _
 rw [← bR,← bU] at hn;rw [← eI,← bW] at hm;obtain ⟨B,p,hP⟩:=EI.mk' n;obtain ⟨q,hQ⟩:=EI.jd (show 0≤((d:Nat):Int) by omega)
 obtain ⟨D,p',mi⟩:=EI.mk' m;obtain ⟨q',kM⟩:=EI.jd (show 0≤((e:Nat):Int) by omega)
 have sn:aT n.natAbs≤8589934593:=by rw [bR]; exact dH (b:=b) (Nat.le_succ_of_le hp.1.1)
 have sm:aT m.natAbs≤8589934593:=by rw [eI]; exact dH (b:=c) (Nat.le_succ_of_le hp.2.1)
 have sd:aT (Int.natAbs ((d:Nat):Int))≤8589934593:=by
  rw [bU,← RV.jU];exact dH (Nat.le_trans (RV.rU _) (Nat.succ_le_succ hp.1.2))
 have se:aT (Int.natAbs ((e:Nat):Int))≤8589934593:=by
  rw [bW,← RV.jU];exact dH (Nat.le_trans (RV.rU _) (Nat.succ_le_succ hp.2.2))
 have zp:p.size≤8589934593:=by rw [hP.size]; exact sn
 have zq:q.size≤8589934593:=by rw [hQ.size]; exact sd
 have Rz:p'.size≤8589934593:=by rw [mi.size]; exact sm
 have RA:q'.size≤8589934593:=by rw [kM.size]; exact se
 have pa:nS.val (b,s,t)=.tuple ⟨[.agg ⟨[.bool B,.string p]⟩,.agg ⟨[.bool false,.string q]⟩]⟩:=by
  rw [← hP.enc,← hQ.enc,bR,bU]; rfl
 have pb:nS.val (c,u,v)=.tuple ⟨[.agg ⟨[.bool D,.string p']⟩,.agg ⟨[.bool false,.string q']⟩]⟩:=by
  rw [← mi.enc,← kM.enc,eI,bW]; rfl
 obtain ⟨w,hw⟩:∃ w,w=dO (n*e) (m*d):=⟨_,rfl⟩;have fin:∀ x:Int,x=w→Value.int .i64 x=jT.val ((b,s,t),(c,u,v)):=fun x h=>by
  rw [h,hw,bR,eI,bU,bW];show Value.int .i64 _=.int .i64 (ba (RV.q (b,s,t)) (RV.q (c,u,v)))
  rw [C3]
 conv=>whnf
 refine ⟨(b,s,t),rfl,trivial,?_⟩;by_cases h1:RV.gh (b,s,t)
 ·rw [show bG.val (b,s,t)=.tuple ⟨[.int .i64 n,.int .i64 d,.bool true]⟩ from by simp only [bG,if_pos h1,decide_eq_true h1,bR,bU]]
  conv=>whnf
  refine ⟨(c,u,v),rfl,trivial,?_⟩;by_cases J:RV.gh (c,u,v)
  ·rw [show bG.val (c,u,v)=.tuple ⟨[.int .i64 m,.int .i64 e,.bool true]⟩ from by simp only [bG,if_pos J,decide_eq_true J,eI,bW]]
   have bf:I4.ok ((n,d),(m,e)):=⟨hn h1,hm J⟩;obtain ⟨b1,b2,b3,b4⟩:=I4.bounds bf;simp only at b1 b2 b3 b4;conv=>whnf
   obtain ⟨x,hx⟩:∃ x,x=n*(e:Int):=⟨_,rfl⟩;obtain ⟨y,hy⟩:∃ y,y=m*(d:Int):=⟨_,rfl⟩;rw [← hx] at b1;rw [← hy] at b2;have e1:IntKind.i64.wrap (n*(e:Int))=x:=by rw [← hx,ax (x:=x) (by omega) (by omega)]
   have e2:IntKind.i64.wrap (m*(d:Int))=y:=by rw [← hy,ax (x:=y) (by omega) (by omega)]
   rw [← hx,← hy] at hw;rw [e1,e2];refine aN (fun h=>?_) (fun h=>?_)
   ·have h:=of_decide_eq_true h;conv=>whnf
    exact fin _ (hw.trans (ux h)).symm
   ·have h:=of_decide_eq_false h;conv=>whnf
    rw [e1,e2];refine aN (fun h5=>?_) (fun h5=>?_)
    ·have h5:=of_decide_eq_true h5;conv=>whnf
     exact fin _ (hw.trans (uy h5)).symm
    ·have h5:=of_decide_eq_false h5;conv=>whnf
     refine fin _ ?_;rw [hw];unfold dO;rw [if_neg h,if_neg (show ¬ y < x from h5)]
  ·rw [show bG.val (c,u,v)=.tuple ⟨[.int .i64 0,.int .i64 0,.bool false]⟩ from by simp only [bG,if_neg J,decide_eq_false J]]
   conv=>whnf
   refine ⟨(b,s,t),rfl,hp.1,?_⟩;rw [pa];conv=>whnf
   refine ⟨(c,u,v),rfl,hp.2,?_⟩;rw [pb];obtain ⟨B1,m1,g1⟩:=EI.mk' (n*(e:Int));obtain ⟨B2,m2,g2⟩:=EI.mk' (m*(d:Int));have z1:=g1.gN sn se;have z2:=g2.gN sm sd;conv=>whnf
   refine .inl ⟨5,[[],[],[0,1],[],[],[0,1,2,3,4],[0,1,2,3,4,5],[0,1,2,3,4,5,6]],by kernel_rfl,?_⟩
   conv=>whnf
   refine ⟨((B,p),(false,q')),rfl,⟨by show p.size≤_; omega,by show q'.size≤_; omega⟩,?_⟩
   rw [show fm.val ((B,p),(false,q'))=.agg ⟨[.bool B1,.string m1]⟩ from by show aH (IV.z (B,p)*IV.z (false,q'))=_; rw [hP.val,kM.val,g1.enc]]
   conv=>whnf
   refine ⟨((D,p'),(false,q)),rfl,⟨by show p'.size≤_; omega,by show q.size≤_; omega⟩,?_⟩
   rw [show fm.val ((D,p'),(false,q))=.agg ⟨[.bool B2,.string m2]⟩ from by show aH (IV.z (D,p')*IV.z (false,q))=_; rw [mi.val,hQ.val,g2.enc]]
   conv=>whnf
   refine ⟨((B1,m1),(B2,m2)),rfl,⟨by show m1.size≤_; omega,by show m2.size≤_; omega⟩,?_⟩
   rw [show lS.val ((B1,m1),(B2,m2))=.int .i64 w from by show Value.int .i64 (dO (IV.z (B1,m1)) (IV.z (B2,m2)))=_; rw [g1.val,g2.val,hw]]
   conv=>whnf
   exact fin _ rfl
 ·rw [show bG.val (b,s,t)=.tuple ⟨[.int .i64 0,.int .i64 0,.bool false]⟩ from by simp only [bG,if_neg h1,decide_eq_false h1]]
  conv=>whnf
  obtain ⟨k1,k2,k3,hk⟩:∃ (k1 k2:Int) (k3:Bool),bG.val (c,u,v)=.tuple ⟨[.int .i64 k1,.int .i64 k2,.bool k3]⟩:=⟨_,_,_,rfl⟩;refine ⟨(c,u,v),rfl,trivial,?_⟩;rw [hk];conv=>whnf
  refine ⟨(b,s,t),rfl,hp.1,?_⟩;rw [pa];conv=>whnf
  refine ⟨(c,u,v),rfl,hp.2,?_⟩;rw [pb];obtain ⟨B1,m1,g1⟩:=EI.mk' (n*(e:Int));obtain ⟨B2,m2,g2⟩:=EI.mk' (m*(d:Int));have z1:=g1.gN sn se;have z2:=g2.gN sm sd;conv=>whnf
  refine .inl ⟨5,[[],[],[0,1],[],[],[0,1,2,3,4],[0,1,2,3,4,5],[0,1,2,3,4,5,6]],by kernel_rfl,?_⟩
  conv=>whnf
  refine ⟨((B,p),(false,q')),rfl,⟨by show p.size≤_; omega,by show q'.size≤_; omega⟩,?_⟩
  rw [show fm.val ((B,p),(false,q'))=.agg ⟨[.bool B1,.string m1]⟩ from by show aH (IV.z (B,p)*IV.z (false,q'))=_; rw [hP.val,kM.val,g1.enc]]
  conv=>whnf
  refine ⟨((D,p'),(false,q)),rfl,⟨by show p'.size≤_; omega,by show q.size≤_; omega⟩,?_⟩
  rw [show fm.val ((D,p'),(false,q))=.agg ⟨[.bool B2,.string m2]⟩ from by show aH (IV.z (D,p')*IV.z (false,q))=_; rw [mi.val,hQ.val,g2.enc]]
  conv=>whnf
  refine ⟨((B1,m1),(B2,m2)),rfl,⟨by show m1.size≤_; omega,by show m2.size≤_; omega⟩,?_⟩
  rw [show lS.val ((B1,m1),(B2,m2))=.int .i64 w from by show Value.int .i64 (dO (IV.z (B1,m1)) (IV.z (B2,m2)))=_; rw [g1.val,g2.val,hw]]
  conv=>whnf
  exact fin _ rfl
def Eqd:Env:=En [(169,.p lK),(128,.p jT)]
theorem ac9:EnvOk Tryz.prog Eqd:=bK ⟨NB,Gp,trivial⟩ trivial
theorem WY:bk Tryz.prog 146 gZ:=by
 refine bn ac9 aQ Tryz.func146 (enters_of Tryz.func146 (by kernel_rfl) rfl) (fun _=>rfl) (fun _=>rfl) ?_
 intro ⟨⟨b,s,t⟩,⟨c,u,v⟩⟩ hp;have hp:RV.ok (b,s,t)∧RV.ok (c,u,v):=hp;obtain ⟨w,hw⟩:∃ w,w=RV.q (b,s,t) - RV.q (c,u,v):=⟨_,rfl⟩;conv=>whnf
 refine ⟨((b,s,t),(!c,u,v)),rfl,hp,?_⟩;rw [show lK.val ((b,s,t),(!c,u,v))=(RV.of w).v from by
  rw [hw];show bM (RV.q (b,s,t)+RV.q (!c,u,v))=bM _
  rw [OM,← Rat.sub_eq_add_neg]]
 conv=>whnf
 show (RV.of w).v=bM _
 rw [hw]
 rfl
open Go Go.Ae
def JO:Env:=En [(36,.p lK),(38,.p gZ),(37,.p lL)]
theorem ada:EnvOk Tryz.prog JO:=bK ⟨Cr,xc,Om,trivial⟩ trivial
theorem ZJ:gu Tryz.prog 81 (cD JO cR Tryz.f81):=by
 exact jw ada aQ Tryz.func81 (enters_of Tryz.func81 (by kernel_rfl) rfl)
def Evb:Env:=En [(33,.p mM),(36,.p lK),(38,.p gZ),(35,.p jT),(129,.p m5)] [(81,cD JO cR Tryz.f81)]
theorem ve:EnvOk Tryz.prog Evb:=bK ⟨zj,Cr,xc,On,Vj,trivial⟩ ⟨ZJ,trivial⟩
def Evr:Env:=En [(120,.p mM),(169,.p lK),(146,.p gZ),(156,.p lL),(128,.p jT),(119,.p m5),(153,.p zf)]
theorem Da:EnvOk Tryz.prog Evr:=bK ⟨ZI,NB,WY,NC,Gp,Uc,MN,trivial⟩ trivial
theorem O5:bk Tryz.prog 55 qS:=by
 refine bn ve aQ Tryz.func55 (enters_of Tryz.func55 (by kernel_rfl) rfl) (fun _=>rfl) (fun _=>rfl) ?_
 intro ⟨n,m⟩ hp;have hp:vN n∧vN m:=hp;obtain ⟨x,hx⟩:∃ x:Rat,x=(n:Rat):=⟨_,rfl⟩;obtain ⟨y,hy⟩:∃ x:Rat,x=(m:Rat):=⟨_,rfl⟩;conv=>whnf
 refine ⟨n,rfl,hp.1,?_⟩;rw [show mM.val n=(RV.of x).v from by rw [hx]; rfl]
 conv=>whnf
 refine ⟨m,rfl,hp.2,?_⟩;rw [show mM.val m=(RV.of y).v from by rw [hy]; rfl]
 conv=>whnf
 show PV.v (RV.of x,RV.of y)=mN _ _
 rw [hx,hy]
 rfl
theorem GX:bk Tryz.prog 29 nZ:=by
 refine bn ve aQ Tryz.func29 (enters_of Tryz.func29 (by kernel_rfl) rfl) (fun _=>rfl) (fun _=>rfl) ?_
 intro ⟨p,q⟩ hp;have hp:p.sz 8589934592∧q.sz 8589934592:=hp;obtain ⟨x,hx⟩:∃ x,x=p.1.q+q.1.q:=⟨_,rfl⟩;obtain ⟨y,hy⟩:∃ x,x=p.2.q+q.2.q:=⟨_,rfl⟩;conv=>whnf
 refine .inl ⟨11,[[],[],[1],[],[3],[0,1,2,3,4],[],[],[7],[],[9],[0,1,2,3,4,5,6,7,8,9,10],[0,1,2,3,4,5,6,7,8,9,10,11],[0,1,2,3,4,5,6,7,8,9,10,11,12]],by kernel_rfl,?_⟩
 conv=>whnf
 refine ⟨(p.1,q.1),rfl,⟨hp.1.1,hp.2.1⟩,?_⟩;rw [show lK.val (p.1,q.1)=(RV.of x).v from by rw [hx]; rfl]
 conv=>whnf
 refine ⟨(p.2,q.2),rfl,⟨hp.1.2,hp.2.2⟩,?_⟩;rw [show lK.val (p.2,q.2)=(RV.of y).v from by rw [hy]; rfl]
 conv=>whnf
 show PV.v (RV.of x,RV.of y)=mN _ _
 rw [hx,hy]
 rfl
theorem Cs:bk Tryz.prog 85 kS:=by
 refine bn ve aQ Tryz.func85 (enters_of Tryz.func85 (by kernel_rfl) rfl) (fun _=>rfl) (fun _=>rfl) ?_
 intro ⟨p,q⟩ hp;have hp:p.sz 8589934592∧q.sz 8589934592:=hp;obtain ⟨x,hx⟩:∃ x,x=p.1.q - q.1.q:=⟨_,rfl⟩;obtain ⟨y,hy⟩:∃ x,x=p.2.q - q.2.q:=⟨_,rfl⟩;conv=>whnf
 refine .inl ⟨11,[[],[],[1],[],[3],[0,1,2,3,4],[],[],[7],[],[9],[0,1,2,3,4,5,6,7,8,9,10],[0,1,2,3,4,5,6,7,8,9,10,11],[0,1,2,3,4,5,6,7,8,9,10,11,12]],by kernel_rfl,?_⟩
 conv=>whnf
 refine ⟨(p.1,q.1),rfl,⟨hp.1.1,hp.2.1⟩,?_⟩;rw [show gZ.val (p.1,q.1)=(RV.of x).v from by rw [hx]; rfl]
 conv=>whnf
 refine ⟨(p.2,q.2),rfl,⟨hp.1.2,hp.2.2⟩,?_⟩;rw [show gZ.val (p.2,q.2)=(RV.of y).v from by rw [hy]; rfl]
 conv=>whnf
 show PV.v (RV.of x,RV.of y)=mN _ _
 rw [hx,hy]
 rfl
theorem WZ:bk Tryz.prog 121 kS:=by
 refine bn Da aQ Tryz.func121 (enters_of Tryz.func121 (by kernel_rfl) rfl) (fun _=>rfl) (fun _=>rfl) ?_
 intro ⟨p,q⟩ hp;have hp:p.sz 8589934592∧q.sz 8589934592:=hp;obtain ⟨x,hx⟩:∃ x,x=p.1.q - q.1.q:=⟨_,rfl⟩;obtain ⟨y,hy⟩:∃ x,x=p.2.q - q.2.q:=⟨_,rfl⟩;conv=>whnf
 refine .inl ⟨9,[[],[0],[],[2],[0,1,2,3],[],[5],[],[7],[0,1,2,3,4,5,6,7,8],[0,1,2,3,4,5,6,7,8,9],[0,1,2,3,4,5,6,7,8,9,10]],by kernel_rfl,?_⟩
 conv=>whnf
 refine ⟨(p.1,q.1),rfl,⟨hp.1.1,hp.2.1⟩,?_⟩;rw [show gZ.val (p.1,q.1)=(RV.of x).v from by rw [hx]; rfl]
 conv=>whnf
 refine ⟨(p.2,q.2),rfl,⟨hp.1.2,hp.2.2⟩,?_⟩;rw [show gZ.val (p.2,q.2)=(RV.of y).v from by rw [hy]; rfl]
 conv=>whnf
 show PV.v (RV.of x,RV.of y)=mN _ _
 rw [hx,hy]
 rfl
theorem Vm:bk Tryz.prog 31 GL:=by
 refine bn ve aQ Tryz.func31 (enters_of Tryz.func31 (by kernel_rfl) rfl) (fun _=>rfl) (fun _=>rfl) ?_
 intro ⟨p,q⟩ hp;have hp:p.sz 8589934592∧q.sz 8589934592:=hp;obtain ⟨x,hx⟩:∃ x,x=p.1.q*q.q:=⟨_,rfl⟩;obtain ⟨y,hy⟩:∃ x,x=p.2.q*q.q:=⟨_,rfl⟩;conv=>whnf
 refine .inl ⟨11,[[],[],[1],[],[3],[0,1,2,3,4],[],[],[7],[],[9],[0,1,2,3,4,5,6,7,8,9,10],[0,1,2,3,4,5,6,7,8,9,10,11],[0,1,2,3,4,5,6,7,8,9,10,11,12]],by kernel_rfl,?_⟩
 conv=>whnf
 refine ⟨(p.1,q),rfl,⟨hp.1.1,hp.2⟩,?_⟩;rw [show lL.val (p.1,q)=(RV.of x).v from by rw [hx]; rfl]
 conv=>whnf
 refine ⟨(p.2,q),rfl,⟨hp.1.2,hp.2⟩,?_⟩;rw [show lL.val (p.2,q)=(RV.of y).v from by rw [hy]; rfl]
 conv=>whnf
 show PV.v (RV.of x,RV.of y)=mN _ _
 rw [hx,hy]
 rfl
theorem MO:bk Tryz.prog 84 qf:=by
 refine bn ve aQ Tryz.func84 (enters_of Tryz.func84 (by kernel_rfl) rfl) (fun _=>rfl) (fun _=>rfl) ?_
 intro ⟨p,q⟩ hp;have hp:p.sz 1073741824∧q.sz 1073741824:=hp;obtain ⟨x,hx⟩:∃ x,x=p.1.q*q.2.q:=⟨_,rfl⟩;obtain ⟨y,hy⟩:∃ x,x=p.2.q*q.1.q:=⟨_,rfl⟩;obtain ⟨z,hz⟩:∃ z,z=x - y:=⟨_,rfl⟩;have sx:(RV.of x).ok:=RV.b6 (RV.nj (by rw [hx]; exact (RV.j9 hp.1.1 (by decide)).mul (RV.j9 hp.2.2 (by decide)))) (by decide)
 have sy:(RV.of y).ok:=RV.b6 (RV.nj (by rw [hy]; exact (RV.j9 hp.1.2 (by decide)).mul (RV.j9 hp.2.1 (by decide)))) (by decide)
 conv=>whnf
 refine .inl ⟨11,[[],[],[1],[],[3],[0,1,2,3,4],[],[],[7],[],[9],[0,1,2,3,4,5,6,7,8,9,10],[0,1,2,3,4,5,6,7,8,9,10,11],[0,1,2,3,4,5,6,7,8,9,10,11,12]],by kernel_rfl,?_⟩
 conv=>whnf
 refine ⟨(p.1,q.2),rfl,⟨RV.b6 hp.1.1 (by decide),RV.b6 hp.2.2 (by decide)⟩,?_⟩
 rw [show lL.val (p.1,q.2)=(RV.of x).v from by rw [hx]; rfl]
 conv=>whnf
 refine ⟨(p.2,q.1),rfl,⟨RV.b6 hp.1.2 (by decide),RV.b6 hp.2.1 (by decide)⟩,?_⟩
 rw [show lL.val (p.2,q.1)=(RV.of y).v from by rw [hy]; rfl]
 conv=>whnf
 refine ⟨(RV.of x,RV.of y),rfl,⟨sx,sy⟩,?_⟩;rw [show gZ.val (RV.of x,RV.of y)=(RV.of z).v from by
  show bM ((RV.of x).q - (RV.of y).q)=_
  rw [RV.iE,RV.iE,hz]; rfl]
 conv=>whnf
 show (RV.of z).v=bM _
 rw [hz,hx,hy]
 rfl
theorem Ud:bk Tryz.prog 122 qf:=by
 refine bn Da aQ Tryz.func122 (enters_of Tryz.func122 (by kernel_rfl) rfl) (fun _=>rfl) (fun _=>rfl) ?_
 intro ⟨p,q⟩ hp;have hp:p.sz 1073741824∧q.sz 1073741824:=hp;obtain ⟨x,hx⟩:∃ x,x=p.1.q*q.2.q:=⟨_,rfl⟩;obtain ⟨y,hy⟩:∃ x,x=p.2.q*q.1.q:=⟨_,rfl⟩;obtain ⟨z,hz⟩:∃ z,z=x - y:=⟨_,rfl⟩;have sx:(RV.of x).ok:=RV.b6 (RV.nj (by rw [hx]; exact (RV.j9 hp.1.1 (by decide)).mul (RV.j9 hp.2.2 (by decide)))) (by decide)
 have sy:(RV.of y).ok:=RV.b6 (RV.nj (by rw [hy]; exact (RV.j9 hp.1.2 (by decide)).mul (RV.j9 hp.2.1 (by decide)))) (by decide)
 conv=>whnf
 refine .inl ⟨9,[[],[0],[],[2],[0,1,2,3],[],[5],[],[7],[0,1,2,3,4,5,6,7,8],[0,1,2,3,4,5,6,7,8,9],[0,1,2,3,4,5,6,7,8,9,10]],by kernel_rfl,?_⟩
 conv=>whnf
 refine ⟨(p.1,q.2),rfl,⟨RV.b6 hp.1.1 (by decide),RV.b6 hp.2.2 (by decide)⟩,?_⟩
 rw [show lL.val (p.1,q.2)=(RV.of x).v from by rw [hx]; rfl]
 conv=>whnf
 refine ⟨(p.2,q.1),rfl,⟨RV.b6 hp.1.2 (by decide),RV.b6 hp.2.1 (by decide)⟩,?_⟩
 rw [show lL.val (p.2,q.1)=(RV.of y).v from by rw [hy]; rfl]
 conv=>whnf
 refine ⟨(RV.of x,RV.of y),rfl,⟨sx,sy⟩,?_⟩;rw [show gZ.val (RV.of x,RV.of y)=(RV.of z).v from by
  show bM ((RV.of x).q - (RV.of y).q)=_
  rw [RV.iE,RV.iE,hz]; rfl]
 conv=>whnf
 show (RV.of z).v=bM _
 rw [hz,hx,hy]
 rfl
theorem Oq:bk Tryz.prog 74 pf:=by
 refine bn ve aQ Tryz.func74 (enters_of Tryz.func74 (by kernel_rfl) rfl) (fun _=>rfl) (fun _=>rfl) ?_
 intro ⟨p,q⟩ hp;have hp:p.sz 8589934592∧q.sz 8589934592:=hp;obtain ⟨x,hx⟩:∃ x,x=ba p.1.q q.1.q:=⟨_,rfl⟩;obtain ⟨y,hy⟩:∃ x,x=ba p.2.q q.2.q:=⟨_,rfl⟩;have fin:∀ z:Int,z=(if x≠0 then x else y)→Value.int .i64 z=pf.val (p,q):=fun z h=>by rw [h,hx,hy]; rfl
 conv=>whnf
 refine ⟨(p.1,q.1),rfl,⟨hp.1.1,hp.2.1⟩,?_⟩;rw [show jT.val (p.1,q.1)=.int .i64 x from by rw [hx]; rfl]
 conv=>whnf
 refine aN (fun h=>?_) (fun h=>?_)
 ·have h:x≠0:=by
   intro e;subst e;simp at h
  conv=>whnf
  exact fin _ (if_pos h).symm
 ·have h:x=0:=by simpa using h
  conv=>whnf
  refine ⟨(p.2,q.2),rfl,⟨hp.1.2,hp.2.2⟩,?_⟩;rw [show jT.val (p.2,q.2)=.int .i64 y from by rw [hy]; rfl]
  conv=>whnf
  exact fin _ (if_neg (fun e=>e h)).symm
theorem W0:bk Tryz.prog 76 pf:=by
 refine bn Da aQ Tryz.func76 (enters_of Tryz.func76 (by kernel_rfl) rfl) (fun _=>rfl) (fun _=>rfl) ?_
 intro ⟨p,q⟩ hp;have hp:p.sz 8589934592∧q.sz 8589934592:=hp;obtain ⟨x,hx⟩:∃ x,x=ba p.1.q q.1.q:=⟨_,rfl⟩;obtain ⟨y,hy⟩:∃ x,x=ba p.2.q q.2.q:=⟨_,rfl⟩;have fin:∀ z:Int,z=(if x≠0 then x else y)→Value.int .i64 z=pf.val (p,q):=fun z h=>by rw [h,hx,hy]; rfl
 conv=>whnf
 refine ⟨(p.1,q.1),rfl,⟨hp.1.1,hp.2.1⟩,?_⟩;rw [show jT.val (p.1,q.1)=.int .i64 x from by rw [hx]; rfl]
 conv=>whnf
 refine aN (fun h=>?_) (fun h=>?_)
 ·have h:x≠0:=by
   intro e;subst e;simp at h
  conv=>whnf
  exact fin _ (if_pos h).symm
 ·have h:x=0:=by simpa using h
  conv=>whnf
  refine ⟨(p.2,q.2),rfl,⟨hp.1.2,hp.2.2⟩,?_⟩;rw [show jT.val (p.2,q.2)=.int .i64 y from by rw [hy]; rfl]
  conv=>whnf
  exact fin _ (if_neg (fun e=>e h)).symm
open Go Go.Ae
theorem MP:bk Tryz.prog 80 kh:=by
 refine bn ve aQ Tryz.func80 (enters_of Tryz.func80 (by kernel_rfl) rfl) (fun _=>rfl) (fun _=>rfl) ?_
 intro (p:PV) hp;have hp:p.sz 8589934592:=hp;have od:p.1=RV.of p.1.q→p.2=RV.of p.2.q→Value.int .i64 0=kh.val p:=fun h1 J=>by
  show _=Value.int .i64 (if p.canon then 0 else 1)
  rw [if_pos ⟨h1,J⟩]
 have mP:¬ p.canon→Value.int .i64 1=kh.val p:=fun h=>by
  show _=Value.int .i64 (if p.canon then 0 else 1)
  rw [if_neg h]
 conv=>whnf
 refine .inr ⟨3,?_⟩;conv=>whnf
 refine ⟨⟨by decide,by decide⟩,?_⟩
 conv=>whnf
 refine ⟨p.1,rfl,hp.1,?_⟩;by_cases h1:p.1=RV.of p.1.q
 ·rw [show m5.val p.1=.int .i64 0 from by show Value.int .i64 (if p.1=RV.of p.1.q then 0 else 1)=_; rw [if_pos h1]]
  conv=>whnf
  refine ⟨⟨by decide,by decide⟩,?_⟩
  conv=>whnf
  refine ⟨p.2,rfl,hp.2,?_⟩;by_cases J:p.2=RV.of p.2.q
  ·rw [show m5.val p.2=.int .i64 0 from by show Value.int .i64 (if p.2=RV.of p.2.q then 0 else 1)=_; rw [if_pos J]]
   conv=>whnf
   exact od h1 J
  ·rw [show m5.val p.2=.int .i64 1 from by show Value.int .i64 (if p.2=RV.of p.2.q then 0 else 1)=_; rw [if_neg J]]
   conv=>whnf
   exact mP (fun h=>J h.2)
 ·rw [show m5.val p.1=.int .i64 1 from by show Value.int .i64 (if p.1=RV.of p.1.q then 0 else 1)=_; rw [if_neg h1]]
  conv=>whnf
  exact mP (fun h=>h1 h.1)
theorem Ue:bk Tryz.prog 68 kh:=by
 refine bn Da aQ Tryz.func68 (enters_of Tryz.func68 (by kernel_rfl) rfl) (fun _=>rfl) (fun _=>rfl) ?_
 intro (p:PV) hp;have hp:p.sz 8589934592:=hp;have od:p.1=RV.of p.1.q→p.2=RV.of p.2.q→Value.int .i64 0=kh.val p:=fun h1 J=>by
  show _=Value.int .i64 (if p.canon then 0 else 1)
  rw [if_pos ⟨h1,J⟩]
 have mP:¬ p.canon→Value.int .i64 1=kh.val p:=fun h=>by
  show _=Value.int .i64 (if p.canon then 0 else 1)
  rw [if_neg h]
 conv=>whnf
 refine ⟨p.1,rfl,hp.1,?_⟩;by_cases h1:p.1=RV.of p.1.q
 ·rw [show m5.val p.1=.int .i64 0 from by show Value.int .i64 (if p.1=RV.of p.1.q then 0 else 1)=_; rw [if_pos h1]]
  conv=>whnf
  refine ⟨p.2,rfl,hp.2,?_⟩;by_cases J:p.2=RV.of p.2.q
  ·rw [show m5.val p.2=.int .i64 0 from by show Value.int .i64 (if p.2=RV.of p.2.q then 0 else 1)=_; rw [if_pos J]]
   conv=>whnf
   exact od h1 J
  ·rw [show m5.val p.2=.int .i64 1 from by show Value.int .i64 (if p.2=RV.of p.2.q then 0 else 1)=_; rw [if_neg J]]
   conv=>whnf
   exact mP (fun h=>J h.2)
 ·rw [show m5.val p.1=.int .i64 1 from by show Value.int .i64 (if p.1=RV.of p.1.q then 0 else 1)=_; rw [if_neg h1]]
  conv=>whnf
  exact mP (fun h=>h1 h.1)
def Evf:Env:=En [(85,.p kS),(31,.p GL),(29,.p nZ)]
theorem adb:EnvOk Tryz.prog Evf:=bK ⟨Cs,Vm,GX,trivial⟩ trivial
theorem abY:bk Tryz.prog 39 xP:=by
 refine bn adb aQ Tryz.func39 (enters_of Tryz.func39 (by kernel_rfl) rfl) (fun _=>rfl) (fun _=>rfl) ?_
 intro ⟨⟨p,q⟩,t⟩ hp;have hp:(p.sz 268435456∧q.sz 268435456)∧t.sz 268435456:=hp;obtain ⟨⟨hp,hq⟩,ht⟩:=hp;obtain ⟨x,hx⟩:∃ x,x=q.1.q - p.1.q:=⟨_,rfl⟩;obtain ⟨y,hy⟩:∃ x,x=q.2.q - p.2.q:=⟨_,rfl⟩;obtain ⟨x2,lZ⟩:∃ z,z=x*t.q:=⟨_,rfl⟩;obtain ⟨y2,oh⟩:∃ z,z=y*t.q:=⟨_,rfl⟩;obtain ⟨x3,RB⟩:∃ z,z=p.1.q+x2:=⟨_,rfl⟩;obtain ⟨y3,RC⟩:∃ z,z=p.2.q+y2:=⟨_,rfl⟩;have bx:QB x 536870913:=by rw [hx]; exact (RV.j9 hq.1 (by decide)).sub (RV.j9 hp.1 (by decide))
 have RD:QB y 536870913:=by rw [hy]; exact (RV.j9 hq.2 (by decide)).sub (RV.j9 hp.2 (by decide))
 have bx2:QB x2 805306369:=by rw [lZ]; exact bx.mul (RV.j9 ht (by decide))
 have by2:QB y2 805306369:=by rw [oh]; exact RD.mul (RV.j9 ht (by decide))
 conv=>whnf
 refine .inl ⟨6,[[],[],[],[1,2],[],[1,2,3,4],[0,1,2,3,4,5],[0,1,2,3,4,5,6]],by kernel_rfl,?_⟩
 conv=>whnf
 refine ⟨(q,p),rfl,⟨PV.aX hq (by decide),PV.aX hp (by decide)⟩,?_⟩
 rw [show kS.val (q,p)=PV.v (RV.of x,RV.of y) from by rw [hx,hy]; rfl]
 conv=>whnf
 refine ⟨((RV.of x,RV.of y),t),rfl,⟨⟨RV.nj (bx.mono (by decide)),RV.nj (RD.mono (by decide))⟩,RV.aX ht (by decide)⟩,?_⟩
 rw [show GL.val ((RV.of x,RV.of y),t)=PV.v (RV.of x2,RV.of y2) from by
  show mN ((RV.of x).q*t.q) ((RV.of y).q*t.q)=_
  rw [RV.iE,RV.iE,← lZ,← oh]; rfl]
 conv=>whnf
 refine ⟨(p,(RV.of x2,RV.of y2)),rfl,⟨PV.aX hp (by decide),RV.nj (bx2.mono (by decide)),RV.nj (by2.mono (by decide))⟩,?_⟩
 rw [show nZ.val (p,(RV.of x2,RV.of y2))=PV.v (RV.of x3,RV.of y3) from by
  show mN (p.1.q+(RV.of x2).q) (p.2.q+(RV.of y2).q)=_
  rw [RV.iE,RV.iE,← RB,← RC]; rfl]
 conv=>whnf
 show PV.v (RV.of x3,RV.of y3)=mN _ _
 rw [RB,RC,lZ,oh,hx,hy]
 rfl
open Go Go.Ae
open Go Go.Ae
open Go Go.Ae
def Emn:Env:=En [(88,.p lT),(92,.p fm),(82,.p u0)]
theorem ade:EnvOk Tryz.prog Emn:=bK ⟨Hp,O4,Oo,trivial⟩ trivial
theorem Ot:bk Tryz.prog 71 qK:=by
 refine bn ade aQ Tryz.func71 (enters_of Tryz.func71 (by kernel_rfl) rfl) (fun _=>rfl) (fun _=>rfl) ?_
 intro ⟨⟨b,s,t⟩,⟨b',s',t'⟩⟩ hp;have hp:RV.ok (b,s,t)∧RV.ok (b',s',t'):=hp;obtain ⟨x,hx⟩:∃ x,x=RV.den (b,s,t):=⟨_,rfl⟩;obtain ⟨y,hy⟩:∃ x,x=RV.den (b',s',t'):=⟨_,rfl⟩;have f1:=RV.mw hp.1;have f2:=RV.mw hp.2;have g1:=RV.jU (b,s,t);have g2:=RV.jU (b',s',t');rw [← hx] at f1 g1;rw [← hy] at f2 g2;have hq:=acI (b,s,t) (b',s',t');obtain ⟨B1,m1,h1⟩:=EI.mk' (IV.z (b,s)*IV.z (false,y));obtain ⟨B2,m2,J⟩:=EI.mk' (IV.z (false,x)*IV.z (b',s'));have z1:=h1.gN (dH f1.1.1) (dH f2.1.2);have z2:=J.gN (dH f1.1.2) (dH f2.1.1);obtain ⟨w,hw⟩:∃ w,w=RV.q (b,s,t) / RV.q (b',s',t'):=⟨_,rfl⟩;obtain ⟨e,he⟩:∃ e:Int,e=if RV.q (b',s',t')=0 then 10 else 0:=⟨_,rfl⟩
 have hN:u0.val ((B1,m1),(B2,m2))=.tuple ⟨[(RV.of w).v,.int .i64 e]⟩:=by
  show lU (IV.z (B1,m1)) (IV.z (B2,m2))=_
  rw [h1.val,J.val,g1,g2,hw,he];exact hq
 conv=>whnf
 refine .inl ⟨6,[[],[0],[],[0,1,2],[],[],[0,1,2,3,4,5],[0,1,2,3,4,5,6]],by kernel_rfl,?_⟩
 conv=>whnf
 refine ⟨(b,s,t),rfl,by have:=hp.1.2; show t.size≤_; exact Nat.le_trans this (by decide),?_⟩
 rw [show lT.val (b,s,t)=.agg ⟨[.bool b,.string s,.bool false,.string x]⟩ from by rw [hx]; rfl]
 conv=>whnf
 refine ⟨(b',s',t'),rfl,by have:=hp.2.2; show t'.size≤_; exact Nat.le_trans this (by decide),?_⟩
 rw [show lT.val (b',s',t')=.agg ⟨[.bool b',.string s',.bool false,.string y]⟩ from by rw [hy]; rfl]
 conv=>whnf
 refine .inl ⟨13,[[],[0],[],[2],[0,1,2,3],[],[5],[],[7],[0,1,2,3,4,5,6,7,8],[0,1,2,3,4,5,6,7,8,9],[0,1,2,3,4,5,6,7,8,9,10],[0,1,2,3,4,5,6,7,8,9,10],[0,1,2,3,4,5,6,7,8,9,10,11,12],[0,1,2,3,4,5,6,7,8,9,10,11,12,13]],by kernel_rfl,?_⟩
 conv=>whnf
 refine ⟨((b,s),(false,y)),rfl,⟨Nat.le_trans f1.1.1 (by decide),Nat.le_trans f2.1.2 (by decide)⟩,?_⟩
 rw [show fm.val ((b,s),(false,y))=.agg ⟨[.bool B1,.string m1]⟩ from h1.enc]
 conv=>whnf
 refine ⟨((false,x),(b',s')),rfl,⟨Nat.le_trans f1.1.2 (by decide),Nat.le_trans f2.1.1 (by decide)⟩,?_⟩
 rw [show fm.val ((false,x),(b',s'))=.agg ⟨[.bool B2,.string m2]⟩ from J.enc]
 conv=>whnf
 refine ⟨((B1,m1),(B2,m2)),rfl,⟨by show m1.size≤_; omega,by show m2.size≤_; omega⟩,?_⟩
 rw [hN];conv=>whnf
 show Value.tuple ⟨[(RV.of w).v,.int .i64 e]⟩=Value.tuple ⟨[bM _,.int .i64 _]⟩
 rw [hw,he]
 rfl
open Go Go.Ae
def Epa:Env:=En [(85,.p kS),(84,.p qf),(34,.p iO),(37,.p lL),(38,.p gZ),(36,.p lK)]
theorem adf:EnvOk Tryz.prog Epa:=bK ⟨Cs,MO,Gn,Om,xc,Cr,trivial⟩ trivial
theorem MQ:bk Tryz.prog 32 nP:=by
 refine bn adf aQ Tryz.func32 (enters_of Tryz.func32 (by kernel_rfl) rfl) (fun _=>rfl) (fun _=>rfl) ?_
 intro ⟨a,b,c⟩ hp;obtain ⟨sa,sb,sc⟩:a.sz 1048576∧b.sz 1048576∧c.sz 1048576:=hp;have pa:Q2.sz 1048576 a.p:=PV.cV sa (by decide)
 have pb:Q2.sz 1048576 b.p:=PV.cV sb (by decide)
 have pc:Q2.sz 1048576 c.p:=PV.cV sc (by decide)
 obtain ⟨w,hw⟩:∃ w,w=ao a.p b.p c.p:=⟨_,rfl⟩;obtain ⟨u,hu⟩:∃ u,u=bP (sU b.p a.p):=⟨_,rfl⟩;obtain ⟨v,hv⟩:∃ v,v=bP (sU c.p a.p):=⟨_,rfl⟩;have su:u.sz 1073741824:=by rw [hu]; exact nU (oZ pb pa) (by decide)
 have sv:v.sz 1073741824:=by rw [hv]; exact nU (oZ pc pa) (by decide)
 have sw:(RV.of w).ok:=by rw [hw]; exact aak (yJ (oZ pb pa) (oZ pc pa)) (by decide)
 conv=>whnf
 refine .inl ⟨5,[[],[],[0,1],[],[],[0,1,2,3,4],[0,1,2,3,4,5],[0,1,2,3,4,5,6],[0,1,2,3,4,5,6,7]],by kernel_rfl,?_⟩
 conv=>whnf
 refine ⟨(b,a),rfl,⟨PV.aX sb (by decide),PV.aX sa (by decide)⟩,?_⟩
 rw [show kS.val (b,a)=u.v from by rw [NZ,hu]]
 conv=>whnf
 refine ⟨(c,a),rfl,⟨PV.aX sc (by decide),PV.aX sa (by decide)⟩,?_⟩
 rw [show kS.val (c,a)=v.v from by rw [NZ,hv]]
 conv=>whnf
 refine ⟨(u,v),rfl,⟨su,sv⟩,?_⟩;rw [show qf.val (u,v)=(RV.of w).v from by rw [UW,hu,hv,gr,gr,hw]; rfl]
 conv=>whnf
 refine ⟨RV.of w,rfl,sw,?_⟩;rw [V6,RV.iE];conv=>whnf
 show Value.int .i64 _=Value.int .i64 _
 rw [hw]
set_option maxHeartbeats 4000000
open Go Go.Ae
def JP:Env:=tH [(80,.p kh),(74,.p pf),(32,.p nP),(85,.p kS),(84,.p qf)]
theorem qM:EnvOk Tryz.prog JP:=vw ⟨MP,Oq,MQ,Cs,MO,trivial⟩ trivial
theorem ZK:bk Tryz.prog 108 C9:=by
 refine bn qM aQ Tryz.func108 (enters_of Tryz.func108 (by kernel_rfl) rfl) (fun _=>rfl) (fun _=>rfl) ?_
 intro (p:PV) hp;have sp:p.sz 2048:=hp;conv=>whnf
 refine ⟨p,rfl,PV.aX sp (by decide),?_⟩
 by_cases h:p.canon
 ·rw [show kh.val p=.int .i64 0 from congrArg (Value.int .i64) (if_pos h)]
  conv=>whnf
  show Value.bool false=.bool (decide (¬ p.canon))
  rw [decide_eq_false (fun e=>e h)]
 ·rw [show kh.val p=.int .i64 1 from congrArg (Value.int .i64) (if_neg h)]
  conv=>whnf
  show Value.bool true=.bool (decide (¬ p.canon))
  rw [decide_eq_true h]
theorem ZL:dq Tryz.prog 75 sJ:=by
 refine eJ qM aQ Tryz.func75 (enters_of Tryz.func75 (by kernel_rfl) rfl) ?_ ?_ ?_
 ·intro i b hb; simp [sJ] at hb; rcases hb with rfl | rfl <;> rfl
 ·intro i b hb; simp [sJ] at hb
 intro ⟨a,b,p⟩ hp;have hp:a.sz 2048∧b.sz 2048∧p.sz 2048:=hp;obtain ⟨sa,sb,sp⟩:=hp;have qa:=PV.cV sa (by decide)
 have qb:=PV.cV sb (by decide)
 have qp:=PV.cV sp (by decide)
 have fin:∀ z:Bool,z=sX a b p→∃ v',cT (List.range 2) 3 (sJ.val (a,b,p))=some v'∧fp (.bool z) v':=fun z h=>⟨.bool z,by rw [h]; rfl,.refl _⟩
 conv=>whnf
 refine ⟨by decide,?_⟩
 conv=>whnf
 rw [Dv p a];by_cases h1:p=a
 ·rw [decide_eq_true h1];conv=>whnf
  exact fin false (decide_eq_false fun e=>e.1 h1).symm
 rw [decide_eq_false h1];conv=>whnf
 refine ⟨by decide,?_⟩
 conv=>whnf
 rw [Dv p b];by_cases J:p=b
 ·rw [decide_eq_true J];conv=>whnf
  exact fin false (decide_eq_false fun e=>e.2.1 J).symm
 rw [decide_eq_false J];conv=>whnf
 refine ⟨by decide,?_⟩
 conv=>whnf
 refine ⟨by decide,?_⟩
 conv=>whnf
 obtain ⟨z,ez,pz⟩:=fc (ba (ao a.p b.p p.p) 0);refine ⟨(a,b,p),rfl,⟨PV.aX sa (by decide),PV.aX sb (by decide),PV.aX sp (by decide)⟩,?_⟩
 rw [show nP.val (a,b,p)=.int .i64 z from ez]
 conv=>whnf
 refine fin _ ?_;unfold sX;rw [← pz];by_cases h3:z≤0
 ·rw [decide_eq_true h3,decide_eq_true ⟨h1,J,h3⟩]; rfl
 ·rw [decide_eq_false h3,decide_eq_false fun e=>h3 e.2.2]; rfl
theorem MR:bk Tryz.prog 70 qj:=by
 refine bn qM aQ Tryz.func70 (enters_of Tryz.func70 (by kernel_rfl) rfl) (fun _=>rfl) (fun _=>rfl) ?_
 intro ⟨a,b,p⟩ hp;have hp:a.sz 1048576∧b.sz 1048576∧p.sz 1048576:=hp;obtain ⟨sa,sb,sp⟩:=hp;have qa:=PV.cV sa (by decide)
 have qb:=PV.cV sb (by decide)
 have qp:=PV.cV sp (by decide)
 conv=>whnf
 refine .inl ⟨5,[[],[],[0,1],[],[],[0,1,2,3,4],[0,1,2,3,4,5],[0,1,2,3,4,5,6]],by kernel_rfl,?_⟩
 conv=>whnf
 obtain ⟨u,eu,pu,su,qu⟩:=lN (oZ qb qa);refine ⟨(b,a),rfl,⟨PV.aX sb (by decide),PV.aX sa (by decide)⟩,?_⟩
 rw [show kS.val (b,a)=u.v from eu]
 conv=>whnf
 obtain ⟨v,ev,pv,sv,qv⟩:=lN (oZ qp qa);refine ⟨(p,a),rfl,⟨PV.aX sp (by decide),PV.aX sa (by decide)⟩,?_⟩
 rw [show kS.val (p,a)=v.v from ev]
 conv=>whnf
 obtain ⟨w,ew,pw,sw,qw⟩:=g0 (yJ qu qv);refine ⟨(u,v),rfl,⟨PV.aX su (by decide),PV.aX sv (by decide)⟩,?_⟩
 rw [show qf.val (u,v)=w.v from ew]
 conv=>whnf
 show w.v=(RV.of (ao a.p b.p p.p)).v
 rw [(RV.j3 ew).symm,pu,pv]
 rfl
open Go Go.Ae
theorem Vn:gu Tryz.prog 73 (cD JP cR Tryz.f73):=by
 exact jw qM aQ Tryz.func73 (enters_of Tryz.func73 (by kernel_rfl) rfl)
def JQ:Env:=En [(108,.p C9),(75,.q sJ)] [(73,cD JP cR Tryz.f73)]
theorem adg:EnvOk Tryz.prog JQ:=bK ⟨ZK,ZL,trivial⟩ ⟨Vn,trivial⟩
theorem Vo:gu Tryz.prog 106 (cD JQ cR Tryz.f106):=by
 exact jw adg aQ Tryz.func106 (enters_of Tryz.func106 (by kernel_rfl) rfl)
def Eo:Env:=En [] [(106,cD JQ cR Tryz.f106)]
theorem adh:EnvOk Tryz.prog Eo:=bK trivial ⟨Vo,trivial⟩
theorem KK:gu Tryz.prog 49 (cD Eo cR Tryz.f49):=by
 exact jw adh aQ Tryz.func49 (enters_of Tryz.func49 (by kernel_rfl) rfl)
def Ev4:Env:=En [] [(49,cD Eo cR Tryz.f49)]
theorem adi:EnvOk Tryz.prog Ev4:=bK trivial ⟨KK,trivial⟩
theorem KL:dq Tryz.prog 56 fF:=by
 refine eJ adi aQ Tryz.func56 (enters_of Tryz.func56 (by kernel_rfl) rfl) ?_ ?_ ?_
 ·intro i b hb;cases i with
  | none=>simp [fF,PL.ah] at hb
  | some i=>simp [fF,PL.ah] at hb; rw [hb]; rfl
 ·intro i b hb; simp [fF] at hb
 intro i hp;have hp:i.list.length≤1099511627776∧∀ v∈i.list,v.sz 2048:=hp;obtain ⟨hlen,bm⟩:=hp;cases i with
 | none =>
  conv=>whnf
  refine .inr ⟨1,?_⟩;conv=>whnf
  exact ⟨.bool true,rfl,.refl _⟩
 | some i =>
  obtain ⟨L,c⟩:=i;have hlen:L.length≤1099511627776:=hlen;have bm:∀ v∈L,PV.sz 2048 v:=bm;obtain ⟨n,hn⟩:∃ n,n=L.length:=⟨_,rfl⟩;obtain ⟨g,hg⟩:∃ g,g=di L:=⟨_,rfl⟩;have fin:∀ z:Bool,z=!fw L→∃ v',cT (List.range 1) 3 (fF.val (some (L,c)))=some v'∧fp (.bool z) v':=fun z h=>⟨.bool z,by rw [h]; rfl,.refl _⟩
  rw [show fF.ah (some (L,c))=[.flat false n 6 g] from by rw [hn,hg]; rfl,show fF.args (some (L,c))=[.slice (some ⟨0,0,none⟩) n c] from by rw [hn]; rfl]
  rw [← hn] at hlen;conv=>whnf
  refine .inl ⟨fun mm tz hz=>∃ (i:Nat),bC (some (.slice (some ⟨0,0,none⟩) n c)::some (.func (.func 108) #[] #[])::aF 5 (some (.int .i64 n)::some (.int .i64 i)::aF 10 [])) tz∧hz=[some (.flat false n 6 g)]∧n - i=mm∧(i≤n∧u7 L i),.inr ⟨[0],[0,1,7,8],?_⟩,?_⟩
  ·conv=>whnf
   intro _;conv=>whnf
   refine ⟨_,0,(.aa (.aa (.sk 5 (.aa (.aa (.sk 10 .nil rfl))) rfl))),rfl,rfl,?_⟩;exact ⟨Nat.zero_le _,K5 _⟩
  rintro mm aW _ ⟨i,aB,rfl,rfl,⟨hi,hU⟩⟩
  obtain ⟨az,rfl⟩:∃ az:Nat→Value,aW=.slice (some ⟨0,0,none⟩) n c::.func (.func 108) #[] #[]::zs az 2 5 (.int .i64 n::.int .i64 i::zs az 9 10 []):=bL aB;clear aB;conv=>whnf
  refine aN (fun h3=>?_) (fun h3=>?_)
  ·have h3:i < n:=by
    have:=of_decide_eq_true h3;omega
   have e7:IntKind.i64.wrap ((i:Int)+1)=((i+1:Nat):Int):=by rw [ax (by omega) (by omega)]; rfl
   obtain ⟨m,ll,mU,a8⟩:=rS (l:=L) (i:=i) (by omega)
   rw [← hg] at a8;conv=>whnf
   refine ⟨⟨by omega,by omega⟩,?_⟩
   simp only [toNat_cast,aA,Nat.zero_add];conv=>whnf
   refine ⟨by show i < n; omega,?_⟩
   conv=>whnf
   rw [a8];conv=>whnf
   refine ⟨m,rfl,bm m mU,?_⟩;by_cases h4:m.canon
   ·rw [show C9.val m=.bool false from congrArg Value.bool (decide_eq_false fun e=>e h4)]
    conv=>whnf
    rw [e7];refine .inr ⟨[0],[0,1,7,8],?_⟩;conv=>whnf
    intro _;conv=>whnf
    refine ⟨_,?_,i+1,(.aa (.aa (.sk 5 (.aa (.aa (.sk 10 .nil rfl))) rfl))),rfl,rfl,?_⟩
    ·omega
    ·exact ⟨by omega,LN hU ll h4⟩
   ·rw [show C9.val m=.bool true from congrArg Value.bool (decide_eq_true h4)]
    conv=>whnf
    rw [show decide ((i:Int) ≥ 0)=true from decide_eq_true (by omega)]
    conv=>whnf
    exact fin false (by rw [show fw L=true from List.any_eq_true.2 ⟨m,mU,decide_eq_true h4⟩]; rfl)
  ·have h3:i=n:=by
    have:=of_decide_eq_false h3;omega
   subst h3;conv=>whnf
   exact fin true (by rw [MA (by rw [← hn]; exact hU)]; rfl)
end Go.Proofs.YtlapbjdhekcipaaGreat
