import Derived.Test.YtlapbjdhekcipaaGreatHH
set_option linter.unusedVariables false
set_option linter.unusedSimpArgs false
set_option maxRecDepth 20000
set_option maxHeartbeats 1000000
namespace Go.Proofs.YtlapbjdhekcipaaGreat
open Go Go.Ae
def Emc:Env:=En [(140,.p sX),(188,.p sX)]
theorem Qd:EnvOk Tryz.prog Emc:=bF ⟨aal,UX,trivial⟩ trivial
theorem XF:bg Tryz.prog 95 nW:=by
 refine bk Qd aN Tryz.func95 (enters_of Tryz.func95 (by kernel_rfl) rfl) (fun _=>rfl) (fun _=>rfl) ?_
 intro ⟨n,d⟩ hp;have hp:n.natAbs < 72057594037927936∧d≠0∧d < 72057594037927936:=hp;obtain ⟨g,hg⟩:∃ g,g=Int.gcd n d:=⟨_,rfl⟩;obtain ⟨c8,bQ,nL⟩:=Bx hp.2.1 hg;have hgd:g≤d:=by
  have h3:=Nat.div_le_self d g;rcases Nat.lt_or_ge d g with h | h
  ·rw [Nat.div_eq_of_lt h] at bQ; omega
  ·exact h
 have fin:∀ v:Value,v=bH (mkRat n d)→v=nW.val (n,d):=fun v h=>h
 conv=>whnf
 refine .inl ⟨fun mm tz hz=>∃ (a:Int) (b:Int),bw (some (.int .i64 n)::some (.int .i64 d)::aF 2 (some (.pointer (some ⟨0,0,none⟩))::some (.int .i64 a)::some (.int .i64 b)::aF 36 [])) tz∧hz=[some (.aP true 3 [[.bool false,.string ⟨#[]⟩,.string ⟨#[]⟩]])]∧b.natAbs=mm∧(((-72057594037927936 < a∧a < 72057594037927936)∧-72057594037927936 < b∧b < 72057594037927936)∧Int.gcd a b=g),.inr ⟨[0],[0,1,4,5,6],?_⟩,?_⟩
 ·conv=>whnf
  intro _;conv=>whnf
  refine ⟨_,n,d,(.aa (.aa (.sk 2 (.aa (.aa (.aa (.sk 36 .nil rfl)))) rfl))),rfl,rfl,?_⟩;exact ⟨⟨⟨by omega,by omega⟩,by omega,by omega⟩,hg.symm⟩
 rintro mm aV _ ⟨a,b,aA,rfl,rfl,⟨c9,he⟩⟩
 obtain ⟨az,rfl⟩:∃ az:Nat→Value,aV=.int .i64 n::.int .i64 d::zs az 2 2 (.pointer (some ⟨0,0,none⟩)::.int .i64 a::.int .i64 b::zs az 7 36 []):=bI aA;clear aA;conv=>whnf
 refine aM (fun h1=>?_) (fun h1=>?_)
 ·have h1:b≠0:=by
   intro e;subst e;simp at h1
  have al:(Int.tmod a b).natAbs < b.natAbs:=by
   rw [Int.natAbs_tmod]; exact Nat.mod_lt _ (by omega)
  obtain ⟨r,hr⟩:∃ r,r=Int.tmod a b:=⟨_,rfl⟩;rw [← hr] at al;conv=>whnf
  refine .inl ⟨5,[[],[],[],[1,2],[0,1],[0,1,2,3,4]],by kernel_rfl,?_⟩
  conv=>whnf
  rw [show decide (b≠0)=true from decide_eq_true h1]
  conv=>whnf
  rw [← hr];refine .inr ⟨[0],[0,1,4,5,6],?_⟩;conv=>whnf
  intro _;conv=>whnf
  refine ⟨_,?_,b,r,(.aa (.aa (.sk 2 (.aa (.aa (.aa (.sk 36 .nil rfl)))) rfl))),rfl,rfl,?_⟩
  ·exact al
  ·exact ⟨⟨c9.2,by omega,by omega⟩,by rw [hr,WO]; exact he⟩
 ·have h1:b=0:=by simpa using h1
  subst h1;have he:a.natAbs=g:=by rw [← he,Int.gcd_zero_right]
  have em:=Oy a c9.1;rw [he] at em;have en:=Oy n (by omega)
  obtain ⟨N,hN⟩:∃ N,N=n.natAbs:=⟨_,rfl⟩;rw [← hN] at en;conv=>whnf
  rw [em];by_cases J:n=0
  ·subst J;conv=>whnf
   exact fin _ (yW d).symm
  ·refine aM (fun h=>absurd (by simpa using h) J) (fun _=>?_)
   have eq:=G6 J hp.2.1 hg;rw [← hN] at eq;have ed:=B9 (a:=N) (g:=g) (by omega)
   have kD:=B9 (a:=d) (g:=g) hp.2.2;obtain ⟨x,hx⟩:∃ x,x=nb (N / g):=⟨_,rfl⟩;obtain ⟨y,hy⟩:∃ y,y=nb (d / g):=⟨_,rfl⟩;have ex:sX.val (N / g)=.string x:=by rw [hx]; rfl
   have ey:sX.val (d / g)=.string y:=by rw [hy]; rfl
   rw [← hx] at eq;conv=>whnf
   rw [en,show decide (((g:Nat):Int)≠0)=true from decide_eq_true (by omega)]
   conv=>whnf
   rw [ed];refine ⟨N / g,rfl,by show N / g < _; exact Nat.lt_of_le_of_lt (Nat.div_le_self _ _) (by omega),?_⟩
   rw [ex];conv=>whnf
   refine aM (fun h3=>?_) (fun h3=>?_)
   ·have h3:d≠g:=by
     intro e;rw [e] at h3;simp at h3
    have e4:fw (d / g)=y:=by
     rw [hy]; unfold fw; rw [if_neg (fun h=>h3 (c8.1 h))]
    rw [e4] at eq;conv=>whnf
    rw [show decide (((g:Nat):Int)≠0)=true from decide_eq_true (by omega)]
    conv=>whnf
    rw [kD];refine ⟨d / g,rfl,by show d / g < _; exact Nat.lt_of_le_of_lt (Nat.div_le_self _ _) hp.2.2,?_⟩
    rw [ey];conv=>whnf
    exact fin _ eq.symm
   ·have h3:d=g:=by
     have:((d:Nat):Int)=g:=by simpa using h3
     omega
    have e4:fw (d / g)=⟨#[]⟩:=by unfold fw; rw [if_pos (c8.2 h3)]
    rw [e4] at eq;conv=>whnf
    exact fin _ eq.symm
theorem XG:bg Tryz.prog 172 nW:=by
 refine bk Qd aN Tryz.func172 (enters_of Tryz.func172 (by kernel_rfl) rfl) (fun _=>rfl) (fun _=>rfl) ?_
 intro ⟨n,d⟩ hp;have hp:n.natAbs < 72057594037927936∧d≠0∧d < 72057594037927936:=hp;obtain ⟨g,hg⟩:∃ g,g=Int.gcd n d:=⟨_,rfl⟩;obtain ⟨c8,bQ,nL⟩:=Bx hp.2.1 hg;have fin:∀ v:Value,v=bH (mkRat n d)→v=nW.val (n,d):=fun v h=>h
 obtain ⟨N,hN⟩:∃ N,N=n.natAbs:=⟨_,rfl⟩;obtain ⟨B,hB⟩:∃ B,B=decide (n < 0):=⟨_,rfl⟩;have ed:=B9 (a:=N) (g:=g) (by omega)
 have kD:=B9 (a:=d) (g:=g) hp.2.2;obtain ⟨x,hx⟩:∃ x,x=nb (N / g):=⟨_,rfl⟩;obtain ⟨y,hy⟩:∃ y,y=nb (d / g):=⟨_,rfl⟩;have ex:sX.val (N / g)=.string x:=by rw [hx]; rfl
 have ey:sX.val (d / g)=.string y:=by rw [hy]; rfl
 conv=>whnf
 refine aM (fun h1=>?_) (fun h1=>?_)
 ·have fi:=of_decide_eq_true h1;have fi:n < 0:=fi;have e0:IntKind.i64.wrap (0 - n)=(N:Int):=by rw [ax (by omega) (by omega)]; omega
  have J:n≠0:=by omega
  have eq:=G6 J hp.2.1 hg;rw [← hN,← hx,← hB] at eq;conv=>whnf
  rw [show decide ((n,d).fst < 0)=B from hB.symm]
  rw [show IntKind.i64.wrap (0 - (n,d).fst)=(N:Int) from e0]
  refine aM (fun h=>absurd (by simpa using h) (show N≠0 by omega)) (fun _=>?_)
  conv=>whnf
  refine .inl ⟨fun mm tz hz=>∃ (a:Nat) (b:Nat),bw (some (.int .i64 N)::some (.int .i64 d)::aF 2 (some (.pointer (some ⟨0,0,none⟩))::some (.pointer (some ⟨1,0,none⟩))::some (.int .i64 a)::some (.int .i64 b)::aF 33 [])) tz∧hz=[some (.aP true 3 [[.bool false,.string ⟨#[]⟩,.string ⟨#[]⟩]]),some (.aP true 3 [[.bool B,.string ⟨#[]⟩,.string ⟨#[]⟩]])]∧b=mm∧((a < 72057594037927936∧b < 72057594037927936)∧Nat.gcd a b=g),.inr ⟨[0,1],[0,1,4,5,6,7],?_⟩,?_⟩
  ·conv=>whnf
   intro _;conv=>whnf
   refine ⟨_,N,d,(.aa (.aa (.sk 2 (.aa (.aa (.aa (.aa (.sk 33 .nil rfl))))) rfl))),rfl,rfl,?_⟩;exact ⟨⟨by omega,by omega⟩,by rw [hg,hN]; rfl⟩
  rintro mm aV _ ⟨a,b,aA,rfl,rfl,⟨c9,he⟩⟩
  obtain ⟨az,rfl⟩:∃ az:Nat→Value,aV=.int .i64 N::.int .i64 d::zs az 2 2 (.pointer (some ⟨0,0,none⟩)::.pointer (some ⟨1,0,none⟩)::.int .i64 a::.int .i64 b::zs az 8 33 []):=bI aA;clear aA;conv=>whnf
  refine aM (fun h1=>?_) (fun h1=>?_)
  ·have h1:0 < b:=by
    have:=of_decide_eq_true h1;omega
   have al:=Nat.mod_lt a h1;conv=>whnf
   refine .inl ⟨5,[[],[],[],[1,2],[0,1],[0,1,2,3,4]],by kernel_rfl,?_⟩
   conv=>whnf
   rw [show decide (((b:Nat):Int)≠0)=true from decide_eq_true (by omega)]
   conv=>whnf
   rw [show Int.tmod ((a:Nat):Int) ((b:Nat):Int)=((a % b:Nat):Int) from rfl]
   refine .inr ⟨[0,1],[0,1,4,5,6,7],?_⟩;conv=>whnf
   intro _;conv=>whnf
   refine ⟨_,?_,b,a % b,(.aa (.aa (.sk 2 (.aa (.aa (.aa (.aa (.sk 33 .nil rfl))))) rfl))),rfl,rfl,?_⟩
   ·exact al
   ·exact ⟨⟨c9.2,by omega⟩,by rw [Nat.gcd_comm,← Nat.gcd_rec,Nat.gcd_comm]; exact he⟩
  ·have h1:b=0:=by
    have:=of_decide_eq_false h1;omega
   subst h1;obtain rfl:a=g:=by rw [← he,Nat.gcd_zero_right]
   conv=>whnf
   rw [show decide (((a:Nat):Int)≠0)=true from decide_eq_true (by omega)]
   conv=>whnf
   rw [ed];refine ⟨N / a,rfl,by show N / a < _; exact Nat.lt_of_le_of_lt (Nat.div_le_self _ _) (by omega),?_⟩
   rw [ex];conv=>whnf
   rw [show decide (((a:Nat):Int)≠0)=true from decide_eq_true (by omega)]
   obtain ⟨q,hq⟩:∃ q,q=d / a:=⟨_,rfl⟩;rw [← hq] at kD ey eq c8 bQ hy;conv=>whnf
   rw [kD];refine aM (fun h3=>?_) (fun h3=>?_)
   ·have h3:q≠1:=by
     have:=of_decide_eq_true h3;omega
    have e4:fw q=y:=by
     rw [hy]; unfold fw; rw [if_neg h3]
    rw [e4] at eq;conv=>whnf
    rw [show decide (((a:Nat):Int)≠0)=true from decide_eq_true (by omega)]
    conv=>whnf
    rw [kD];refine ⟨q,rfl,by show q < _; rw [hq]; exact Nat.lt_of_le_of_lt (Nat.div_le_self _ _) hp.2.2,?_⟩
    rw [ey];conv=>whnf
    exact fin _ eq.symm
   ·have h3:q=1:=by
     have:=of_decide_eq_false h3;omega
    have e4:fw q=⟨#[]⟩:=by unfold fw; rw [if_pos h3]
    rw [e4] at eq;conv=>whnf
    exact fin _ eq.symm
 ·have fi:=of_decide_eq_false h1;have fi:¬ n < 0:=fi;have e0:n=(N:Int):=by omega
  by_cases J:n=0
  ·subst J;conv=>whnf
   exact fin _ (yW d).symm
  ·have eq:=G6 J hp.2.1 hg;rw [← hN,← hx,← hB] at eq;conv=>whnf
   rw [show decide ((n,d).fst < 0)=B from hB.symm]
   refine aM (fun h=>absurd (by simpa using h) J) (fun _=>?_)
   conv=>whnf
   rw [show (n,d).fst=(N:Int) from e0]
   refine .inl ⟨fun mm tz hz=>∃ (a:Nat) (b:Nat),bw (some (.int .i64 N)::some (.int .i64 d)::aF 2 (some (.pointer (some ⟨0,0,none⟩))::some (.pointer (some ⟨1,0,none⟩))::some (.int .i64 a)::some (.int .i64 b)::aF 33 [])) tz∧hz=[some (.aP true 3 [[.bool false,.string ⟨#[]⟩,.string ⟨#[]⟩]]),some (.aP true 3 [[.bool B,.string ⟨#[]⟩,.string ⟨#[]⟩]])]∧b=mm∧((a < 72057594037927936∧b < 72057594037927936)∧Nat.gcd a b=g),.inr ⟨[0,1],[0,1,4,5,6,7],?_⟩,?_⟩
   ·conv=>whnf
    intro _;conv=>whnf
    refine ⟨_,N,d,(.aa (.aa (.sk 2 (.aa (.aa (.aa (.aa (.sk 33 .nil rfl))))) rfl))),rfl,rfl,?_⟩;exact ⟨⟨by omega,by omega⟩,by rw [hg,hN]; rfl⟩
   rintro mm aV _ ⟨a,b,aA,rfl,rfl,⟨c9,he⟩⟩
   obtain ⟨az,rfl⟩:∃ az:Nat→Value,aV=.int .i64 N::.int .i64 d::zs az 2 2 (.pointer (some ⟨0,0,none⟩)::.pointer (some ⟨1,0,none⟩)::.int .i64 a::.int .i64 b::zs az 8 33 []):=bI aA;clear aA;conv=>whnf
   refine aM (fun h1=>?_) (fun h1=>?_)
   ·have h1:0 < b:=by
     have:=of_decide_eq_true h1;omega
    have al:=Nat.mod_lt a h1;conv=>whnf
    refine .inl ⟨5,[[],[],[],[1,2],[0,1],[0,1,2,3,4]],by kernel_rfl,?_⟩
    conv=>whnf
    rw [show decide (((b:Nat):Int)≠0)=true from decide_eq_true (by omega)]
    conv=>whnf
    rw [show Int.tmod ((a:Nat):Int) ((b:Nat):Int)=((a % b:Nat):Int) from rfl]
    refine .inr ⟨[0,1],[0,1,4,5,6,7],?_⟩;conv=>whnf
    intro _;conv=>whnf
    refine ⟨_,?_,b,a % b,(.aa (.aa (.sk 2 (.aa (.aa (.aa (.aa (.sk 33 .nil rfl))))) rfl))),rfl,rfl,?_⟩
    ·exact al
    ·exact ⟨⟨c9.2,by omega⟩,by rw [Nat.gcd_comm,← Nat.gcd_rec,Nat.gcd_comm]; exact he⟩
   ·have h1:b=0:=by
     have:=of_decide_eq_false h1;omega
    subst h1;obtain rfl:a=g:=by rw [← he,Nat.gcd_zero_right]
    conv=>whnf
    rw [show decide (((a:Nat):Int)≠0)=true from decide_eq_true (by omega)]
    conv=>whnf
    rw [ed];refine ⟨N / a,rfl,by show N / a < _; exact Nat.lt_of_le_of_lt (Nat.div_le_self _ _) (by omega),?_⟩
    rw [ex];conv=>whnf
    rw [show decide (((a:Nat):Int)≠0)=true from decide_eq_true (by omega)]
    obtain ⟨q,hq⟩:∃ q,q=d / a:=⟨_,rfl⟩;rw [← hq] at kD ey eq c8 bQ hy;conv=>whnf
    rw [kD];refine aM (fun h3=>?_) (fun h3=>?_)
    ·have h3:q≠1:=by
      have:=of_decide_eq_true h3;omega
     have e4:fw q=y:=by
      rw [hy]; unfold fw; rw [if_neg h3]
     rw [e4] at eq;conv=>whnf
     rw [show decide (((a:Nat):Int)≠0)=true from decide_eq_true (by omega)]
     conv=>whnf
     rw [kD];refine ⟨q,rfl,by show q < _; rw [hq]; exact Nat.lt_of_le_of_lt (Nat.div_le_self _ _) hp.2.2,?_⟩
     rw [ey];conv=>whnf
     exact fin _ eq.symm
    ·have h3:q=1:=by
      have:=of_decide_eq_false h3;omega
     have e4:fw q=⟨#[]⟩:=by unfold fw; rw [if_pos h3]
     rw [e4] at eq;conv=>whnf
     exact fin _ eq.symm
open Go Go.Ae
def Emd:Env:=En [(83,.p e9),(87,.p lT)]
theorem adT:EnvOk Tryz.prog Emd:=bF ⟨sW,HN,trivial⟩ trivial
theorem Qe:bg Tryz.prog 132 g8:=by
 refine bk adT aN Tryz.func132 (enters_of Tryz.func132 (by kernel_rfl) rfl) (fun _=>rfl) (fun _=>rfl) ?_
 intro ⟨⟨b,s⟩,n⟩ hp;have hp:s.size≤549755813888∧-9223372036854775808≤n∧n < 9223372036854775808:=hp;obtain ⟨V,m,hV⟩:=EI.mk' n;have hm:m.size≤549755813888:=by
  rw [hV.size];have:=uK hp.2;omega
 obtain ⟨q,hq⟩:∃ q,q=dU (IV.z (b,s)) n:=⟨_,rfl⟩;conv=>whnf
 refine .inl ⟨3,[[],[],[1],[0,1,2],[0,1,2,3],[0,1,2,3,4]],by kernel_rfl,?_⟩
 conv=>whnf
 refine ⟨n,rfl,⟨by omega,by omega⟩,?_⟩
 rw [show e9.val n=.agg ⟨[.bool V,.string m]⟩ from hV.enc]
 conv=>whnf
 refine ⟨((b,s),(V,m)),rfl,⟨hp.1,hm⟩,?_⟩;rw [show lT.val ((b,s),(V,m))=.int .i64 q from by show Value.int .i64 (dU (IV.z (b,s)) (IV.z (V,m)))=_; rw [hV.val,hq]]
 conv=>whnf
 show Value.bool (q == 0)=Value.bool (decide (IV.z (b,s)=n))
 congr 1
 rw [hq];unfold dU
 split
 ·rw [decide_eq_false (by omega)]; rfl
 ·split
  ·rw [decide_eq_false (by omega)]; rfl
  ·rw [decide_eq_true (by omega)]; rfl
theorem UY:bg Tryz.prog 137 NF:=by
 refine bk lZ aN Tryz.func137 (enters_of Tryz.func137 (by kernel_rfl) rfl) (fun _=>rfl) (fun _=>rfl) ?_
 intro ⟨b,s⟩ _;conv=>whnf
 rfl
def Eme:Env:=En [(83,.p e9),(132,.p g8),(137,.p NF)]
theorem adU:EnvOk Tryz.prog Eme:=bF ⟨sW,Qe,UY,trivial⟩ trivial
theorem HO:bg Tryz.prog 88 lU:=by
 refine bk adU aN Tryz.func88 (enters_of Tryz.func88 (by kernel_rfl) rfl) (fun _=>rfl) (fun _=>rfl) ?_
 intro ⟨b,s,t⟩ hp;have hp:t.size≤549755813888:=hp;conv=>whnf
 refine .inl ⟨10,[[],[0],[],[2],[0,1,2,3],[],[5],[0,1,2,3,4,5,6],[0,1,2,3,4,5,6,7],[],[0,1,2,3,4,5,6,7,8,9]],by kernel_rfl,?_⟩
 conv=>whnf
 refine ⟨(b,s),rfl,trivial,?_⟩;conv=>whnf
 refine ⟨(false,t),rfl,trivial,?_⟩;conv=>whnf
 refine ⟨((false,t),0),rfl,⟨hp,r0⟩,?_⟩;by_cases h:ab t=0
 ·rw [show g8.val ((false,t),0)=.bool true from by
   show Value.bool (decide (((ab t:Nat):Int)=0))=_
   rw [h]; rfl]
  obtain ⟨v,hv⟩:∃ v,v=nb 1:=⟨_,rfl⟩;conv=>whnf
  refine ⟨(1:Int),rfl,r1,?_⟩;rw [show e9.val (1:Int)=.agg ⟨[.bool false,.string v]⟩ from by rw [hv]; rfl]
  conv=>whnf
  show Value.agg ⟨[.bool b,.string s,.bool false,.string v]⟩=x4 (b,s) (false,RV.den (b,s,t))
  unfold RV.den;rw [if_pos h,← hv]
  rfl
 ·rw [show g8.val ((false,t),0)=.bool false from by
   show Value.bool (decide (((ab t:Nat):Int)=0))=_
   rw [decide_eq_false (by omega)]]
  conv=>whnf
  show Value.agg ⟨[.bool b,.string s,.bool false,.string t]⟩=x4 (b,s) (false,RV.den (b,s,t))
  unfold RV.den;rw [if_neg h]
  rfl
def Emf:Env:=En [(132,.p g8),(133,.p vA),(134,.p iM)]
theorem adV:EnvOk Tryz.prog Emf:=bF ⟨Qe,acK,acL,trivial⟩ trivial
theorem Ni:bg Tryz.prog 86 o4:=by
 refine bk adV aN Tryz.func86 (enters_of Tryz.func86 (by kernel_rfl) rfl) (fun _=>rfl) (fun _=>rfl) ?_
 intro ⟨⟨b,s⟩,⟨c,t⟩⟩ hp;have hp:s.size≤549755813888∧t.size≤549755813888∧0 < IV.z (c,t):=hp;obtain ⟨x,hx⟩:∃ x,x=IV.z (b,s):=⟨_,rfl⟩;obtain ⟨d,hd⟩:∃ d,d=(IV.z (c,t)).natAbs:=⟨_,rfl⟩;have bQ:IV.z (c,t)=((d:Nat):Int):=by omega
 have fE:d≠0:=by omega
 obtain ⟨q,hq⟩:∃ q,q=mkRat x d:=⟨_,rfl⟩;have fin:∀ v:Value,v=bH q→v=o4.val ((b,s),(c,t)):=fun v h=>by rw [h,hq,hx,hd]; rfl
 conv=>whnf
 refine ⟨((b,s),0),rfl,⟨hp.1,r0⟩,?_⟩;rw [show g8.val ((b,s),0)=.bool (decide (x=0)) from by rw [hx]; rfl]
 by_cases h1:x=0
 ·rw [decide_eq_true h1];conv=>whnf
  exact fin _ (by rw [hq,h1]; exact (yW d).symm)
 ·rw [decide_eq_false h1];obtain ⟨g,hg⟩:∃ g,g=Int.gcd x d:=⟨_,rfl⟩;obtain ⟨gs,rT⟩:=EI.iW (show 0≤((g:Nat):Int) by omega)
  obtain ⟨qb,qs,hn⟩:=EI.mk' q.num;obtain ⟨es,he⟩:=EI.iW (show 0≤((q.den:Nat):Int) by omega)
  have nL:((g:Nat):Int)≠0:=by
   have:0 < g:=by rw [hg]; exact Int.gcd_pos_of_ne_zero_left _ h1
   omega
  have Jf:g≤d:=by
   have h3:=(Bx fE hg).2.1;rcases Nat.lt_or_ge d g with h | h
   ·rw [Nat.div_eq_of_lt h] at h3; omega
   ·exact h
  have eX:aS d≤549755813888:=by rw [hd]; exact IV.aS (i:=(c,t)) hp.2.1
  have Bf:gs.size≤549755813888:=by
   rw [rT.size,Int.natAbs_natCast];exact Nat.le_trans (iT Jf) eX
  have ae:es.size≤549755813888:=by
   rw [he.size,Int.natAbs_natCast];exact Nat.le_trans (iT (by rw [hq]; exact Pj x fE)) eX
  have Kd:x.fdiv ((g:Nat):Int)=q.num:=by rw [hg,hq]; exact HC x fE
  have rP:((d:Nat):Int).fdiv ((g:Nat):Int)=((q.den:Nat):Int):=by rw [hg,hq]; exact HD x fE
  conv=>whnf
  refine ⟨((b,s),(c,t)),rfl,⟨hp.1,hp.2.1⟩,?_⟩;rw [show vA.val ((b,s),(c,t))=.agg ⟨[.bool false,.string gs]⟩ from by
   show aG ((Int.gcd (IV.z (b,s)) (IV.z (c,t)):Nat):Int)=_
   rw [← hx,bQ,← hg,rT.enc]]
  conv=>whnf
  obtain ⟨fb,fs,hf⟩:=EI.mk' (x.fmod ((g:Nat):Int));refine ⟨((b,s),(false,gs)),rfl,⟨hp.1,Bf⟩,?_⟩;rw [show iM.val ((b,s),(false,gs))=.tuple ⟨[.agg ⟨[.bool qb,.string qs]⟩,.agg ⟨[.bool fb,.string fs]⟩,.int .i64 0]⟩ from by
   simp only [iM,rT.val,if_neg nL];rw [← hx,Kd,hn.enc,hf.enc]]
  conv=>whnf
  obtain ⟨kb,ks,hk⟩:=EI.mk' (((d:Nat):Int).fmod ((g:Nat):Int));refine ⟨((c,t),(false,gs)),rfl,⟨hp.2.1,Bf⟩,?_⟩;rw [show iM.val ((c,t),(false,gs))=.tuple ⟨[.agg ⟨[.bool false,.string es]⟩,.agg ⟨[.bool kb,.string ks]⟩,.int .i64 0]⟩ from by
   simp only [iM,rT.val,if_neg nL,bQ];rw [rP,he.enc,hk.enc]]
  conv=>whnf
  refine ⟨((false,es),1),rfl,⟨ae,r1⟩,?_⟩;rw [show g8.val ((false,es),1)=.bool (decide (((q.den:Nat):Int)=1)) from by
   show Value.bool (decide (IV.z (false,es)=1))=_
   rw [he.val]]
  have enc:∀ y,fw q.den=y→Value.agg ⟨[.bool qb,.string qs,.string y]⟩=bH q:=fun y hy=>by
   unfold bH;rw [← hn.nJ,← hn.sign,hy]
  by_cases J:q.den=1
  ·rw [decide_eq_true (by omega)]
   conv=>whnf
   exact fin _ (enc _ (by unfold fw; rw [if_pos J]))
  ·rw [decide_eq_false (by omega)]
   conv=>whnf
   exact fin _ (enc _ (by unfold fw; rw [if_neg J,he.nJ,Int.natAbs_natCast]))
open Go Go.Ae
def Emg:Env:=En [(95,.p nW)]
theorem Qf:EnvOk Tryz.prog Emg:=bF ⟨XF,trivial⟩ trivial
theorem aam:bg Tryz.prog 94 Dz:=by
 refine bk Qf aN Tryz.func94 (enters_of Tryz.func94 (by kernel_rfl) rfl) (fun _=>rfl) (fun _=>rfl) ?_
 intro ⟨⟨n,d⟩,⟨m,e⟩⟩ hp;obtain ⟨h1,J,h3,h4⟩:=I4.bounds hp;simp only at h1 J h3 h4;obtain ⟨x,hx⟩:∃ x,x=n*(e:Int):=⟨_,rfl⟩;obtain ⟨y,hy⟩:∃ y,y=m*(d:Int):=⟨_,rfl⟩;obtain ⟨k,hk⟩:∃ k,k=d*e:=⟨_,rfl⟩;rw [← hx] at h1;rw [← hy] at J;rw [← hk] at h4;have e1:IntKind.i64.wrap (IntKind.i64.wrap (n*(e:Int))+IntKind.i64.wrap (m*(d:Int)))=x+y:=by
  rw [← hx,← hy,ax (x:=x) (by omega) (by omega),ax (x:=y) (by omega) (by omega),ax (by omega) (by omega)]
 have e2:IntKind.i64.wrap ((d:Int)*(e:Int))=(k:Int):=by
  rw [← Int.natCast_mul,← hk,ax (by omega) (by omega)]
 conv=>whnf
 rw [show IntKind.i64.wrap (IntKind.i64.wrap (((n,d),m,e).fst.fst*(((n,d),m,e).snd.snd:Int))+IntKind.i64.wrap (((n,d),m,e).snd.fst*(((n,d),m,e).fst.snd:Int)))=x+y from e1]
 rw [show IntKind.i64.wrap ((((n,d),m,e).fst.snd:Int)*(((n,d),m,e).snd.snd:Int))=(k:Int) from e2]
 refine ⟨(x+y,k),rfl,⟨by show (x+y).natAbs < _; omega,by show k≠0; omega,by show k < _; omega⟩,?_⟩
 obtain ⟨v,hv⟩:∃ v,v=mkRat (x+y) k:=⟨_,rfl⟩;rw [show nW.val (x+y,k)=(RV.of v).v from by rw [hv]; rfl]
 conv=>whnf
 show (RV.of v).v=bH (mkRat (n*e+m*d) (d*e))
 rw [hv,hx,hy,hk]
 rfl
theorem aan:bg Tryz.prog 98 DA:=by
 refine bk Qf aN Tryz.func98 (enters_of Tryz.func98 (by kernel_rfl) rfl) (fun _=>rfl) (fun _=>rfl) ?_
 intro ⟨⟨n,d⟩,⟨m,e⟩⟩ hp;obtain ⟨h1,J,h3,h4⟩:=I4.bounds hp;simp only at h1 J h3 h4;obtain ⟨x,hx⟩:∃ x,x=n*m:=⟨_,rfl⟩;obtain ⟨k,hk⟩:∃ k,k=d*e:=⟨_,rfl⟩;rw [← hx] at h3;rw [← hk] at h4;have e1:IntKind.i64.wrap (n*m)=x:=by
  rw [← hx,ax (x:=x) (by omega) (by omega)]
 have e2:IntKind.i64.wrap ((d:Int)*(e:Int))=(k:Int):=by
  rw [← Int.natCast_mul,← hk,ax (by omega) (by omega)]
 conv=>whnf
 rw [show IntKind.i64.wrap (((n,d),m,e).fst.fst*((n,d),m,e).snd.fst)=x from e1]
 rw [show IntKind.i64.wrap ((((n,d),m,e).fst.snd:Int)*(((n,d),m,e).snd.snd:Int))=(k:Int) from e2]
 refine ⟨(x,k),rfl,⟨by show x.natAbs < _; omega,by show k≠0; omega,by show k < _; omega⟩,?_⟩
 obtain ⟨v,hv⟩:∃ v,v=mkRat x k:=⟨_,rfl⟩;rw [show nW.val (x,k)=(RV.of v).v from by rw [hv]; rfl]
 conv=>whnf
 show (RV.of v).v=bH (mkRat (n*m) (d*e))
 rw [hv,hx,hk]
 rfl
theorem aao:bg Tryz.prog 90 z7:=by
 refine bk lZ aN Tryz.func90 (enters_of Tryz.func90 (by kernel_rfl) rfl) (fun _=>rfl) (fun _=>rfl) ?_
 intro ⟨⟨n,d⟩,⟨m,e⟩⟩ hp;obtain ⟨h1,J,h3,h4⟩:=I4.bounds hp;simp only at h1 J h3 h4;obtain ⟨x,hx⟩:∃ x,x=n*(e:Int):=⟨_,rfl⟩;obtain ⟨y,hy⟩:∃ y,y=m*(d:Int):=⟨_,rfl⟩;rw [← hx] at h1;rw [← hy] at J;have e1:IntKind.i64.wrap (n*(e:Int))=x:=by rw [← hx,ax (x:=x) (by omega) (by omega)]
 have e2:IntKind.i64.wrap (m*(d:Int))=y:=by rw [← hy,ax (x:=y) (by omega) (by omega)]
 have fin:∀ z:Int,z=dU x y→Value.int .i64 z=z7.val ((n,d),(m,e)):=fun z h=>by rw [h,hx,hy]; rfl
 conv=>whnf
 rw [show IntKind.i64.wrap (((n,d),m,e).fst.fst*(((n,d),m,e).snd.snd:Int))=x from e1,show IntKind.i64.wrap (((n,d),m,e).snd.fst*(((n,d),m,e).fst.snd:Int))=y from e2]
 refine aM (fun h=>?_) (fun h=>?_)
 ·have h:=of_decide_eq_true h;conv=>whnf
  exact fin _ (uH h).symm
 ·have h:=of_decide_eq_false h;conv=>whnf
  refine aM (fun h5=>?_) (fun h5=>?_)
  ·have h5:=of_decide_eq_true h5;conv=>whnf
   exact fin _ (uI h5).symm
  ·have h5:=of_decide_eq_false h5;conv=>whnf
   refine fin _ ?_;unfold dU;rw [if_neg h,if_neg (show ¬ y < x from h5)]
def Emh:Env:=En [(92,.p fu),(97,.p jb),(87,.p lT),(86,.p o4)]
theorem Iq:EnvOk Tryz.prog Emh:=bF ⟨PC,HM,HN,Ni,trivial⟩ trivial
theorem aap:bg Tryz.prog 96 x5:=by
 refine bk Iq aN Tryz.func96 (enters_of Tryz.func96 (by kernel_rfl) rfl) (fun _=>rfl) (fun _=>rfl) ?_
 intro ⟨⟨⟨b,s⟩,⟨c,t⟩⟩,⟨⟨b',s'⟩,⟨c',t'⟩⟩⟩ hp;have hp:((s.size≤17179869184∧t.size≤17179869184)∧0 < IV.z (c,t))∧(s'.size≤17179869184∧t'.size≤17179869184)∧0 < IV.z (c',t'):=hp;obtain ⟨⟨⟨hs,ht⟩,hd⟩,⟨vR,jB⟩,cV⟩:=hp;obtain ⟨B1,m1,h1⟩:=EI.mk' (IV.z (b,s)*IV.z (c',t'));obtain ⟨B2,m2,J⟩:=EI.mk' (IV.z (b',s')*IV.z (c,t));obtain ⟨B3,m3,h3⟩:=EI.mk' (IV.z (b,s)*IV.z (c',t')+IV.z (b',s')*IV.z (c,t));obtain ⟨B4,m4,h4⟩:=EI.mk' (IV.z (c,t)*IV.z (c',t'));have z1:=h1.gF (dK hs) (dK jB);have z2:=J.gF (dK vR) (dK ht);have z4:=h4.gF (dK ht) (dK jB);have z3:m3.size≤34359738369:=h3.Gz (by rw [← h1.size]; omega) (by rw [← J.size]; omega)
 have lP:=Int.mul_pos hd cV;conv=>whnf
 refine .inl ⟨15,[[],[0],[],[2],[0,1,2,3],[],[5],[],[7],[0,1,2,3,4,5,6,7,8],[0,1,2,3,4,5,6,7,8,9],[],[11],[],[13],[0,1,2,3,4,5,6,7,8,9,10,11,12,13,14],[0,1,2,3,4,5,6,7,8,9,10,11,12,13,14,15],[0,1,2,3,4,5,6,7,8,9,10,11,12,13,14,15,16],[0,1,2,3,4,5,6,7,8,9,10,11,12,13,14,15,16,17]],by kernel_rfl,?_⟩
 conv=>whnf
 refine ⟨((b,s),(c',t')),rfl,⟨by show s.size≤_; omega,by show t'.size≤_; omega⟩,?_⟩
 rw [show fu.val ((b,s),(c',t'))=.agg ⟨[.bool B1,.string m1]⟩ from h1.enc]
 conv=>whnf
 refine ⟨((b',s'),(c,t)),rfl,⟨by show s'.size≤_; omega,by show t.size≤_; omega⟩,?_⟩
 rw [show fu.val ((b',s'),(c,t))=.agg ⟨[.bool B2,.string m2]⟩ from J.enc]
 conv=>whnf
 refine ⟨((B1,m1),(B2,m2)),rfl,⟨by show m1.size≤_; omega,by show m2.size≤_; omega⟩,?_⟩
 rw [show jb.val ((B1,m1),(B2,m2))=.agg ⟨[.bool B3,.string m3]⟩ from by
  show aG (IV.z (B1,m1)+IV.z (B2,m2))=_
  rw [h1.val,J.val,h3.enc]]
 conv=>whnf
 refine ⟨((c,t),(c',t')),rfl,⟨by show t.size≤_; omega,by show t'.size≤_; omega⟩,?_⟩
 rw [show fu.val ((c,t),(c',t'))=.agg ⟨[.bool B4,.string m4]⟩ from h4.enc]
 conv=>whnf
 refine ⟨((B3,m3),(B4,m4)),rfl,⟨by show m3.size≤_; omega,by show m4.size≤_; omega,by show 0 < IV.z (B4,m4); rw [h4.val]; exact lP⟩,?_⟩
 obtain ⟨v,hv⟩:∃ v,v=mkRat (IV.z (B3,m3)) (IV.z (B4,m4)).natAbs:=⟨_,rfl⟩;rw [show o4.val ((B3,m3),(B4,m4))=(RV.of v).v from by rw [hv]; rfl]
 rw [h3.val,h4.val] at hv;conv=>whnf
 show (RV.of v).v=bH _
 rw [hv]
 rfl
theorem aaq:bg Tryz.prog 99 x6:=by
 refine bk Iq aN Tryz.func99 (enters_of Tryz.func99 (by kernel_rfl) rfl) (fun _=>rfl) (fun _=>rfl) ?_
 intro ⟨⟨⟨b,s⟩,⟨c,t⟩⟩,⟨⟨b',s'⟩,⟨c',t'⟩⟩⟩ hp;have hp:((s.size≤17179869184∧t.size≤17179869184)∧0 < IV.z (c,t))∧(s'.size≤17179869184∧t'.size≤17179869184)∧0 < IV.z (c',t'):=hp;obtain ⟨⟨⟨hs,ht⟩,hd⟩,⟨vR,jB⟩,cV⟩:=hp;obtain ⟨B3,m3,h3⟩:=EI.mk' (IV.z (b,s)*IV.z (b',s'));obtain ⟨B4,m4,h4⟩:=EI.mk' (IV.z (c,t)*IV.z (c',t'));have z3:=h3.gF (dK hs) (dK vR);have z4:=h4.gF (dK ht) (dK jB);have lP:=Int.mul_pos hd cV;conv=>whnf
 refine .inl ⟨9,[[],[0],[],[2],[0,1,2,3],[],[5],[],[7],[0,1,2,3,4,5,6,7,8],[0,1,2,3,4,5,6,7,8,9],[0,1,2,3,4,5,6,7,8,9,10],[0,1,2,3,4,5,6,7,8,9,10,11]],by kernel_rfl,?_⟩
 conv=>whnf
 refine ⟨((b,s),(b',s')),rfl,⟨by show s.size≤_; omega,by show s'.size≤_; omega⟩,?_⟩
 rw [show fu.val ((b,s),(b',s'))=.agg ⟨[.bool B3,.string m3]⟩ from h3.enc]
 conv=>whnf
 refine ⟨((c,t),(c',t')),rfl,⟨by show t.size≤_; omega,by show t'.size≤_; omega⟩,?_⟩
 rw [show fu.val ((c,t),(c',t'))=.agg ⟨[.bool B4,.string m4]⟩ from h4.enc]
 conv=>whnf
 refine ⟨((B3,m3),(B4,m4)),rfl,⟨by show m3.size≤_; omega,by show m4.size≤_; omega,by show 0 < IV.z (B4,m4); rw [h4.val]; exact lP⟩,?_⟩
 obtain ⟨v,hv⟩:∃ v,v=mkRat (IV.z (B3,m3)) (IV.z (B4,m4)).natAbs:=⟨_,rfl⟩;rw [show o4.val ((B3,m3),(B4,m4))=(RV.of v).v from by rw [hv]; rfl]
 rw [h3.val,h4.val] at hv;conv=>whnf
 show (RV.of v).v=bH _
 rw [hv]
 rfl
theorem aar:bg Tryz.prog 91 x7:=by
 refine bk Iq aN Tryz.func91 (enters_of Tryz.func91 (by kernel_rfl) rfl) (fun _=>rfl) (fun _=>rfl) ?_
 intro ⟨⟨⟨b,s⟩,⟨c,t⟩⟩,⟨⟨b',s'⟩,⟨c',t'⟩⟩⟩ hp;have hp:((s.size≤17179869184∧t.size≤17179869184)∧0 < IV.z (c,t))∧(s'.size≤17179869184∧t'.size≤17179869184)∧0 < IV.z (c',t'):=hp;obtain ⟨⟨⟨hs,ht⟩,hd⟩,⟨vR,jB⟩,cV⟩:=hp;obtain ⟨B1,m1,h1⟩:=EI.mk' (IV.z (b,s)*IV.z (c',t'));obtain ⟨B2,m2,J⟩:=EI.mk' (IV.z (b',s')*IV.z (c,t));have z1:=h1.gF (dK hs) (dK jB);have z2:=J.gF (dK vR) (dK ht);obtain ⟨q,hq⟩:∃ q,q=dU (IV.z (b,s)*IV.z (c',t')) (IV.z (b',s')*IV.z (c,t)):=⟨_,rfl⟩;conv=>whnf
 refine .inl ⟨9,[[],[0],[],[2],[0,1,2,3],[],[5],[],[7],[0,1,2,3,4,5,6,7,8],[0,1,2,3,4,5,6,7,8,9],[0,1,2,3,4,5,6,7,8,9,10]],by kernel_rfl,?_⟩
 conv=>whnf
 refine ⟨((b,s),(c',t')),rfl,⟨by show s.size≤_; omega,by show t'.size≤_; omega⟩,?_⟩
 rw [show fu.val ((b,s),(c',t'))=.agg ⟨[.bool B1,.string m1]⟩ from h1.enc]
 conv=>whnf
 refine ⟨((b',s'),(c,t)),rfl,⟨by show s'.size≤_; omega,by show t.size≤_; omega⟩,?_⟩
 rw [show fu.val ((b',s'),(c,t))=.agg ⟨[.bool B2,.string m2]⟩ from J.enc]
 conv=>whnf
 refine ⟨((B1,m1),(B2,m2)),rfl,⟨by show m1.size≤_; omega,by show m2.size≤_; omega⟩,?_⟩
 rw [show lT.val ((B1,m1),(B2,m2))=.int .i64 q from by
  show Value.int .i64 (dU (IV.z (B1,m1)) (IV.z (B2,m2)))=_
  rw [h1.val,J.val,hq]]
 conv=>whnf
 show Value.int .i64 q=_
 rw [hq]
 rfl
open Go Go.Ae
def Bg:Env:=En [(138,.p bD),(88,.p lU),(94,.p Dz),(96,.p x5),(98,.p DA),(99,.p x6),(90,.p z7),(91,.p x7)]
theorem Qg:EnvOk Tryz.prog Bg:=bF ⟨aak,HO,aam,aap,aan,aaq,aao,aar,trivial⟩ trivial
theorem XH:gj Tryz.prog 93 (b9 Bg cF Tryz.f93):=by
 exact js Qg aN Tryz.func93 (enters_of Tryz.func93 (by kernel_rfl) rfl)
theorem XI:gj Tryz.prog 89 (b9 Bg cF Tryz.f89):=by
 exact js Qg aN Tryz.func89 (enters_of Tryz.func89 (by kernel_rfl) rfl)
def Emk:Env:=En [] [(93,b9 Bg cF Tryz.f93),(89,b9 Bg cF Tryz.f89)]
theorem Ir:EnvOk Tryz.prog Emk:=bF trivial ⟨XH,XI,trivial⟩
theorem xE:bg Tryz.prog 36 iK:=by
 refine bk Ir aN Tryz.func36 (enters_of Tryz.func36 (by kernel_rfl) rfl) (fun _=>rfl) (fun _=>rfl) ?_
 intro ⟨⟨b,s,t⟩,⟨c,u,v⟩⟩ hp;have hp:RV.ok (b,s,t)∧RV.ok (c,u,v):=hp;obtain ⟨w,hw⟩:∃ w,w=RV.q (b,s,t)+RV.q (c,u,v):=⟨_,rfl⟩;have fin:∀ x:Value,x=(RV.of w).v→x=iK.val ((b,s,t),(c,u,v)):=fun x h=>by rw [h,hw]; rfl
 obtain ⟨x,hx⟩:∃ x,x=RV.den (b,s,t):=⟨_,rfl⟩;obtain ⟨y,hy⟩:∃ y,y=RV.den (c,u,v):=⟨_,rfl⟩;have ex:lU.val (b,s,t)=.agg ⟨[.bool b,.string s,.bool false,.string x]⟩:=by rw [hx]; rfl
 have ey:lU.val (c,u,v)=.agg ⟨[.bool c,.string u,.bool false,.string y]⟩:=by rw [hy]; rfl
 have f1:=RV.mz hp.1;have f2:=RV.mz hp.2;have e2:x5.val (((b,s),(false,x)),((c,u),(false,y)))=(RV.of w).v:=by rw [hx,hy,hw]; exact aaZ (b,s,t) (c,u,v)
 rw [← hx] at f1;rw [← hy] at f2;have e1:=aaW (b,s,t) (c,u,v);have hn:=RV.jT (i:=(b,s,t));have hm:=RV.jT (i:=(c,u,v));rw [← hw] at e1;obtain ⟨n,bM⟩:∃ n,n=RV.n (b,s,t):=⟨_,rfl⟩;obtain ⟨m,bN⟩:∃ n,n=RV.n (c,u,v):=⟨_,rfl⟩;obtain ⟨d,bQ⟩:∃ n,n=RV.d (b,s,t):=⟨_,rfl⟩;obtain ⟨e,cg⟩:∃ n,n=RV.d (c,u,v):=⟨_,rfl⟩;rw [← bM,← bQ] at hn e1;rw [← bN,← cg] at hm e1;conv=>whnf
 refine ⟨(b,s,t),rfl,trivial,?_⟩;by_cases h1:RV.fV (b,s,t)
 ·rw [show bD.val (b,s,t)=.tuple ⟨[.int .i64 n,.int .i64 d,.bool true]⟩ from by simp only [bD,if_pos h1,decide_eq_true h1,bM,bQ]]
  conv=>whnf
  refine ⟨(c,u,v),rfl,trivial,?_⟩;by_cases J:RV.fV (c,u,v)
  ·rw [show bD.val (c,u,v)=.tuple ⟨[.int .i64 m,.int .i64 e,.bool true]⟩ from by simp only [bD,if_pos J,decide_eq_true J,bN,cg]]
   conv=>whnf
   refine ⟨((n,d),(m,e)),rfl,⟨hn h1,hm J⟩,?_⟩;rw [show Dz.val ((n,d),(m,e))=(RV.of w).v from e1]
   conv=>whnf
   exact fin _ rfl
  ·rw [show bD.val (c,u,v)=.tuple ⟨[.int .i64 0,.int .i64 0,.bool false]⟩ from by simp only [bD,if_neg J,decide_eq_false J]]
   conv=>whnf
   refine .inl ⟨5,[[],[],[1],[],[1,2,3],[0,1,2,3,4],[0,1,2,3,4,5]],by kernel_rfl,?_⟩
   conv=>whnf
   refine ⟨(b,s,t),rfl,by have:=hp.1.2; show t.size≤_; exact Nat.le_trans this (by decide),?_⟩
   rw [ex];conv=>whnf
   refine ⟨(c,u,v),rfl,by have:=hp.2.2; show v.size≤_; exact Nat.le_trans this (by decide),?_⟩
   rw [ey];conv=>whnf
   refine ⟨(((b,s),(false,x)),((c,u),(false,y))),rfl,⟨f1,f2⟩,?_⟩;rw [show x5.val (((b,s),(false,x)),((c,u),(false,y)))=(RV.of w).v from e2]
   conv=>whnf
   exact fin _ rfl
 ·rw [show bD.val (b,s,t)=.tuple ⟨[.int .i64 0,.int .i64 0,.bool false]⟩ from by simp only [bD,if_neg h1,decide_eq_false h1]]
  conv=>whnf
  obtain ⟨k1,k2,k3,hk⟩:∃ (k1 k2:Int) (k3:Bool),bD.val (c,u,v)=.tuple ⟨[.int .i64 k1,.int .i64 k2,.bool k3]⟩:=⟨_,_,_,rfl⟩;refine ⟨(c,u,v),rfl,trivial,?_⟩;rw [hk];conv=>whnf
  refine .inl ⟨5,[[],[],[1],[],[1,2,3],[0,1,2,3,4],[0,1,2,3,4,5]],by kernel_rfl,?_⟩
  conv=>whnf
  refine ⟨(b,s,t),rfl,by have:=hp.1.2; show t.size≤_; exact Nat.le_trans this (by decide),?_⟩
  rw [ex];conv=>whnf
  refine ⟨(c,u,v),rfl,by have:=hp.2.2; show v.size≤_; exact Nat.le_trans this (by decide),?_⟩
  rw [ey];conv=>whnf
  refine ⟨(((b,s),(false,x)),((c,u),(false,y))),rfl,⟨f1,f2⟩,?_⟩;rw [show x5.val (((b,s),(false,x)),((c,u),(false,y)))=(RV.of w).v from e2]
  conv=>whnf
  exact fin _ rfl
theorem OV:bg Tryz.prog 37 lK:=by
 refine bk Ir aN Tryz.func37 (enters_of Tryz.func37 (by kernel_rfl) rfl) (fun _=>rfl) (fun _=>rfl) ?_
 intro ⟨⟨b,s,t⟩,⟨c,u,v⟩⟩ hp;have hp:RV.ok (b,s,t)∧RV.ok (c,u,v):=hp;obtain ⟨w,hw⟩:∃ w,w=RV.q (b,s,t)*RV.q (c,u,v):=⟨_,rfl⟩;have fin:∀ x:Value,x=(RV.of w).v→x=lK.val ((b,s,t),(c,u,v)):=fun x h=>by rw [h,hw]; rfl
 obtain ⟨x,hx⟩:∃ x,x=RV.den (b,s,t):=⟨_,rfl⟩;obtain ⟨y,hy⟩:∃ y,y=RV.den (c,u,v):=⟨_,rfl⟩;have ex:lU.val (b,s,t)=.agg ⟨[.bool b,.string s,.bool false,.string x]⟩:=by rw [hx]; rfl
 have ey:lU.val (c,u,v)=.agg ⟨[.bool c,.string u,.bool false,.string y]⟩:=by rw [hy]; rfl
 have f1:=RV.mz hp.1;have f2:=RV.mz hp.2;have e2:x6.val (((b,s),(false,x)),((c,u),(false,y)))=(RV.of w).v:=by rw [hx,hy,hw]; exact aa0 (b,s,t) (c,u,v)
 rw [← hx] at f1;rw [← hy] at f2;have e1:=aaX (b,s,t) (c,u,v);have hn:=RV.jT (i:=(b,s,t));have hm:=RV.jT (i:=(c,u,v));rw [← hw] at e1;obtain ⟨n,bM⟩:∃ n,n=RV.n (b,s,t):=⟨_,rfl⟩;obtain ⟨m,bN⟩:∃ n,n=RV.n (c,u,v):=⟨_,rfl⟩;obtain ⟨d,bQ⟩:∃ n,n=RV.d (b,s,t):=⟨_,rfl⟩;obtain ⟨e,cg⟩:∃ n,n=RV.d (c,u,v):=⟨_,rfl⟩;rw [← bM,← bQ] at hn e1;rw [← bN,← cg] at hm e1;conv=>whnf
 refine ⟨(b,s,t),rfl,trivial,?_⟩;by_cases h1:RV.fV (b,s,t)
 ·rw [show bD.val (b,s,t)=.tuple ⟨[.int .i64 n,.int .i64 d,.bool true]⟩ from by simp only [bD,if_pos h1,decide_eq_true h1,bM,bQ]]
  conv=>whnf
  refine ⟨(c,u,v),rfl,trivial,?_⟩;by_cases J:RV.fV (c,u,v)
  ·rw [show bD.val (c,u,v)=.tuple ⟨[.int .i64 m,.int .i64 e,.bool true]⟩ from by simp only [bD,if_pos J,decide_eq_true J,bN,cg]]
   conv=>whnf
   refine ⟨((n,d),(m,e)),rfl,⟨hn h1,hm J⟩,?_⟩;rw [show DA.val ((n,d),(m,e))=(RV.of w).v from e1]
   conv=>whnf
   exact fin _ rfl
  ·rw [show bD.val (c,u,v)=.tuple ⟨[.int .i64 0,.int .i64 0,.bool false]⟩ from by simp only [bD,if_neg J,decide_eq_false J]]
   conv=>whnf
   refine .inl ⟨5,[[],[],[1],[],[1,2,3],[0,1,2,3,4],[0,1,2,3,4,5]],by kernel_rfl,?_⟩
   conv=>whnf
   refine ⟨(b,s,t),rfl,by have:=hp.1.2; show t.size≤_; exact Nat.le_trans this (by decide),?_⟩
   rw [ex];conv=>whnf
   refine ⟨(c,u,v),rfl,by have:=hp.2.2; show v.size≤_; exact Nat.le_trans this (by decide),?_⟩
   rw [ey];conv=>whnf
   refine ⟨(((b,s),(false,x)),((c,u),(false,y))),rfl,⟨f1,f2⟩,?_⟩;rw [show x6.val (((b,s),(false,x)),((c,u),(false,y)))=(RV.of w).v from e2]
   conv=>whnf
   exact fin _ rfl
 ·rw [show bD.val (b,s,t)=.tuple ⟨[.int .i64 0,.int .i64 0,.bool false]⟩ from by simp only [bD,if_neg h1,decide_eq_false h1]]
  conv=>whnf
  obtain ⟨k1,k2,k3,hk⟩:∃ (k1 k2:Int) (k3:Bool),bD.val (c,u,v)=.tuple ⟨[.int .i64 k1,.int .i64 k2,.bool k3]⟩:=⟨_,_,_,rfl⟩;refine ⟨(c,u,v),rfl,trivial,?_⟩;rw [hk];conv=>whnf
  refine .inl ⟨5,[[],[],[1],[],[1,2,3],[0,1,2,3,4],[0,1,2,3,4,5]],by kernel_rfl,?_⟩
  conv=>whnf
  refine ⟨(b,s,t),rfl,by have:=hp.1.2; show t.size≤_; exact Nat.le_trans this (by decide),?_⟩
  rw [ex];conv=>whnf
  refine ⟨(c,u,v),rfl,by have:=hp.2.2; show v.size≤_; exact Nat.le_trans this (by decide),?_⟩
  rw [ey];conv=>whnf
  refine ⟨(((b,s),(false,x)),((c,u),(false,y))),rfl,⟨f1,f2⟩,?_⟩;rw [show x6.val (((b,s),(false,x)),((c,u),(false,y)))=(RV.of w).v from e2]
  conv=>whnf
  exact fin _ rfl
theorem OW:bg Tryz.prog 35 jR:=by
 refine bk Ir aN Tryz.func35 (enters_of Tryz.func35 (by kernel_rfl) rfl) (fun _=>rfl) (fun _=>rfl) ?_
 intro ⟨⟨b,s,t⟩,⟨c,u,v⟩⟩ hp;have hp:RV.ok (b,s,t)∧RV.ok (c,u,v):=hp;obtain ⟨w,hw⟩:∃ w,w=aZ (RV.q (b,s,t)) (RV.q (c,u,v)):=⟨_,rfl⟩;have fin:∀ x:Value,x=.int .i64 w→x=jR.val ((b,s,t),(c,u,v)):=fun x h=>by rw [h,hw]; rfl
 obtain ⟨x,hx⟩:∃ x,x=RV.den (b,s,t):=⟨_,rfl⟩;obtain ⟨y,hy⟩:∃ y,y=RV.den (c,u,v):=⟨_,rfl⟩;have ex:lU.val (b,s,t)=.agg ⟨[.bool b,.string s,.bool false,.string x]⟩:=by rw [hx]; rfl
 have ey:lU.val (c,u,v)=.agg ⟨[.bool c,.string u,.bool false,.string y]⟩:=by rw [hy]; rfl
 have f1:=RV.mz hp.1;have f2:=RV.mz hp.2;have e2:x7.val (((b,s),(false,x)),((c,u),(false,y)))=.int .i64 w:=by rw [hx,hy,hw]; exact aa1 (b,s,t) (c,u,v)
 rw [← hx] at f1;rw [← hy] at f2;have e1:=aaY (b,s,t) (c,u,v);have hn:=RV.jT (i:=(b,s,t));have hm:=RV.jT (i:=(c,u,v));rw [← hw] at e1;obtain ⟨n,bM⟩:∃ n,n=RV.n (b,s,t):=⟨_,rfl⟩;obtain ⟨m,bN⟩:∃ n,n=RV.n (c,u,v):=⟨_,rfl⟩;obtain ⟨d,bQ⟩:∃ n,n=RV.d (b,s,t):=⟨_,rfl⟩;obtain ⟨e,cg⟩:∃ n,n=RV.d (c,u,v):=⟨_,rfl⟩;rw [← bM,← bQ] at hn e1;rw [← bN,← cg] at hm e1;conv=>whnf
 refine ⟨(b,s,t),rfl,trivial,?_⟩;by_cases h1:RV.fV (b,s,t)
 ·rw [show bD.val (b,s,t)=.tuple ⟨[.int .i64 n,.int .i64 d,.bool true]⟩ from by simp only [bD,if_pos h1,decide_eq_true h1,bM,bQ]]
  conv=>whnf
  refine ⟨(c,u,v),rfl,trivial,?_⟩;by_cases J:RV.fV (c,u,v)
  ·rw [show bD.val (c,u,v)=.tuple ⟨[.int .i64 m,.int .i64 e,.bool true]⟩ from by simp only [bD,if_pos J,decide_eq_true J,bN,cg]]
   conv=>whnf
   refine ⟨((n,d),(m,e)),rfl,⟨hn h1,hm J⟩,?_⟩;rw [show z7.val ((n,d),(m,e))=.int .i64 w from e1]
   conv=>whnf
   exact fin _ rfl
  ·rw [show bD.val (c,u,v)=.tuple ⟨[.int .i64 0,.int .i64 0,.bool false]⟩ from by simp only [bD,if_neg J,decide_eq_false J]]
   conv=>whnf
   refine .inl ⟨5,[[],[],[1],[],[1,2,3],[0,1,2,3,4],[0,1,2,3,4,5]],by kernel_rfl,?_⟩
   conv=>whnf
   refine ⟨(b,s,t),rfl,by have:=hp.1.2; show t.size≤_; exact Nat.le_trans this (by decide),?_⟩
   rw [ex];conv=>whnf
   refine ⟨(c,u,v),rfl,by have:=hp.2.2; show v.size≤_; exact Nat.le_trans this (by decide),?_⟩
   rw [ey];conv=>whnf
   refine ⟨(((b,s),(false,x)),((c,u),(false,y))),rfl,⟨f1,f2⟩,?_⟩;rw [show x7.val (((b,s),(false,x)),((c,u),(false,y)))=.int .i64 w from e2]
   conv=>whnf
   exact fin _ rfl
 ·rw [show bD.val (b,s,t)=.tuple ⟨[.int .i64 0,.int .i64 0,.bool false]⟩ from by simp only [bD,if_neg h1,decide_eq_false h1]]
  conv=>whnf
  obtain ⟨k1,k2,k3,hk⟩:∃ (k1 k2:Int) (k3:Bool),bD.val (c,u,v)=.tuple ⟨[.int .i64 k1,.int .i64 k2,.bool k3]⟩:=⟨_,_,_,rfl⟩;refine ⟨(c,u,v),rfl,trivial,?_⟩;rw [hk];conv=>whnf
  refine .inl ⟨5,[[],[],[1],[],[1,2,3],[0,1,2,3,4],[0,1,2,3,4,5]],by kernel_rfl,?_⟩
  conv=>whnf
  refine ⟨(b,s,t),rfl,by have:=hp.1.2; show t.size≤_; exact Nat.le_trans this (by decide),?_⟩
  rw [ex];conv=>whnf
  refine ⟨(c,u,v),rfl,by have:=hp.2.2; show v.size≤_; exact Nat.le_trans this (by decide),?_⟩
  rw [ey];conv=>whnf
  refine ⟨(((b,s),(false,x)),((c,u),(false,y))),rfl,⟨f1,f2⟩,?_⟩;rw [show x7.val (((b,s),(false,x)),((c,u),(false,y)))=.int .i64 w from e2]
  conv=>whnf
  exact fin _ rfl
open Go Go.Ae
def Eml:Env:=rS [(36,.p iK),(88,.p lU),(86,.p o4),(87,.p lT),(83,.p e9),(130,.p g0)]
theorem Ad:EnvOk Tryz.prog Eml:=tC ⟨xE,HO,Ni,HN,sW,acI,trivial⟩ trivial
theorem xF:bg Tryz.prog 38 gW:=by
 refine bk Ad aN Tryz.func38 (enters_of Tryz.func38 (by kernel_rfl) rfl) (fun _=>rfl) (fun _=>rfl) ?_
 intro ⟨⟨b,s,t⟩,⟨c,u,v⟩⟩ hp;have hp:RV.ok (b,s,t)∧RV.ok (c,u,v):=hp;obtain ⟨w,hw⟩:∃ w,w=RV.q (b,s,t) - RV.q (c,u,v):=⟨_,rfl⟩;conv=>whnf
 refine ⟨((b,s,t),(!c,u,v)),rfl,hp,?_⟩;rw [show iK.val ((b,s,t),(!c,u,v))=(RV.of w).v from by
  rw [hw];show bH (RV.q (b,s,t)+RV.q (!c,u,v))=bH _
  rw [Pk,← Rat.sub_eq_add_neg]]
 conv=>whnf
 show (RV.of w).v=bH _
 rw [hw]
 rfl
theorem GK:bg Tryz.prog 34 iJ:=by
 refine bk Ad aN Tryz.func34 (enters_of Tryz.func34 (by kernel_rfl) rfl) (fun _=>rfl) (fun _=>rfl) ?_
 intro ⟨b,s,t⟩ hp;have hp:RV.ok (b,s,t):=hp;obtain ⟨x,hx⟩:∃ x,x=RV.den (b,s,t):=⟨_,rfl⟩;obtain ⟨w,hw⟩:∃ w,w=aZ (RV.q (b,s,t)) 0:=⟨_,rfl⟩;conv=>whnf
 refine ⟨(b,s,t),rfl,by have:=hp.2; show t.size≤_; exact Nat.le_trans this (by decide),?_⟩
 rw [show lU.val (b,s,t)=.agg ⟨[.bool b,.string s,.bool false,.string x]⟩ from by rw [hx]; rfl]
 conv=>whnf
 refine ⟨((b,s),(false,⟨#[]⟩)),rfl,⟨by have:=hp.1; show s.size≤_; exact Nat.le_trans this (by decide),Nat.zero_le _⟩,?_⟩
 rw [show lT.val ((b,s),(false,⟨#[]⟩))=.int .i64 w from by rw [hw,aa2]; rfl]
 conv=>whnf
 show Value.int .i64 w=_
 rw [hw]
 rfl
theorem zM:bg Tryz.prog 33 mL:=by
 refine bk Ad aN Tryz.func33 (enters_of Tryz.func33 (by kernel_rfl) rfl) (fun _=>rfl) (fun _=>rfl) ?_
 intro (n:Int) hp;have hp:-9223372036854775808≤n∧n < 9223372036854775808:=hp;obtain ⟨w,hw⟩:∃ w:Rat,w=(n:Rat):=⟨_,rfl⟩;obtain ⟨B,m,hE⟩:=EI.mk' n;obtain ⟨k,hF⟩:=EI.iW (show 0≤(1:Int) by decide)
 have hm:=hE.size;have hk:=hF.size;have h8:=uK hp;have h1:=uK r1;conv=>whnf
 refine ⟨n,rfl,hp,?_⟩;rw [show e9.val n=.agg ⟨[.bool B,.string m]⟩ from hE.enc]
 conv=>whnf
 refine ⟨(1:Int),rfl,r1,?_⟩;rw [show e9.val (1:Int)=.agg ⟨[.bool false,.string k]⟩ from hF.enc]
 conv=>whnf
 refine ⟨((B,m),(false,k)),rfl,⟨by show m.size≤_; omega,by show k.size≤_; omega,by show 0 < IV.z (false,k); rw [hF.val]; decide⟩,?_⟩
 rw [show o4.val ((B,m),(false,k))=(RV.of w).v from by
  rw [hw,iz n];show bH (mkRat (IV.z (B,m)) (IV.z (false,k)).natAbs)=_
  rw [hE.val,hF.val]; rfl]
 conv=>whnf
 show (RV.of w).v=bH _
 rw [hw]
 rfl
theorem V2:bg Tryz.prog 129 mY:=by
 refine bk Ad aN Tryz.func129 (enters_of Tryz.func129 (by kernel_rfl) rfl) (fun _=>rfl) (fun _=>rfl) ?_
 intro ⟨b,s,t⟩ hp;have hp:RV.ok (b,s,t):=hp;obtain ⟨⟨c,u,v⟩,hw⟩:∃ w,w=RV.of (RV.q (b,s,t)):=⟨_,rfl⟩;obtain ⟨x,hx⟩:∃ x,x=RV.den (b,s,t):=⟨_,rfl⟩;have f1:=RV.mz hp;have e1:=RV.ae6 (b,s,t);rw [show RV.den (b,s,t)=x from hx.symm] at f1 e1
 have heq:=wH (b,s,t) (c,u,v);conv=>whnf
 refine .inl ⟨4,[[],[],[1],[1,2],[0,1,2,3]],by kernel_rfl,?_⟩
 conv=>whnf
 refine ⟨(b,s,t),rfl,by have:=hp.2; show t.size≤_; exact Nat.le_trans this (by decide),?_⟩
 rw [show lU.val (b,s,t)=.agg ⟨[.bool b,.string s,.bool false,.string x]⟩ from by rw [hx]; rfl]
 conv=>whnf
 refine ⟨((b,s),(false,x)),rfl,⟨Nat.le_trans f1.1.1 (by decide),Nat.le_trans f1.1.2 (by decide),f1.2⟩,?_⟩
 rw [show o4.val ((b,s),(false,x))=RV.v (c,u,v) from by
  rw [hw,e1]; rfl]
 conv=>whnf
 by_cases h:(b,s,t)=(c,u,v)
 ·rw [decide_eq_true h] at heq;refine aM (fun J=>?_) (fun J=>?_)
  ·exfalso;rw [show eL [Value.bool b,.string s,.string t] [.bool c,.string u,.string v]=true from heq] at J
   cases J
  ·conv=>whnf
   show _=Value.int .i64 (if (b,s,t)=RV.of (RV.q (b,s,t)) then 0 else 1)
   rw [← hw,if_pos h]
 ·rw [decide_eq_false h] at heq;refine aM (fun J=>?_) (fun J=>?_)
  ·conv=>whnf
   show _=Value.int .i64 (if (b,s,t)=RV.of (RV.q (b,s,t)) then 0 else 1)
   rw [← hw,if_neg h]
  ·exfalso;rw [show eL [Value.bool b,.string s,.string t] [.bool c,.string u,.string v]=false from heq] at J
   cases J
theorem OX:bg Tryz.prog 82 vk:=by
 refine bk Ad aN Tryz.func82 (enters_of Tryz.func82 (by kernel_rfl) rfl) (fun _=>rfl) (fun _=>rfl) ?_
 intro ⟨⟨b,s⟩,⟨c,t⟩⟩ hp;have hp:s.size≤549755813888∧t.size≤549755813888:=hp;obtain ⟨x,hx⟩:∃ x,x=IV.z (b,s):=⟨_,rfl⟩;obtain ⟨y,hy⟩:∃ y,y=IV.z (c,t):=⟨_,rfl⟩;obtain ⟨w,hw⟩:∃ w,w=Rat.divInt x y:=⟨_,rfl⟩;have ec:lT.val ((c,t),(false,⟨#[]⟩))=.int .i64 (dU y 0):=by rw [hy]; rfl
 have oe:y=0→∀ v,v=bH 0→Value.tuple ⟨[v,.int .i64 10]⟩=vk.val ((b,s),(c,t)):=fun h v hv=>by
  show _=lV (IV.z (b,s)) (IV.z (c,t))
  rw [← hy,hv]; unfold lV; rw [if_pos h,h,Rat.divInt_zero]
 have fin:y≠0→∀ v,v=bH w→Value.tuple ⟨[v,.int .i64 0]⟩=vk.val ((b,s),(c,t)):=fun h v hv=>by
  show _=lV (IV.z (b,s)) (IV.z (c,t))
  rw [← hx,← hy,hv]; unfold lV; rw [if_neg h,hw]
 conv=>whnf
 refine ⟨((c,t),(false,⟨#[]⟩)),rfl,⟨hp.2,Nat.zero_le _⟩,?_⟩;rw [ec];rcases Int.lt_trichotomy y 0 with h | h | h
 ·rw [uH h];obtain ⟨B,m,hE⟩:=EI.mk' (-x);obtain ⟨k,hF⟩:=EI.iW (show 0≤-y by omega)
  have hm:m.size≤549755813888:=by rw [hE.size,Int.natAbs_neg,hx]; exact dK hp.1
  have hk:k.size≤549755813888:=by rw [hF.size,Int.natAbs_neg,hy]; exact dK hp.2
  conv=>whnf
  refine .inl ⟨3,[[],[0],[],[0,1,2],[0,1,2,3],[0,1,2,3,4]],by kernel_rfl,?_⟩
  conv=>whnf
  refine ⟨(b,s),rfl,hp.1,?_⟩;rw [show g0.val (b,s)=.agg ⟨[.bool B,.string m]⟩ from by show aG (-IV.z (b,s))=_; rw [← hx,hE.enc]]
  conv=>whnf
  refine ⟨(c,t),rfl,hp.2,?_⟩;rw [show g0.val (c,t)=.agg ⟨[.bool false,.string k]⟩ from by show aG (-IV.z (c,t))=_; rw [← hy,hF.enc]]
  conv=>whnf
  refine ⟨((B,m),(false,k)),rfl,⟨hm,hk,by show 0 < IV.z (false,k); rw [hF.val]; omega⟩,?_⟩
  rw [show o4.val ((B,m),(false,k))=(RV.of w).v from by
   rw [hw,Ty h];show bH (mkRat (IV.z (B,m)) (IV.z (false,k)).natAbs)=_
   rw [hE.val,hF.val]; rfl]
  conv=>whnf
  exact fin (by omega) _ rfl
 ·rw [h];conv=>whnf
  exact oe h _ adw.symm
 ·rw [uI h];conv=>whnf
  refine ⟨((b,s),(c,t)),rfl,⟨hp.1,hp.2,by show 0 < IV.z (c,t); omega⟩,?_⟩
  rw [show o4.val ((b,s),(c,t))=(RV.of w).v from by
   rw [hw,LZ h,hx,hy]; rfl]
  conv=>whnf
  exact fin (by omega) _ rfl
def Emm:Env:=En [(82,.p vk),(83,.p e9)]
theorem adW:EnvOk Tryz.prog Emm:=bF ⟨OX,sW,trivial⟩ trivial
theorem V3:bg Tryz.prog 30 G7:=by
 refine bk adW aN Tryz.func30 (enters_of Tryz.func30 (by kernel_rfl) rfl) (fun _=>rfl) (fun _=>rfl) ?_
 intro ⟨n,d⟩ hp;have hp:(-9223372036854775808≤n∧n < 9223372036854775808)∧-9223372036854775808≤d∧d < 9223372036854775808:=hp;obtain ⟨B,m,hE⟩:=EI.mk' n;obtain ⟨D,k,hF⟩:=EI.mk' d;have hm:=hE.size;have hk:=hF.size;have h8:=uK hp.1;have h1:=uK hp.2;obtain ⟨q,e,R9⟩:∃ (q:Rat) (e:Int),lV n d=.tuple ⟨[(RV.of q).v,.int .i64 e]⟩:=by
  exact ⟨_,_,rfl⟩
 conv=>whnf
 refine ⟨n,rfl,hp.1,?_⟩;rw [show e9.val n=.agg ⟨[.bool B,.string m]⟩ from hE.enc]
 conv=>whnf
 refine ⟨d,rfl,hp.2,?_⟩;rw [show e9.val d=.agg ⟨[.bool D,.string k]⟩ from hF.enc]
 conv=>whnf
 refine ⟨((B,m),(D,k)),rfl,⟨by show m.size≤_; omega,by show k.size≤_; omega⟩,?_⟩
 rw [show vk.val ((B,m),(D,k))=.tuple ⟨[(RV.of q).v,.int .i64 e]⟩ from by
  show lV (IV.z (B,m)) (IV.z (D,k))=_
  rw [hE.val,hF.val,R9]]
 conv=>whnf
 show Value.tuple ⟨[(RV.of q).v,.int .i64 e]⟩=lV n d
 rw [R9]
open Go Go.Ae
def Eqa:Env:=En [(173,.p jb),(155,.p e9),(175,.p vA),(176,.p iM),(174,.p g0)]
theorem Qh:EnvOk Tryz.prog Eqa:=bF ⟨Hm,zK,aai,aaj,Hl,trivial⟩ trivial
theorem N8:bg Tryz.prog 157 nX:=by
 refine bk Qh aN Tryz.func157 (enters_of Tryz.func157 (by kernel_rfl) rfl) (fun _=>rfl) (fun _=>rfl) ?_
 intro ⟨b,s,t⟩ hp;have hp:s.size≤8589934592∧t.size≤8589934592:=hp;obtain ⟨B,m,hE⟩:=EI.mk' (RV.n (b,s,t));obtain ⟨k,hF⟩:=EI.iW (show 0≤((ab t:Nat):Int) by omega)
 obtain ⟨j,hG⟩:=EI.iW (show 0≤(1:Int) by decide)
 have fin:∀ (v:Value),v=aG ((RV.d (b,s,t):Nat):Int)→Value.tuple ⟨[.agg ⟨[.bool B,.string m]⟩,v]⟩=nX.val (b,s,t):=fun v h=>by
  rw [h,← hE.enc]; rfl
 conv=>whnf
 refine ⟨((b,s),(false,⟨#[]⟩)),rfl,⟨by show s.size≤_; omega,Nat.zero_le _⟩,?_⟩
 rw [show jb.val ((b,s),(false,⟨#[]⟩))=.agg ⟨[.bool B,.string m]⟩ from by
  show aG (IV.z (b,s)+0)=_
  rw [Int.add_zero]; exact hE.enc]
 conv=>whnf
 refine ⟨((false,t),(false,⟨#[]⟩)),rfl,⟨by show t.size≤_; omega,Nat.zero_le _⟩,?_⟩
 rw [show jb.val ((false,t),(false,⟨#[]⟩))=.agg ⟨[.bool false,.string k]⟩ from by
  show aG (((ab t:Nat):Int)+0)=_
  rw [Int.add_zero]; exact hF.enc]
 conv=>whnf
 rw [hF.nil];by_cases h:ab t=0
 ·rw [decide_eq_true (by omega)]
  have fin:=fin (.agg ⟨[.bool false,.string j]⟩) (by rw [← hG.enc]; unfold RV.d; rw [if_pos h]; rfl)
  conv=>whnf
  refine ⟨(1:Int),rfl,r1,?_⟩;rw [show e9.val (1:Int)=.agg ⟨[.bool false,.string j]⟩ from hG.enc]
  conv=>whnf
  refine .inr (.inl ⟨(.br 0 (.br 1 (.br 2 (.br 3 .leaf .leaf) .leaf) (.br 2 (.br 1 (.br 3 .leaf .leaf) .leaf) .leaf)) (.br 1 (.br 0 (.br 2 (.br 3 .leaf .leaf) .leaf) .leaf) .leaf)),by kernel_rfl,?_⟩)
  repeat' ((conv=>whnf); first | exact True.intro | refine And.intro ?_ ?_)
  all_goals conv=>whnf
  all_goals exact fin
 ·rw [decide_eq_false (by omega)]
  have fin:=fin (.agg ⟨[.bool false,.string k]⟩) (by rw [← hF.enc]; unfold RV.d; rw [if_neg h])
  conv=>whnf
  refine .inr (.inl ⟨(.br 0 (.br 1 (.br 2 (.br 3 .leaf .leaf) .leaf) (.br 2 (.br 1 (.br 3 .leaf .leaf) .leaf) .leaf)) (.br 1 (.br 0 (.br 2 (.br 3 .leaf .leaf) .leaf) .leaf) .leaf)),by kernel_rfl,?_⟩)
  repeat' ((conv=>whnf); first | exact True.intro | refine And.intro ?_ ?_)
  all_goals conv=>whnf
  all_goals exact fin
theorem V4:bg Tryz.prog 154 qA:=by
 refine bk Qh aN Tryz.func154 (enters_of Tryz.func154 (by kernel_rfl) rfl) (fun _=>rfl) (fun _=>rfl) ?_
 intro ⟨⟨b,s⟩,⟨c,t⟩⟩ hp;have hp:s.size≤549755813888∧t.size≤549755813888∧0 < IV.z (c,t):=hp;obtain ⟨x,hx⟩:∃ x,x=IV.z (b,s):=⟨_,rfl⟩;obtain ⟨d,hd⟩:∃ d,d=(IV.z (c,t)).natAbs:=⟨_,rfl⟩;have bQ:IV.z (c,t)=((d:Nat):Int):=by omega
 have fE:d≠0:=by omega
 obtain ⟨q,hq⟩:∃ q,q=mkRat x d:=⟨_,rfl⟩;have fin:∀ v:Value,v=bH q→v=qA.val ((b,s),(c,t)):=fun v h=>by rw [h,hq,hx,hd]; rfl
 obtain ⟨B,m,hE⟩:=EI.mk' x;obtain ⟨k,hF⟩:=EI.iW (show 0≤((d:Nat):Int) by omega)
 have eX:aS d≤549755813888:=by rw [hd]; exact IV.aS (i:=(c,t)) hp.2.1
 have rF:m.size≤549755813888:=by rw [hE.size,hx]; exact dK hp.1
 have jA:k.size≤549755813888:=by rw [hF.size,Int.natAbs_natCast]; exact eX
 conv=>whnf
 refine .inl ⟨5,[[],[],[0,1],[],[],[0,1,2,3,4],[0,1,2,3,4,5],[0,1,2,3,4,5,6]],by kernel_rfl,?_⟩
 conv=>whnf
 refine ⟨((b,s),(false,⟨#[]⟩)),rfl,⟨hp.1,Nat.zero_le _⟩,?_⟩;rw [show jb.val ((b,s),(false,⟨#[]⟩))=.agg ⟨[.bool B,.string m]⟩ from by
  show aG (IV.z (b,s)+0)=_
  rw [Int.add_zero,← hx]; exact hE.enc]
 conv=>whnf
 refine ⟨((c,t),(false,⟨#[]⟩)),rfl,⟨hp.2.1,Nat.zero_le _⟩,?_⟩;rw [show jb.val ((c,t),(false,⟨#[]⟩))=.agg ⟨[.bool false,.string k]⟩ from by
  show aG (IV.z (c,t)+0)=_
  rw [Int.add_zero,bQ]; exact hF.enc]
 conv=>whnf
 rw [hE.nil];by_cases h1:x=0
 ·rw [decide_eq_true h1];conv=>whnf
  exact fin _ (by rw [hq,h1]; exact (yW d).symm)
 ·rw [decide_eq_false h1];obtain ⟨g,hg⟩:∃ g,g=Int.gcd x d:=⟨_,rfl⟩;obtain ⟨gs,rT⟩:=EI.iW (show 0≤((g:Nat):Int) by omega)
  obtain ⟨qb,qs,hn⟩:=EI.mk' q.num;obtain ⟨es,he⟩:=EI.iW (show 0≤((q.den:Nat):Int) by omega)
  have nL:((g:Nat):Int)≠0:=by
   have:0 < g:=by rw [hg]; exact Int.gcd_pos_of_ne_zero_left _ h1
   omega
  have Jf:g≤d:=by
   have h3:=(Bx fE hg).2.1;rcases Nat.lt_or_ge d g with h | h
   ·rw [Nat.div_eq_of_lt h] at h3; omega
   ·exact h
  have Bf:gs.size≤549755813888:=by
   rw [rT.size,Int.natAbs_natCast];exact Nat.le_trans (iT Jf) eX
  have Kd:x.fdiv ((g:Nat):Int)=q.num:=by rw [hg,hq]; exact HC x fE
  have rP:((d:Nat):Int).fdiv ((g:Nat):Int)=((q.den:Nat):Int):=by rw [hg,hq]; exact HD x fE
  conv=>whnf
  refine ⟨((B,m),(false,k)),rfl,⟨rF,jA⟩,?_⟩;rw [show vA.val ((B,m),(false,k))=.agg ⟨[.bool false,.string gs]⟩ from by
   show aG ((Int.gcd (IV.z (B,m)) (IV.z (false,k)):Nat):Int)=_
   rw [hE.val,hF.val,← hg,rT.enc]]
  conv=>whnf
  obtain ⟨fb,fs,hf⟩:=EI.mk' (x.fmod ((g:Nat):Int));refine ⟨((B,m),(false,gs)),rfl,⟨rF,Bf⟩,?_⟩;rw [show iM.val ((B,m),(false,gs))=.tuple ⟨[.agg ⟨[.bool qb,.string qs]⟩,.agg ⟨[.bool fb,.string fs]⟩,.int .i64 0]⟩ from by
   simp only [iM,rT.val,hE.val,if_neg nL];rw [Kd,hn.enc,hf.enc]]
  conv=>whnf
  obtain ⟨kb,ks,hk⟩:=EI.mk' (((d:Nat):Int).fmod ((g:Nat):Int));refine ⟨((false,k),(false,gs)),rfl,⟨jA,Bf⟩,?_⟩;rw [show iM.val ((false,k),(false,gs))=.tuple ⟨[.agg ⟨[.bool false,.string es]⟩,.agg ⟨[.bool kb,.string ks]⟩,.int .i64 0]⟩ from by
   simp only [iM,rT.val,hF.val,if_neg nL];rw [rP,he.enc,hk.enc]]
  conv=>whnf
  have enc:∀ y,fw q.den=y→Value.agg ⟨[.bool qb,.string qs,.string y]⟩=bH q:=fun y hy=>by
   unfold bH;rw [← hn.nJ,← hn.sign,hy]
  have ees:es=nb q.den:=he.nJ;have q7:(es.toList == (⟨#[1]⟩:ByteArray).toList)=decide (q.den=1):=by
   rw [qF,ees,show (⟨#[1]⟩:ByteArray)=nb 1 from ae8.symm]
   by_cases h:q.den=1
   ·rw [h]; simp
   ·rw [decide_eq_false h,decide_eq_false (fun e=>h (Pd e))]
  rw [q7];by_cases J:q.den=1
  ·rw [decide_eq_true J];conv=>whnf
   exact fin _ (enc _ (by unfold fw; rw [if_pos J]))
  ·rw [decide_eq_false J];conv=>whnf
   exact fin _ (enc _ (by unfold fw; rw [if_neg J,he.nJ,Int.natAbs_natCast]))
open Go Go.Ae
def Eqb:Env:=rS [(158,.p bD),(172,.p nW),(157,.p nX),(154,.p qA),(155,.p e9),(173,.p jb),(160,.p fu),(159,.p lT)]
theorem Af:EnvOk Tryz.prog Eqb:=tC ⟨XE,XG,N8,V4,zK,Hm,aah,aaf,trivial⟩ trivial
theorem aas:bg Tryz.prog 120 mL:=by
 refine bk Af aN Tryz.func120 (enters_of Tryz.func120 (by kernel_rfl) rfl) (fun _=>rfl) (fun _=>rfl) ?_
 intro (n:Int) hp;have hp:-9223372036854775808≤n∧n < 9223372036854775808:=hp;obtain ⟨w,hw⟩:∃ w:Rat,w=(n:Rat):=⟨_,rfl⟩;obtain ⟨B,m,hE⟩:=EI.mk' n;obtain ⟨k,hF⟩:=EI.iW (show 0≤(1:Int) by decide)
 have hm:=hE.size;have hk:=hF.size;have h8:=uK hp;have h1:=uK r1;conv=>whnf
 refine ⟨n,rfl,hp,?_⟩;rw [show e9.val n=.agg ⟨[.bool B,.string m]⟩ from hE.enc]
 conv=>whnf
 refine ⟨(1:Int),rfl,r1,?_⟩;rw [show e9.val (1:Int)=.agg ⟨[.bool false,.string k]⟩ from hF.enc]
 conv=>whnf
 refine ⟨((B,m),(false,k)),rfl,⟨by show m.size≤_; omega,by show k.size≤_; omega,by show 0 < IV.z (false,k); rw [hF.val]; decide⟩,?_⟩
 rw [show qA.val ((B,m),(false,k))=(RV.of w).v from by
  rw [hw,iz n];show bH (mkRat (IV.z (B,m)) (IV.z (false,k)).natAbs)=_
  rw [hE.val,hF.val]; rfl]
 conv=>whnf
 show (RV.of w).v=bH _
 rw [hw]
 rfl
theorem Nj:bg Tryz.prog 153 zH:=by
 refine bk Af aN Tryz.func153 (enters_of Tryz.func153 (by kernel_rfl) rfl) (fun _=>rfl) (fun _=>rfl) ?_
 intro ⟨b,s,t⟩ hp;have hp:s.size≤8589934592∧t.size≤8589934592:=hp;obtain ⟨w,hw⟩:∃ w,w=RV.q (b,s,t):=⟨_,rfl⟩;have fin:∀ x:Value,x=(RV.of w).v→x=zH.val (b,s,t):=fun x h=>by rw [h,hw]; rfl
 have hn:=RV.jT (i:=(b,s,t));obtain ⟨n,bM⟩:∃ n,n=RV.n (b,s,t):=⟨_,rfl⟩;obtain ⟨d,bQ⟩:∃ n,n=RV.d (b,s,t):=⟨_,rfl⟩;have fE:d≠0:=by rw [bQ]; exact RV.jQ _
 have Sa:w=mkRat n d:=by rw [hw,bM,bQ]; rfl
 conv=>whnf
 refine ⟨(b,s,t),rfl,trivial,?_⟩;by_cases h1:RV.fV (b,s,t)
 ·rw [show bD.val (b,s,t)=.tuple ⟨[.int .i64 n,.int .i64 d,.bool true]⟩ from by simp only [bD,if_pos h1,decide_eq_true h1,bM,bQ]]
  have hn:=hn h1;rw [← bM,← bQ] at hn;have hn:(-16777216 < n∧n < 16777216)∧0 < d∧d < 16777216:=hn;conv=>whnf
  refine ⟨(n,d),rfl,⟨by show n.natAbs < _; omega,by show d≠0; omega,by show d < _; omega⟩,?_⟩
  rw [show nW.val (n,d)=(RV.of w).v from by rw [Sa]; rfl]
  conv=>whnf
  exact fin _ rfl
 ·rw [show bD.val (b,s,t)=.tuple ⟨[.int .i64 0,.int .i64 0,.bool false]⟩ from by simp only [bD,if_neg h1,decide_eq_false h1]]
  obtain ⟨B,m,hE⟩:=EI.mk' n;obtain ⟨k,hF⟩:=EI.iW (show 0≤((d:Nat):Int) by omega)
  have rF:m.size≤8589934592:=by rw [hE.size,bM]; exact dK (b:=b) hp.1
  have jA:k.size≤8589934593:=by
   rw [hF.size,bQ,← RV.jS];exact dK (Nat.le_trans (RV.ss _) (Nat.succ_le_succ hp.2))
  conv=>whnf
  refine ⟨(b,s,t),rfl,hp,?_⟩;rw [show nX.val (b,s,t)=.tuple ⟨[.agg ⟨[.bool B,.string m]⟩,.agg ⟨[.bool false,.string k]⟩]⟩ from by
   rw [← hE.enc,← hF.enc,bM,bQ]; rfl]
  conv=>whnf
  refine ⟨((B,m),(false,k)),rfl,⟨by show m.size≤_; omega,by show k.size≤_; omega,by show 0 < IV.z (false,k); rw [hF.val]; omega⟩,?_⟩
  rw [show qA.val ((B,m),(false,k))=(RV.of w).v from by
   show bH (mkRat (IV.z (B,m)) (IV.z (false,k)).natAbs)=_
   rw [hE.val,hF.val,Sa,Int.natAbs_natCast]; rfl]
  conv=>whnf
  exact fin _ rfl
def Eqc:Env:=rS [(153,.p zH)]
theorem adX:EnvOk Tryz.prog Eqc:=tC ⟨Nj,trivial⟩ trivial
theorem UZ:bg Tryz.prog 119 mY:=by
 refine bk adX aN Tryz.func119 (enters_of Tryz.func119 (by kernel_rfl) rfl) (fun _=>rfl) (fun _=>rfl) ?_
 intro ⟨b,s,t⟩ hp;have hp:RV.ok (b,s,t):=hp;obtain ⟨⟨c,u,v⟩,hw⟩:∃ w,w=RV.of (RV.q (b,s,t)):=⟨_,rfl⟩;have heq:=wH (c,u,v) (b,s,t);conv=>whnf
 refine .inl ⟨3,[[],[0],[],[0,1,2]],by kernel_rfl,?_⟩
 conv=>whnf
 refine ⟨(b,s,t),rfl,hp,?_⟩;rw [show zH.val (b,s,t)=RV.v (c,u,v) from by rw [hw]; rfl]
 conv=>whnf
 by_cases h:(c,u,v)=(b,s,t)
 ·rw [decide_eq_true h] at heq;refine aM (fun J=>?_) (fun J=>?_)
  ·exfalso;rw [show eL [Value.bool c,.string u,.string v] [.bool b,.string s,.string t]=true from heq] at J
   cases J
  ·conv=>whnf
   show _=Value.int .i64 (if (b,s,t)=RV.of (RV.q (b,s,t)) then 0 else 1)
   rw [← hw,if_pos h.symm]
 ·rw [decide_eq_false h] at heq;refine aM (fun J=>?_) (fun J=>?_)
  ·conv=>whnf
   show _=Value.int .i64 (if (b,s,t)=RV.of (RV.q (b,s,t)) then 0 else 1)
   rw [← hw,if_neg (fun e=>h e.symm)]
  ·exfalso;rw [show eL [Value.bool c,.string u,.string v] [.bool b,.string s,.string t]=false from heq] at J
   cases J
open Go Go.Ae
theorem N9:bg Tryz.prog 169 iK:=by
 refine bk Af aN Tryz.func169 (enters_of Tryz.func169 (by kernel_rfl) rfl) (fun _=>rfl) (fun _=>rfl) ?_
 intro ⟨⟨b,s,t⟩,⟨c,u,v⟩⟩ hp;have hp:(s.size≤8589934592∧t.size≤8589934592)∧u.size≤8589934592∧v.size≤8589934592:=hp;have hn:=RV.jT (i:=(b,s,t));have hm:=RV.jT (i:=(c,u,v));obtain ⟨n,bM⟩:∃ n,n=RV.n (b,s,t):=⟨_,rfl⟩;obtain ⟨m,bN⟩:∃ n,n=RV.n (c,u,v):=⟨_,rfl⟩;obtain ⟨d,bQ⟩:∃ n,n=RV.d (b,s,t):=⟨_,rfl⟩;obtain ⟨e,cg⟩:∃ n,n=RV.d (c,u,v):=⟨_,rfl⟩;have fE:d≠0:=by rw [bQ]; exact RV.jQ _
 have Sb:e≠0:=by rw [cg]; exact RV.jQ _
 rw [← bM,← bQ] at hn;rw [← bN,← cg] at hm;obtain ⟨B,p,hP⟩:=EI.mk' n;obtain ⟨q,hQ⟩:=EI.iW (show 0≤((d:Nat):Int) by omega)
 obtain ⟨D,p',mn⟩:=EI.mk' m;obtain ⟨q',kE⟩:=EI.iW (show 0≤((e:Nat):Int) by omega)
 have sn:aS n.natAbs≤8589934593:=by rw [bM]; exact dK (b:=b) (Nat.le_succ_of_le hp.1.1)
 have sm:aS m.natAbs≤8589934593:=by rw [bN]; exact dK (b:=c) (Nat.le_succ_of_le hp.2.1)
 have sd:aS (Int.natAbs ((d:Nat):Int))≤8589934593:=by
  rw [bQ,← RV.jS];exact dK (Nat.le_trans (RV.ss _) (Nat.succ_le_succ hp.1.2))
 have se:aS (Int.natAbs ((e:Nat):Int))≤8589934593:=by
  rw [cg,← RV.jS];exact dK (Nat.le_trans (RV.ss _) (Nat.succ_le_succ hp.2.2))
 have zp:p.size≤8589934593:=by rw [hP.size]; exact sn
 have zq:q.size≤8589934593:=by rw [hQ.size]; exact sd
 have Sc:p'.size≤8589934593:=by rw [mn.size]; exact sm
 have Sd:q'.size≤8589934593:=by rw [kE.size]; exact se
 have pa:nX.val (b,s,t)=.tuple ⟨[.agg ⟨[.bool B,.string p]⟩,.agg ⟨[.bool false,.string q]⟩]⟩:=by
  rw [← hP.enc,← hQ.enc,bM,bQ]; rfl
 have pb:nX.val (c,u,v)=.tuple ⟨[.agg ⟨[.bool D,.string p']⟩,.agg ⟨[.bool false,.string q']⟩]⟩:=by
  rw [← mn.enc,← kE.enc,bN,cg]; rfl
 obtain ⟨w,hw⟩:∃ w,w=mkRat (n*e+m*d) (d*e):=⟨_,rfl⟩;have fin:∀ x:Value,x=(RV.of w).v→x=iK.val ((b,s,t),(c,u,v)):=fun x h=>by
  rw [h,hw,bM,bN,bQ,cg];show bH _=bH (RV.q (b,s,t)+RV.q (c,u,v))
  rw [Ig]
 conv=>whnf
 refine ⟨(b,s,t),rfl,trivial,?_⟩;by_cases h1:RV.fV (b,s,t)
 ·rw [show bD.val (b,s,t)=.tuple ⟨[.int .i64 n,.int .i64 d,.bool true]⟩ from by simp only [bD,if_pos h1,decide_eq_true h1,bM,bQ]]
  conv=>whnf
  refine ⟨(c,u,v),rfl,trivial,?_⟩;by_cases J:RV.fV (c,u,v)
  ·rw [show bD.val (c,u,v)=.tuple ⟨[.int .i64 m,.int .i64 e,.bool true]⟩ from by simp only [bD,if_pos J,decide_eq_true J,bN,cg]]
   have bc:I4.ok ((n,d),(m,e)):=⟨hn h1,hm J⟩;obtain ⟨b1,b2,b3,b4⟩:=I4.bounds bc;simp only at b1 b2 b3 b4;conv=>whnf
   obtain ⟨x,hx⟩:∃ x,x=n*(e:Int):=⟨_,rfl⟩;obtain ⟨y,hy⟩:∃ y,y=m*(d:Int):=⟨_,rfl⟩;obtain ⟨k,hk⟩:∃ k,k=d*e:=⟨_,rfl⟩;rw [← hx] at b1;rw [← hy] at b2;rw [← hk] at b4;have e1:IntKind.i64.wrap (IntKind.i64.wrap (n*(e:Int))+IntKind.i64.wrap (m*(d:Int)))=x+y:=by
    rw [← hx,← hy,ax (x:=x) (by omega) (by omega),ax (x:=y) (by omega) (by omega),ax (by omega) (by omega)]
   have e2:IntKind.i64.wrap ((d:Int)*(e:Int))=(k:Int):=by
    rw [← Int.natCast_mul,← hk,ax (by omega) (by omega)]
   rw [e1,e2];refine ⟨(x+y,k),rfl,⟨by show (x+y).natAbs < _; omega,by show k≠0; omega,by show k < _; omega⟩,?_⟩
   rw [show nW.val (x+y,k)=(RV.of w).v from by rw [hw,hx,hy,hk]; rfl]
   conv=>whnf
   exact fin _ rfl
  ·rw [show bD.val (c,u,v)=.tuple ⟨[.int .i64 0,.int .i64 0,.bool false]⟩ from by simp only [bD,if_neg J,decide_eq_false J]]
   conv=>whnf
   refine ⟨(b,s,t),rfl,hp.1,?_⟩;rw [pa];conv=>whnf
   refine ⟨(c,u,v),rfl,hp.2,?_⟩;rw [pb];obtain ⟨B1,m1,g1⟩:=EI.mk' (n*(e:Int));obtain ⟨B2,m2,g2⟩:=EI.mk' (m*(d:Int));obtain ⟨B3,m3,g3⟩:=EI.mk' (n*(e:Int)+m*(d:Int));obtain ⟨B4,m4,g4⟩:=EI.mk' ((d:Int)*(e:Int));have z1:=g1.gF sn se;have z2:=g2.gF sm sd;have z4:=g4.gF sd se;have z3:m3.size≤17179869187:=g3.Gz (by rw [← g1.size]; omega) (by rw [← g2.size]; omega)
   have lP:(0:Int) < (d:Int)*(e:Int):=Int.mul_pos (by omega) (by omega)
   conv=>whnf
   refine .inl ⟨9,[[],[],[0,1],[],[],[0,1,2,3,4],[0,1,2,3,4,5],[],[],[0,1,2,3,4,5,6,7,8],[0,1,2,3,4,5,6,7,8,9],[0,1,2,3,4,5,6,7,8,9,10]],by kernel_rfl,?_⟩
   conv=>whnf
   refine ⟨((B,p),(false,q')),rfl,⟨by show p.size≤_; omega,by show q'.size≤_; omega⟩,?_⟩
   rw [show fu.val ((B,p),(false,q'))=.agg ⟨[.bool B1,.string m1]⟩ from by show aG (IV.z (B,p)*IV.z (false,q'))=_; rw [hP.val,kE.val,g1.enc]]
   conv=>whnf
   refine ⟨((D,p'),(false,q)),rfl,⟨by show p'.size≤_; omega,by show q.size≤_; omega⟩,?_⟩
   rw [show fu.val ((D,p'),(false,q))=.agg ⟨[.bool B2,.string m2]⟩ from by show aG (IV.z (D,p')*IV.z (false,q))=_; rw [mn.val,hQ.val,g2.enc]]
   conv=>whnf
   refine ⟨((B1,m1),(B2,m2)),rfl,⟨by show m1.size≤_; omega,by show m2.size≤_; omega⟩,?_⟩
   rw [show jb.val ((B1,m1),(B2,m2))=.agg ⟨[.bool B3,.string m3]⟩ from by show aG (IV.z (B1,m1)+IV.z (B2,m2))=_; rw [g1.val,g2.val,g3.enc]]
   conv=>whnf
   refine ⟨((false,q),(false,q')),rfl,⟨by show q.size≤_; omega,by show q'.size≤_; omega⟩,?_⟩
   rw [show fu.val ((false,q),(false,q'))=.agg ⟨[.bool B4,.string m4]⟩ from by show aG (IV.z (false,q)*IV.z (false,q'))=_; rw [hQ.val,kE.val,g4.enc]]
   conv=>whnf
   refine ⟨((B3,m3),(B4,m4)),rfl,⟨by show m3.size≤_; omega,by show m4.size≤_; omega,by show 0 < IV.z (B4,m4); rw [g4.val]; exact lP⟩,?_⟩
   rw [show qA.val ((B3,m3),(B4,m4))=(RV.of w).v from by
    show bH (mkRat (IV.z (B3,m3)) (IV.z (B4,m4)).natAbs)=_
    rw [g3.val,g4.val,hw,← Int.natCast_mul,Int.natAbs_natCast]; rfl]
   conv=>whnf
   exact fin _ rfl
 ·rw [show bD.val (b,s,t)=.tuple ⟨[.int .i64 0,.int .i64 0,.bool false]⟩ from by simp only [bD,if_neg h1,decide_eq_false h1]]
  conv=>whnf
  obtain ⟨k1,k2,k3,hk⟩:∃ (k1 k2:Int) (k3:Bool),bD.val (c,u,v)=.tuple ⟨[.int .i64 k1,.int .i64 k2,.bool k3]⟩:=⟨_,_,_,rfl⟩;refine ⟨(c,u,v),rfl,trivial,?_⟩;rw [hk];conv=>whnf
  refine ⟨(b,s,t),rfl,hp.1,?_⟩;rw [pa];conv=>whnf
  refine ⟨(c,u,v),rfl,hp.2,?_⟩;rw [pb];obtain ⟨B1,m1,g1⟩:=EI.mk' (n*(e:Int));obtain ⟨B2,m2,g2⟩:=EI.mk' (m*(d:Int));obtain ⟨B3,m3,g3⟩:=EI.mk' (n*(e:Int)+m*(d:Int));obtain ⟨B4,m4,g4⟩:=EI.mk' ((d:Int)*(e:Int));have z1:=g1.gF sn se;have z2:=g2.gF sm sd;have z4:=g4.gF sd se;have z3:m3.size≤17179869187:=g3.Gz (by rw [← g1.size]; omega) (by rw [← g2.size]; omega)
  have lP:(0:Int) < (d:Int)*(e:Int):=Int.mul_pos (by omega) (by omega)
  conv=>whnf
  refine .inl ⟨9,[[],[],[0,1],[],[],[0,1,2,3,4],[0,1,2,3,4,5],[],[],[0,1,2,3,4,5,6,7,8],[0,1,2,3,4,5,6,7,8,9],[0,1,2,3,4,5,6,7,8,9,10]],by kernel_rfl,?_⟩
  conv=>whnf
  refine ⟨((B,p),(false,q')),rfl,⟨by show p.size≤_; omega,by show q'.size≤_; omega⟩,?_⟩
  rw [show fu.val ((B,p),(false,q'))=.agg ⟨[.bool B1,.string m1]⟩ from by show aG (IV.z (B,p)*IV.z (false,q'))=_; rw [hP.val,kE.val,g1.enc]]
  conv=>whnf
  refine ⟨((D,p'),(false,q)),rfl,⟨by show p'.size≤_; omega,by show q.size≤_; omega⟩,?_⟩
  rw [show fu.val ((D,p'),(false,q))=.agg ⟨[.bool B2,.string m2]⟩ from by show aG (IV.z (D,p')*IV.z (false,q))=_; rw [mn.val,hQ.val,g2.enc]]
  conv=>whnf
  refine ⟨((B1,m1),(B2,m2)),rfl,⟨by show m1.size≤_; omega,by show m2.size≤_; omega⟩,?_⟩
  rw [show jb.val ((B1,m1),(B2,m2))=.agg ⟨[.bool B3,.string m3]⟩ from by show aG (IV.z (B1,m1)+IV.z (B2,m2))=_; rw [g1.val,g2.val,g3.enc]]
  conv=>whnf
  refine ⟨((false,q),(false,q')),rfl,⟨by show q.size≤_; omega,by show q'.size≤_; omega⟩,?_⟩
  rw [show fu.val ((false,q),(false,q'))=.agg ⟨[.bool B4,.string m4]⟩ from by show aG (IV.z (false,q)*IV.z (false,q'))=_; rw [hQ.val,kE.val,g4.enc]]
  conv=>whnf
  refine ⟨((B3,m3),(B4,m4)),rfl,⟨by show m3.size≤_; omega,by show m4.size≤_; omega,by show 0 < IV.z (B4,m4); rw [g4.val]; exact lP⟩,?_⟩
  rw [show qA.val ((B3,m3),(B4,m4))=(RV.of w).v from by
   show bH (mkRat (IV.z (B3,m3)) (IV.z (B4,m4)).natAbs)=_
   rw [g3.val,g4.val,hw,← Int.natCast_mul,Int.natAbs_natCast]; rfl]
  conv=>whnf
  exact fin _ rfl
theorem Oa:bg Tryz.prog 156 lK:=by
 refine bk Af aN Tryz.func156 (enters_of Tryz.func156 (by kernel_rfl) rfl) (fun _=>rfl) (fun _=>rfl) ?_
 intro ⟨⟨b,s,t⟩,⟨c,u,v⟩⟩ hp;have hp:(s.size≤8589934592∧t.size≤8589934592)∧u.size≤8589934592∧v.size≤8589934592:=hp;have hn:=RV.jT (i:=(b,s,t));have hm:=RV.jT (i:=(c,u,v));obtain ⟨n,bM⟩:∃ n,n=RV.n (b,s,t):=⟨_,rfl⟩;obtain ⟨m,bN⟩:∃ n,n=RV.n (c,u,v):=⟨_,rfl⟩;obtain ⟨d,bQ⟩:∃ n,n=RV.d (b,s,t):=⟨_,rfl⟩;obtain ⟨e,cg⟩:∃ n,n=RV.d (c,u,v):=⟨_,rfl⟩;have fE:d≠0:=by rw [bQ]; exact RV.jQ _
 have Sb:e≠0:=by rw [cg]; exact RV.jQ _
 rw [← bM,← bQ] at hn;rw [← bN,← cg] at hm;obtain ⟨B,p,hP⟩:=EI.mk' n;obtain ⟨q,hQ⟩:=EI.iW (show 0≤((d:Nat):Int) by omega)
 obtain ⟨D,p',mn⟩:=EI.mk' m;obtain ⟨q',kE⟩:=EI.iW (show 0≤((e:Nat):Int) by omega)
 have sn:aS n.natAbs≤8589934593:=by rw [bM]; exact dK (b:=b) (Nat.le_succ_of_le hp.1.1)
 have sm:aS m.natAbs≤8589934593:=by rw [bN]; exact dK (b:=c) (Nat.le_succ_of_le hp.2.1)
 have sd:aS (Int.natAbs ((d:Nat):Int))≤8589934593:=by
  rw [bQ,← RV.jS];exact dK (Nat.le_trans (RV.ss _) (Nat.succ_le_succ hp.1.2))
 have se:aS (Int.natAbs ((e:Nat):Int))≤8589934593:=by
  rw [cg,← RV.jS];exact dK (Nat.le_trans (RV.ss _) (Nat.succ_le_succ hp.2.2))
 have zp:p.size≤8589934593:=by rw [hP.size]; exact sn
 have zq:q.size≤8589934593:=by rw [hQ.size]; exact sd
 have Sc:p'.size≤8589934593:=by rw [mn.size]; exact sm
 have Sd:q'.size≤8589934593:=by rw [kE.size]; exact se
 have pa:nX.val (b,s,t)=.tuple ⟨[.agg ⟨[.bool B,.string p]⟩,.agg ⟨[.bool false,.string q]⟩]⟩:=by
  rw [← hP.enc,← hQ.enc,bM,bQ]; rfl
 have pb:nX.val (c,u,v)=.tuple ⟨[.agg ⟨[.bool D,.string p']⟩,.agg ⟨[.bool false,.string q']⟩]⟩:=by
  rw [← mn.enc,← kE.enc,bN,cg]; rfl
 obtain ⟨w,hw⟩:∃ w,w=mkRat (n*m) (d*e):=⟨_,rfl⟩;have fin:∀ x:Value,x=(RV.of w).v→x=lK.val ((b,s,t),(c,u,v)):=fun x h=>by
  rw [h,hw,bM,bN,bQ,cg];show bH _=bH (RV.q (b,s,t)*RV.q (c,u,v))
  rw [Ih]
 conv=>whnf
 refine ⟨(b,s,t),rfl,trivial,?_⟩;by_cases h1:RV.fV (b,s,t)
 ·rw [show bD.val (b,s,t)=.tuple ⟨[.int .i64 n,.int .i64 d,.bool true]⟩ from by simp only [bD,if_pos h1,decide_eq_true h1,bM,bQ]]
  conv=>whnf
  refine ⟨(c,u,v),rfl,trivial,?_⟩;by_cases J:RV.fV (c,u,v)
  ·rw [show bD.val (c,u,v)=.tuple ⟨[.int .i64 m,.int .i64 e,.bool true]⟩ from by simp only [bD,if_pos J,decide_eq_true J,bN,cg]]
   have bc:I4.ok ((n,d),(m,e)):=⟨hn h1,hm J⟩;obtain ⟨b1,b2,b3,b4⟩:=I4.bounds bc;simp only at b1 b2 b3 b4;conv=>whnf
   obtain ⟨x,hx⟩:∃ x,x=n*m:=⟨_,rfl⟩;obtain ⟨k,hk⟩:∃ k,k=d*e:=⟨_,rfl⟩;rw [← hx] at b3;rw [← hk] at b4;have e1:IntKind.i64.wrap (n*m)=x:=by
    rw [← hx,ax (x:=x) (by omega) (by omega)]
   have e2:IntKind.i64.wrap ((d:Int)*(e:Int))=(k:Int):=by
    rw [← Int.natCast_mul,← hk,ax (by omega) (by omega)]
   rw [e1,e2];refine ⟨(x,k),rfl,⟨by show x.natAbs < _; omega,by show k≠0; omega,by show k < _; omega⟩,?_⟩
   rw [show nW.val (x,k)=(RV.of w).v from by rw [hw,hx,hk]; rfl]
   conv=>whnf
   exact fin _ rfl
  ·rw [show bD.val (c,u,v)=.tuple ⟨[.int .i64 0,.int .i64 0,.bool false]⟩ from by simp only [bD,if_neg J,decide_eq_false J]]
   conv=>whnf
   refine ⟨(b,s,t),rfl,hp.1,?_⟩;rw [pa];conv=>whnf
   refine ⟨(c,u,v),rfl,hp.2,?_⟩;rw [pb];obtain ⟨B1,m1,g1⟩:=EI.mk' (n*m);obtain ⟨B4,m4,g4⟩:=EI.mk' ((d:Int)*(e:Int));have z1:=g1.gF sn sm;have z4:=g4.gF sd se;have lP:(0:Int) < (d:Int)*(e:Int):=Int.mul_pos (by omega) (by omega)
   conv=>whnf
   refine .inl ⟨5,[[],[],[0,1],[],[],[0,1,2,3,4],[0,1,2,3,4,5],[0,1,2,3,4,5,6]],by kernel_rfl,?_⟩
   conv=>whnf
   refine ⟨((B,p),(D,p')),rfl,⟨by show p.size≤_; omega,by show p'.size≤_; omega⟩,?_⟩
   rw [show fu.val ((B,p),(D,p'))=.agg ⟨[.bool B1,.string m1]⟩ from by show aG (IV.z (B,p)*IV.z (D,p'))=_; rw [hP.val,mn.val,g1.enc]]
   conv=>whnf
   refine ⟨((false,q),(false,q')),rfl,⟨by show q.size≤_; omega,by show q'.size≤_; omega⟩,?_⟩
   rw [show fu.val ((false,q),(false,q'))=.agg ⟨[.bool B4,.string m4]⟩ from by show aG (IV.z (false,q)*IV.z (false,q'))=_; rw [hQ.val,kE.val,g4.enc]]
   conv=>whnf
   refine ⟨((B1,m1),(B4,m4)),rfl,⟨by show m1.size≤_; omega,by show m4.size≤_; omega,by show 0 < IV.z (B4,m4); rw [g4.val]; exact lP⟩,?_⟩
   rw [show qA.val ((B1,m1),(B4,m4))=(RV.of w).v from by
    show bH (mkRat (IV.z (B1,m1)) (IV.z (B4,m4)).natAbs)=_
    rw [g1.val,g4.val,hw,← Int.natCast_mul,Int.natAbs_natCast]; rfl]
   conv=>whnf
   exact fin _ rfl
 ·rw [show bD.val (b,s,t)=.tuple ⟨[.int .i64 0,.int .i64 0,.bool false]⟩ from by simp only [bD,if_neg h1,decide_eq_false h1]]
  conv=>whnf
  obtain ⟨k1,k2,k3,hk⟩:∃ (k1 k2:Int) (k3:Bool),bD.val (c,u,v)=.tuple ⟨[.int .i64 k1,.int .i64 k2,.bool k3]⟩:=⟨_,_,_,rfl⟩;refine ⟨(c,u,v),rfl,trivial,?_⟩;rw [hk];conv=>whnf
  refine ⟨(b,s,t),rfl,hp.1,?_⟩;rw [pa];conv=>whnf
  refine ⟨(c,u,v),rfl,hp.2,?_⟩;rw [pb];obtain ⟨B1,m1,g1⟩:=EI.mk' (n*m);obtain ⟨B4,m4,g4⟩:=EI.mk' ((d:Int)*(e:Int));have z1:=g1.gF sn sm;have z4:=g4.gF sd se;have lP:(0:Int) < (d:Int)*(e:Int):=Int.mul_pos (by omega) (by omega)
  conv=>whnf
  refine .inl ⟨5,[[],[],[0,1],[],[],[0,1,2,3,4],[0,1,2,3,4,5],[0,1,2,3,4,5,6]],by kernel_rfl,?_⟩
  conv=>whnf
  refine ⟨((B,p),(D,p')),rfl,⟨by show p.size≤_; omega,by show p'.size≤_; omega⟩,?_⟩
  rw [show fu.val ((B,p),(D,p'))=.agg ⟨[.bool B1,.string m1]⟩ from by show aG (IV.z (B,p)*IV.z (D,p'))=_; rw [hP.val,mn.val,g1.enc]]
  conv=>whnf
  refine ⟨((false,q),(false,q')),rfl,⟨by show q.size≤_; omega,by show q'.size≤_; omega⟩,?_⟩
  rw [show fu.val ((false,q),(false,q'))=.agg ⟨[.bool B4,.string m4]⟩ from by show aG (IV.z (false,q)*IV.z (false,q'))=_; rw [hQ.val,kE.val,g4.enc]]
  conv=>whnf
  refine ⟨((B1,m1),(B4,m4)),rfl,⟨by show m1.size≤_; omega,by show m4.size≤_; omega,by show 0 < IV.z (B4,m4); rw [g4.val]; exact lP⟩,?_⟩
  rw [show qA.val ((B1,m1),(B4,m4))=(RV.of w).v from by
   show bH (mkRat (IV.z (B1,m1)) (IV.z (B4,m4)).natAbs)=_
   rw [g1.val,g4.val,hw,← Int.natCast_mul,Int.natAbs_natCast]; rfl]
  conv=>whnf
  exact fin _ rfl
theorem GL:bg Tryz.prog 128 jR:=by
 refine bk Af aN Tryz.func128 (enters_of Tryz.func128 (by kernel_rfl) rfl) (fun _=>rfl) (fun _=>rfl) ?_
 intro ⟨⟨b,s,t⟩,⟨c,u,v⟩⟩ hp;have hp:(s.size≤8589934592∧t.size≤8589934592)∧u.size≤8589934592∧v.size≤8589934592:=hp;have hn:=RV.jT (i:=(b,s,t));have hm:=RV.jT (i:=(c,u,v));obtain ⟨n,bM⟩:∃ n,n=RV.n (b,s,t):=⟨_,rfl⟩;obtain ⟨m,bN⟩:∃ n,n=RV.n (c,u,v):=⟨_,rfl⟩;obtain ⟨d,bQ⟩:∃ n,n=RV.d (b,s,t):=⟨_,rfl⟩;obtain ⟨e,cg⟩:∃ n,n=RV.d (c,u,v):=⟨_,rfl⟩;have fE:d≠0:=by rw [bQ]; exact RV.jQ _
 have Sb:e≠0:=by rw [cg]; exact RV.jQ _
 rw [← bM,← bQ] at hn;rw [← bN,← cg] at hm;obtain ⟨B,p,hP⟩:=EI.mk' n;obtain ⟨q,hQ⟩:=EI.iW (show 0≤((d:Nat):Int) by omega)
 obtain ⟨D,p',mn⟩:=EI.mk' m;obtain ⟨q',kE⟩:=EI.iW (show 0≤((e:Nat):Int) by omega)
 have sn:aS n.natAbs≤8589934593:=by rw [bM]; exact dK (b:=b) (Nat.le_succ_of_le hp.1.1)
 have sm:aS m.natAbs≤8589934593:=by rw [bN]; exact dK (b:=c) (Nat.le_succ_of_le hp.2.1)
 have sd:aS (Int.natAbs ((d:Nat):Int))≤8589934593:=by
  rw [bQ,← RV.jS];exact dK (Nat.le_trans (RV.ss _) (Nat.succ_le_succ hp.1.2))
 have se:aS (Int.natAbs ((e:Nat):Int))≤8589934593:=by
  rw [cg,← RV.jS];exact dK (Nat.le_trans (RV.ss _) (Nat.succ_le_succ hp.2.2))
 have zp:p.size≤8589934593:=by rw [hP.size]; exact sn
 have zq:q.size≤8589934593:=by rw [hQ.size]; exact sd
 have Sc:p'.size≤8589934593:=by rw [mn.size]; exact sm
 have Sd:q'.size≤8589934593:=by rw [kE.size]; exact se
 have pa:nX.val (b,s,t)=.tuple ⟨[.agg ⟨[.bool B,.string p]⟩,.agg ⟨[.bool false,.string q]⟩]⟩:=by
  rw [← hP.enc,← hQ.enc,bM,bQ]; rfl
 have pb:nX.val (c,u,v)=.tuple ⟨[.agg ⟨[.bool D,.string p']⟩,.agg ⟨[.bool false,.string q']⟩]⟩:=by
  rw [← mn.enc,← kE.enc,bN,cg]; rfl
 obtain ⟨w,hw⟩:∃ w,w=dU (n*e) (m*d):=⟨_,rfl⟩;have fin:∀ x:Int,x=w→Value.int .i64 x=jR.val ((b,s,t),(c,u,v)):=fun x h=>by
  rw [h,hw,bM,bN,bQ,cg];show Value.int .i64 _=.int .i64 (aZ (RV.q (b,s,t)) (RV.q (c,u,v)))
  rw [Dy]
 conv=>whnf
 refine ⟨(b,s,t),rfl,trivial,?_⟩;by_cases h1:RV.fV (b,s,t)
 ·rw [show bD.val (b,s,t)=.tuple ⟨[.int .i64 n,.int .i64 d,.bool true]⟩ from by simp only [bD,if_pos h1,decide_eq_true h1,bM,bQ]]
  conv=>whnf
  refine ⟨(c,u,v),rfl,trivial,?_⟩;by_cases J:RV.fV (c,u,v)
  ·rw [show bD.val (c,u,v)=.tuple ⟨[.int .i64 m,.int .i64 e,.bool true]⟩ from by simp only [bD,if_pos J,decide_eq_true J,bN,cg]]
   have bc:I4.ok ((n,d),(m,e)):=⟨hn h1,hm J⟩;obtain ⟨b1,b2,b3,b4⟩:=I4.bounds bc;simp only at b1 b2 b3 b4;conv=>whnf
   obtain ⟨x,hx⟩:∃ x,x=n*(e:Int):=⟨_,rfl⟩;obtain ⟨y,hy⟩:∃ y,y=m*(d:Int):=⟨_,rfl⟩;rw [← hx] at b1;rw [← hy] at b2;have e1:IntKind.i64.wrap (n*(e:Int))=x:=by rw [← hx,ax (x:=x) (by omega) (by omega)]
   have e2:IntKind.i64.wrap (m*(d:Int))=y:=by rw [← hy,ax (x:=y) (by omega) (by omega)]
   rw [← hx,← hy] at hw;rw [e1,e2];refine aM (fun h=>?_) (fun h=>?_)
   ·have h:=of_decide_eq_true h;conv=>whnf
    exact fin _ (hw.trans (uH h)).symm
   ·have h:=of_decide_eq_false h;conv=>whnf
    rw [e1,e2];refine aM (fun h5=>?_) (fun h5=>?_)
    ·have h5:=of_decide_eq_true h5;conv=>whnf
     exact fin _ (hw.trans (uI h5)).symm
    ·have h5:=of_decide_eq_false h5;conv=>whnf
     refine fin _ ?_;rw [hw];unfold dU;rw [if_neg h,if_neg (show ¬ y < x from h5)]
  ·rw [show bD.val (c,u,v)=.tuple ⟨[.int .i64 0,.int .i64 0,.bool false]⟩ from by simp only [bD,if_neg J,decide_eq_false J]]
   conv=>whnf
   refine ⟨(b,s,t),rfl,hp.1,?_⟩;rw [pa];conv=>whnf
   refine ⟨(c,u,v),rfl,hp.2,?_⟩;rw [pb];obtain ⟨B1,m1,g1⟩:=EI.mk' (n*(e:Int));obtain ⟨B2,m2,g2⟩:=EI.mk' (m*(d:Int));have z1:=g1.gF sn se;have z2:=g2.gF sm sd;conv=>whnf
   refine .inl ⟨5,[[],[],[0,1],[],[],[0,1,2,3,4],[0,1,2,3,4,5],[0,1,2,3,4,5,6]],by kernel_rfl,?_⟩
   conv=>whnf
   refine ⟨((B,p),(false,q')),rfl,⟨by show p.size≤_; omega,by show q'.size≤_; omega⟩,?_⟩
   rw [show fu.val ((B,p),(false,q'))=.agg ⟨[.bool B1,.string m1]⟩ from by show aG (IV.z (B,p)*IV.z (false,q'))=_; rw [hP.val,kE.val,g1.enc]]
   conv=>whnf
   refine ⟨((D,p'),(false,q)),rfl,⟨by show p'.size≤_; omega,by show q.size≤_; omega⟩,?_⟩
   rw [show fu.val ((D,p'),(false,q))=.agg ⟨[.bool B2,.string m2]⟩ from by show aG (IV.z (D,p')*IV.z (false,q))=_; rw [mn.val,hQ.val,g2.enc]]
   conv=>whnf
   refine ⟨((B1,m1),(B2,m2)),rfl,⟨by show m1.size≤_; omega,by show m2.size≤_; omega⟩,?_⟩
   rw [show lT.val ((B1,m1),(B2,m2))=.int .i64 w from by show Value.int .i64 (dU (IV.z (B1,m1)) (IV.z (B2,m2)))=_; rw [g1.val,g2.val,hw]]
   conv=>whnf
   exact fin _ rfl
 ·rw [show bD.val (b,s,t)=.tuple ⟨[.int .i64 0,.int .i64 0,.bool false]⟩ from by simp only [bD,if_neg h1,decide_eq_false h1]]
  conv=>whnf
  obtain ⟨k1,k2,k3,hk⟩:∃ (k1 k2:Int) (k3:Bool),bD.val (c,u,v)=.tuple ⟨[.int .i64 k1,.int .i64 k2,.bool k3]⟩:=⟨_,_,_,rfl⟩;refine ⟨(c,u,v),rfl,trivial,?_⟩;rw [hk];conv=>whnf
  refine ⟨(b,s,t),rfl,hp.1,?_⟩;rw [pa];conv=>whnf
  refine ⟨(c,u,v),rfl,hp.2,?_⟩;rw [pb];obtain ⟨B1,m1,g1⟩:=EI.mk' (n*(e:Int));obtain ⟨B2,m2,g2⟩:=EI.mk' (m*(d:Int));have z1:=g1.gF sn se;have z2:=g2.gF sm sd;conv=>whnf
  refine .inl ⟨5,[[],[],[0,1],[],[],[0,1,2,3,4],[0,1,2,3,4,5],[0,1,2,3,4,5,6]],by kernel_rfl,?_⟩
  conv=>whnf
  refine ⟨((B,p),(false,q')),rfl,⟨by show p.size≤_; omega,by show q'.size≤_; omega⟩,?_⟩
  rw [show fu.val ((B,p),(false,q'))=.agg ⟨[.bool B1,.string m1]⟩ from by show aG (IV.z (B,p)*IV.z (false,q'))=_; rw [hP.val,kE.val,g1.enc]]
  conv=>whnf
  refine ⟨((D,p'),(false,q)),rfl,⟨by show p'.size≤_; omega,by show q.size≤_; omega⟩,?_⟩
  rw [show fu.val ((D,p'),(false,q))=.agg ⟨[.bool B2,.string m2]⟩ from by show aG (IV.z (D,p')*IV.z (false,q))=_; rw [mn.val,hQ.val,g2.enc]]
  conv=>whnf
  refine ⟨((B1,m1),(B2,m2)),rfl,⟨by show m1.size≤_; omega,by show m2.size≤_; omega⟩,?_⟩
  rw [show lT.val ((B1,m1),(B2,m2))=.int .i64 w from by show Value.int .i64 (dU (IV.z (B1,m1)) (IV.z (B2,m2)))=_; rw [g1.val,g2.val,hw]]
  conv=>whnf
  exact fin _ rfl
def Eqd:Env:=En [(169,.p iK),(128,.p jR)]
theorem adY:EnvOk Tryz.prog Eqd:=bF ⟨N9,GL,trivial⟩ trivial
theorem XJ:bg Tryz.prog 146 gW:=by
 refine bk adY aN Tryz.func146 (enters_of Tryz.func146 (by kernel_rfl) rfl) (fun _=>rfl) (fun _=>rfl) ?_
 intro ⟨⟨b,s,t⟩,⟨c,u,v⟩⟩ hp;have hp:RV.ok (b,s,t)∧RV.ok (c,u,v):=hp;obtain ⟨w,hw⟩:∃ w,w=RV.q (b,s,t) - RV.q (c,u,v):=⟨_,rfl⟩;conv=>whnf
 refine ⟨((b,s,t),(!c,u,v)),rfl,hp,?_⟩;rw [show iK.val ((b,s,t),(!c,u,v))=(RV.of w).v from by
  rw [hw];show bH (RV.q (b,s,t)+RV.q (!c,u,v))=bH _
  rw [Pk,← Rat.sub_eq_add_neg]]
 conv=>whnf
 show (RV.of w).v=bH _
 rw [hw]
 rfl
open Go Go.Ae
def Ke:Env:=En [(36,.p iK),(38,.p gW),(37,.p lK)]
theorem adZ:EnvOk Tryz.prog Ke:=bF ⟨xE,xF,OV,trivial⟩ trivial
theorem aat:gj Tryz.prog 81 (b9 Ke cF Tryz.f81):=by
 exact js adZ aN Tryz.func81 (enters_of Tryz.func81 (by kernel_rfl) rfl)
def Evb:Env:=En [(33,.p mL),(36,.p iK),(38,.p gW),(35,.p jR),(129,.p mY)] [(81,b9 Ke cF Tryz.f81)]
theorem vp:EnvOk Tryz.prog Evb:=bF ⟨zM,xE,xF,OW,V2,trivial⟩ ⟨aat,trivial⟩
def Evr:Env:=En [(120,.p mL),(169,.p iK),(146,.p gW),(156,.p lK),(128,.p jR),(119,.p mY),(153,.p zH)]
theorem DJ:EnvOk Tryz.prog Evr:=bF ⟨aas,N9,XJ,Oa,GL,UZ,Nj,trivial⟩ trivial
theorem PD:bg Tryz.prog 55 rf:=by
 refine bk vp aN Tryz.func55 (enters_of Tryz.func55 (by kernel_rfl) rfl) (fun _=>rfl) (fun _=>rfl) ?_
 intro ⟨n,m⟩ hp;have hp:v8 n∧v8 m:=hp;obtain ⟨x,hx⟩:∃ x:Rat,x=(n:Rat):=⟨_,rfl⟩;obtain ⟨y,hy⟩:∃ x:Rat,x=(m:Rat):=⟨_,rfl⟩;conv=>whnf
 refine ⟨n,rfl,hp.1,?_⟩;rw [show mL.val n=(RV.of x).v from by rw [hx]; rfl]
 conv=>whnf
 refine ⟨m,rfl,hp.2,?_⟩;rw [show mL.val m=(RV.of y).v from by rw [hy]; rfl]
 conv=>whnf
 show PV.v (RV.of x,RV.of y)=mM _ _
 rw [hx,hy]
 rfl
theorem aau:bg Tryz.prog 29 Ii:=by
 refine bk vp aN Tryz.func29 (enters_of Tryz.func29 (by kernel_rfl) rfl) (fun _=>rfl) (fun _=>rfl) ?_
 intro ⟨p,q⟩ hp;have hp:p.sz 8589934592∧q.sz 8589934592:=hp;obtain ⟨x,hx⟩:∃ x,x=p.1.q+q.1.q:=⟨_,rfl⟩;obtain ⟨y,hy⟩:∃ x,x=p.2.q+q.2.q:=⟨_,rfl⟩;conv=>whnf
 refine .inl ⟨11,[[],[],[1],[],[3],[0,1,2,3,4],[],[],[7],[],[9],[0,1,2,3,4,5,6,7,8,9,10],[0,1,2,3,4,5,6,7,8,9,10,11],[0,1,2,3,4,5,6,7,8,9,10,11,12]],by kernel_rfl,?_⟩
 conv=>whnf
 refine ⟨(p.1,q.1),rfl,⟨hp.1.1,hp.2.1⟩,?_⟩;rw [show iK.val (p.1,q.1)=(RV.of x).v from by rw [hx]; rfl]
 conv=>whnf
 refine ⟨(p.2,q.2),rfl,⟨hp.1.2,hp.2.2⟩,?_⟩;rw [show iK.val (p.2,q.2)=(RV.of y).v from by rw [hy]; rfl]
 conv=>whnf
 show PV.v (RV.of x,RV.of y)=mM _ _
 rw [hx,hy]
 rfl
theorem CV:bg Tryz.prog 85 kQ:=by
 refine bk vp aN Tryz.func85 (enters_of Tryz.func85 (by kernel_rfl) rfl) (fun _=>rfl) (fun _=>rfl) ?_
 intro ⟨p,q⟩ hp;have hp:p.sz 8589934592∧q.sz 8589934592:=hp;obtain ⟨x,hx⟩:∃ x,x=p.1.q - q.1.q:=⟨_,rfl⟩;obtain ⟨y,hy⟩:∃ x,x=p.2.q - q.2.q:=⟨_,rfl⟩;conv=>whnf
 refine .inl ⟨11,[[],[],[1],[],[3],[0,1,2,3,4],[],[],[7],[],[9],[0,1,2,3,4,5,6,7,8,9,10],[0,1,2,3,4,5,6,7,8,9,10,11],[0,1,2,3,4,5,6,7,8,9,10,11,12]],by kernel_rfl,?_⟩
 conv=>whnf
 refine ⟨(p.1,q.1),rfl,⟨hp.1.1,hp.2.1⟩,?_⟩;rw [show gW.val (p.1,q.1)=(RV.of x).v from by rw [hx]; rfl]
 conv=>whnf
 refine ⟨(p.2,q.2),rfl,⟨hp.1.2,hp.2.2⟩,?_⟩;rw [show gW.val (p.2,q.2)=(RV.of y).v from by rw [hy]; rfl]
 conv=>whnf
 show PV.v (RV.of x,RV.of y)=mM _ _
 rw [hx,hy]
 rfl
theorem XL:bg Tryz.prog 121 kQ:=by
 refine bk DJ aN Tryz.func121 (enters_of Tryz.func121 (by kernel_rfl) rfl) (fun _=>rfl) (fun _=>rfl) ?_
 intro ⟨p,q⟩ hp;have hp:p.sz 8589934592∧q.sz 8589934592:=hp;obtain ⟨x,hx⟩:∃ x,x=p.1.q - q.1.q:=⟨_,rfl⟩;obtain ⟨y,hy⟩:∃ x,x=p.2.q - q.2.q:=⟨_,rfl⟩;conv=>whnf
 refine .inl ⟨9,[[],[0],[],[2],[0,1,2,3],[],[5],[],[7],[0,1,2,3,4,5,6,7,8],[0,1,2,3,4,5,6,7,8,9],[0,1,2,3,4,5,6,7,8,9,10]],by kernel_rfl,?_⟩
 conv=>whnf
 refine ⟨(p.1,q.1),rfl,⟨hp.1.1,hp.2.1⟩,?_⟩;rw [show gW.val (p.1,q.1)=(RV.of x).v from by rw [hx]; rfl]
 conv=>whnf
 refine ⟨(p.2,q.2),rfl,⟨hp.1.2,hp.2.2⟩,?_⟩;rw [show gW.val (p.2,q.2)=(RV.of y).v from by rw [hy]; rfl]
 conv=>whnf
 show PV.v (RV.of x,RV.of y)=mM _ _
 rw [hx,hy]
 rfl
theorem V5:bg Tryz.prog 31 G8:=by
 refine bk vp aN Tryz.func31 (enters_of Tryz.func31 (by kernel_rfl) rfl) (fun _=>rfl) (fun _=>rfl) ?_
 intro ⟨p,q⟩ hp;have hp:p.sz 8589934592∧q.sz 8589934592:=hp;obtain ⟨x,hx⟩:∃ x,x=p.1.q*q.q:=⟨_,rfl⟩;obtain ⟨y,hy⟩:∃ x,x=p.2.q*q.q:=⟨_,rfl⟩;conv=>whnf
 refine .inl ⟨11,[[],[],[1],[],[3],[0,1,2,3,4],[],[],[7],[],[9],[0,1,2,3,4,5,6,7,8,9,10],[0,1,2,3,4,5,6,7,8,9,10,11],[0,1,2,3,4,5,6,7,8,9,10,11,12]],by kernel_rfl,?_⟩
 conv=>whnf
 refine ⟨(p.1,q),rfl,⟨hp.1.1,hp.2⟩,?_⟩;rw [show lK.val (p.1,q)=(RV.of x).v from by rw [hx]; rfl]
 conv=>whnf
 refine ⟨(p.2,q),rfl,⟨hp.1.2,hp.2⟩,?_⟩;rw [show lK.val (p.2,q)=(RV.of y).v from by rw [hy]; rfl]
 conv=>whnf
 show PV.v (RV.of x,RV.of y)=mM _ _
 rw [hx,hy]
 rfl
theorem Gg:bg Tryz.prog 84 nS:=by
 refine bk vp aN Tryz.func84 (enters_of Tryz.func84 (by kernel_rfl) rfl) (fun _=>rfl) (fun _=>rfl) ?_
 intro ⟨p,q⟩ hp;have hp:p.sz 1073741824∧q.sz 1073741824:=hp;obtain ⟨x,hx⟩:∃ x,x=p.1.q*q.2.q:=⟨_,rfl⟩;obtain ⟨y,hy⟩:∃ x,x=p.2.q*q.1.q:=⟨_,rfl⟩;obtain ⟨z,hz⟩:∃ z,z=x - y:=⟨_,rfl⟩;have sx:(RV.of x).ok:=RV.bJ (RV.mB (by rw [hx]; exact (RV.jf hp.1.1 (by decide)).mul (RV.jf hp.2.2 (by decide)))) (by decide)
 have sy:(RV.of y).ok:=RV.bJ (RV.mB (by rw [hy]; exact (RV.jf hp.1.2 (by decide)).mul (RV.jf hp.2.1 (by decide)))) (by decide)
 conv=>whnf
 refine .inl ⟨11,[[],[],[1],[],[3],[0,1,2,3,4],[],[],[7],[],[9],[0,1,2,3,4,5,6,7,8,9,10],[0,1,2,3,4,5,6,7,8,9,10,11],[0,1,2,3,4,5,6,7,8,9,10,11,12]],by kernel_rfl,?_⟩
 conv=>whnf
 refine ⟨(p.1,q.2),rfl,⟨RV.bJ hp.1.1 (by decide),RV.bJ hp.2.2 (by decide)⟩,?_⟩
 rw [show lK.val (p.1,q.2)=(RV.of x).v from by rw [hx]; rfl]
 conv=>whnf
 refine ⟨(p.2,q.1),rfl,⟨RV.bJ hp.1.2 (by decide),RV.bJ hp.2.1 (by decide)⟩,?_⟩
 rw [show lK.val (p.2,q.1)=(RV.of y).v from by rw [hy]; rfl]
 conv=>whnf
 refine ⟨(RV.of x,RV.of y),rfl,⟨sx,sy⟩,?_⟩;rw [show gW.val (RV.of x,RV.of y)=(RV.of z).v from by
  show bH ((RV.of x).q - (RV.of y).q)=_
  rw [RV.iz,RV.iz,hz]; rfl]
 conv=>whnf
 show (RV.of z).v=bH _
 rw [hz,hx,hy]
 rfl
theorem U0:bg Tryz.prog 122 nS:=by
 refine bk DJ aN Tryz.func122 (enters_of Tryz.func122 (by kernel_rfl) rfl) (fun _=>rfl) (fun _=>rfl) ?_
 intro ⟨p,q⟩ hp;have hp:p.sz 1073741824∧q.sz 1073741824:=hp;obtain ⟨x,hx⟩:∃ x,x=p.1.q*q.2.q:=⟨_,rfl⟩;obtain ⟨y,hy⟩:∃ x,x=p.2.q*q.1.q:=⟨_,rfl⟩;obtain ⟨z,hz⟩:∃ z,z=x - y:=⟨_,rfl⟩;have sx:(RV.of x).ok:=RV.bJ (RV.mB (by rw [hx]; exact (RV.jf hp.1.1 (by decide)).mul (RV.jf hp.2.2 (by decide)))) (by decide)
 have sy:(RV.of y).ok:=RV.bJ (RV.mB (by rw [hy]; exact (RV.jf hp.1.2 (by decide)).mul (RV.jf hp.2.1 (by decide)))) (by decide)
 conv=>whnf
 refine .inl ⟨9,[[],[0],[],[2],[0,1,2,3],[],[5],[],[7],[0,1,2,3,4,5,6,7,8],[0,1,2,3,4,5,6,7,8,9],[0,1,2,3,4,5,6,7,8,9,10]],by kernel_rfl,?_⟩
 conv=>whnf
 refine ⟨(p.1,q.2),rfl,⟨RV.bJ hp.1.1 (by decide),RV.bJ hp.2.2 (by decide)⟩,?_⟩
 rw [show lK.val (p.1,q.2)=(RV.of x).v from by rw [hx]; rfl]
 conv=>whnf
 refine ⟨(p.2,q.1),rfl,⟨RV.bJ hp.1.2 (by decide),RV.bJ hp.2.1 (by decide)⟩,?_⟩
 rw [show lK.val (p.2,q.1)=(RV.of y).v from by rw [hy]; rfl]
 conv=>whnf
 refine ⟨(RV.of x,RV.of y),rfl,⟨sx,sy⟩,?_⟩;rw [show gW.val (RV.of x,RV.of y)=(RV.of z).v from by
  show bH ((RV.of x).q - (RV.of y).q)=_
  rw [RV.iz,RV.iz,hz]; rfl]
 conv=>whnf
 show (RV.of z).v=bH _
 rw [hz,hx,hy]
 rfl
theorem OY:bg Tryz.prog 74 pE:=by
 refine bk vp aN Tryz.func74 (enters_of Tryz.func74 (by kernel_rfl) rfl) (fun _=>rfl) (fun _=>rfl) ?_
 intro ⟨p,q⟩ hp;have hp:p.sz 8589934592∧q.sz 8589934592:=hp;obtain ⟨x,hx⟩:∃ x,x=aZ p.1.q q.1.q:=⟨_,rfl⟩;obtain ⟨y,hy⟩:∃ x,x=aZ p.2.q q.2.q:=⟨_,rfl⟩;have fin:∀ z:Int,z=(if x≠0 then x else y)→Value.int .i64 z=pE.val (p,q):=fun z h=>by rw [h,hx,hy]; rfl
 conv=>whnf
 refine ⟨(p.1,q.1),rfl,⟨hp.1.1,hp.2.1⟩,?_⟩;rw [show jR.val (p.1,q.1)=.int .i64 x from by rw [hx]; rfl]
 conv=>whnf
 refine aM (fun h=>?_) (fun h=>?_)
 ·have h:x≠0:=by
   intro e;subst e;simp at h
  conv=>whnf
  exact fin _ (if_pos h).symm
 ·have h:x=0:=by simpa using h
  conv=>whnf
  refine ⟨(p.2,q.2),rfl,⟨hp.1.2,hp.2.2⟩,?_⟩;rw [show jR.val (p.2,q.2)=.int .i64 y from by rw [hy]; rfl]
  conv=>whnf
  exact fin _ (if_neg (fun e=>e h)).symm
theorem XM:bg Tryz.prog 76 pE:=by
 refine bk DJ aN Tryz.func76 (enters_of Tryz.func76 (by kernel_rfl) rfl) (fun _=>rfl) (fun _=>rfl) ?_
 intro ⟨p,q⟩ hp;have hp:p.sz 8589934592∧q.sz 8589934592:=hp;obtain ⟨x,hx⟩:∃ x,x=aZ p.1.q q.1.q:=⟨_,rfl⟩;obtain ⟨y,hy⟩:∃ x,x=aZ p.2.q q.2.q:=⟨_,rfl⟩;have fin:∀ z:Int,z=(if x≠0 then x else y)→Value.int .i64 z=pE.val (p,q):=fun z h=>by rw [h,hx,hy]; rfl
 conv=>whnf
 refine ⟨(p.1,q.1),rfl,⟨hp.1.1,hp.2.1⟩,?_⟩;rw [show jR.val (p.1,q.1)=.int .i64 x from by rw [hx]; rfl]
 conv=>whnf
 refine aM (fun h=>?_) (fun h=>?_)
 ·have h:x≠0:=by
   intro e;subst e;simp at h
  conv=>whnf
  exact fin _ (if_pos h).symm
 ·have h:x=0:=by simpa using h
  conv=>whnf
  refine ⟨(p.2,q.2),rfl,⟨hp.1.2,hp.2.2⟩,?_⟩;rw [show jR.val (p.2,q.2)=.int .i64 y from by rw [hy]; rfl]
  conv=>whnf
  exact fin _ (if_neg (fun e=>e h)).symm
open Go Go.Ae
theorem Nk:bg Tryz.prog 80 j8:=by
 refine bk vp aN Tryz.func80 (enters_of Tryz.func80 (by kernel_rfl) rfl) (fun _=>rfl) (fun _=>rfl) ?_
 intro (p:PV) hp;have hp:p.sz 8589934592:=hp;have oe:p.1=RV.of p.1.q→p.2=RV.of p.2.q→Value.int .i64 0=j8.val p:=fun h1 J=>by
  show _=Value.int .i64 (if p.canon then 0 else 1)
  rw [if_pos ⟨h1,J⟩]
 have mO:¬ p.canon→Value.int .i64 1=j8.val p:=fun h=>by
  show _=Value.int .i64 (if p.canon then 0 else 1)
  rw [if_neg h]
 conv=>whnf
 refine .inr ⟨3,?_⟩;conv=>whnf
 refine ⟨⟨by decide,by decide⟩,?_⟩
 conv=>whnf
 refine ⟨p.1,rfl,hp.1,?_⟩;by_cases h1:p.1=RV.of p.1.q
 ·rw [show mY.val p.1=.int .i64 0 from by show Value.int .i64 (if p.1=RV.of p.1.q then 0 else 1)=_; rw [if_pos h1]]
  conv=>whnf
  refine ⟨⟨by decide,by decide⟩,?_⟩
  conv=>whnf
  refine ⟨p.2,rfl,hp.2,?_⟩;by_cases J:p.2=RV.of p.2.q
  ·rw [show mY.val p.2=.int .i64 0 from by show Value.int .i64 (if p.2=RV.of p.2.q then 0 else 1)=_; rw [if_pos J]]
   conv=>whnf
   exact oe h1 J
  ·rw [show mY.val p.2=.int .i64 1 from by show Value.int .i64 (if p.2=RV.of p.2.q then 0 else 1)=_; rw [if_neg J]]
   conv=>whnf
   exact mO (fun h=>J h.2)
 ·rw [show mY.val p.1=.int .i64 1 from by show Value.int .i64 (if p.1=RV.of p.1.q then 0 else 1)=_; rw [if_neg h1]]
  conv=>whnf
  exact mO (fun h=>h1 h.1)
theorem U1:bg Tryz.prog 68 j8:=by
 refine bk DJ aN Tryz.func68 (enters_of Tryz.func68 (by kernel_rfl) rfl) (fun _=>rfl) (fun _=>rfl) ?_
 intro (p:PV) hp;have hp:p.sz 8589934592:=hp;have oe:p.1=RV.of p.1.q→p.2=RV.of p.2.q→Value.int .i64 0=j8.val p:=fun h1 J=>by
  show _=Value.int .i64 (if p.canon then 0 else 1)
  rw [if_pos ⟨h1,J⟩]
 have mO:¬ p.canon→Value.int .i64 1=j8.val p:=fun h=>by
  show _=Value.int .i64 (if p.canon then 0 else 1)
  rw [if_neg h]
 conv=>whnf
 refine ⟨p.1,rfl,hp.1,?_⟩;by_cases h1:p.1=RV.of p.1.q
 ·rw [show mY.val p.1=.int .i64 0 from by show Value.int .i64 (if p.1=RV.of p.1.q then 0 else 1)=_; rw [if_pos h1]]
  conv=>whnf
  refine ⟨p.2,rfl,hp.2,?_⟩;by_cases J:p.2=RV.of p.2.q
  ·rw [show mY.val p.2=.int .i64 0 from by show Value.int .i64 (if p.2=RV.of p.2.q then 0 else 1)=_; rw [if_pos J]]
   conv=>whnf
   exact oe h1 J
  ·rw [show mY.val p.2=.int .i64 1 from by show Value.int .i64 (if p.2=RV.of p.2.q then 0 else 1)=_; rw [if_neg J]]
   conv=>whnf
   exact mO (fun h=>J h.2)
 ·rw [show mY.val p.1=.int .i64 1 from by show Value.int .i64 (if p.1=RV.of p.1.q then 0 else 1)=_; rw [if_neg h1]]
  conv=>whnf
  exact mO (fun h=>h1 h.1)
def Evf:Env:=En [(85,.p kQ),(31,.p G8),(29,.p Ii)]
theorem ad0:EnvOk Tryz.prog Evf:=bF ⟨CV,V5,aau,trivial⟩ trivial
theorem acN:bg Tryz.prog 39 yk:=by
 refine bk ad0 aN Tryz.func39 (enters_of Tryz.func39 (by kernel_rfl) rfl) (fun _=>rfl) (fun _=>rfl) ?_
 intro ⟨⟨p,q⟩,t⟩ hp;have hp:(p.sz 268435456∧q.sz 268435456)∧t.sz 268435456:=hp;obtain ⟨⟨hp,hq⟩,ht⟩:=hp;obtain ⟨x,hx⟩:∃ x,x=q.1.q - p.1.q:=⟨_,rfl⟩;obtain ⟨y,hy⟩:∃ x,x=q.2.q - p.2.q:=⟨_,rfl⟩;obtain ⟨x2,oi⟩:∃ z,z=x*t.q:=⟨_,rfl⟩;obtain ⟨y2,oj⟩:∃ z,z=y*t.q:=⟨_,rfl⟩;obtain ⟨x3,Se⟩:∃ z,z=p.1.q+x2:=⟨_,rfl⟩;obtain ⟨y3,Sf⟩:∃ z,z=p.2.q+y2:=⟨_,rfl⟩;have bx:QB x 536870913:=by rw [hx]; exact (RV.jf hq.1 (by decide)).sub (RV.jf hp.1 (by decide))
 have Sg:QB y 536870913:=by rw [hy]; exact (RV.jf hq.2 (by decide)).sub (RV.jf hp.2 (by decide))
 have bx2:QB x2 805306369:=by rw [oi]; exact bx.mul (RV.jf ht (by decide))
 have by2:QB y2 805306369:=by rw [oj]; exact Sg.mul (RV.jf ht (by decide))
 conv=>whnf
 refine .inl ⟨6,[[],[],[],[1,2],[],[1,2,3,4],[0,1,2,3,4,5],[0,1,2,3,4,5,6]],by kernel_rfl,?_⟩
 conv=>whnf
 refine ⟨(q,p),rfl,⟨PV.aO hq (by decide),PV.aO hp (by decide)⟩,?_⟩
 rw [show kQ.val (q,p)=PV.v (RV.of x,RV.of y) from by rw [hx,hy]; rfl]
 conv=>whnf
 refine ⟨((RV.of x,RV.of y),t),rfl,⟨⟨RV.mB (bx.mono (by decide)),RV.mB (Sg.mono (by decide))⟩,RV.aO ht (by decide)⟩,?_⟩
 rw [show G8.val ((RV.of x,RV.of y),t)=PV.v (RV.of x2,RV.of y2) from by
  show mM ((RV.of x).q*t.q) ((RV.of y).q*t.q)=_
  rw [RV.iz,RV.iz,← oi,← oj]; rfl]
 conv=>whnf
 refine ⟨(p,(RV.of x2,RV.of y2)),rfl,⟨PV.aO hp (by decide),RV.mB (bx2.mono (by decide)),RV.mB (by2.mono (by decide))⟩,?_⟩
 rw [show Ii.val (p,(RV.of x2,RV.of y2))=PV.v (RV.of x3,RV.of y3) from by
  show mM (p.1.q+(RV.of x2).q) (p.2.q+(RV.of y2).q)=_
  rw [RV.iz,RV.iz,← Se,← Sf]; rfl]
 conv=>whnf
 show PV.v (RV.of x3,RV.of y3)=mM _ _
 rw [Se,Sf,oi,oj,hx,hy]
 rfl
open Go Go.Ae
open Go Go.Ae
open Go Go.Ae
def Emn:Env:=En [(88,.p lU),(92,.p fu),(82,.p vk)]
theorem ad1:EnvOk Tryz.prog Emn:=bF ⟨HO,PC,OX,trivial⟩ trivial
theorem OZ:bg Tryz.prog 71 qR:=by
 refine bk ad1 aN Tryz.func71 (enters_of Tryz.func71 (by kernel_rfl) rfl) (fun _=>rfl) (fun _=>rfl) ?_
 intro ⟨⟨b,s,t⟩,⟨b',s',t'⟩⟩ hp;have hp:RV.ok (b,s,t)∧RV.ok (b',s',t'):=hp;obtain ⟨x,hx⟩:∃ x,x=RV.den (b,s,t):=⟨_,rfl⟩;obtain ⟨y,hy⟩:∃ x,x=RV.den (b',s',t'):=⟨_,rfl⟩;have f1:=RV.mz hp.1;have f2:=RV.mz hp.2;have g1:=RV.jS (b,s,t);have g2:=RV.jS (b',s',t');rw [← hx] at f1 g1;rw [← hy] at f2 g2;have hq:=adx (b,s,t) (b',s',t');obtain ⟨B1,m1,h1⟩:=EI.mk' (IV.z (b,s)*IV.z (false,y));obtain ⟨B2,m2,J⟩:=EI.mk' (IV.z (false,x)*IV.z (b',s'));have z1:=h1.gF (dK f1.1.1) (dK f2.1.2);have z2:=J.gF (dK f1.1.2) (dK f2.1.1);obtain ⟨w,hw⟩:∃ w,w=RV.q (b,s,t) / RV.q (b',s',t'):=⟨_,rfl⟩;obtain ⟨e,he⟩:∃ e:Int,e=if RV.q (b',s',t')=0 then 10 else 0:=⟨_,rfl⟩
 have hN:vk.val ((B1,m1),(B2,m2))=.tuple ⟨[(RV.of w).v,.int .i64 e]⟩:=by
  show lV (IV.z (B1,m1)) (IV.z (B2,m2))=_
  rw [h1.val,J.val,g1,g2,hw,he];exact hq
 conv=>whnf
 refine .inl ⟨6,[[],[0],[],[0,1,2],[],[],[0,1,2,3,4,5],[0,1,2,3,4,5,6]],by kernel_rfl,?_⟩
 conv=>whnf
 refine ⟨(b,s,t),rfl,by have:=hp.1.2; show t.size≤_; exact Nat.le_trans this (by decide),?_⟩
 rw [show lU.val (b,s,t)=.agg ⟨[.bool b,.string s,.bool false,.string x]⟩ from by rw [hx]; rfl]
 conv=>whnf
 refine ⟨(b',s',t'),rfl,by have:=hp.2.2; show t'.size≤_; exact Nat.le_trans this (by decide),?_⟩
 rw [show lU.val (b',s',t')=.agg ⟨[.bool b',.string s',.bool false,.string y]⟩ from by rw [hy]; rfl]
 conv=>whnf
 refine .inl ⟨13,[[],[0],[],[2],[0,1,2,3],[],[5],[],[7],[0,1,2,3,4,5,6,7,8],[0,1,2,3,4,5,6,7,8,9],[0,1,2,3,4,5,6,7,8,9,10],[0,1,2,3,4,5,6,7,8,9,10],[0,1,2,3,4,5,6,7,8,9,10,11,12],[0,1,2,3,4,5,6,7,8,9,10,11,12,13]],by kernel_rfl,?_⟩
 conv=>whnf
 refine ⟨((b,s),(false,y)),rfl,⟨Nat.le_trans f1.1.1 (by decide),Nat.le_trans f2.1.2 (by decide)⟩,?_⟩
 rw [show fu.val ((b,s),(false,y))=.agg ⟨[.bool B1,.string m1]⟩ from h1.enc]
 conv=>whnf
 refine ⟨((false,x),(b',s')),rfl,⟨Nat.le_trans f1.1.2 (by decide),Nat.le_trans f2.1.1 (by decide)⟩,?_⟩
 rw [show fu.val ((false,x),(b',s'))=.agg ⟨[.bool B2,.string m2]⟩ from J.enc]
 conv=>whnf
 refine ⟨((B1,m1),(B2,m2)),rfl,⟨by show m1.size≤_; omega,by show m2.size≤_; omega⟩,?_⟩
 rw [hN];conv=>whnf
 show Value.tuple ⟨[(RV.of w).v,.int .i64 e]⟩=Value.tuple ⟨[bH _,.int .i64 _]⟩
 rw [hw,he]
 rfl
open Go Go.Ae
def Epa:Env:=En [(85,.p kQ),(84,.p nS),(34,.p iJ),(37,.p lK),(38,.p gW),(36,.p iK)]
theorem ad2:EnvOk Tryz.prog Epa:=bF ⟨CV,Gg,GK,OV,xF,xE,trivial⟩ trivial
theorem Cg:bg Tryz.prog 32 jL:=by
 refine bk ad2 aN Tryz.func32 (enters_of Tryz.func32 (by kernel_rfl) rfl) (fun _=>rfl) (fun _=>rfl) ?_
 intro ⟨a,b,c⟩ hp;obtain ⟨sa,sb,sc⟩:a.sz 1048576∧b.sz 1048576∧c.sz 1048576:=hp;have pa:Q2.sz 1048576 a.p:=PV.cL sa (by decide)
 have pb:Q2.sz 1048576 b.p:=PV.cL sb (by decide)
 have pc:Q2.sz 1048576 c.p:=PV.cL sc (by decide)
 obtain ⟨w,hw⟩:∃ w,w=ao a.p b.p c.p:=⟨_,rfl⟩;obtain ⟨u,hu⟩:∃ u,u=cc (tf b.p a.p):=⟨_,rfl⟩;obtain ⟨v,hv⟩:∃ v,v=cc (tf c.p a.p):=⟨_,rfl⟩;have su:u.sz 1073741824:=by rw [hu]; exact uV (pg pb pa) (by decide)
 have sv:v.sz 1073741824:=by rw [hv]; exact uV (pg pc pa) (by decide)
 have sw:(RV.of w).ok:=by rw [hw]; exact aa5 (uC (pg pb pa) (pg pc pa)) (by decide)
 conv=>whnf
 refine .inl ⟨5,[[],[],[0,1],[],[],[0,1,2,3,4],[0,1,2,3,4,5],[0,1,2,3,4,5,6],[0,1,2,3,4,5,6,7]],by kernel_rfl,?_⟩
 conv=>whnf
 refine ⟨(b,a),rfl,⟨PV.aO sb (by decide),PV.aO sa (by decide)⟩,?_⟩
 rw [show kQ.val (b,a)=u.v from by rw [Oz,hu]]
 conv=>whnf
 refine ⟨(c,a),rfl,⟨PV.aO sc (by decide),PV.aO sa (by decide)⟩,?_⟩
 rw [show kQ.val (c,a)=v.v from by rw [Oz,hv]]
 conv=>whnf
 refine ⟨(u,v),rfl,⟨su,sv⟩,?_⟩;rw [show nS.val (u,v)=(RV.of w).v from by rw [VF,hu,hv,gJ,gJ,hw]; rfl]
 conv=>whnf
 refine ⟨RV.of w,rfl,sw,?_⟩;rw [WS,RV.iz];conv=>whnf
 show Value.int .i64 _=Value.int .i64 _
 rw [hw]
set_option maxHeartbeats 4000000
open Go Go.Ae
def Kf:Env:=rS [(80,.p j8),(74,.p pE),(32,.p jL),(85,.p kQ),(84,.p nS)]
theorem qW:EnvOk Tryz.prog Kf:=tC ⟨Nk,OY,Cg,CV,Gg,trivial⟩ trivial
theorem aav:bg Tryz.prog 108 DH:=by
 refine bk qW aN Tryz.func108 (enters_of Tryz.func108 (by kernel_rfl) rfl) (fun _=>rfl) (fun _=>rfl) ?_
 intro (p:PV) hp;have sp:p.sz 2048:=hp;conv=>whnf
 refine ⟨p,rfl,PV.aO sp (by decide),?_⟩
 by_cases h:p.canon
 ·rw [show j8.val p=.int .i64 0 from congrArg (Value.int .i64) (if_pos h)]
  conv=>whnf
  show Value.bool false=.bool (decide (¬ p.canon))
  rw [decide_eq_false (fun e=>e h)]
 ·rw [show j8.val p=.int .i64 1 from congrArg (Value.int .i64) (if_neg h)]
  conv=>whnf
  show Value.bool true=.bool (decide (¬ p.canon))
  rw [decide_eq_true h]
theorem aaw:di Tryz.prog 75 sZ:=by
 refine dQ qW aN Tryz.func75 (enters_of Tryz.func75 (by kernel_rfl) rfl) ?_ ?_ ?_
 ·intro i b hb; simp [sZ] at hb; rcases hb with rfl | rfl <;> rfl
 ·intro i b hb; simp [sZ] at hb
 intro ⟨a,b,p⟩ hp;have hp:a.sz 2048∧b.sz 2048∧p.sz 2048:=hp;obtain ⟨sa,sb,sp⟩:=hp;have qa:=PV.cL sa (by decide)
 have qb:=PV.cL sb (by decide)
 have qp:=PV.cL sp (by decide)
 have fin:∀ z:Bool,z=tq a b p→∃ v',cR (List.range 2) 3 (sZ.val (a,b,p))=some v'∧fj (.bool z) v':=fun z h=>⟨.bool z,by rw [h]; rfl,.refl _⟩
 conv=>whnf
 refine ⟨by decide,?_⟩
 conv=>whnf
 rw [th p a];by_cases h1:p=a
 ·rw [decide_eq_true h1];conv=>whnf
  exact fin false (decide_eq_false fun e=>e.1 h1).symm
 rw [decide_eq_false h1];conv=>whnf
 refine ⟨by decide,?_⟩
 conv=>whnf
 rw [th p b];by_cases J:p=b
 ·rw [decide_eq_true J];conv=>whnf
  exact fin false (decide_eq_false fun e=>e.2.1 J).symm
 rw [decide_eq_false J];conv=>whnf
 refine ⟨by decide,?_⟩
 conv=>whnf
 refine ⟨by decide,?_⟩
 conv=>whnf
 obtain ⟨z,ez,pz⟩:=dS (aZ (ao a.p b.p p.p) 0);refine ⟨(a,b,p),rfl,⟨PV.aO sa (by decide),PV.aO sb (by decide),PV.aO sp (by decide)⟩,?_⟩
 rw [show jL.val (a,b,p)=.int .i64 z from ez]
 conv=>whnf
 refine fin _ ?_;unfold tq;rw [← pz];by_cases h3:z≤0
 ·rw [decide_eq_true h3,decide_eq_true ⟨h1,J,h3⟩]; rfl
 ·rw [decide_eq_false h3,decide_eq_false fun e=>h3 e.2.2]; rfl
theorem Nl:bg Tryz.prog 70 qC:=by
 refine bk qW aN Tryz.func70 (enters_of Tryz.func70 (by kernel_rfl) rfl) (fun _=>rfl) (fun _=>rfl) ?_
 intro ⟨a,b,p⟩ hp;have hp:a.sz 1048576∧b.sz 1048576∧p.sz 1048576:=hp;obtain ⟨sa,sb,sp⟩:=hp;have qa:=PV.cL sa (by decide)
 have qb:=PV.cL sb (by decide)
 have qp:=PV.cL sp (by decide)
 conv=>whnf
 refine .inl ⟨5,[[],[],[0,1],[],[],[0,1,2,3,4],[0,1,2,3,4,5],[0,1,2,3,4,5,6]],by kernel_rfl,?_⟩
 conv=>whnf
 obtain ⟨u,eu,pu,su,qu⟩:=sY (pg qb qa);refine ⟨(b,a),rfl,⟨PV.aO sb (by decide),PV.aO sa (by decide)⟩,?_⟩
 rw [show kQ.val (b,a)=u.v from eu]
 conv=>whnf
 obtain ⟨v,ev,pv,sv,qv⟩:=sY (pg qp qa);refine ⟨(p,a),rfl,⟨PV.aO sp (by decide),PV.aO sa (by decide)⟩,?_⟩
 rw [show kQ.val (p,a)=v.v from ev]
 conv=>whnf
 obtain ⟨w,ew,pw,sw,qw⟩:=fH (uC qu qv);refine ⟨(u,v),rfl,⟨PV.aO su (by decide),PV.aO sv (by decide)⟩,?_⟩
 rw [show nS.val (u,v)=w.v from ew]
 conv=>whnf
 show w.v=(RV.of (ao a.p b.p p.p)).v
 rw [(RV.ko ew).symm,pu,pv]
 rfl
open Go Go.Ae
theorem V6:gj Tryz.prog 73 (b9 Kf cF Tryz.f73):=by
 exact js qW aN Tryz.func73 (enters_of Tryz.func73 (by kernel_rfl) rfl)
def Kg:Env:=En [(108,.p DH),(75,.q sZ)] [(73,b9 Kf cF Tryz.f73)]
theorem ad3:EnvOk Tryz.prog Kg:=bF ⟨aav,aaw,trivial⟩ ⟨V6,trivial⟩
theorem V7:gj Tryz.prog 106 (b9 Kg cF Tryz.f106):=by
 exact js ad3 aN Tryz.func106 (enters_of Tryz.func106 (by kernel_rfl) rfl)
def EU:Env:=En [] [(106,b9 Kg cF Tryz.f106)]
theorem ad4:EnvOk Tryz.prog EU:=bF trivial ⟨V7,trivial⟩
theorem K6:gj Tryz.prog 49 (b9 EU cF Tryz.f49):=by
 exact js ad4 aN Tryz.func49 (enters_of Tryz.func49 (by kernel_rfl) rfl)
def Ev4:Env:=En [] [(49,b9 EU cF Tryz.f49)]
theorem ad5:EnvOk Tryz.prog Ev4:=bF trivial ⟨K6,trivial⟩
theorem By:di Tryz.prog 56 dF:=by
 refine dQ ad5 aN Tryz.func56 (enters_of Tryz.func56 (by kernel_rfl) rfl) ?_ ?_ ?_
 ·intro i b hb;cases i with
  | none=>simp [dF,PL.ah] at hb
  | some i=>simp [dF,PL.ah] at hb; rw [hb]; rfl
 ·intro i b hb; simp [dF] at hb
 intro i hp;have hp:i.list.length≤1099511627776∧∀ v∈i.list,v.sz 2048:=hp;obtain ⟨hlen,aW⟩:=hp;cases i with
 | none =>
  conv=>whnf
  refine .inr ⟨1,?_⟩;conv=>whnf
  exact ⟨.bool true,rfl,.refl _⟩
 | some i =>
  obtain ⟨L,c⟩:=i;have hlen:L.length≤1099511627776:=hlen;have aW:∀ v∈L,PV.sz 2048 v:=aW;obtain ⟨n,hn⟩:∃ n,n=L.length:=⟨_,rfl⟩;obtain ⟨g,hg⟩:∃ g,g=cW L:=⟨_,rfl⟩;have fin:∀ z:Bool,z=!dB L→∃ v',cR (List.range 1) 3 (dF.val (some (L,c)))=some v'∧fj (.bool z) v':=fun z h=>⟨.bool z,by rw [h]; rfl,.refl _⟩
  rw [show dF.ah (some (L,c))=[.flat false n 6 g] from by rw [hn,hg]; rfl,show dF.args (some (L,c))=[.slice (some ⟨0,0,none⟩) n c] from by rw [hn]; rfl]
  rw [← hn] at hlen;conv=>whnf
  refine .inl ⟨fun mm tz hz=>∃ (i:Nat),bw (some (.slice (some ⟨0,0,none⟩) n c)::some (.func (.func 108) #[] #[])::aF 5 (some (.int .i64 n)::some (.int .i64 i)::aF 10 [])) tz∧hz=[some (.flat false n 6 g)]∧n - i=mm∧(i≤n∧vl L i),.inr ⟨[0],[0,1,7,8],?_⟩,?_⟩
  ·conv=>whnf
   intro _;conv=>whnf
   refine ⟨_,0,(.aa (.aa (.sk 5 (.aa (.aa (.sk 10 .nil rfl))) rfl))),rfl,rfl,?_⟩;exact ⟨Nat.zero_le _,Lq _⟩
  rintro mm aV _ ⟨i,aA,rfl,rfl,⟨hi,hU⟩⟩
  obtain ⟨az,rfl⟩:∃ az:Nat→Value,aV=.slice (some ⟨0,0,none⟩) n c::.func (.func 108) #[] #[]::zs az 2 5 (.int .i64 n::.int .i64 i::zs az 9 10 []):=bI aA;clear aA;conv=>whnf
  refine aM (fun h3=>?_) (fun h3=>?_)
  ·have h3:i < n:=by
    have:=of_decide_eq_true h3;omega
   have e7:IntKind.i64.wrap ((i:Int)+1)=((i+1:Nat):Int):=by rw [ax (by omega) (by omega)]; rfl
   obtain ⟨m,lg,mS,a8⟩:=r9 (l:=L) (i:=i) (by omega)
   rw [← hg] at a8;conv=>whnf
   refine ⟨⟨by omega,by omega⟩,?_⟩
   simp only [toNat_cast,aw,Nat.zero_add];conv=>whnf
   refine ⟨by show i < n; omega,?_⟩
   conv=>whnf
   rw [a8];conv=>whnf
   refine ⟨m,rfl,aW m mS,?_⟩;by_cases h4:m.canon
   ·rw [show DH.val m=.bool false from congrArg Value.bool (decide_eq_false fun e=>e h4)]
    conv=>whnf
    rw [e7];refine .inr ⟨[0],[0,1,7,8],?_⟩;conv=>whnf
    intro _;conv=>whnf
    refine ⟨_,?_,i+1,(.aa (.aa (.sk 5 (.aa (.aa (.sk 10 .nil rfl))) rfl))),rfl,rfl,?_⟩
    ·omega
    ·exact ⟨by omega,Me hU lg h4⟩
   ·rw [show DH.val m=.bool true from congrArg Value.bool (decide_eq_true h4)]
    conv=>whnf
    rw [show decide ((i:Int) ≥ 0)=true from decide_eq_true (by omega)]
    conv=>whnf
    exact fin false (by rw [show dB L=true from List.any_eq_true.2 ⟨m,mS,decide_eq_true h4⟩]; rfl)
  ·have h3:i=n:=by
    have:=of_decide_eq_false h3;omega
   subst h3;conv=>whnf
   exact fin true (by rw [M0 (by rw [← hn]; exact hU)]; rfl)
end Go.Proofs.YtlapbjdhekcipaaGreat
