import Derived.Test.YtlapbjdhekcipaaGreatTH
set_option linter.unusedVariables false
set_option linter.unusedSimpArgs false
set_option maxRecDepth 20000
set_option maxHeartbeats 1000000
namespace Go.Proofs.YtlapbjdhekcipaaGreat
open Go Go.Ae
def Emc:Env:=En [(140,.p sN),(188,.p sN)]
theorem Pn:EnvOk Tryz.prog Emc:=bI ⟨Zq,T9,trivial⟩ trivial
theorem WQ:bc Tryz.prog 95 n9:=by
 refine bh Pn aL Tryz.func95 (enters_of Tryz.func95 (by kernel_rfl) rfl) (fun _=>rfl) (fun _=>rfl) ?_
 intro ⟨n,d⟩ hp;have hp:n.natAbs < 72057594037927936∧d≠0∧d < 72057594037927936:=hp;obtain ⟨g,hg⟩:∃ g,g=Int.gcd n d:=⟨_,rfl⟩;obtain ⟨gq,bX,nZ⟩:=A8 hp.2.1 hg;have hgd:g≤d:=by
  have h3:=Nat.div_le_self d g;rcases Nat.lt_or_ge d g with h | h
  ·rw [Nat.div_eq_of_lt h] at bX; omega
  ·exact h
 have fin:∀ v:Value,v=bN (mkRat n d)→v=n9.val (n,d):=fun v h=>h
 conv=>whnf
 refine .inl ⟨fun mm tz hz=>∃ (a:Int) (b:Int),bC (some (.int .i64 n)::some (.int .i64 d)::aD 2 (some (.pointer (some ⟨0,0,none⟩))::some (.int .i64 a)::some (.int .i64 b)::aD 36 [])) tz∧hz=[some (.aR true 3 [[.bool false,.string ⟨#[]⟩,.string ⟨#[]⟩]])]∧b.natAbs=mm∧(((-72057594037927936 < a∧a < 72057594037927936)∧-72057594037927936 < b∧b < 72057594037927936)∧Int.gcd a b=g),.inr ⟨[0],[0,1,4,5,6],?_⟩,?_⟩
 ·conv=>whnf
  intro _;conv=>whnf
  refine ⟨_,n,d,(.aa (.aa (.sk 2 (.aa (.aa (.aa (.sk 36 .nil rfl)))) rfl))),rfl,rfl,?_⟩;exact ⟨⟨⟨by omega,by omega⟩,by omega,by omega⟩,hg.symm⟩
 rintro mm aT _ ⟨a,b,aw,rfl,rfl,⟨eZ,he⟩⟩
 obtain ⟨az,rfl⟩:∃ az:Nat→Value,aT=.int .i64 n::.int .i64 d::zs az 2 2 (.pointer (some ⟨0,0,none⟩)::.int .i64 a::.int .i64 b::zs az 7 36 []):=bL aw;clear aw;conv=>whnf
 refine aI (fun h1=>?_) (fun h1=>?_)
 ·have h1:b≠0:=by
   intro e;subst e;simp at h1
  have ak:(Int.tmod a b).natAbs < b.natAbs:=by
   rw [Int.natAbs_tmod]; exact Nat.mod_lt _ (by omega)
  obtain ⟨r,hr⟩:∃ r,r=Int.tmod a b:=⟨_,rfl⟩;rw [← hr] at ak;conv=>whnf
  refine .inl ⟨5,[[],[],[],[1,2],[0,1],[0,1,2,3,4]],by kernel_rfl,?_⟩
  conv=>whnf
  rw [show decide (b≠0)=true from decide_eq_true h1]
  conv=>whnf
  rw [← hr];refine .inr ⟨[0],[0,1,4,5,6],?_⟩;conv=>whnf
  intro _;conv=>whnf
  refine ⟨_,?_,b,r,(.aa (.aa (.sk 2 (.aa (.aa (.aa (.sk 36 .nil rfl)))) rfl))),rfl,rfl,?_⟩
  ·exact ak
  ·exact ⟨⟨eZ.2,by omega,by omega⟩,by rw [hr,V0]; exact he⟩
 ·have h1:b=0:=by simpa using h1
  subst h1;have he:a.natAbs=g:=by rw [← he,Int.gcd_zero_right]
  have em:=NU a eZ.1;rw [he] at em;have en:=NU n (by omega)
  obtain ⟨N,hN⟩:∃ N,N=n.natAbs:=⟨_,rfl⟩;rw [← hN] at en;conv=>whnf
  rw [em];by_cases J:n=0
  ·subst J;conv=>whnf
   exact fin _ (yz d).symm
  ·refine aI (fun h=>absurd (by simpa using h) J) (fun _=>?_)
   have eq:=GG J hp.2.1 hg;rw [← hN] at eq;have ed:=BC (a:=N) (g:=g) (by omega)
   have gJ:=BC (a:=d) (g:=g) hp.2.2;obtain ⟨x,hx⟩:∃ x,x=nb (N / g):=⟨_,rfl⟩;obtain ⟨y,hy⟩:∃ y,y=nb (d / g):=⟨_,rfl⟩;have ex:sN.val (N / g)=.string x:=by rw [hx]; rfl
   have ey:sN.val (d / g)=.string y:=by rw [hy]; rfl
   rw [← hx] at eq;conv=>whnf
   rw [en,show decide (((g:Nat):Int)≠0)=true from decide_eq_true (by omega)]
   conv=>whnf
   rw [ed];refine ⟨N / g,rfl,by show N / g < _; exact Nat.lt_of_le_of_lt (Nat.div_le_self _ _) (by omega),?_⟩
   rw [ex];conv=>whnf
   refine aI (fun h3=>?_) (fun h3=>?_)
   ·have h3:d≠g:=by
     intro e;rw [e] at h3;simp at h3
    have e4:fI (d / g)=y:=by
     rw [hy]; unfold fI; rw [if_neg (fun h=>h3 (gq.1 h))]
    rw [e4] at eq;conv=>whnf
    rw [show decide (((g:Nat):Int)≠0)=true from decide_eq_true (by omega)]
    conv=>whnf
    rw [gJ];refine ⟨d / g,rfl,by show d / g < _; exact Nat.lt_of_le_of_lt (Nat.div_le_self _ _) hp.2.2,?_⟩
    rw [ey];conv=>whnf
    exact fin _ eq.symm
   ·have h3:d=g:=by
     have:((d:Nat):Int)=g:=by simpa using h3
     omega
    have e4:fI (d / g)=⟨#[]⟩:=by unfold fI; rw [if_pos (gq.2 h3)]
    rw [e4] at eq;conv=>whnf
    exact fin _ eq.symm
theorem WR:bc Tryz.prog 172 n9:=by
 refine bh Pn aL Tryz.func172 (enters_of Tryz.func172 (by kernel_rfl) rfl) (fun _=>rfl) (fun _=>rfl) ?_
 intro ⟨n,d⟩ hp;have hp:n.natAbs < 72057594037927936∧d≠0∧d < 72057594037927936:=hp;obtain ⟨g,hg⟩:∃ g,g=Int.gcd n d:=⟨_,rfl⟩;obtain ⟨gq,bX,nZ⟩:=A8 hp.2.1 hg;have fin:∀ v:Value,v=bN (mkRat n d)→v=n9.val (n,d):=fun v h=>h
 obtain ⟨N,hN⟩:∃ N,N=n.natAbs:=⟨_,rfl⟩;obtain ⟨B,hB⟩:∃ B,B=decide (n < 0):=⟨_,rfl⟩;have ed:=BC (a:=N) (g:=g) (by omega)
 have gJ:=BC (a:=d) (g:=g) hp.2.2;obtain ⟨x,hx⟩:∃ x,x=nb (N / g):=⟨_,rfl⟩;obtain ⟨y,hy⟩:∃ y,y=nb (d / g):=⟨_,rfl⟩;have ex:sN.val (N / g)=.string x:=by rw [hx]; rfl
 have ey:sN.val (d / g)=.string y:=by rw [hy]; rfl
 conv=>whnf
 refine aI (fun h1=>?_) (fun h1=>?_)
 ·have fx:=of_decide_eq_true h1;have fx:n < 0:=fx;have e0:IntKind.i64.wrap (0 - n)=(N:Int):=by rw [ay (by omega) (by omega)]; omega
  have J:n≠0:=by omega
  have eq:=GG J hp.2.1 hg;rw [← hN,← hx,← hB] at eq;conv=>whnf
  rw [show decide ((n,d).fst < 0)=B from hB.symm]
  rw [show IntKind.i64.wrap (0 - (n,d).fst)=(N:Int) from e0]
  refine aI (fun h=>absurd (by simpa using h) (show N≠0 by omega)) (fun _=>?_)
  conv=>whnf
  refine .inl ⟨fun mm tz hz=>∃ (a:Nat) (b:Nat),bC (some (.int .i64 N)::some (.int .i64 d)::aD 2 (some (.pointer (some ⟨0,0,none⟩))::some (.pointer (some ⟨1,0,none⟩))::some (.int .i64 a)::some (.int .i64 b)::aD 33 [])) tz∧hz=[some (.aR true 3 [[.bool false,.string ⟨#[]⟩,.string ⟨#[]⟩]]),some (.aR true 3 [[.bool B,.string ⟨#[]⟩,.string ⟨#[]⟩]])]∧b=mm∧((a < 72057594037927936∧b < 72057594037927936)∧Nat.gcd a b=g),.inr ⟨[0,1],[0,1,4,5,6,7],?_⟩,?_⟩
  ·conv=>whnf
   intro _;conv=>whnf
   refine ⟨_,N,d,(.aa (.aa (.sk 2 (.aa (.aa (.aa (.aa (.sk 33 .nil rfl))))) rfl))),rfl,rfl,?_⟩;exact ⟨⟨by omega,by omega⟩,by rw [hg,hN]; rfl⟩
  rintro mm aT _ ⟨a,b,aw,rfl,rfl,⟨eZ,he⟩⟩
  obtain ⟨az,rfl⟩:∃ az:Nat→Value,aT=.int .i64 N::.int .i64 d::zs az 2 2 (.pointer (some ⟨0,0,none⟩)::.pointer (some ⟨1,0,none⟩)::.int .i64 a::.int .i64 b::zs az 8 33 []):=bL aw;clear aw;conv=>whnf
  refine aI (fun h1=>?_) (fun h1=>?_)
  ·have h1:0 < b:=by
    have:=of_decide_eq_true h1;omega
   have ak:=Nat.mod_lt a h1;conv=>whnf
   refine .inl ⟨5,[[],[],[],[1,2],[0,1],[0,1,2,3,4]],by kernel_rfl,?_⟩
   conv=>whnf
   rw [show decide (((b:Nat):Int)≠0)=true from decide_eq_true (by omega)]
   conv=>whnf
   rw [show Int.tmod ((a:Nat):Int) ((b:Nat):Int)=((a % b:Nat):Int) from rfl]
   refine .inr ⟨[0,1],[0,1,4,5,6,7],?_⟩;conv=>whnf
   intro _;conv=>whnf
   refine ⟨_,?_,b,a % b,(.aa (.aa (.sk 2 (.aa (.aa (.aa (.aa (.sk 33 .nil rfl))))) rfl))),rfl,rfl,?_⟩
   ·exact ak
   ·exact ⟨⟨eZ.2,by omega⟩,by rw [Nat.gcd_comm,← Nat.gcd_rec,Nat.gcd_comm]; exact he⟩
  ·have h1:b=0:=by
    have:=of_decide_eq_false h1;omega
   subst h1;obtain rfl:a=g:=by rw [← he,Nat.gcd_zero_right]
   conv=>whnf
   rw [show decide (((a:Nat):Int)≠0)=true from decide_eq_true (by omega)]
   conv=>whnf
   rw [ed];refine ⟨N / a,rfl,by show N / a < _; exact Nat.lt_of_le_of_lt (Nat.div_le_self _ _) (by omega),?_⟩
   rw [ex];conv=>whnf
   rw [show decide (((a:Nat):Int)≠0)=true from decide_eq_true (by omega)]
   obtain ⟨q,hq⟩:∃ q,q=d / a:=⟨_,rfl⟩;rw [← hq] at gJ ey eq gq bX hy;conv=>whnf
   rw [gJ];refine aI (fun h3=>?_) (fun h3=>?_)
   ·have h3:q≠1:=by
     have:=of_decide_eq_true h3;omega
    have e4:fI q=y:=by
     rw [hy]; unfold fI; rw [if_neg h3]
    rw [e4] at eq;conv=>whnf
    rw [show decide (((a:Nat):Int)≠0)=true from decide_eq_true (by omega)]
    conv=>whnf
    rw [gJ];refine ⟨q,rfl,by show q < _; rw [hq]; exact Nat.lt_of_le_of_lt (Nat.div_le_self _ _) hp.2.2,?_⟩
    rw [ey];conv=>whnf
    exact fin _ eq.symm
   ·have h3:q=1:=by
     have:=of_decide_eq_false h3;omega
    have e4:fI q=⟨#[]⟩:=by unfold fI; rw [if_pos h3]
    rw [e4] at eq;conv=>whnf
    exact fin _ eq.symm
 ·have fx:=of_decide_eq_false h1;have fx:¬ n < 0:=fx;have e0:n=(N:Int):=by omega
  by_cases J:n=0
  ·subst J;conv=>whnf
   exact fin _ (yz d).symm
  ·have eq:=GG J hp.2.1 hg;rw [← hN,← hx,← hB] at eq;conv=>whnf
   rw [show decide ((n,d).fst < 0)=B from hB.symm]
   refine aI (fun h=>absurd (by simpa using h) J) (fun _=>?_)
   conv=>whnf
   rw [show (n,d).fst=(N:Int) from e0]
   refine .inl ⟨fun mm tz hz=>∃ (a:Nat) (b:Nat),bC (some (.int .i64 N)::some (.int .i64 d)::aD 2 (some (.pointer (some ⟨0,0,none⟩))::some (.pointer (some ⟨1,0,none⟩))::some (.int .i64 a)::some (.int .i64 b)::aD 33 [])) tz∧hz=[some (.aR true 3 [[.bool false,.string ⟨#[]⟩,.string ⟨#[]⟩]]),some (.aR true 3 [[.bool B,.string ⟨#[]⟩,.string ⟨#[]⟩]])]∧b=mm∧((a < 72057594037927936∧b < 72057594037927936)∧Nat.gcd a b=g),.inr ⟨[0,1],[0,1,4,5,6,7],?_⟩,?_⟩
   ·conv=>whnf
    intro _;conv=>whnf
    refine ⟨_,N,d,(.aa (.aa (.sk 2 (.aa (.aa (.aa (.aa (.sk 33 .nil rfl))))) rfl))),rfl,rfl,?_⟩;exact ⟨⟨by omega,by omega⟩,by rw [hg,hN]; rfl⟩
   rintro mm aT _ ⟨a,b,aw,rfl,rfl,⟨eZ,he⟩⟩
   obtain ⟨az,rfl⟩:∃ az:Nat→Value,aT=.int .i64 N::.int .i64 d::zs az 2 2 (.pointer (some ⟨0,0,none⟩)::.pointer (some ⟨1,0,none⟩)::.int .i64 a::.int .i64 b::zs az 8 33 []):=bL aw;clear aw;conv=>whnf
   refine aI (fun h1=>?_) (fun h1=>?_)
   ·have h1:0 < b:=by
     have:=of_decide_eq_true h1;omega
    have ak:=Nat.mod_lt a h1;conv=>whnf
    refine .inl ⟨5,[[],[],[],[1,2],[0,1],[0,1,2,3,4]],by kernel_rfl,?_⟩
    conv=>whnf
    rw [show decide (((b:Nat):Int)≠0)=true from decide_eq_true (by omega)]
    conv=>whnf
    rw [show Int.tmod ((a:Nat):Int) ((b:Nat):Int)=((a % b:Nat):Int) from rfl]
    refine .inr ⟨[0,1],[0,1,4,5,6,7],?_⟩;conv=>whnf
    intro _;conv=>whnf
    refine ⟨_,?_,b,a % b,(.aa (.aa (.sk 2 (.aa (.aa (.aa (.aa (.sk 33 .nil rfl))))) rfl))),rfl,rfl,?_⟩
    ·exact ak
    ·exact ⟨⟨eZ.2,by omega⟩,by rw [Nat.gcd_comm,← Nat.gcd_rec,Nat.gcd_comm]; exact he⟩
   ·have h1:b=0:=by
     have:=of_decide_eq_false h1;omega
    subst h1;obtain rfl:a=g:=by rw [← he,Nat.gcd_zero_right]
    conv=>whnf
    rw [show decide (((a:Nat):Int)≠0)=true from decide_eq_true (by omega)]
    conv=>whnf
    rw [ed];refine ⟨N / a,rfl,by show N / a < _; exact Nat.lt_of_le_of_lt (Nat.div_le_self _ _) (by omega),?_⟩
    rw [ex];conv=>whnf
    rw [show decide (((a:Nat):Int)≠0)=true from decide_eq_true (by omega)]
    obtain ⟨q,hq⟩:∃ q,q=d / a:=⟨_,rfl⟩;rw [← hq] at gJ ey eq gq bX hy;conv=>whnf
    rw [gJ];refine aI (fun h3=>?_) (fun h3=>?_)
    ·have h3:q≠1:=by
      have:=of_decide_eq_true h3;omega
     have e4:fI q=y:=by
      rw [hy]; unfold fI; rw [if_neg h3]
     rw [e4] at eq;conv=>whnf
     rw [show decide (((a:Nat):Int)≠0)=true from decide_eq_true (by omega)]
     conv=>whnf
     rw [gJ];refine ⟨q,rfl,by show q < _; rw [hq]; exact Nat.lt_of_le_of_lt (Nat.div_le_self _ _) hp.2.2,?_⟩
     rw [ey];conv=>whnf
     exact fin _ eq.symm
    ·have h3:q=1:=by
      have:=of_decide_eq_false h3;omega
     have e4:fI q=⟨#[]⟩:=by unfold fI; rw [if_pos h3]
     rw [e4] at eq;conv=>whnf
     exact fin _ eq.symm
open Go Go.Ae
def Emd:Env:=En [(83,.p fm),(87,.p l9)]
theorem ac0:EnvOk Tryz.prog Emd:=bI ⟨sM,Hq,trivial⟩ trivial
theorem Po:bc Tryz.prog 132 il:=by
 refine bh ac0 aL Tryz.func132 (enters_of Tryz.func132 (by kernel_rfl) rfl) (fun _=>rfl) (fun _=>rfl) ?_
 intro ⟨⟨b,s⟩,n⟩ hp;have hp:s.size≤549755813888∧-9223372036854775808≤n∧n < 9223372036854775808:=hp;obtain ⟨V,m,hV⟩:=EI.mk' n;have hm:m.size≤549755813888:=by
  rw [hV.size];have:=um hp.2;omega
 obtain ⟨q,hq⟩:∃ q,q=eE (IV.z (b,s)) n:=⟨_,rfl⟩;conv=>whnf
 refine .inl ⟨3,[[],[],[1],[0,1,2],[0,1,2,3],[0,1,2,3,4]],by kernel_rfl,?_⟩
 conv=>whnf
 refine ⟨n,rfl,⟨by omega,by omega⟩,?_⟩
 rw [show fm.val n=.agg ⟨[.bool V,.string m]⟩ from hV.enc]
 conv=>whnf
 refine ⟨((b,s),(V,m)),rfl,⟨hp.1,hm⟩,?_⟩;rw [show l9.val ((b,s),(V,m))=.int .i64 q from by show Value.int .i64 (eE (IV.z (b,s)) (IV.z (V,m)))=_; rw [hV.val,hq]]
 conv=>whnf
 show Value.bool (q == 0)=Value.bool (decide (IV.z (b,s)=n))
 congr 1
 rw [hq];unfold eE
 split
 ·rw [decide_eq_false (by omega)]; rfl
 ·split
  ·rw [decide_eq_false (by omega)]; rfl
  ·rw [decide_eq_true (by omega)]; rfl
theorem Ua:bc Tryz.prog 137 M7:=by
 refine bh mh aL Tryz.func137 (enters_of Tryz.func137 (by kernel_rfl) rfl) (fun _=>rfl) (fun _=>rfl) ?_
 intro ⟨b,s⟩ _;conv=>whnf
 rfl
def Eme:Env:=En [(83,.p fm),(132,.p il),(137,.p M7)]
theorem ac1:EnvOk Tryz.prog Eme:=bI ⟨sM,Po,Ua,trivial⟩ trivial
theorem Hr:bc Tryz.prog 88 mc:=by
 refine bh ac1 aL Tryz.func88 (enters_of Tryz.func88 (by kernel_rfl) rfl) (fun _=>rfl) (fun _=>rfl) ?_
 intro ⟨b,s,t⟩ hp;have hp:t.size≤549755813888:=hp;conv=>whnf
 refine .inl ⟨10,[[],[0],[],[2],[0,1,2,3],[],[5],[0,1,2,3,4,5,6],[0,1,2,3,4,5,6,7],[],[0,1,2,3,4,5,6,7,8,9]],by kernel_rfl,?_⟩
 conv=>whnf
 refine ⟨(b,s),rfl,trivial,?_⟩;conv=>whnf
 refine ⟨(false,t),rfl,trivial,?_⟩;conv=>whnf
 refine ⟨((false,t),0),rfl,⟨hp,r0⟩,?_⟩;by_cases h:ab t=0
 ·rw [show il.val ((false,t),0)=.bool true from by
   show Value.bool (decide (((ab t:Nat):Int)=0))=_
   rw [h]; rfl]
  obtain ⟨v,hv⟩:∃ v,v=nb 1:=⟨_,rfl⟩;conv=>whnf
  refine ⟨(1:Int),rfl,r1,?_⟩;rw [show fm.val (1:Int)=.agg ⟨[.bool false,.string v]⟩ from by rw [hv]; rfl]
  conv=>whnf
  show Value.agg ⟨[.bool b,.string s,.bool false,.string v]⟩=xw (b,s) (false,RV.den (b,s,t))
  unfold RV.den;rw [if_pos h,← hv]
  rfl
 ·rw [show il.val ((false,t),0)=.bool false from by
   show Value.bool (decide (((ab t:Nat):Int)=0))=_
   rw [decide_eq_false (by omega)]]
  conv=>whnf
  show Value.agg ⟨[.bool b,.string s,.bool false,.string t]⟩=xw (b,s) (false,RV.den (b,s,t))
  unfold RV.den;rw [if_neg h]
  rfl
def Emf:Env:=En [(132,.p il),(133,.p vi),(134,.p iT)]
theorem ac2:EnvOk Tryz.prog Emf:=bI ⟨Po,abN,abO,trivial⟩ trivial
theorem MK:bc Tryz.prog 86 oY:=by
 refine bh ac2 aL Tryz.func86 (enters_of Tryz.func86 (by kernel_rfl) rfl) (fun _=>rfl) (fun _=>rfl) ?_
 intro ⟨⟨b,s⟩,⟨c,t⟩⟩ hp;have hp:s.size≤549755813888∧t.size≤549755813888∧0 < IV.z (c,t):=hp;obtain ⟨x,hx⟩:∃ x,x=IV.z (b,s):=⟨_,rfl⟩;obtain ⟨d,hd⟩:∃ d,d=(IV.z (c,t)).natAbs:=⟨_,rfl⟩;have bX:IV.z (c,t)=((d:Nat):Int):=by omega
 have fL:d≠0:=by omega
 obtain ⟨q,hq⟩:∃ q,q=mkRat x d:=⟨_,rfl⟩;have fin:∀ v:Value,v=bN q→v=oY.val ((b,s),(c,t)):=fun v h=>by rw [h,hq,hx,hd]; rfl
 conv=>whnf
 refine ⟨((b,s),0),rfl,⟨hp.1,r0⟩,?_⟩;rw [show il.val ((b,s),0)=.bool (decide (x=0)) from by rw [hx]; rfl]
 by_cases h1:x=0
 ·rw [decide_eq_true h1];conv=>whnf
  exact fin _ (by rw [hq,h1]; exact (yz d).symm)
 ·rw [decide_eq_false h1];obtain ⟨g,hg⟩:∃ g,g=Int.gcd x d:=⟨_,rfl⟩;obtain ⟨gs,rI⟩:=EI.je (show 0≤((g:Nat):Int) by omega)
  obtain ⟨qb,qs,hn⟩:=EI.mk' q.num;obtain ⟨es,he⟩:=EI.je (show 0≤((q.den:Nat):Int) by omega)
  have nZ:((g:Nat):Int)≠0:=by
   have:0 < g:=by rw [hg]; exact Int.gcd_pos_of_ne_zero_left _ h1
   omega
  have IN:g≤d:=by
   have h3:=(A8 fL hg).2.1;rcases Nat.lt_or_ge d g with h | h
   ·rw [Nat.div_eq_of_lt h] at h3; omega
   ·exact h
  have fg:aU d≤549755813888:=by rw [hd]; exact IV.aU (i:=(c,t)) hp.2.1
  have AN:gs.size≤549755813888:=by
   rw [rI.size,Int.natAbs_natCast];exact Nat.le_trans (ja IN) fg
  have ah:es.size≤549755813888:=by
   rw [he.size,Int.natAbs_natCast];exact Nat.le_trans (ja (by rw [hq]; exact OF x fL)) fg
  have D5:x.fdiv ((g:Nat):Int)=q.num:=by rw [hg,hq]; exact Hb x fL
  have rF:((d:Nat):Int).fdiv ((g:Nat):Int)=((q.den:Nat):Int):=by rw [hg,hq]; exact Hc x fL
  conv=>whnf
  refine ⟨((b,s),(c,t)),rfl,⟨hp.1,hp.2.1⟩,?_⟩;rw [show vi.val ((b,s),(c,t))=.agg ⟨[.bool false,.string gs]⟩ from by
   show aH ((Int.gcd (IV.z (b,s)) (IV.z (c,t)):Nat):Int)=_
   rw [← hx,bX,← hg,rI.enc]]
  conv=>whnf
  obtain ⟨fb,fs,hf⟩:=EI.mk' (x.fmod ((g:Nat):Int));refine ⟨((b,s),(false,gs)),rfl,⟨hp.1,AN⟩,?_⟩;rw [show iT.val ((b,s),(false,gs))=.tuple ⟨[.agg ⟨[.bool qb,.string qs]⟩,.agg ⟨[.bool fb,.string fs]⟩,.int .i64 0]⟩ from by
   simp only [iT,rI.val,if_neg nZ];rw [← hx,D5,hn.enc,hf.enc]]
  conv=>whnf
  obtain ⟨kb,ks,hk⟩:=EI.mk' (((d:Nat):Int).fmod ((g:Nat):Int));refine ⟨((c,t),(false,gs)),rfl,⟨hp.2.1,AN⟩,?_⟩;rw [show iT.val ((c,t),(false,gs))=.tuple ⟨[.agg ⟨[.bool false,.string es]⟩,.agg ⟨[.bool kb,.string ks]⟩,.int .i64 0]⟩ from by
   simp only [iT,rI.val,if_neg nZ,bX];rw [rF,he.enc,hk.enc]]
  conv=>whnf
  refine ⟨((false,es),1),rfl,⟨ah,r1⟩,?_⟩;rw [show il.val ((false,es),1)=.bool (decide (((q.den:Nat):Int)=1)) from by
   show Value.bool (decide (IV.z (false,es)=1))=_
   rw [he.val]]
  have enc:∀ y,fI q.den=y→Value.agg ⟨[.bool qb,.string qs,.string y]⟩=bN q:=fun y hy=>by
   unfold bN;rw [← hn.nY,← hn.sign,hy]
  by_cases J:q.den=1
  ·rw [decide_eq_true (by omega)]
   conv=>whnf
   exact fin _ (enc _ (by unfold fI; rw [if_pos J]))
  ·rw [decide_eq_false (by omega)]
   conv=>whnf
   exact fin _ (enc _ (by unfold fI; rw [if_neg J,he.nY,Int.natAbs_natCast]))
open Go Go.Ae
def Emg:Env:=En [(95,.p n9)]
theorem Pp:EnvOk Tryz.prog Emg:=bI ⟨WQ,trivial⟩ trivial
theorem Zr:bc Tryz.prog 94 C4:=by
 refine bh Pp aL Tryz.func94 (enters_of Tryz.func94 (by kernel_rfl) rfl) (fun _=>rfl) (fun _=>rfl) ?_
 intro ⟨⟨n,d⟩,⟨m,e⟩⟩ hp;obtain ⟨h1,J,h3,h4⟩:=I4.bounds hp;simp only at h1 J h3 h4;obtain ⟨x,hx⟩:∃ x,x=n*(e:Int):=⟨_,rfl⟩;obtain ⟨y,hy⟩:∃ y,y=m*(d:Int):=⟨_,rfl⟩;obtain ⟨k,hk⟩:∃ k,k=d*e:=⟨_,rfl⟩;rw [← hx] at h1;rw [← hy] at J;rw [← hk] at h4;have e1:IntKind.i64.wrap (IntKind.i64.wrap (n*(e:Int))+IntKind.i64.wrap (m*(d:Int)))=x+y:=by
  rw [← hx,← hy,ay (x:=x) (by omega) (by omega),ay (x:=y) (by omega) (by omega),ay (by omega) (by omega)]
 have e2:IntKind.i64.wrap ((d:Int)*(e:Int))=(k:Int):=by
  rw [← Int.natCast_mul,← hk,ay (by omega) (by omega)]
 conv=>whnf
 rw [show IntKind.i64.wrap (IntKind.i64.wrap (((n,d),m,e).fst.fst*(((n,d),m,e).snd.snd:Int))+IntKind.i64.wrap (((n,d),m,e).snd.fst*(((n,d),m,e).fst.snd:Int)))=x+y from e1]
 rw [show IntKind.i64.wrap ((((n,d),m,e).fst.snd:Int)*(((n,d),m,e).snd.snd:Int))=(k:Int) from e2]
 refine ⟨(x+y,k),rfl,⟨by show (x+y).natAbs < _; omega,by show k≠0; omega,by show k < _; omega⟩,?_⟩
 obtain ⟨v,hv⟩:∃ v,v=mkRat (x+y) k:=⟨_,rfl⟩;rw [show n9.val (x+y,k)=(RV.of v).v from by rw [hv]; rfl]
 conv=>whnf
 show (RV.of v).v=bN (mkRat (n*e+m*d) (d*e))
 rw [hv,hx,hy,hk]
 rfl
theorem Zs:bc Tryz.prog 98 C5:=by
 refine bh Pp aL Tryz.func98 (enters_of Tryz.func98 (by kernel_rfl) rfl) (fun _=>rfl) (fun _=>rfl) ?_
 intro ⟨⟨n,d⟩,⟨m,e⟩⟩ hp;obtain ⟨h1,J,h3,h4⟩:=I4.bounds hp;simp only at h1 J h3 h4;obtain ⟨x,hx⟩:∃ x,x=n*m:=⟨_,rfl⟩;obtain ⟨k,hk⟩:∃ k,k=d*e:=⟨_,rfl⟩;rw [← hx] at h3;rw [← hk] at h4;have e1:IntKind.i64.wrap (n*m)=x:=by
  rw [← hx,ay (x:=x) (by omega) (by omega)]
 have e2:IntKind.i64.wrap ((d:Int)*(e:Int))=(k:Int):=by
  rw [← Int.natCast_mul,← hk,ay (by omega) (by omega)]
 conv=>whnf
 rw [show IntKind.i64.wrap (((n,d),m,e).fst.fst*((n,d),m,e).snd.fst)=x from e1]
 rw [show IntKind.i64.wrap ((((n,d),m,e).fst.snd:Int)*(((n,d),m,e).snd.snd:Int))=(k:Int) from e2]
 refine ⟨(x,k),rfl,⟨by show x.natAbs < _; omega,by show k≠0; omega,by show k < _; omega⟩,?_⟩
 obtain ⟨v,hv⟩:∃ v,v=mkRat x k:=⟨_,rfl⟩;rw [show n9.val (x,k)=(RV.of v).v from by rw [hv]; rfl]
 conv=>whnf
 show (RV.of v).v=bN (mkRat (n*m) (d*e))
 rw [hv,hx,hk]
 rfl
theorem Zt:bc Tryz.prog 90 zE:=by
 refine bh mh aL Tryz.func90 (enters_of Tryz.func90 (by kernel_rfl) rfl) (fun _=>rfl) (fun _=>rfl) ?_
 intro ⟨⟨n,d⟩,⟨m,e⟩⟩ hp;obtain ⟨h1,J,h3,h4⟩:=I4.bounds hp;simp only at h1 J h3 h4;obtain ⟨x,hx⟩:∃ x,x=n*(e:Int):=⟨_,rfl⟩;obtain ⟨y,hy⟩:∃ y,y=m*(d:Int):=⟨_,rfl⟩;rw [← hx] at h1;rw [← hy] at J;have e1:IntKind.i64.wrap (n*(e:Int))=x:=by rw [← hx,ay (x:=x) (by omega) (by omega)]
 have e2:IntKind.i64.wrap (m*(d:Int))=y:=by rw [← hy,ay (x:=y) (by omega) (by omega)]
 have fin:∀ z:Int,z=eE x y→Value.int .i64 z=zE.val ((n,d),(m,e)):=fun z h=>by rw [h,hx,hy]; rfl
 conv=>whnf
 rw [show IntKind.i64.wrap (((n,d),m,e).fst.fst*(((n,d),m,e).snd.snd:Int))=x from e1,show IntKind.i64.wrap (((n,d),m,e).snd.fst*(((n,d),m,e).fst.snd:Int))=y from e2]
 refine aI (fun h=>?_) (fun h=>?_)
 ·have h:=of_decide_eq_true h;conv=>whnf
  exact fin _ (uh h).symm
 ·have h:=of_decide_eq_false h;conv=>whnf
  refine aI (fun h5=>?_) (fun h5=>?_)
  ·have h5:=of_decide_eq_true h5;conv=>whnf
   exact fin _ (ui h5).symm
  ·have h5:=of_decide_eq_false h5;conv=>whnf
   refine fin _ ?_;unfold eE;rw [if_neg h,if_neg (show ¬ y < x from h5)]
def Emh:Env:=En [(92,.p fE),(97,.p jn),(87,.p l9),(86,.p oY)]
theorem HU:EnvOk Tryz.prog Emh:=bI ⟨OR,Hp,Hq,MK,trivial⟩ trivial
theorem Zu:bc Tryz.prog 96 xx:=by
 refine bh HU aL Tryz.func96 (enters_of Tryz.func96 (by kernel_rfl) rfl) (fun _=>rfl) (fun _=>rfl) ?_
 intro ⟨⟨⟨b,s⟩,⟨c,t⟩⟩,⟨⟨b',s'⟩,⟨c',t'⟩⟩⟩ hp;have hp:((s.size≤17179869184∧t.size≤17179869184)∧0 < IV.z (c,t))∧(s'.size≤17179869184∧t'.size≤17179869184)∧0 < IV.z (c',t'):=hp;obtain ⟨⟨⟨hs,ht⟩,hd⟩,⟨vB,jK⟩,dh⟩:=hp;obtain ⟨B1,m1,h1⟩:=EI.mk' (IV.z (b,s)*IV.z (c',t'));obtain ⟨B2,m2,J⟩:=EI.mk' (IV.z (b',s')*IV.z (c,t));obtain ⟨B3,m3,h3⟩:=EI.mk' (IV.z (b,s)*IV.z (c',t')+IV.z (b',s')*IV.z (c,t));obtain ⟨B4,m4,h4⟩:=EI.mk' (IV.z (c,t)*IV.z (c',t'));have z1:=h1.gL (dU hs) (dU jK);have z2:=J.gL (dU vB) (dU ht);have z4:=h4.gL (dU ht) (dU jK);have z3:m3.size≤34359738369:=h3.F3 (by rw [← h1.size]; omega) (by rw [← J.size]; omega)
 have lZ:=Int.mul_pos hd dh;conv=>whnf
 refine .inl ⟨15,[[],[0],[],[2],[0,1,2,3],[],[5],[],[7],[0,1,2,3,4,5,6,7,8],[0,1,2,3,4,5,6,7,8,9],[],[11],[],[13],[0,1,2,3,4,5,6,7,8,9,10,11,12,13,14],[0,1,2,3,4,5,6,7,8,9,10,11,12,13,14,15],[0,1,2,3,4,5,6,7,8,9,10,11,12,13,14,15,16],[0,1,2,3,4,5,6,7,8,9,10,11,12,13,14,15,16,17]],by kernel_rfl,?_⟩
 conv=>whnf
 refine ⟨((b,s),(c',t')),rfl,⟨by show s.size≤_; omega,by show t'.size≤_; omega⟩,?_⟩
 rw [show fE.val ((b,s),(c',t'))=.agg ⟨[.bool B1,.string m1]⟩ from h1.enc]
 conv=>whnf
 refine ⟨((b',s'),(c,t)),rfl,⟨by show s'.size≤_; omega,by show t.size≤_; omega⟩,?_⟩
 rw [show fE.val ((b',s'),(c,t))=.agg ⟨[.bool B2,.string m2]⟩ from J.enc]
 conv=>whnf
 refine ⟨((B1,m1),(B2,m2)),rfl,⟨by show m1.size≤_; omega,by show m2.size≤_; omega⟩,?_⟩
 rw [show jn.val ((B1,m1),(B2,m2))=.agg ⟨[.bool B3,.string m3]⟩ from by
  show aH (IV.z (B1,m1)+IV.z (B2,m2))=_
  rw [h1.val,J.val,h3.enc]]
 conv=>whnf
 refine ⟨((c,t),(c',t')),rfl,⟨by show t.size≤_; omega,by show t'.size≤_; omega⟩,?_⟩
 rw [show fE.val ((c,t),(c',t'))=.agg ⟨[.bool B4,.string m4]⟩ from h4.enc]
 conv=>whnf
 refine ⟨((B3,m3),(B4,m4)),rfl,⟨by show m3.size≤_; omega,by show m4.size≤_; omega,by show 0 < IV.z (B4,m4); rw [h4.val]; exact lZ⟩,?_⟩
 obtain ⟨v,hv⟩:∃ v,v=mkRat (IV.z (B3,m3)) (IV.z (B4,m4)).natAbs:=⟨_,rfl⟩;rw [show oY.val ((B3,m3),(B4,m4))=(RV.of v).v from by rw [hv]; rfl]
 rw [h3.val,h4.val] at hv;conv=>whnf
 show (RV.of v).v=bN _
 rw [hv]
 rfl
theorem Zv:bc Tryz.prog 99 xy:=by
 refine bh HU aL Tryz.func99 (enters_of Tryz.func99 (by kernel_rfl) rfl) (fun _=>rfl) (fun _=>rfl) ?_
 intro ⟨⟨⟨b,s⟩,⟨c,t⟩⟩,⟨⟨b',s'⟩,⟨c',t'⟩⟩⟩ hp;have hp:((s.size≤17179869184∧t.size≤17179869184)∧0 < IV.z (c,t))∧(s'.size≤17179869184∧t'.size≤17179869184)∧0 < IV.z (c',t'):=hp;obtain ⟨⟨⟨hs,ht⟩,hd⟩,⟨vB,jK⟩,dh⟩:=hp;obtain ⟨B3,m3,h3⟩:=EI.mk' (IV.z (b,s)*IV.z (b',s'));obtain ⟨B4,m4,h4⟩:=EI.mk' (IV.z (c,t)*IV.z (c',t'));have z3:=h3.gL (dU hs) (dU vB);have z4:=h4.gL (dU ht) (dU jK);have lZ:=Int.mul_pos hd dh;conv=>whnf
 refine .inl ⟨9,[[],[0],[],[2],[0,1,2,3],[],[5],[],[7],[0,1,2,3,4,5,6,7,8],[0,1,2,3,4,5,6,7,8,9],[0,1,2,3,4,5,6,7,8,9,10],[0,1,2,3,4,5,6,7,8,9,10,11]],by kernel_rfl,?_⟩
 conv=>whnf
 refine ⟨((b,s),(b',s')),rfl,⟨by show s.size≤_; omega,by show s'.size≤_; omega⟩,?_⟩
 rw [show fE.val ((b,s),(b',s'))=.agg ⟨[.bool B3,.string m3]⟩ from h3.enc]
 conv=>whnf
 refine ⟨((c,t),(c',t')),rfl,⟨by show t.size≤_; omega,by show t'.size≤_; omega⟩,?_⟩
 rw [show fE.val ((c,t),(c',t'))=.agg ⟨[.bool B4,.string m4]⟩ from h4.enc]
 conv=>whnf
 refine ⟨((B3,m3),(B4,m4)),rfl,⟨by show m3.size≤_; omega,by show m4.size≤_; omega,by show 0 < IV.z (B4,m4); rw [h4.val]; exact lZ⟩,?_⟩
 obtain ⟨v,hv⟩:∃ v,v=mkRat (IV.z (B3,m3)) (IV.z (B4,m4)).natAbs:=⟨_,rfl⟩;rw [show oY.val ((B3,m3),(B4,m4))=(RV.of v).v from by rw [hv]; rfl]
 rw [h3.val,h4.val] at hv;conv=>whnf
 show (RV.of v).v=bN _
 rw [hv]
 rfl
theorem Zw:bc Tryz.prog 91 xz:=by
 refine bh HU aL Tryz.func91 (enters_of Tryz.func91 (by kernel_rfl) rfl) (fun _=>rfl) (fun _=>rfl) ?_
 intro ⟨⟨⟨b,s⟩,⟨c,t⟩⟩,⟨⟨b',s'⟩,⟨c',t'⟩⟩⟩ hp;have hp:((s.size≤17179869184∧t.size≤17179869184)∧0 < IV.z (c,t))∧(s'.size≤17179869184∧t'.size≤17179869184)∧0 < IV.z (c',t'):=hp;obtain ⟨⟨⟨hs,ht⟩,hd⟩,⟨vB,jK⟩,dh⟩:=hp;obtain ⟨B1,m1,h1⟩:=EI.mk' (IV.z (b,s)*IV.z (c',t'));obtain ⟨B2,m2,J⟩:=EI.mk' (IV.z (b',s')*IV.z (c,t));have z1:=h1.gL (dU hs) (dU jK);have z2:=J.gL (dU vB) (dU ht);obtain ⟨q,hq⟩:∃ q,q=eE (IV.z (b,s)*IV.z (c',t')) (IV.z (b',s')*IV.z (c,t)):=⟨_,rfl⟩;conv=>whnf
 refine .inl ⟨9,[[],[0],[],[2],[0,1,2,3],[],[5],[],[7],[0,1,2,3,4,5,6,7,8],[0,1,2,3,4,5,6,7,8,9],[0,1,2,3,4,5,6,7,8,9,10]],by kernel_rfl,?_⟩
 conv=>whnf
 refine ⟨((b,s),(c',t')),rfl,⟨by show s.size≤_; omega,by show t'.size≤_; omega⟩,?_⟩
 rw [show fE.val ((b,s),(c',t'))=.agg ⟨[.bool B1,.string m1]⟩ from h1.enc]
 conv=>whnf
 refine ⟨((b',s'),(c,t)),rfl,⟨by show s'.size≤_; omega,by show t.size≤_; omega⟩,?_⟩
 rw [show fE.val ((b',s'),(c,t))=.agg ⟨[.bool B2,.string m2]⟩ from J.enc]
 conv=>whnf
 refine ⟨((B1,m1),(B2,m2)),rfl,⟨by show m1.size≤_; omega,by show m2.size≤_; omega⟩,?_⟩
 rw [show l9.val ((B1,m1),(B2,m2))=.int .i64 q from by
  show Value.int .i64 (eE (IV.z (B1,m1)) (IV.z (B2,m2)))=_
  rw [h1.val,J.val,hq]]
 conv=>whnf
 show Value.int .i64 q=_
 rw [hq]
 rfl
open Go Go.Ae
def AO:Env:=En [(138,.p bM),(88,.p mc),(94,.p C4),(96,.p xx),(98,.p C5),(99,.p xy),(90,.p zE),(91,.p xz)]
theorem Pq:EnvOk Tryz.prog AO:=bI ⟨Zp,Hr,Zr,Zu,Zs,Zv,Zt,Zw,trivial⟩ trivial
theorem WS:gj Tryz.prog 93 (cC AO cO Tryz.f93):=by
 exact jh Pq aL Tryz.func93 (enters_of Tryz.func93 (by kernel_rfl) rfl)
theorem WT:gj Tryz.prog 89 (cC AO cO Tryz.f89):=by
 exact jh Pq aL Tryz.func89 (enters_of Tryz.func89 (by kernel_rfl) rfl)
def Emk:Env:=En [] [(93,cC AO cO Tryz.f93),(89,cC AO cO Tryz.f89)]
theorem HV:EnvOk Tryz.prog Emk:=bI trivial ⟨WS,WT,trivial⟩
theorem Cn:bc Tryz.prog 36 jA:=by
 refine bh HV aL Tryz.func36 (enters_of Tryz.func36 (by kernel_rfl) rfl) (fun _=>rfl) (fun _=>rfl) ?_
 intro ⟨⟨b,s,t⟩,⟨c,u,v⟩⟩ hp;have hp:RV.ok (b,s,t)∧RV.ok (c,u,v):=hp;obtain ⟨w,hw⟩:∃ w,w=RV.q (b,s,t)+RV.q (c,u,v):=⟨_,rfl⟩;have fin:∀ x:Value,x=(RV.of w).v→x=jA.val ((b,s,t),(c,u,v)):=fun x h=>by rw [h,hw]; rfl
 obtain ⟨x,hx⟩:∃ x,x=RV.den (b,s,t):=⟨_,rfl⟩;obtain ⟨y,hy⟩:∃ y,y=RV.den (c,u,v):=⟨_,rfl⟩;have ex:mc.val (b,s,t)=.agg ⟨[.bool b,.string s,.bool false,.string x]⟩:=by rw [hx]; rfl
 have ey:mc.val (c,u,v)=.agg ⟨[.bool c,.string u,.bool false,.string y]⟩:=by rw [hy]; rfl
 have f1:=RV.mD hp.1;have f2:=RV.mD hp.2;have e2:xx.val (((b,s),(false,x)),((c,u),(false,y)))=(RV.of w).v:=by rw [hx,hy,hw]; exact Z5 (b,s,t) (c,u,v)
 rw [← hx] at f1;rw [← hy] at f2;have e1:=Z2 (b,s,t) (c,u,v);have hn:=RV.jX (i:=(b,s,t));have hm:=RV.jX (i:=(c,u,v));rw [← hw] at e1;obtain ⟨n,bT⟩:∃ n,n=RV.n (b,s,t):=⟨_,rfl⟩;obtain ⟨m,fo⟩:∃ n,n=RV.n (c,u,v):=⟨_,rfl⟩;obtain ⟨d,bX⟩:∃ n,n=RV.d (b,s,t):=⟨_,rfl⟩;obtain ⟨e,cH⟩:∃ n,n=RV.d (c,u,v):=⟨_,rfl⟩;rw [← bT,← bX] at hn e1;rw [← fo,← cH] at hm e1;conv=>whnf
 refine ⟨(b,s,t),rfl,trivial,?_⟩;by_cases h1:RV.gk (b,s,t)
 ·rw [show bM.val (b,s,t)=.tuple ⟨[.int .i64 n,.int .i64 d,.bool true]⟩ from by simp only [bM,if_pos h1,decide_eq_true h1,bT,bX]]
  conv=>whnf
  refine ⟨(c,u,v),rfl,trivial,?_⟩;by_cases J:RV.gk (c,u,v)
  ·rw [show bM.val (c,u,v)=.tuple ⟨[.int .i64 m,.int .i64 e,.bool true]⟩ from by simp only [bM,if_pos J,decide_eq_true J,fo,cH]]
   conv=>whnf
   refine ⟨((n,d),(m,e)),rfl,⟨hn h1,hm J⟩,?_⟩;rw [show C4.val ((n,d),(m,e))=(RV.of w).v from e1]
   conv=>whnf
   exact fin _ rfl
  ·rw [show bM.val (c,u,v)=.tuple ⟨[.int .i64 0,.int .i64 0,.bool false]⟩ from by simp only [bM,if_neg J,decide_eq_false J]]
   conv=>whnf
   refine .inl ⟨5,[[],[],[1],[],[1,2,3],[0,1,2,3,4],[0,1,2,3,4,5]],by kernel_rfl,?_⟩
   conv=>whnf
   refine ⟨(b,s,t),rfl,by have:=hp.1.2; show t.size≤_; exact Nat.le_trans this (by decide),?_⟩
   rw [ex];conv=>whnf
   refine ⟨(c,u,v),rfl,by have:=hp.2.2; show v.size≤_; exact Nat.le_trans this (by decide),?_⟩
   rw [ey];conv=>whnf
   refine ⟨(((b,s),(false,x)),((c,u),(false,y))),rfl,⟨f1,f2⟩,?_⟩;rw [show xx.val (((b,s),(false,x)),((c,u),(false,y)))=(RV.of w).v from e2]
   conv=>whnf
   exact fin _ rfl
 ·rw [show bM.val (b,s,t)=.tuple ⟨[.int .i64 0,.int .i64 0,.bool false]⟩ from by simp only [bM,if_neg h1,decide_eq_false h1]]
  conv=>whnf
  obtain ⟨k1,k2,k3,hk⟩:∃ (k1 k2:Int) (k3:Bool),bM.val (c,u,v)=.tuple ⟨[.int .i64 k1,.int .i64 k2,.bool k3]⟩:=⟨_,_,_,rfl⟩;refine ⟨(c,u,v),rfl,trivial,?_⟩;rw [hk];conv=>whnf
  refine .inl ⟨5,[[],[],[1],[],[1,2,3],[0,1,2,3,4],[0,1,2,3,4,5]],by kernel_rfl,?_⟩
  conv=>whnf
  refine ⟨(b,s,t),rfl,by have:=hp.1.2; show t.size≤_; exact Nat.le_trans this (by decide),?_⟩
  rw [ex];conv=>whnf
  refine ⟨(c,u,v),rfl,by have:=hp.2.2; show v.size≤_; exact Nat.le_trans this (by decide),?_⟩
  rw [ey];conv=>whnf
  refine ⟨(((b,s),(false,x)),((c,u),(false,y))),rfl,⟨f1,f2⟩,?_⟩;rw [show xx.val (((b,s),(false,x)),((c,u),(false,y)))=(RV.of w).v from e2]
  conv=>whnf
  exact fin _ rfl
theorem Oe:bc Tryz.prog 37 hJ:=by
 refine bh HV aL Tryz.func37 (enters_of Tryz.func37 (by kernel_rfl) rfl) (fun _=>rfl) (fun _=>rfl) ?_
 intro ⟨⟨b,s,t⟩,⟨c,u,v⟩⟩ hp;have hp:RV.ok (b,s,t)∧RV.ok (c,u,v):=hp;obtain ⟨w,hw⟩:∃ w,w=RV.q (b,s,t)*RV.q (c,u,v):=⟨_,rfl⟩;have fin:∀ x:Value,x=(RV.of w).v→x=hJ.val ((b,s,t),(c,u,v)):=fun x h=>by rw [h,hw]; rfl
 obtain ⟨x,hx⟩:∃ x,x=RV.den (b,s,t):=⟨_,rfl⟩;obtain ⟨y,hy⟩:∃ y,y=RV.den (c,u,v):=⟨_,rfl⟩;have ex:mc.val (b,s,t)=.agg ⟨[.bool b,.string s,.bool false,.string x]⟩:=by rw [hx]; rfl
 have ey:mc.val (c,u,v)=.agg ⟨[.bool c,.string u,.bool false,.string y]⟩:=by rw [hy]; rfl
 have f1:=RV.mD hp.1;have f2:=RV.mD hp.2;have e2:xy.val (((b,s),(false,x)),((c,u),(false,y)))=(RV.of w).v:=by rw [hx,hy,hw]; exact Z6 (b,s,t) (c,u,v)
 rw [← hx] at f1;rw [← hy] at f2;have e1:=Z3 (b,s,t) (c,u,v);have hn:=RV.jX (i:=(b,s,t));have hm:=RV.jX (i:=(c,u,v));rw [← hw] at e1;obtain ⟨n,bT⟩:∃ n,n=RV.n (b,s,t):=⟨_,rfl⟩;obtain ⟨m,fo⟩:∃ n,n=RV.n (c,u,v):=⟨_,rfl⟩;obtain ⟨d,bX⟩:∃ n,n=RV.d (b,s,t):=⟨_,rfl⟩;obtain ⟨e,cH⟩:∃ n,n=RV.d (c,u,v):=⟨_,rfl⟩;rw [← bT,← bX] at hn e1;rw [← fo,← cH] at hm e1;conv=>whnf
 refine ⟨(b,s,t),rfl,trivial,?_⟩;by_cases h1:RV.gk (b,s,t)
 ·rw [show bM.val (b,s,t)=.tuple ⟨[.int .i64 n,.int .i64 d,.bool true]⟩ from by simp only [bM,if_pos h1,decide_eq_true h1,bT,bX]]
  conv=>whnf
  refine ⟨(c,u,v),rfl,trivial,?_⟩;by_cases J:RV.gk (c,u,v)
  ·rw [show bM.val (c,u,v)=.tuple ⟨[.int .i64 m,.int .i64 e,.bool true]⟩ from by simp only [bM,if_pos J,decide_eq_true J,fo,cH]]
   conv=>whnf
   refine ⟨((n,d),(m,e)),rfl,⟨hn h1,hm J⟩,?_⟩;rw [show C5.val ((n,d),(m,e))=(RV.of w).v from e1]
   conv=>whnf
   exact fin _ rfl
  ·rw [show bM.val (c,u,v)=.tuple ⟨[.int .i64 0,.int .i64 0,.bool false]⟩ from by simp only [bM,if_neg J,decide_eq_false J]]
   conv=>whnf
   refine .inl ⟨5,[[],[],[1],[],[1,2,3],[0,1,2,3,4],[0,1,2,3,4,5]],by kernel_rfl,?_⟩
   conv=>whnf
   refine ⟨(b,s,t),rfl,by have:=hp.1.2; show t.size≤_; exact Nat.le_trans this (by decide),?_⟩
   rw [ex];conv=>whnf
   refine ⟨(c,u,v),rfl,by have:=hp.2.2; show v.size≤_; exact Nat.le_trans this (by decide),?_⟩
   rw [ey];conv=>whnf
   refine ⟨(((b,s),(false,x)),((c,u),(false,y))),rfl,⟨f1,f2⟩,?_⟩;rw [show xy.val (((b,s),(false,x)),((c,u),(false,y)))=(RV.of w).v from e2]
   conv=>whnf
   exact fin _ rfl
 ·rw [show bM.val (b,s,t)=.tuple ⟨[.int .i64 0,.int .i64 0,.bool false]⟩ from by simp only [bM,if_neg h1,decide_eq_false h1]]
  conv=>whnf
  obtain ⟨k1,k2,k3,hk⟩:∃ (k1 k2:Int) (k3:Bool),bM.val (c,u,v)=.tuple ⟨[.int .i64 k1,.int .i64 k2,.bool k3]⟩:=⟨_,_,_,rfl⟩;refine ⟨(c,u,v),rfl,trivial,?_⟩;rw [hk];conv=>whnf
  refine .inl ⟨5,[[],[],[1],[],[1,2,3],[0,1,2,3,4],[0,1,2,3,4,5]],by kernel_rfl,?_⟩
  conv=>whnf
  refine ⟨(b,s,t),rfl,by have:=hp.1.2; show t.size≤_; exact Nat.le_trans this (by decide),?_⟩
  rw [ex];conv=>whnf
  refine ⟨(c,u,v),rfl,by have:=hp.2.2; show v.size≤_; exact Nat.le_trans this (by decide),?_⟩
  rw [ey];conv=>whnf
  refine ⟨(((b,s),(false,x)),((c,u),(false,y))),rfl,⟨f1,f2⟩,?_⟩;rw [show xy.val (((b,s),(false,x)),((c,u),(false,y)))=(RV.of w).v from e2]
  conv=>whnf
  exact fin _ rfl
theorem Of:bc Tryz.prog 35 jB:=by
 refine bh HV aL Tryz.func35 (enters_of Tryz.func35 (by kernel_rfl) rfl) (fun _=>rfl) (fun _=>rfl) ?_
 intro ⟨⟨b,s,t⟩,⟨c,u,v⟩⟩ hp;have hp:RV.ok (b,s,t)∧RV.ok (c,u,v):=hp;obtain ⟨w,hw⟩:∃ w,w=aW (RV.q (b,s,t)) (RV.q (c,u,v)):=⟨_,rfl⟩;have fin:∀ x:Value,x=.int .i64 w→x=jB.val ((b,s,t),(c,u,v)):=fun x h=>by rw [h,hw]; rfl
 obtain ⟨x,hx⟩:∃ x,x=RV.den (b,s,t):=⟨_,rfl⟩;obtain ⟨y,hy⟩:∃ y,y=RV.den (c,u,v):=⟨_,rfl⟩;have ex:mc.val (b,s,t)=.agg ⟨[.bool b,.string s,.bool false,.string x]⟩:=by rw [hx]; rfl
 have ey:mc.val (c,u,v)=.agg ⟨[.bool c,.string u,.bool false,.string y]⟩:=by rw [hy]; rfl
 have f1:=RV.mD hp.1;have f2:=RV.mD hp.2;have e2:xz.val (((b,s),(false,x)),((c,u),(false,y)))=.int .i64 w:=by rw [hx,hy,hw]; exact Z7 (b,s,t) (c,u,v)
 rw [← hx] at f1;rw [← hy] at f2;have e1:=Z4 (b,s,t) (c,u,v);have hn:=RV.jX (i:=(b,s,t));have hm:=RV.jX (i:=(c,u,v));rw [← hw] at e1;obtain ⟨n,bT⟩:∃ n,n=RV.n (b,s,t):=⟨_,rfl⟩;obtain ⟨m,fo⟩:∃ n,n=RV.n (c,u,v):=⟨_,rfl⟩;obtain ⟨d,bX⟩:∃ n,n=RV.d (b,s,t):=⟨_,rfl⟩;obtain ⟨e,cH⟩:∃ n,n=RV.d (c,u,v):=⟨_,rfl⟩;rw [← bT,← bX] at hn e1;rw [← fo,← cH] at hm e1;conv=>whnf
 refine ⟨(b,s,t),rfl,trivial,?_⟩;by_cases h1:RV.gk (b,s,t)
 ·rw [show bM.val (b,s,t)=.tuple ⟨[.int .i64 n,.int .i64 d,.bool true]⟩ from by simp only [bM,if_pos h1,decide_eq_true h1,bT,bX]]
  conv=>whnf
  refine ⟨(c,u,v),rfl,trivial,?_⟩;by_cases J:RV.gk (c,u,v)
  ·rw [show bM.val (c,u,v)=.tuple ⟨[.int .i64 m,.int .i64 e,.bool true]⟩ from by simp only [bM,if_pos J,decide_eq_true J,fo,cH]]
   conv=>whnf
   refine ⟨((n,d),(m,e)),rfl,⟨hn h1,hm J⟩,?_⟩;rw [show zE.val ((n,d),(m,e))=.int .i64 w from e1]
   conv=>whnf
   exact fin _ rfl
  ·rw [show bM.val (c,u,v)=.tuple ⟨[.int .i64 0,.int .i64 0,.bool false]⟩ from by simp only [bM,if_neg J,decide_eq_false J]]
   conv=>whnf
   refine .inl ⟨5,[[],[],[1],[],[1,2,3],[0,1,2,3,4],[0,1,2,3,4,5]],by kernel_rfl,?_⟩
   conv=>whnf
   refine ⟨(b,s,t),rfl,by have:=hp.1.2; show t.size≤_; exact Nat.le_trans this (by decide),?_⟩
   rw [ex];conv=>whnf
   refine ⟨(c,u,v),rfl,by have:=hp.2.2; show v.size≤_; exact Nat.le_trans this (by decide),?_⟩
   rw [ey];conv=>whnf
   refine ⟨(((b,s),(false,x)),((c,u),(false,y))),rfl,⟨f1,f2⟩,?_⟩;rw [show xz.val (((b,s),(false,x)),((c,u),(false,y)))=.int .i64 w from e2]
   conv=>whnf
   exact fin _ rfl
 ·rw [show bM.val (b,s,t)=.tuple ⟨[.int .i64 0,.int .i64 0,.bool false]⟩ from by simp only [bM,if_neg h1,decide_eq_false h1]]
  conv=>whnf
  obtain ⟨k1,k2,k3,hk⟩:∃ (k1 k2:Int) (k3:Bool),bM.val (c,u,v)=.tuple ⟨[.int .i64 k1,.int .i64 k2,.bool k3]⟩:=⟨_,_,_,rfl⟩;refine ⟨(c,u,v),rfl,trivial,?_⟩;rw [hk];conv=>whnf
  refine .inl ⟨5,[[],[],[1],[],[1,2,3],[0,1,2,3,4],[0,1,2,3,4,5]],by kernel_rfl,?_⟩
  conv=>whnf
  refine ⟨(b,s,t),rfl,by have:=hp.1.2; show t.size≤_; exact Nat.le_trans this (by decide),?_⟩
  rw [ex];conv=>whnf
  refine ⟨(c,u,v),rfl,by have:=hp.2.2; show v.size≤_; exact Nat.le_trans this (by decide),?_⟩
  rw [ey];conv=>whnf
  refine ⟨(((b,s),(false,x)),((c,u),(false,y))),rfl,⟨f1,f2⟩,?_⟩;rw [show xz.val (((b,s),(false,x)),((c,u),(false,y)))=.int .i64 w from e2]
  conv=>whnf
  exact fin _ rfl
open Go Go.Ae
def Eml:Env:=pU [(36,.p jA),(88,.p mc),(86,.p oY),(87,.p l9),(83,.p fm),(130,.p ig)]
theorem zK:EnvOk Tryz.prog Eml:=qZ ⟨Cn,Hr,MK,Hq,sM,abL,trivial⟩ trivial
theorem wW:bc Tryz.prog 38 eU:=by
 refine bh zK aL Tryz.func38 (enters_of Tryz.func38 (by kernel_rfl) rfl) (fun _=>rfl) (fun _=>rfl) ?_
 intro ⟨⟨b,s,t⟩,⟨c,u,v⟩⟩ hp;have hp:RV.ok (b,s,t)∧RV.ok (c,u,v):=hp;obtain ⟨w,hw⟩:∃ w,w=RV.q (b,s,t) - RV.q (c,u,v):=⟨_,rfl⟩;conv=>whnf
 refine ⟨((b,s,t),(!c,u,v)),rfl,hp,?_⟩;rw [show jA.val ((b,s,t),(!c,u,v))=(RV.of w).v from by
  rw [hw];show bN (RV.q (b,s,t)+RV.q (!c,u,v))=bN _
  rw [OG,← Rat.sub_eq_add_neg]]
 conv=>whnf
 show (RV.of w).v=bN _
 rw [hw]
 rfl
theorem Gf:bc Tryz.prog 34 dT:=by
 refine bh zK aL Tryz.func34 (enters_of Tryz.func34 (by kernel_rfl) rfl) (fun _=>rfl) (fun _=>rfl) ?_
 intro ⟨b,s,t⟩ hp;have hp:RV.ok (b,s,t):=hp;obtain ⟨x,hx⟩:∃ x,x=RV.den (b,s,t):=⟨_,rfl⟩;obtain ⟨w,hw⟩:∃ w,w=aW (RV.q (b,s,t)) 0:=⟨_,rfl⟩;conv=>whnf
 refine ⟨(b,s,t),rfl,by have:=hp.2; show t.size≤_; exact Nat.le_trans this (by decide),?_⟩
 rw [show mc.val (b,s,t)=.agg ⟨[.bool b,.string s,.bool false,.string x]⟩ from by rw [hx]; rfl]
 conv=>whnf
 refine ⟨((b,s),(false,⟨#[]⟩)),rfl,⟨by have:=hp.1; show s.size≤_; exact Nat.le_trans this (by decide),Nat.zero_le _⟩,?_⟩
 rw [show l9.val ((b,s),(false,⟨#[]⟩))=.int .i64 w from by rw [hw,Z8]; rfl]
 conv=>whnf
 show Value.int .i64 w=_
 rw [hw]
 rfl
theorem zk:bc Tryz.prog 33 lh:=by
 refine bh zK aL Tryz.func33 (enters_of Tryz.func33 (by kernel_rfl) rfl) (fun _=>rfl) (fun _=>rfl) ?_
 intro (n:Int) hp;have hp:-9223372036854775808≤n∧n < 9223372036854775808:=hp;obtain ⟨w,hw⟩:∃ w:Rat,w=(n:Rat):=⟨_,rfl⟩;obtain ⟨B,m,hE⟩:=EI.mk' n;obtain ⟨k,hF⟩:=EI.je (show 0≤(1:Int) by decide)
 have hm:=hE.size;have hk:=hF.size;have h8:=um hp;have h1:=um r1;conv=>whnf
 refine ⟨n,rfl,hp,?_⟩;rw [show fm.val n=.agg ⟨[.bool B,.string m]⟩ from hE.enc]
 conv=>whnf
 refine ⟨(1:Int),rfl,r1,?_⟩;rw [show fm.val (1:Int)=.agg ⟨[.bool false,.string k]⟩ from hF.enc]
 conv=>whnf
 refine ⟨((B,m),(false,k)),rfl,⟨by show m.size≤_; omega,by show k.size≤_; omega,by show 0 < IV.z (false,k); rw [hF.val]; decide⟩,?_⟩
 rw [show oY.val ((B,m),(false,k))=(RV.of w).v from by
  rw [hw,fw n];show bN (mkRat (IV.z (B,m)) (IV.z (false,k)).natAbs)=_
  rw [hE.val,hF.val]; rfl]
 conv=>whnf
 show (RV.of w).v=bN _
 rw [hw]
 rfl
theorem Ve:bc Tryz.prog 129 nm:=by
 refine bh zK aL Tryz.func129 (enters_of Tryz.func129 (by kernel_rfl) rfl) (fun _=>rfl) (fun _=>rfl) ?_
 intro ⟨b,s,t⟩ hp;have hp:RV.ok (b,s,t):=hp;obtain ⟨⟨c,u,v⟩,hw⟩:∃ w,w=RV.of (RV.q (b,s,t)):=⟨_,rfl⟩;obtain ⟨x,hx⟩:∃ x,x=RV.den (b,s,t):=⟨_,rfl⟩;have f1:=RV.mD hp;have e1:=RV.aea (b,s,t);rw [show RV.den (b,s,t)=x from hx.symm] at f1 e1
 have heq:=EL (b,s,t) (c,u,v);conv=>whnf
 refine .inl ⟨4,[[],[],[1],[1,2],[0,1,2,3]],by kernel_rfl,?_⟩
 conv=>whnf
 refine ⟨(b,s,t),rfl,by have:=hp.2; show t.size≤_; exact Nat.le_trans this (by decide),?_⟩
 rw [show mc.val (b,s,t)=.agg ⟨[.bool b,.string s,.bool false,.string x]⟩ from by rw [hx]; rfl]
 conv=>whnf
 refine ⟨((b,s),(false,x)),rfl,⟨Nat.le_trans f1.1.1 (by decide),Nat.le_trans f1.1.2 (by decide),f1.2⟩,?_⟩
 rw [show oY.val ((b,s),(false,x))=RV.v (c,u,v) from by
  rw [hw,e1]; rfl]
 conv=>whnf
 by_cases h:(b,s,t)=(c,u,v)
 ·rw [decide_eq_true h] at heq;refine aI (fun J=>?_) (fun J=>?_)
  ·exfalso;rw [show fi [Value.bool b,.string s,.string t] [.bool c,.string u,.string v]=true from heq] at J
   cases J
  ·conv=>whnf
   show _=Value.int .i64 (if (b,s,t)=RV.of (RV.q (b,s,t)) then 0 else 1)
   rw [← hw,if_pos h]
 ·rw [decide_eq_false h] at heq;refine aI (fun J=>?_) (fun J=>?_)
  ·conv=>whnf
   show _=Value.int .i64 (if (b,s,t)=RV.of (RV.q (b,s,t)) then 0 else 1)
   rw [← hw,if_neg h]
  ·exfalso;rw [show fi [Value.bool b,.string s,.string t] [.bool c,.string u,.string v]=false from heq] at J
   cases J
theorem Og:bc Tryz.prog 82 uV:=by
 refine bh zK aL Tryz.func82 (enters_of Tryz.func82 (by kernel_rfl) rfl) (fun _=>rfl) (fun _=>rfl) ?_
 intro ⟨⟨b,s⟩,⟨c,t⟩⟩ hp;have hp:s.size≤549755813888∧t.size≤549755813888:=hp;obtain ⟨x,hx⟩:∃ x,x=IV.z (b,s):=⟨_,rfl⟩;obtain ⟨y,hy⟩:∃ y,y=IV.z (c,t):=⟨_,rfl⟩;obtain ⟨w,hw⟩:∃ w,w=Rat.divInt x y:=⟨_,rfl⟩;have ec:l9.val ((c,t),(false,⟨#[]⟩))=.int .i64 (eE y 0):=by rw [hy]; rfl
 have oq:y=0→∀ v,v=bN 0→Value.tuple ⟨[v,.int .i64 10]⟩=uV.val ((b,s),(c,t)):=fun h v hv=>by
  show _=me (IV.z (b,s)) (IV.z (c,t))
  rw [← hy,hv]; unfold me; rw [if_pos h,h,Rat.divInt_zero]
 have fin:y≠0→∀ v,v=bN w→Value.tuple ⟨[v,.int .i64 0]⟩=uV.val ((b,s),(c,t)):=fun h v hv=>by
  show _=me (IV.z (b,s)) (IV.z (c,t))
  rw [← hx,← hy,hv]; unfold me; rw [if_neg h,hw]
 conv=>whnf
 refine ⟨((c,t),(false,⟨#[]⟩)),rfl,⟨hp.2,Nat.zero_le _⟩,?_⟩;rw [ec];rcases Int.lt_trichotomy y 0 with h | h | h
 ·rw [uh h];obtain ⟨B,m,hE⟩:=EI.mk' (-x);obtain ⟨k,hF⟩:=EI.je (show 0≤-y by omega)
  have hm:m.size≤549755813888:=by rw [hE.size,Int.natAbs_neg,hx]; exact dU hp.1
  have hk:k.size≤549755813888:=by rw [hF.size,Int.natAbs_neg,hy]; exact dU hp.2
  conv=>whnf
  refine .inl ⟨3,[[],[0],[],[0,1,2],[0,1,2,3],[0,1,2,3,4]],by kernel_rfl,?_⟩
  conv=>whnf
  refine ⟨(b,s),rfl,hp.1,?_⟩;rw [show ig.val (b,s)=.agg ⟨[.bool B,.string m]⟩ from by show aH (-IV.z (b,s))=_; rw [← hx,hE.enc]]
  conv=>whnf
  refine ⟨(c,t),rfl,hp.2,?_⟩;rw [show ig.val (c,t)=.agg ⟨[.bool false,.string k]⟩ from by show aH (-IV.z (c,t))=_; rw [← hy,hF.enc]]
  conv=>whnf
  refine ⟨((B,m),(false,k)),rfl,⟨hm,hk,by show 0 < IV.z (false,k); rw [hF.val]; omega⟩,?_⟩
  rw [show oY.val ((B,m),(false,k))=(RV.of w).v from by
   rw [hw,SL h];show bN (mkRat (IV.z (B,m)) (IV.z (false,k)).natAbs)=_
   rw [hE.val,hF.val]; rfl]
  conv=>whnf
  exact fin (by omega) _ rfl
 ·rw [h];conv=>whnf
  exact oq h _ acD.symm
 ·rw [ui h];conv=>whnf
  refine ⟨((b,s),(c,t)),rfl,⟨hp.1,hp.2,by show 0 < IV.z (c,t); omega⟩,?_⟩
  rw [show oY.val ((b,s),(c,t))=(RV.of w).v from by
   rw [hw,Ly h,hx,hy]; rfl]
  conv=>whnf
  exact fin (by omega) _ rfl
def Emm:Env:=En [(82,.p uV),(83,.p fm)]
theorem ac3:EnvOk Tryz.prog Emm:=bI ⟨Og,sM,trivial⟩ trivial
theorem Vf:bc Tryz.prog 30 GH:=by
 refine bh ac3 aL Tryz.func30 (enters_of Tryz.func30 (by kernel_rfl) rfl) (fun _=>rfl) (fun _=>rfl) ?_
 intro ⟨n,d⟩ hp;have hp:(-9223372036854775808≤n∧n < 9223372036854775808)∧-9223372036854775808≤d∧d < 9223372036854775808:=hp;obtain ⟨B,m,hE⟩:=EI.mk' n;obtain ⟨D,k,hF⟩:=EI.mk' d;have hm:=hE.size;have hk:=hF.size;have h8:=um hp.1;have h1:=um hp.2;obtain ⟨q,e,Rj⟩:∃ (q:Rat) (e:Int),me n d=.tuple ⟨[(RV.of q).v,.int .i64 e]⟩:=by
  exact ⟨_,_,rfl⟩
 conv=>whnf
 refine ⟨n,rfl,hp.1,?_⟩;rw [show fm.val n=.agg ⟨[.bool B,.string m]⟩ from hE.enc]
 conv=>whnf
 refine ⟨d,rfl,hp.2,?_⟩;rw [show fm.val d=.agg ⟨[.bool D,.string k]⟩ from hF.enc]
 conv=>whnf
 refine ⟨((B,m),(D,k)),rfl,⟨by show m.size≤_; omega,by show k.size≤_; omega⟩,?_⟩
 rw [show uV.val ((B,m),(D,k))=.tuple ⟨[(RV.of q).v,.int .i64 e]⟩ from by
  show me (IV.z (B,m)) (IV.z (D,k))=_
  rw [hE.val,hF.val,Rj]]
 conv=>whnf
 show Value.tuple ⟨[(RV.of q).v,.int .i64 e]⟩=me n d
 rw [Rj]
open Go Go.Ae
def Eqa:Env:=En [(173,.p jn),(155,.p fm),(175,.p vi),(176,.p iT),(174,.p ig)]
theorem Pr:EnvOk Tryz.prog Eqa:=bI ⟨GU,zj,Zn,Zo,GS,trivial⟩ trivial
theorem Nx:bc Tryz.prog 157 nv:=by
 refine bh Pr aL Tryz.func157 (enters_of Tryz.func157 (by kernel_rfl) rfl) (fun _=>rfl) (fun _=>rfl) ?_
 intro ⟨b,s,t⟩ hp;have hp:s.size≤8589934592∧t.size≤8589934592:=hp;obtain ⟨B,m,hE⟩:=EI.mk' (RV.n (b,s,t));obtain ⟨k,hF⟩:=EI.je (show 0≤((ab t:Nat):Int) by omega)
 obtain ⟨j,hG⟩:=EI.je (show 0≤(1:Int) by decide)
 have fin:∀ (v:Value),v=aH ((RV.d (b,s,t):Nat):Int)→Value.tuple ⟨[.agg ⟨[.bool B,.string m]⟩,v]⟩=nv.val (b,s,t):=fun v h=>by
  rw [h,← hE.enc]; rfl
 conv=>whnf
 refine ⟨((b,s),(false,⟨#[]⟩)),rfl,⟨by show s.size≤_; omega,Nat.zero_le _⟩,?_⟩
 rw [show jn.val ((b,s),(false,⟨#[]⟩))=.agg ⟨[.bool B,.string m]⟩ from by
  show aH (IV.z (b,s)+0)=_
  rw [Int.add_zero]; exact hE.enc]
 conv=>whnf
 refine ⟨((false,t),(false,⟨#[]⟩)),rfl,⟨by show t.size≤_; omega,Nat.zero_le _⟩,?_⟩
 rw [show jn.val ((false,t),(false,⟨#[]⟩))=.agg ⟨[.bool false,.string k]⟩ from by
  show aH (((ab t:Nat):Int)+0)=_
  rw [Int.add_zero]; exact hF.enc]
 conv=>whnf
 rw [hF.nil];by_cases h:ab t=0
 ·rw [decide_eq_true (by omega)]
  have fin:=fin (.agg ⟨[.bool false,.string j]⟩) (by rw [← hG.enc]; unfold RV.d; rw [if_pos h]; rfl)
  conv=>whnf
  refine ⟨(1:Int),rfl,r1,?_⟩;rw [show fm.val (1:Int)=.agg ⟨[.bool false,.string j]⟩ from hG.enc]
  conv=>whnf
  refine .inr (.inl ⟨(.br 0 (.br 1 (.br 2 (.br 3 .leaf .leaf) .leaf) (.br 2 (.br 1 (.br 3 .leaf .leaf) .leaf) .leaf)) (.br 1 (.br 0 (.br 2 (.br 3 .leaf .leaf) .leaf) .leaf) .leaf)),by kernel_rfl,?_⟩)
  repeat' ((conv=>whnf); first | exact True.intro | refine And.intro ?_ ?_)
  all_goals conv=>whnf
  all_goals exact fin
 ·rw [decide_eq_false (by omega)]
  have fin:=fin (.agg ⟨[.bool false,.string k]⟩) (by rw [← hF.enc]; unfold RV.d; rw [if_neg h])
  conv=>whnf
  refine .inr (.inl ⟨(.br 0 (.br 1 (.br 2 (.br 3 .leaf .leaf) .leaf) (.br 2 (.br 1 (.br 3 .leaf .leaf) .leaf) .leaf)) (.br 1 (.br 0 (.br 2 (.br 3 .leaf .leaf) .leaf) .leaf) .leaf)),by kernel_rfl,?_⟩)
  repeat' ((conv=>whnf); first | exact True.intro | refine And.intro ?_ ?_)
  all_goals conv=>whnf
  all_goals exact fin
theorem Vg:bc Tryz.prog 154 p8:=by
 refine bh Pr aL Tryz.func154 (enters_of Tryz.func154 (by kernel_rfl) rfl) (fun _=>rfl) (fun _=>rfl) ?_
 intro ⟨⟨b,s⟩,⟨c,t⟩⟩ hp;have hp:s.size≤549755813888∧t.size≤549755813888∧0 < IV.z (c,t):=hp;obtain ⟨x,hx⟩:∃ x,x=IV.z (b,s):=⟨_,rfl⟩;obtain ⟨d,hd⟩:∃ d,d=(IV.z (c,t)).natAbs:=⟨_,rfl⟩;have bX:IV.z (c,t)=((d:Nat):Int):=by omega
 have fL:d≠0:=by omega
 obtain ⟨q,hq⟩:∃ q,q=mkRat x d:=⟨_,rfl⟩;have fin:∀ v:Value,v=bN q→v=p8.val ((b,s),(c,t)):=fun v h=>by rw [h,hq,hx,hd]; rfl
 obtain ⟨B,m,hE⟩:=EI.mk' x;obtain ⟨k,hF⟩:=EI.je (show 0≤((d:Nat):Int) by omega)
 have fg:aU d≤549755813888:=by rw [hd]; exact IV.aU (i:=(c,t)) hp.2.1
 have rz:m.size≤549755813888:=by rw [hE.size,hx]; exact dU hp.1
 have jI:k.size≤549755813888:=by rw [hF.size,Int.natAbs_natCast]; exact fg
 conv=>whnf
 refine .inl ⟨5,[[],[],[0,1],[],[],[0,1,2,3,4],[0,1,2,3,4,5],[0,1,2,3,4,5,6]],by kernel_rfl,?_⟩
 conv=>whnf
 refine ⟨((b,s),(false,⟨#[]⟩)),rfl,⟨hp.1,Nat.zero_le _⟩,?_⟩;rw [show jn.val ((b,s),(false,⟨#[]⟩))=.agg ⟨[.bool B,.string m]⟩ from by
  show aH (IV.z (b,s)+0)=_
  rw [Int.add_zero,← hx]; exact hE.enc]
 conv=>whnf
 refine ⟨((c,t),(false,⟨#[]⟩)),rfl,⟨hp.2.1,Nat.zero_le _⟩,?_⟩;rw [show jn.val ((c,t),(false,⟨#[]⟩))=.agg ⟨[.bool false,.string k]⟩ from by
  show aH (IV.z (c,t)+0)=_
  rw [Int.add_zero,bX]; exact hF.enc]
 conv=>whnf
 rw [hE.nil];by_cases h1:x=0
 ·rw [decide_eq_true h1];conv=>whnf
  exact fin _ (by rw [hq,h1]; exact (yz d).symm)
 ·rw [decide_eq_false h1];obtain ⟨g,hg⟩:∃ g,g=Int.gcd x d:=⟨_,rfl⟩;obtain ⟨gs,rI⟩:=EI.je (show 0≤((g:Nat):Int) by omega)
  obtain ⟨qb,qs,hn⟩:=EI.mk' q.num;obtain ⟨es,he⟩:=EI.je (show 0≤((q.den:Nat):Int) by omega)
  have nZ:((g:Nat):Int)≠0:=by
   have:0 < g:=by rw [hg]; exact Int.gcd_pos_of_ne_zero_left _ h1
   omega
  have IN:g≤d:=by
   have h3:=(A8 fL hg).2.1;rcases Nat.lt_or_ge d g with h | h
   ·rw [Nat.div_eq_of_lt h] at h3; omega
   ·exact h
  have AN:gs.size≤549755813888:=by
   rw [rI.size,Int.natAbs_natCast];exact Nat.le_trans (ja IN) fg
  have D5:x.fdiv ((g:Nat):Int)=q.num:=by rw [hg,hq]; exact Hb x fL
  have rF:((d:Nat):Int).fdiv ((g:Nat):Int)=((q.den:Nat):Int):=by rw [hg,hq]; exact Hc x fL
  conv=>whnf
  refine ⟨((B,m),(false,k)),rfl,⟨rz,jI⟩,?_⟩;rw [show vi.val ((B,m),(false,k))=.agg ⟨[.bool false,.string gs]⟩ from by
   show aH ((Int.gcd (IV.z (B,m)) (IV.z (false,k)):Nat):Int)=_
   rw [hE.val,hF.val,← hg,rI.enc]]
  conv=>whnf
  obtain ⟨fb,fs,hf⟩:=EI.mk' (x.fmod ((g:Nat):Int));refine ⟨((B,m),(false,gs)),rfl,⟨rz,AN⟩,?_⟩;rw [show iT.val ((B,m),(false,gs))=.tuple ⟨[.agg ⟨[.bool qb,.string qs]⟩,.agg ⟨[.bool fb,.string fs]⟩,.int .i64 0]⟩ from by
   simp only [iT,rI.val,hE.val,if_neg nZ];rw [D5,hn.enc,hf.enc]]
  conv=>whnf
  obtain ⟨kb,ks,hk⟩:=EI.mk' (((d:Nat):Int).fmod ((g:Nat):Int));refine ⟨((false,k),(false,gs)),rfl,⟨jI,AN⟩,?_⟩;rw [show iT.val ((false,k),(false,gs))=.tuple ⟨[.agg ⟨[.bool false,.string es]⟩,.agg ⟨[.bool kb,.string ks]⟩,.int .i64 0]⟩ from by
   simp only [iT,rI.val,hF.val,if_neg nZ];rw [rF,he.enc,hk.enc]]
  conv=>whnf
  have enc:∀ y,fI q.den=y→Value.agg ⟨[.bool qb,.string qs,.string y]⟩=bN q:=fun y hy=>by
   unfold bN;rw [← hn.nY,← hn.sign,hy]
  have ees:es=nb q.den:=he.nY;have qQ:(es.toList == (⟨#[1]⟩:ByteArray).toList)=decide (q.den=1):=by
   rw [qi,ees,show (⟨#[1]⟩:ByteArray)=nb 1 from aec.symm]
   by_cases h:q.den=1
   ·rw [h]; simp
   ·rw [decide_eq_false h,decide_eq_false (fun e=>h (OA e))]
  rw [qQ];by_cases J:q.den=1
  ·rw [decide_eq_true J];conv=>whnf
   exact fin _ (enc _ (by unfold fI; rw [if_pos J]))
  ·rw [decide_eq_false J];conv=>whnf
   exact fin _ (enc _ (by unfold fI; rw [if_neg J,he.nY,Int.natAbs_natCast]))
open Go Go.Ae
def Eqb:Env:=pU [(158,.p bM),(172,.p n9),(157,.p nv),(154,.p p8),(155,.p fm),(173,.p jn),(160,.p fE),(159,.p l9)]
theorem zL:EnvOk Tryz.prog Eqb:=qZ ⟨WO,WR,Nx,Vg,zj,GU,Zm,Zk,trivial⟩ trivial
theorem GV:bc Tryz.prog 120 lh:=by
 refine bh zL aL Tryz.func120 (enters_of Tryz.func120 (by kernel_rfl) rfl) (fun _=>rfl) (fun _=>rfl) ?_
 intro (n:Int) hp;have hp:-9223372036854775808≤n∧n < 9223372036854775808:=hp;obtain ⟨w,hw⟩:∃ w:Rat,w=(n:Rat):=⟨_,rfl⟩;obtain ⟨B,m,hE⟩:=EI.mk' n;obtain ⟨k,hF⟩:=EI.je (show 0≤(1:Int) by decide)
 have hm:=hE.size;have hk:=hF.size;have h8:=um hp;have h1:=um r1;conv=>whnf
 refine ⟨n,rfl,hp,?_⟩;rw [show fm.val n=.agg ⟨[.bool B,.string m]⟩ from hE.enc]
 conv=>whnf
 refine ⟨(1:Int),rfl,r1,?_⟩;rw [show fm.val (1:Int)=.agg ⟨[.bool false,.string k]⟩ from hF.enc]
 conv=>whnf
 refine ⟨((B,m),(false,k)),rfl,⟨by show m.size≤_; omega,by show k.size≤_; omega,by show 0 < IV.z (false,k); rw [hF.val]; decide⟩,?_⟩
 rw [show p8.val ((B,m),(false,k))=(RV.of w).v from by
  rw [hw,fw n];show bN (mkRat (IV.z (B,m)) (IV.z (false,k)).natAbs)=_
  rw [hE.val,hF.val]; rfl]
 conv=>whnf
 show (RV.of w).v=bN _
 rw [hw]
 rfl
theorem BI:bc Tryz.prog 153 qz:=by
 refine bh zL aL Tryz.func153 (enters_of Tryz.func153 (by kernel_rfl) rfl) (fun _=>rfl) (fun _=>rfl) ?_
 intro ⟨b,s,t⟩ hp;have hp:s.size≤8589934592∧t.size≤8589934592:=hp;obtain ⟨w,hw⟩:∃ w,w=RV.q (b,s,t):=⟨_,rfl⟩;have fin:∀ x:Value,x=(RV.of w).v→x=qz.val (b,s,t):=fun x h=>by rw [h,hw]; rfl
 have hn:=RV.jX (i:=(b,s,t));obtain ⟨n,bT⟩:∃ n,n=RV.n (b,s,t):=⟨_,rfl⟩;obtain ⟨d,bX⟩:∃ n,n=RV.d (b,s,t):=⟨_,rfl⟩;have fL:d≠0:=by rw [bX]; exact RV.jz _
 have Rk:w=mkRat n d:=by rw [hw,bT,bX]; rfl
 conv=>whnf
 refine ⟨(b,s,t),rfl,trivial,?_⟩;by_cases h1:RV.gk (b,s,t)
 ·rw [show bM.val (b,s,t)=.tuple ⟨[.int .i64 n,.int .i64 d,.bool true]⟩ from by simp only [bM,if_pos h1,decide_eq_true h1,bT,bX]]
  have hn:=hn h1;rw [← bT,← bX] at hn;have hn:(-16777216 < n∧n < 16777216)∧0 < d∧d < 16777216:=hn;conv=>whnf
  refine ⟨(n,d),rfl,⟨by show n.natAbs < _; omega,by show d≠0; omega,by show d < _; omega⟩,?_⟩
  rw [show n9.val (n,d)=(RV.of w).v from by rw [Rk]; rfl]
  conv=>whnf
  exact fin _ rfl
 ·rw [show bM.val (b,s,t)=.tuple ⟨[.int .i64 0,.int .i64 0,.bool false]⟩ from by simp only [bM,if_neg h1,decide_eq_false h1]]
  obtain ⟨B,m,hE⟩:=EI.mk' n;obtain ⟨k,hF⟩:=EI.je (show 0≤((d:Nat):Int) by omega)
  have rz:m.size≤8589934592:=by rw [hE.size,bT]; exact dU (b:=b) hp.1
  have jI:k.size≤8589934593:=by
   rw [hF.size,bX,← RV.jW];exact dU (Nat.le_trans (RV.rU _) (Nat.succ_le_succ hp.2))
  conv=>whnf
  refine ⟨(b,s,t),rfl,hp,?_⟩;rw [show nv.val (b,s,t)=.tuple ⟨[.agg ⟨[.bool B,.string m]⟩,.agg ⟨[.bool false,.string k]⟩]⟩ from by
   rw [← hE.enc,← hF.enc,bT,bX]; rfl]
  conv=>whnf
  refine ⟨((B,m),(false,k)),rfl,⟨by show m.size≤_; omega,by show k.size≤_; omega,by show 0 < IV.z (false,k); rw [hF.val]; omega⟩,?_⟩
  rw [show p8.val ((B,m),(false,k))=(RV.of w).v from by
   show bN (mkRat (IV.z (B,m)) (IV.z (false,k)).natAbs)=_
   rw [hE.val,hF.val,Rk,Int.natAbs_natCast]; rfl]
  conv=>whnf
  exact fin _ rfl
def Eqc:Env:=pU [(153,.p qz)]
theorem ac4:EnvOk Tryz.prog Eqc:=qZ ⟨BI,trivial⟩ trivial
theorem Ub:bc Tryz.prog 119 nm:=by
 refine bh ac4 aL Tryz.func119 (enters_of Tryz.func119 (by kernel_rfl) rfl) (fun _=>rfl) (fun _=>rfl) ?_
 intro ⟨b,s,t⟩ hp;have hp:RV.ok (b,s,t):=hp;obtain ⟨⟨c,u,v⟩,hw⟩:∃ w,w=RV.of (RV.q (b,s,t)):=⟨_,rfl⟩;have heq:=EL (c,u,v) (b,s,t);conv=>whnf
 refine .inl ⟨3,[[],[0],[],[0,1,2]],by kernel_rfl,?_⟩
 conv=>whnf
 refine ⟨(b,s,t),rfl,hp,?_⟩;rw [show qz.val (b,s,t)=RV.v (c,u,v) from by rw [hw]; rfl]
 conv=>whnf
 by_cases h:(c,u,v)=(b,s,t)
 ·rw [decide_eq_true h] at heq;refine aI (fun J=>?_) (fun J=>?_)
  ·exfalso;rw [show fi [Value.bool c,.string u,.string v] [.bool b,.string s,.string t]=true from heq] at J
   cases J
  ·conv=>whnf
   show _=Value.int .i64 (if (b,s,t)=RV.of (RV.q (b,s,t)) then 0 else 1)
   rw [← hw,if_pos h.symm]
 ·rw [decide_eq_false h] at heq;refine aI (fun J=>?_) (fun J=>?_)
  ·conv=>whnf
   show _=Value.int .i64 (if (b,s,t)=RV.of (RV.q (b,s,t)) then 0 else 1)
   rw [← hw,if_neg (fun e=>h e.symm)]
  ·exfalso;rw [show fi [Value.bool c,.string u,.string v] [.bool b,.string s,.string t]=false from heq] at J
   cases J
open Go Go.Ae
theorem Gg:bc Tryz.prog 169 jA:=by
 refine bh zL aL Tryz.func169 (enters_of Tryz.func169 (by kernel_rfl) rfl) (fun _=>rfl) (fun _=>rfl) ?_
 intro ⟨⟨b,s,t⟩,⟨c,u,v⟩⟩ hp;have hp:(s.size≤8589934592∧t.size≤8589934592)∧u.size≤8589934592∧v.size≤8589934592:=hp;have hn:=RV.jX (i:=(b,s,t));have hm:=RV.jX (i:=(c,u,v));obtain ⟨n,bT⟩:∃ n,n=RV.n (b,s,t):=⟨_,rfl⟩;obtain ⟨m,fo⟩:∃ n,n=RV.n (c,u,v):=⟨_,rfl⟩;obtain ⟨d,bX⟩:∃ n,n=RV.d (b,s,t):=⟨_,rfl⟩;obtain ⟨e,cH⟩:∃ n,n=RV.d (c,u,v):=⟨_,rfl⟩;have fL:d≠0:=by rw [bX]; exact RV.jz _
 have Rl:e≠0:=by rw [cH]; exact RV.jz _
 rw [← bT,← bX] at hn;rw [← fo,← cH] at hm;obtain ⟨B,p,hP⟩:=EI.mk' n;obtain ⟨q,hQ⟩:=EI.je (show 0≤((d:Nat):Int) by omega)
 obtain ⟨D,p',mq⟩:=EI.mk' m;obtain ⟨q',kO⟩:=EI.je (show 0≤((e:Nat):Int) by omega)
 have sn:aU n.natAbs≤8589934593:=by rw [bT]; exact dU (b:=b) (Nat.le_succ_of_le hp.1.1)
 have sm:aU m.natAbs≤8589934593:=by rw [fo]; exact dU (b:=c) (Nat.le_succ_of_le hp.2.1)
 have sd:aU (Int.natAbs ((d:Nat):Int))≤8589934593:=by
  rw [bX,← RV.jW];exact dU (Nat.le_trans (RV.rU _) (Nat.succ_le_succ hp.1.2))
 have se:aU (Int.natAbs ((e:Nat):Int))≤8589934593:=by
  rw [cH,← RV.jW];exact dU (Nat.le_trans (RV.rU _) (Nat.succ_le_succ hp.2.2))
 have zp:p.size≤8589934593:=by rw [hP.size]; exact sn
 have zq:q.size≤8589934593:=by rw [hQ.size]; exact sd
 have Rm:p'.size≤8589934593:=by rw [mq.size]; exact sm
 have Rn:q'.size≤8589934593:=by rw [kO.size]; exact se
 have pa:nv.val (b,s,t)=.tuple ⟨[.agg ⟨[.bool B,.string p]⟩,.agg ⟨[.bool false,.string q]⟩]⟩:=by
  rw [← hP.enc,← hQ.enc,bT,bX]; rfl
 have pb:nv.val (c,u,v)=.tuple ⟨[.agg ⟨[.bool D,.string p']⟩,.agg ⟨[.bool false,.string q']⟩]⟩:=by
  rw [← mq.enc,← kO.enc,fo,cH]; rfl
 obtain ⟨w,hw⟩:∃ w,w=mkRat (n*e+m*d) (d*e):=⟨_,rfl⟩;have fin:∀ x:Value,x=(RV.of w).v→x=jA.val ((b,s,t),(c,u,v)):=fun x h=>by
  rw [h,hw,bT,fo,bX,cH];show bN _=bN (RV.q (b,s,t)+RV.q (c,u,v))
  rw [HM]
 conv=>whnf
 refine ⟨(b,s,t),rfl,trivial,?_⟩;by_cases h1:RV.gk (b,s,t)
 ·rw [show bM.val (b,s,t)=.tuple ⟨[.int .i64 n,.int .i64 d,.bool true]⟩ from by simp only [bM,if_pos h1,decide_eq_true h1,bT,bX]]
  conv=>whnf
  refine ⟨(c,u,v),rfl,trivial,?_⟩;by_cases J:RV.gk (c,u,v)
  ·rw [show bM.val (c,u,v)=.tuple ⟨[.int .i64 m,.int .i64 e,.bool true]⟩ from by simp only [bM,if_pos J,decide_eq_true J,fo,cH]]
   have a9:I4.ok ((n,d),(m,e)):=⟨hn h1,hm J⟩;obtain ⟨b1,b2,b3,b4⟩:=I4.bounds a9;simp only at b1 b2 b3 b4;conv=>whnf
   obtain ⟨x,hx⟩:∃ x,x=n*(e:Int):=⟨_,rfl⟩;obtain ⟨y,hy⟩:∃ y,y=m*(d:Int):=⟨_,rfl⟩;obtain ⟨k,hk⟩:∃ k,k=d*e:=⟨_,rfl⟩;rw [← hx] at b1;rw [← hy] at b2;rw [← hk] at b4;have e1:IntKind.i64.wrap (IntKind.i64.wrap (n*(e:Int))+IntKind.i64.wrap (m*(d:Int)))=x+y:=by
    rw [← hx,← hy,ay (x:=x) (by omega) (by omega),ay (x:=y) (by omega) (by omega),ay (by omega) (by omega)]
   have e2:IntKind.i64.wrap ((d:Int)*(e:Int))=(k:Int):=by
    rw [← Int.natCast_mul,← hk,ay (by omega) (by omega)]
   rw [e1,e2];refine ⟨(x+y,k),rfl,⟨by show (x+y).natAbs < _; omega,by show k≠0; omega,by show k < _; omega⟩,?_⟩
   rw [show n9.val (x+y,k)=(RV.of w).v from by rw [hw,hx,hy,hk]; rfl]
   conv=>whnf
   exact fin _ rfl
  ·rw [show bM.val (c,u,v)=.tuple ⟨[.int .i64 0,.int .i64 0,.bool false]⟩ from by simp only [bM,if_neg J,decide_eq_false J]]
   conv=>whnf
   refine ⟨(b,s,t),rfl,hp.1,?_⟩;rw [pa];conv=>whnf
   refine ⟨(c,u,v),rfl,hp.2,?_⟩;rw [pb];obtain ⟨B1,m1,g1⟩:=EI.mk' (n*(e:Int));obtain ⟨B2,m2,g2⟩:=EI.mk' (m*(d:Int));obtain ⟨B3,m3,g3⟩:=EI.mk' (n*(e:Int)+m*(d:Int));obtain ⟨B4,m4,g4⟩:=EI.mk' ((d:Int)*(e:Int));have z1:=g1.gL sn se;have z2:=g2.gL sm sd;have z4:=g4.gL sd se;have z3:m3.size≤17179869187:=g3.F3 (by rw [← g1.size]; omega) (by rw [← g2.size]; omega)
   have lZ:(0:Int) < (d:Int)*(e:Int):=Int.mul_pos (by omega) (by omega)
   conv=>whnf
   refine .inl ⟨9,[[],[],[0,1],[],[],[0,1,2,3,4],[0,1,2,3,4,5],[],[],[0,1,2,3,4,5,6,7,8],[0,1,2,3,4,5,6,7,8,9],[0,1,2,3,4,5,6,7,8,9,10]],by kernel_rfl,?_⟩
   conv=>whnf
   refine ⟨((B,p),(false,q')),rfl,⟨by show p.size≤_; omega,by show q'.size≤_; omega⟩,?_⟩
   rw [show fE.val ((B,p),(false,q'))=.agg ⟨[.bool B1,.string m1]⟩ from by show aH (IV.z (B,p)*IV.z (false,q'))=_; rw [hP.val,kO.val,g1.enc]]
   conv=>whnf
   refine ⟨((D,p'),(false,q)),rfl,⟨by show p'.size≤_; omega,by show q.size≤_; omega⟩,?_⟩
   rw [show fE.val ((D,p'),(false,q))=.agg ⟨[.bool B2,.string m2]⟩ from by show aH (IV.z (D,p')*IV.z (false,q))=_; rw [mq.val,hQ.val,g2.enc]]
   conv=>whnf
   refine ⟨((B1,m1),(B2,m2)),rfl,⟨by show m1.size≤_; omega,by show m2.size≤_; omega⟩,?_⟩
   rw [show jn.val ((B1,m1),(B2,m2))=.agg ⟨[.bool B3,.string m3]⟩ from by show aH (IV.z (B1,m1)+IV.z (B2,m2))=_; rw [g1.val,g2.val,g3.enc]]
   conv=>whnf
   refine ⟨((false,q),(false,q')),rfl,⟨by show q.size≤_; omega,by show q'.size≤_; omega⟩,?_⟩
   rw [show fE.val ((false,q),(false,q'))=.agg ⟨[.bool B4,.string m4]⟩ from by show aH (IV.z (false,q)*IV.z (false,q'))=_; rw [hQ.val,kO.val,g4.enc]]
   conv=>whnf
   refine ⟨((B3,m3),(B4,m4)),rfl,⟨by show m3.size≤_; omega,by show m4.size≤_; omega,by show 0 < IV.z (B4,m4); rw [g4.val]; exact lZ⟩,?_⟩
   rw [show p8.val ((B3,m3),(B4,m4))=(RV.of w).v from by
    show bN (mkRat (IV.z (B3,m3)) (IV.z (B4,m4)).natAbs)=_
    rw [g3.val,g4.val,hw,← Int.natCast_mul,Int.natAbs_natCast]; rfl]
   conv=>whnf
   exact fin _ rfl
 ·rw [show bM.val (b,s,t)=.tuple ⟨[.int .i64 0,.int .i64 0,.bool false]⟩ from by simp only [bM,if_neg h1,decide_eq_false h1]]
  conv=>whnf
  obtain ⟨k1,k2,k3,hk⟩:∃ (k1 k2:Int) (k3:Bool),bM.val (c,u,v)=.tuple ⟨[.int .i64 k1,.int .i64 k2,.bool k3]⟩:=⟨_,_,_,rfl⟩;refine ⟨(c,u,v),rfl,trivial,?_⟩;rw [hk];conv=>whnf
  refine ⟨(b,s,t),rfl,hp.1,?_⟩;rw [pa];conv=>whnf
  refine ⟨(c,u,v),rfl,hp.2,?_⟩;rw [pb];obtain ⟨B1,m1,g1⟩:=EI.mk' (n*(e:Int));obtain ⟨B2,m2,g2⟩:=EI.mk' (m*(d:Int));obtain ⟨B3,m3,g3⟩:=EI.mk' (n*(e:Int)+m*(d:Int));obtain ⟨B4,m4,g4⟩:=EI.mk' ((d:Int)*(e:Int));have z1:=g1.gL sn se;have z2:=g2.gL sm sd;have z4:=g4.gL sd se;have z3:m3.size≤17179869187:=g3.F3 (by rw [← g1.size]; omega) (by rw [← g2.size]; omega)
  have lZ:(0:Int) < (d:Int)*(e:Int):=Int.mul_pos (by omega) (by omega)
  conv=>whnf
  refine .inl ⟨9,[[],[],[0,1],[],[],[0,1,2,3,4],[0,1,2,3,4,5],[],[],[0,1,2,3,4,5,6,7,8],[0,1,2,3,4,5,6,7,8,9],[0,1,2,3,4,5,6,7,8,9,10]],by kernel_rfl,?_⟩
  conv=>whnf
  refine ⟨((B,p),(false,q')),rfl,⟨by show p.size≤_; omega,by show q'.size≤_; omega⟩,?_⟩
  rw [show fE.val ((B,p),(false,q'))=.agg ⟨[.bool B1,.string m1]⟩ from by show aH (IV.z (B,p)*IV.z (false,q'))=_; rw [hP.val,kO.val,g1.enc]]
  conv=>whnf
  refine ⟨((D,p'),(false,q)),rfl,⟨by show p'.size≤_; omega,by show q.size≤_; omega⟩,?_⟩
  rw [show fE.val ((D,p'),(false,q))=.agg ⟨[.bool B2,.string m2]⟩ from by show aH (IV.z (D,p')*IV.z (false,q))=_; rw [mq.val,hQ.val,g2.enc]]
  conv=>whnf
  refine ⟨((B1,m1),(B2,m2)),rfl,⟨by show m1.size≤_; omega,by show m2.size≤_; omega⟩,?_⟩
  rw [show jn.val ((B1,m1),(B2,m2))=.agg ⟨[.bool B3,.string m3]⟩ from by show aH (IV.z (B1,m1)+IV.z (B2,m2))=_; rw [g1.val,g2.val,g3.enc]]
  conv=>whnf
  refine ⟨((false,q),(false,q')),rfl,⟨by show q.size≤_; omega,by show q'.size≤_; omega⟩,?_⟩
  rw [show fE.val ((false,q),(false,q'))=.agg ⟨[.bool B4,.string m4]⟩ from by show aH (IV.z (false,q)*IV.z (false,q'))=_; rw [hQ.val,kO.val,g4.enc]]
  conv=>whnf
  refine ⟨((B3,m3),(B4,m4)),rfl,⟨by show m3.size≤_; omega,by show m4.size≤_; omega,by show 0 < IV.z (B4,m4); rw [g4.val]; exact lZ⟩,?_⟩
  rw [show p8.val ((B3,m3),(B4,m4))=(RV.of w).v from by
   show bN (mkRat (IV.z (B3,m3)) (IV.z (B4,m4)).natAbs)=_
   rw [g3.val,g4.val,hw,← Int.natCast_mul,Int.natAbs_natCast]; rfl]
  conv=>whnf
  exact fin _ rfl
theorem yN:bc Tryz.prog 156 hJ:=by
 refine bh zL aL Tryz.func156 (enters_of Tryz.func156 (by kernel_rfl) rfl) (fun _=>rfl) (fun _=>rfl) ?_
 intro ⟨⟨b,s,t⟩,⟨c,u,v⟩⟩ hp;have hp:(s.size≤8589934592∧t.size≤8589934592)∧u.size≤8589934592∧v.size≤8589934592:=hp;have hn:=RV.jX (i:=(b,s,t));have hm:=RV.jX (i:=(c,u,v));obtain ⟨n,bT⟩:∃ n,n=RV.n (b,s,t):=⟨_,rfl⟩;obtain ⟨m,fo⟩:∃ n,n=RV.n (c,u,v):=⟨_,rfl⟩;obtain ⟨d,bX⟩:∃ n,n=RV.d (b,s,t):=⟨_,rfl⟩;obtain ⟨e,cH⟩:∃ n,n=RV.d (c,u,v):=⟨_,rfl⟩;have fL:d≠0:=by rw [bX]; exact RV.jz _
 have Rl:e≠0:=by rw [cH]; exact RV.jz _
 rw [← bT,← bX] at hn;rw [← fo,← cH] at hm;obtain ⟨B,p,hP⟩:=EI.mk' n;obtain ⟨q,hQ⟩:=EI.je (show 0≤((d:Nat):Int) by omega)
 obtain ⟨D,p',mq⟩:=EI.mk' m;obtain ⟨q',kO⟩:=EI.je (show 0≤((e:Nat):Int) by omega)
 have sn:aU n.natAbs≤8589934593:=by rw [bT]; exact dU (b:=b) (Nat.le_succ_of_le hp.1.1)
 have sm:aU m.natAbs≤8589934593:=by rw [fo]; exact dU (b:=c) (Nat.le_succ_of_le hp.2.1)
 have sd:aU (Int.natAbs ((d:Nat):Int))≤8589934593:=by
  rw [bX,← RV.jW];exact dU (Nat.le_trans (RV.rU _) (Nat.succ_le_succ hp.1.2))
 have se:aU (Int.natAbs ((e:Nat):Int))≤8589934593:=by
  rw [cH,← RV.jW];exact dU (Nat.le_trans (RV.rU _) (Nat.succ_le_succ hp.2.2))
 have zp:p.size≤8589934593:=by rw [hP.size]; exact sn
 have zq:q.size≤8589934593:=by rw [hQ.size]; exact sd
 have Rm:p'.size≤8589934593:=by rw [mq.size]; exact sm
 have Rn:q'.size≤8589934593:=by rw [kO.size]; exact se
 have pa:nv.val (b,s,t)=.tuple ⟨[.agg ⟨[.bool B,.string p]⟩,.agg ⟨[.bool false,.string q]⟩]⟩:=by
  rw [← hP.enc,← hQ.enc,bT,bX]; rfl
 have pb:nv.val (c,u,v)=.tuple ⟨[.agg ⟨[.bool D,.string p']⟩,.agg ⟨[.bool false,.string q']⟩]⟩:=by
  rw [← mq.enc,← kO.enc,fo,cH]; rfl
 obtain ⟨w,hw⟩:∃ w,w=mkRat (n*m) (d*e):=⟨_,rfl⟩;have fin:∀ x:Value,x=(RV.of w).v→x=hJ.val ((b,s,t),(c,u,v)):=fun x h=>by
  rw [h,hw,bT,fo,bX,cH];show bN _=bN (RV.q (b,s,t)*RV.q (c,u,v))
  rw [HN]
 conv=>whnf
 refine ⟨(b,s,t),rfl,trivial,?_⟩;by_cases h1:RV.gk (b,s,t)
 ·rw [show bM.val (b,s,t)=.tuple ⟨[.int .i64 n,.int .i64 d,.bool true]⟩ from by simp only [bM,if_pos h1,decide_eq_true h1,bT,bX]]
  conv=>whnf
  refine ⟨(c,u,v),rfl,trivial,?_⟩;by_cases J:RV.gk (c,u,v)
  ·rw [show bM.val (c,u,v)=.tuple ⟨[.int .i64 m,.int .i64 e,.bool true]⟩ from by simp only [bM,if_pos J,decide_eq_true J,fo,cH]]
   have a9:I4.ok ((n,d),(m,e)):=⟨hn h1,hm J⟩;obtain ⟨b1,b2,b3,b4⟩:=I4.bounds a9;simp only at b1 b2 b3 b4;conv=>whnf
   obtain ⟨x,hx⟩:∃ x,x=n*m:=⟨_,rfl⟩;obtain ⟨k,hk⟩:∃ k,k=d*e:=⟨_,rfl⟩;rw [← hx] at b3;rw [← hk] at b4;have e1:IntKind.i64.wrap (n*m)=x:=by
    rw [← hx,ay (x:=x) (by omega) (by omega)]
   have e2:IntKind.i64.wrap ((d:Int)*(e:Int))=(k:Int):=by
    rw [← Int.natCast_mul,← hk,ay (by omega) (by omega)]
   rw [e1,e2];refine ⟨(x,k),rfl,⟨by show x.natAbs < _; omega,by show k≠0; omega,by show k < _; omega⟩,?_⟩
   rw [show n9.val (x,k)=(RV.of w).v from by rw [hw,hx,hk]; rfl]
   conv=>whnf
   exact fin _ rfl
  ·rw [show bM.val (c,u,v)=.tuple ⟨[.int .i64 0,.int .i64 0,.bool false]⟩ from by simp only [bM,if_neg J,decide_eq_false J]]
   conv=>whnf
   refine ⟨(b,s,t),rfl,hp.1,?_⟩;rw [pa];conv=>whnf
   refine ⟨(c,u,v),rfl,hp.2,?_⟩;rw [pb];obtain ⟨B1,m1,g1⟩:=EI.mk' (n*m);obtain ⟨B4,m4,g4⟩:=EI.mk' ((d:Int)*(e:Int));have z1:=g1.gL sn sm;have z4:=g4.gL sd se;have lZ:(0:Int) < (d:Int)*(e:Int):=Int.mul_pos (by omega) (by omega)
   conv=>whnf
   refine .inl ⟨5,[[],[],[0,1],[],[],[0,1,2,3,4],[0,1,2,3,4,5],[0,1,2,3,4,5,6]],by kernel_rfl,?_⟩
   conv=>whnf
   refine ⟨((B,p),(D,p')),rfl,⟨by show p.size≤_; omega,by show p'.size≤_; omega⟩,?_⟩
   rw [show fE.val ((B,p),(D,p'))=.agg ⟨[.bool B1,.string m1]⟩ from by show aH (IV.z (B,p)*IV.z (D,p'))=_; rw [hP.val,mq.val,g1.enc]]
   conv=>whnf
   refine ⟨((false,q),(false,q')),rfl,⟨by show q.size≤_; omega,by show q'.size≤_; omega⟩,?_⟩
   rw [show fE.val ((false,q),(false,q'))=.agg ⟨[.bool B4,.string m4]⟩ from by show aH (IV.z (false,q)*IV.z (false,q'))=_; rw [hQ.val,kO.val,g4.enc]]
   conv=>whnf
   refine ⟨((B1,m1),(B4,m4)),rfl,⟨by show m1.size≤_; omega,by show m4.size≤_; omega,by show 0 < IV.z (B4,m4); rw [g4.val]; exact lZ⟩,?_⟩
   rw [show p8.val ((B1,m1),(B4,m4))=(RV.of w).v from by
    show bN (mkRat (IV.z (B1,m1)) (IV.z (B4,m4)).natAbs)=_
    rw [g1.val,g4.val,hw,← Int.natCast_mul,Int.natAbs_natCast]; rfl]
   conv=>whnf
   exact fin _ rfl
 ·rw [show bM.val (b,s,t)=.tuple ⟨[.int .i64 0,.int .i64 0,.bool false]⟩ from by simp only [bM,if_neg h1,decide_eq_false h1]]
  conv=>whnf
  obtain ⟨k1,k2,k3,hk⟩:∃ (k1 k2:Int) (k3:Bool),bM.val (c,u,v)=.tuple ⟨[.int .i64 k1,.int .i64 k2,.bool k3]⟩:=⟨_,_,_,rfl⟩;refine ⟨(c,u,v),rfl,trivial,?_⟩;rw [hk];conv=>whnf
  refine ⟨(b,s,t),rfl,hp.1,?_⟩;rw [pa];conv=>whnf
  refine ⟨(c,u,v),rfl,hp.2,?_⟩;rw [pb];obtain ⟨B1,m1,g1⟩:=EI.mk' (n*m);obtain ⟨B4,m4,g4⟩:=EI.mk' ((d:Int)*(e:Int));have z1:=g1.gL sn sm;have z4:=g4.gL sd se;have lZ:(0:Int) < (d:Int)*(e:Int):=Int.mul_pos (by omega) (by omega)
  conv=>whnf
  refine .inl ⟨5,[[],[],[0,1],[],[],[0,1,2,3,4],[0,1,2,3,4,5],[0,1,2,3,4,5,6]],by kernel_rfl,?_⟩
  conv=>whnf
  refine ⟨((B,p),(D,p')),rfl,⟨by show p.size≤_; omega,by show p'.size≤_; omega⟩,?_⟩
  rw [show fE.val ((B,p),(D,p'))=.agg ⟨[.bool B1,.string m1]⟩ from by show aH (IV.z (B,p)*IV.z (D,p'))=_; rw [hP.val,mq.val,g1.enc]]
  conv=>whnf
  refine ⟨((false,q),(false,q')),rfl,⟨by show q.size≤_; omega,by show q'.size≤_; omega⟩,?_⟩
  rw [show fE.val ((false,q),(false,q'))=.agg ⟨[.bool B4,.string m4]⟩ from by show aH (IV.z (false,q)*IV.z (false,q'))=_; rw [hQ.val,kO.val,g4.enc]]
  conv=>whnf
  refine ⟨((B1,m1),(B4,m4)),rfl,⟨by show m1.size≤_; omega,by show m4.size≤_; omega,by show 0 < IV.z (B4,m4); rw [g4.val]; exact lZ⟩,?_⟩
  rw [show p8.val ((B1,m1),(B4,m4))=(RV.of w).v from by
   show bN (mkRat (IV.z (B1,m1)) (IV.z (B4,m4)).natAbs)=_
   rw [g1.val,g4.val,hw,← Int.natCast_mul,Int.natAbs_natCast]; rfl]
  conv=>whnf
  exact fin _ rfl
theorem Gh:bc Tryz.prog 128 jB:=by
 refine bh zL aL Tryz.func128 (enters_of Tryz.func128 (by kernel_rfl) rfl) (fun _=>rfl) (fun _=>rfl) ?_
 intro ⟨⟨b,s,t⟩,⟨c,u,v⟩⟩ hp;have hp:(s.size≤8589934592∧t.size≤8589934592)∧u.size≤8589934592∧v.size≤8589934592:=hp;have hn:=RV.jX (i:=(b,s,t));have hm:=RV.jX (i:=(c,u,v));obtain ⟨n,bT⟩:∃ n,n=RV.n (b,s,t):=⟨_,rfl⟩;obtain ⟨m,fo⟩:∃ n,n=RV.n (c,u,v):=⟨_,rfl⟩;obtain ⟨d,bX⟩:∃ n,n=RV.d (b,s,t):=⟨_,rfl⟩;obtain ⟨e,cH⟩:∃ n,n=RV.d (c,u,v):=⟨_,rfl⟩;have fL:d≠0:=by rw [bX]; exact RV.jz _
 have Rl:e≠0:=by rw [cH]; exact RV.jz _
 rw [← bT,← bX] at hn;rw [← fo,← cH] at hm;obtain ⟨B,p,hP⟩:=EI.mk' n;obtain ⟨q,hQ⟩:=EI.je (show 0≤((d:Nat):Int) by omega)
 obtain ⟨D,p',mq⟩:=EI.mk' m;obtain ⟨q',kO⟩:=EI.je (show 0≤((e:Nat):Int) by omega)
 have sn:aU n.natAbs≤8589934593:=by rw [bT]; exact dU (b:=b) (Nat.le_succ_of_le hp.1.1)
 have sm:aU m.natAbs≤8589934593:=by rw [fo]; exact dU (b:=c) (Nat.le_succ_of_le hp.2.1)
 have sd:aU (Int.natAbs ((d:Nat):Int))≤8589934593:=by
  rw [bX,← RV.jW];exact dU (Nat.le_trans (RV.rU _) (Nat.succ_le_succ hp.1.2))
 have se:aU (Int.natAbs ((e:Nat):Int))≤8589934593:=by
  rw [cH,← RV.jW];exact dU (Nat.le_trans (RV.rU _) (Nat.succ_le_succ hp.2.2))
 have zp:p.size≤8589934593:=by rw [hP.size]; exact sn
 have zq:q.size≤8589934593:=by rw [hQ.size]; exact sd
 have Rm:p'.size≤8589934593:=by rw [mq.size]; exact sm
 have Rn:q'.size≤8589934593:=by rw [kO.size]; exact se
 have pa:nv.val (b,s,t)=.tuple ⟨[.agg ⟨[.bool B,.string p]⟩,.agg ⟨[.bool false,.string q]⟩]⟩:=by
  rw [← hP.enc,← hQ.enc,bT,bX]; rfl
 have pb:nv.val (c,u,v)=.tuple ⟨[.agg ⟨[.bool D,.string p']⟩,.agg ⟨[.bool false,.string q']⟩]⟩:=by
  rw [← mq.enc,← kO.enc,fo,cH]; rfl
 obtain ⟨w,hw⟩:∃ w,w=eE (n*e) (m*d):=⟨_,rfl⟩;have fin:∀ x:Int,x=w→Value.int .i64 x=jB.val ((b,s,t),(c,u,v)):=fun x h=>by
  rw [h,hw,bT,fo,bX,cH];show Value.int .i64 _=.int .i64 (aW (RV.q (b,s,t)) (RV.q (c,u,v)))
  rw [C3]
 conv=>whnf
 refine ⟨(b,s,t),rfl,trivial,?_⟩;by_cases h1:RV.gk (b,s,t)
 ·rw [show bM.val (b,s,t)=.tuple ⟨[.int .i64 n,.int .i64 d,.bool true]⟩ from by simp only [bM,if_pos h1,decide_eq_true h1,bT,bX]]
  conv=>whnf
  refine ⟨(c,u,v),rfl,trivial,?_⟩;by_cases J:RV.gk (c,u,v)
  ·rw [show bM.val (c,u,v)=.tuple ⟨[.int .i64 m,.int .i64 e,.bool true]⟩ from by simp only [bM,if_pos J,decide_eq_true J,fo,cH]]
   have a9:I4.ok ((n,d),(m,e)):=⟨hn h1,hm J⟩;obtain ⟨b1,b2,b3,b4⟩:=I4.bounds a9;simp only at b1 b2 b3 b4;conv=>whnf
   obtain ⟨x,hx⟩:∃ x,x=n*(e:Int):=⟨_,rfl⟩;obtain ⟨y,hy⟩:∃ y,y=m*(d:Int):=⟨_,rfl⟩;rw [← hx] at b1;rw [← hy] at b2;have e1:IntKind.i64.wrap (n*(e:Int))=x:=by rw [← hx,ay (x:=x) (by omega) (by omega)]
   have e2:IntKind.i64.wrap (m*(d:Int))=y:=by rw [← hy,ay (x:=y) (by omega) (by omega)]
   rw [← hx,← hy] at hw;rw [e1,e2];refine aI (fun h=>?_) (fun h=>?_)
   ·have h:=of_decide_eq_true h;conv=>whnf
    exact fin _ (hw.trans (uh h)).symm
   ·have h:=of_decide_eq_false h;conv=>whnf
    rw [e1,e2];refine aI (fun h5=>?_) (fun h5=>?_)
    ·have h5:=of_decide_eq_true h5;conv=>whnf
     exact fin _ (hw.trans (ui h5)).symm
    ·have h5:=of_decide_eq_false h5;conv=>whnf
     refine fin _ ?_;rw [hw];unfold eE;rw [if_neg h,if_neg (show ¬ y < x from h5)]
  ·rw [show bM.val (c,u,v)=.tuple ⟨[.int .i64 0,.int .i64 0,.bool false]⟩ from by simp only [bM,if_neg J,decide_eq_false J]]
   conv=>whnf
   refine ⟨(b,s,t),rfl,hp.1,?_⟩;rw [pa];conv=>whnf
   refine ⟨(c,u,v),rfl,hp.2,?_⟩;rw [pb];obtain ⟨B1,m1,g1⟩:=EI.mk' (n*(e:Int));obtain ⟨B2,m2,g2⟩:=EI.mk' (m*(d:Int));have z1:=g1.gL sn se;have z2:=g2.gL sm sd;conv=>whnf
   refine .inl ⟨5,[[],[],[0,1],[],[],[0,1,2,3,4],[0,1,2,3,4,5],[0,1,2,3,4,5,6]],by kernel_rfl,?_⟩
   conv=>whnf
   refine ⟨((B,p),(false,q')),rfl,⟨by show p.size≤_; omega,by show q'.size≤_; omega⟩,?_⟩
   rw [show fE.val ((B,p),(false,q'))=.agg ⟨[.bool B1,.string m1]⟩ from by show aH (IV.z (B,p)*IV.z (false,q'))=_; rw [hP.val,kO.val,g1.enc]]
   conv=>whnf
   refine ⟨((D,p'),(false,q)),rfl,⟨by show p'.size≤_; omega,by show q.size≤_; omega⟩,?_⟩
   rw [show fE.val ((D,p'),(false,q))=.agg ⟨[.bool B2,.string m2]⟩ from by show aH (IV.z (D,p')*IV.z (false,q))=_; rw [mq.val,hQ.val,g2.enc]]
   conv=>whnf
   refine ⟨((B1,m1),(B2,m2)),rfl,⟨by show m1.size≤_; omega,by show m2.size≤_; omega⟩,?_⟩
   rw [show l9.val ((B1,m1),(B2,m2))=.int .i64 w from by show Value.int .i64 (eE (IV.z (B1,m1)) (IV.z (B2,m2)))=_; rw [g1.val,g2.val,hw]]
   conv=>whnf
   exact fin _ rfl
 ·rw [show bM.val (b,s,t)=.tuple ⟨[.int .i64 0,.int .i64 0,.bool false]⟩ from by simp only [bM,if_neg h1,decide_eq_false h1]]
  conv=>whnf
  obtain ⟨k1,k2,k3,hk⟩:∃ (k1 k2:Int) (k3:Bool),bM.val (c,u,v)=.tuple ⟨[.int .i64 k1,.int .i64 k2,.bool k3]⟩:=⟨_,_,_,rfl⟩;refine ⟨(c,u,v),rfl,trivial,?_⟩;rw [hk];conv=>whnf
  refine ⟨(b,s,t),rfl,hp.1,?_⟩;rw [pa];conv=>whnf
  refine ⟨(c,u,v),rfl,hp.2,?_⟩;rw [pb];obtain ⟨B1,m1,g1⟩:=EI.mk' (n*(e:Int));obtain ⟨B2,m2,g2⟩:=EI.mk' (m*(d:Int));have z1:=g1.gL sn se;have z2:=g2.gL sm sd;conv=>whnf
  refine .inl ⟨5,[[],[],[0,1],[],[],[0,1,2,3,4],[0,1,2,3,4,5],[0,1,2,3,4,5,6]],by kernel_rfl,?_⟩
  conv=>whnf
  refine ⟨((B,p),(false,q')),rfl,⟨by show p.size≤_; omega,by show q'.size≤_; omega⟩,?_⟩
  rw [show fE.val ((B,p),(false,q'))=.agg ⟨[.bool B1,.string m1]⟩ from by show aH (IV.z (B,p)*IV.z (false,q'))=_; rw [hP.val,kO.val,g1.enc]]
  conv=>whnf
  refine ⟨((D,p'),(false,q)),rfl,⟨by show p'.size≤_; omega,by show q.size≤_; omega⟩,?_⟩
  rw [show fE.val ((D,p'),(false,q))=.agg ⟨[.bool B2,.string m2]⟩ from by show aH (IV.z (D,p')*IV.z (false,q))=_; rw [mq.val,hQ.val,g2.enc]]
  conv=>whnf
  refine ⟨((B1,m1),(B2,m2)),rfl,⟨by show m1.size≤_; omega,by show m2.size≤_; omega⟩,?_⟩
  rw [show l9.val ((B1,m1),(B2,m2))=.int .i64 w from by show Value.int .i64 (eE (IV.z (B1,m1)) (IV.z (B2,m2)))=_; rw [g1.val,g2.val,hw]]
  conv=>whnf
  exact fin _ rfl
def Eqd:Env:=En [(169,.p jA),(128,.p jB)]
theorem Ps:EnvOk Tryz.prog Eqd:=bI ⟨Gg,Gh,trivial⟩ trivial
theorem yO:bc Tryz.prog 146 eU:=by
 refine bh Ps aL Tryz.func146 (enters_of Tryz.func146 (by kernel_rfl) rfl) (fun _=>rfl) (fun _=>rfl) ?_
 intro ⟨⟨b,s,t⟩,⟨c,u,v⟩⟩ hp;have hp:RV.ok (b,s,t)∧RV.ok (c,u,v):=hp;obtain ⟨w,hw⟩:∃ w,w=RV.q (b,s,t) - RV.q (c,u,v):=⟨_,rfl⟩;conv=>whnf
 refine ⟨((b,s,t),(!c,u,v)),rfl,hp,?_⟩;rw [show jA.val ((b,s,t),(!c,u,v))=(RV.of w).v from by
  rw [hw];show bN (RV.q (b,s,t)+RV.q (!c,u,v))=bN _
  rw [OG,← Rat.sub_eq_add_neg]]
 conv=>whnf
 show (RV.of w).v=bN _
 rw [hw]
 rfl
theorem WU:bc Tryz.prog 126 Pe:=by
 refine bh Ps aL Tryz.func126 (enters_of Tryz.func126 (by kernel_rfl) rfl) (fun _=>rfl) (fun _=>rfl) ?_
 intro ⟨⟨b,s,t⟩,⟨c,u,v⟩⟩ hp;have hp:RV.ok (b,s,t)∧RV.ok (c,u,v):=hp;obtain ⟨w,hw⟩:∃ w,w=aW (RV.q (c,u,v)) (RV.q (b,s,t)):=⟨_,rfl⟩;conv=>whnf
 refine ⟨((c,u,v),(b,s,t)),rfl,⟨hp.2,hp.1⟩,?_⟩;rw [show jB.val ((c,u,v),(b,s,t))=.int .i64 w from by rw [hw]; rfl]
 conv=>whnf
 refine aI (fun h=>?_) (fun h=>?_)
 ·have h:=of_decide_eq_true h;rw [hw,rV] at h;conv=>whnf
  show RV.v (c,u,v)=RV.v _
  exact congrArg RV.v (if_pos h).symm
 ·have h:=of_decide_eq_false h;rw [hw,rV] at h;conv=>whnf
  show RV.v (b,s,t)=RV.v _
  exact congrArg RV.v (if_neg h).symm
open Go Go.Ae
def JP:Env:=En [(36,.p jA),(38,.p eU),(37,.p hJ)]
theorem ac5:EnvOk Tryz.prog JP:=bI ⟨Cn,wW,Oe,trivial⟩ trivial
theorem Zx:gj Tryz.prog 81 (cC JP cO Tryz.f81):=by
 exact jh ac5 aL Tryz.func81 (enters_of Tryz.func81 (by kernel_rfl) rfl)
def Evb:Env:=En [(33,.p lh),(36,.p jA),(38,.p eU),(35,.p jB),(129,.p nm)] [(81,cC JP cO Tryz.f81)]
theorem u0:EnvOk Tryz.prog Evb:=bI ⟨zk,Cn,wW,Of,Ve,trivial⟩ ⟨Zx,trivial⟩
def Evr:Env:=En [(120,.p lh),(169,.p jA),(146,.p eU),(156,.p hJ),(128,.p jB),(119,.p nm),(153,.p qz)]
theorem u6:EnvOk Tryz.prog Evr:=bI ⟨GV,Gg,yO,yN,Gh,Ub,BI,trivial⟩ trivial
theorem OS:bc Tryz.prog 55 qT:=by
 refine bh u0 aL Tryz.func55 (enters_of Tryz.func55 (by kernel_rfl) rfl) (fun _=>rfl) (fun _=>rfl) ?_
 intro ⟨n,m⟩ hp;have hp:vM n∧vM m:=hp;obtain ⟨x,hx⟩:∃ x:Rat,x=(n:Rat):=⟨_,rfl⟩;obtain ⟨y,hy⟩:∃ x:Rat,x=(m:Rat):=⟨_,rfl⟩;conv=>whnf
 refine ⟨n,rfl,hp.1,?_⟩;rw [show lh.val n=(RV.of x).v from by rw [hx]; rfl]
 conv=>whnf
 refine ⟨m,rfl,hp.2,?_⟩;rw [show lh.val m=(RV.of y).v from by rw [hy]; rfl]
 conv=>whnf
 show PV.v (RV.of x,RV.of y)=iU _ _
 rw [hx,hy]
 rfl
theorem Zy:bc Tryz.prog 29 xA:=by
 refine bh u0 aL Tryz.func29 (enters_of Tryz.func29 (by kernel_rfl) rfl) (fun _=>rfl) (fun _=>rfl) ?_
 intro ⟨p,q⟩ hp;have hp:p.sz 8589934592∧q.sz 8589934592:=hp;obtain ⟨x,hx⟩:∃ x,x=p.1.q+q.1.q:=⟨_,rfl⟩;obtain ⟨y,hy⟩:∃ x,x=p.2.q+q.2.q:=⟨_,rfl⟩;conv=>whnf
 refine .inl ⟨11,[[],[],[1],[],[3],[0,1,2,3,4],[],[],[7],[],[9],[0,1,2,3,4,5,6,7,8,9,10],[0,1,2,3,4,5,6,7,8,9,10,11],[0,1,2,3,4,5,6,7,8,9,10,11,12]],by kernel_rfl,?_⟩
 conv=>whnf
 refine ⟨(p.1,q.1),rfl,⟨hp.1.1,hp.2.1⟩,?_⟩;rw [show jA.val (p.1,q.1)=(RV.of x).v from by rw [hx]; rfl]
 conv=>whnf
 refine ⟨(p.2,q.2),rfl,⟨hp.1.2,hp.2.2⟩,?_⟩;rw [show jA.val (p.2,q.2)=(RV.of y).v from by rw [hy]; rfl]
 conv=>whnf
 show PV.v (RV.of x,RV.of y)=iU _ _
 rw [hx,hy]
 rfl
theorem Co:bc Tryz.prog 85 ia:=by
 refine bh u0 aL Tryz.func85 (enters_of Tryz.func85 (by kernel_rfl) rfl) (fun _=>rfl) (fun _=>rfl) ?_
 intro ⟨p,q⟩ hp;have hp:p.sz 8589934592∧q.sz 8589934592:=hp;obtain ⟨x,hx⟩:∃ x,x=p.1.q - q.1.q:=⟨_,rfl⟩;obtain ⟨y,hy⟩:∃ x,x=p.2.q - q.2.q:=⟨_,rfl⟩;conv=>whnf
 refine .inl ⟨11,[[],[],[1],[],[3],[0,1,2,3,4],[],[],[7],[],[9],[0,1,2,3,4,5,6,7,8,9,10],[0,1,2,3,4,5,6,7,8,9,10,11],[0,1,2,3,4,5,6,7,8,9,10,11,12]],by kernel_rfl,?_⟩
 conv=>whnf
 refine ⟨(p.1,q.1),rfl,⟨hp.1.1,hp.2.1⟩,?_⟩;rw [show eU.val (p.1,q.1)=(RV.of x).v from by rw [hx]; rfl]
 conv=>whnf
 refine ⟨(p.2,q.2),rfl,⟨hp.1.2,hp.2.2⟩,?_⟩;rw [show eU.val (p.2,q.2)=(RV.of y).v from by rw [hy]; rfl]
 conv=>whnf
 show PV.v (RV.of x,RV.of y)=iU _ _
 rw [hx,hy]
 rfl
theorem WV:bc Tryz.prog 170 xA:=by
 refine bh u6 aL Tryz.func170 (enters_of Tryz.func170 (by kernel_rfl) rfl) (fun _=>rfl) (fun _=>rfl) ?_
 intro ⟨p,q⟩ hp;have hp:p.sz 8589934592∧q.sz 8589934592:=hp;obtain ⟨x,hx⟩:∃ x,x=p.1.q+q.1.q:=⟨_,rfl⟩;obtain ⟨y,hy⟩:∃ x,x=p.2.q+q.2.q:=⟨_,rfl⟩;conv=>whnf
 refine .inl ⟨9,[[],[0],[],[2],[0,1,2,3],[],[5],[],[7],[0,1,2,3,4,5,6,7,8],[0,1,2,3,4,5,6,7,8,9],[0,1,2,3,4,5,6,7,8,9,10]],by kernel_rfl,?_⟩
 conv=>whnf
 refine ⟨(p.1,q.1),rfl,⟨hp.1.1,hp.2.1⟩,?_⟩;rw [show jA.val (p.1,q.1)=(RV.of x).v from by rw [hx]; rfl]
 conv=>whnf
 refine ⟨(p.2,q.2),rfl,⟨hp.1.2,hp.2.2⟩,?_⟩;rw [show jA.val (p.2,q.2)=(RV.of y).v from by rw [hy]; rfl]
 conv=>whnf
 show PV.v (RV.of x,RV.of y)=iU _ _
 rw [hx,hy]
 rfl
theorem yP:bc Tryz.prog 121 ia:=by
 refine bh u6 aL Tryz.func121 (enters_of Tryz.func121 (by kernel_rfl) rfl) (fun _=>rfl) (fun _=>rfl) ?_
 intro ⟨p,q⟩ hp;have hp:p.sz 8589934592∧q.sz 8589934592:=hp;obtain ⟨x,hx⟩:∃ x,x=p.1.q - q.1.q:=⟨_,rfl⟩;obtain ⟨y,hy⟩:∃ x,x=p.2.q - q.2.q:=⟨_,rfl⟩;conv=>whnf
 refine .inl ⟨9,[[],[0],[],[2],[0,1,2,3],[],[5],[],[7],[0,1,2,3,4,5,6,7,8],[0,1,2,3,4,5,6,7,8,9],[0,1,2,3,4,5,6,7,8,9,10]],by kernel_rfl,?_⟩
 conv=>whnf
 refine ⟨(p.1,q.1),rfl,⟨hp.1.1,hp.2.1⟩,?_⟩;rw [show eU.val (p.1,q.1)=(RV.of x).v from by rw [hx]; rfl]
 conv=>whnf
 refine ⟨(p.2,q.2),rfl,⟨hp.1.2,hp.2.2⟩,?_⟩;rw [show eU.val (p.2,q.2)=(RV.of y).v from by rw [hy]; rfl]
 conv=>whnf
 show PV.v (RV.of x,RV.of y)=iU _ _
 rw [hx,hy]
 rfl
theorem Vh:bc Tryz.prog 31 sh:=by
 refine bh u0 aL Tryz.func31 (enters_of Tryz.func31 (by kernel_rfl) rfl) (fun _=>rfl) (fun _=>rfl) ?_
 intro ⟨p,q⟩ hp;have hp:p.sz 8589934592∧q.sz 8589934592:=hp;obtain ⟨x,hx⟩:∃ x,x=p.1.q*q.q:=⟨_,rfl⟩;obtain ⟨y,hy⟩:∃ x,x=p.2.q*q.q:=⟨_,rfl⟩;conv=>whnf
 refine .inl ⟨11,[[],[],[1],[],[3],[0,1,2,3,4],[],[],[7],[],[9],[0,1,2,3,4,5,6,7,8,9,10],[0,1,2,3,4,5,6,7,8,9,10,11],[0,1,2,3,4,5,6,7,8,9,10,11,12]],by kernel_rfl,?_⟩
 conv=>whnf
 refine ⟨(p.1,q),rfl,⟨hp.1.1,hp.2⟩,?_⟩;rw [show hJ.val (p.1,q)=(RV.of x).v from by rw [hx]; rfl]
 conv=>whnf
 refine ⟨(p.2,q),rfl,⟨hp.1.2,hp.2⟩,?_⟩;rw [show hJ.val (p.2,q)=(RV.of y).v from by rw [hy]; rfl]
 conv=>whnf
 show PV.v (RV.of x,RV.of y)=iU _ _
 rw [hx,hy]
 rfl
theorem Fb:bc Tryz.prog 171 sh:=by
 refine bh u6 aL Tryz.func171 (enters_of Tryz.func171 (by kernel_rfl) rfl) (fun _=>rfl) (fun _=>rfl) ?_
 intro ⟨p,q⟩ hp;have hp:p.sz 8589934592∧q.sz 8589934592:=hp;obtain ⟨x,hx⟩:∃ x,x=p.1.q*q.q:=⟨_,rfl⟩;obtain ⟨y,hy⟩:∃ x,x=p.2.q*q.q:=⟨_,rfl⟩;conv=>whnf
 refine .inl ⟨7,[[],[0],[],[0,1,2],[],[4],[],[0,1,2,3,4,5,6],[0,1,2,3,4,5,6,7],[0,1,2,3,4,5,6,7,8]],by kernel_rfl,?_⟩
 conv=>whnf
 refine ⟨(p.1,q),rfl,⟨hp.1.1,hp.2⟩,?_⟩;rw [show hJ.val (p.1,q)=(RV.of x).v from by rw [hx]; rfl]
 conv=>whnf
 refine ⟨(p.2,q),rfl,⟨hp.1.2,hp.2⟩,?_⟩;rw [show hJ.val (p.2,q)=(RV.of y).v from by rw [hy]; rfl]
 conv=>whnf
 show PV.v (RV.of x,RV.of y)=iU _ _
 rw [hx,hy]
 rfl
theorem ML:bc Tryz.prog 84 n8:=by
 refine bh u0 aL Tryz.func84 (enters_of Tryz.func84 (by kernel_rfl) rfl) (fun _=>rfl) (fun _=>rfl) ?_
 intro ⟨p,q⟩ hp;have hp:p.sz 1073741824∧q.sz 1073741824:=hp;obtain ⟨x,hx⟩:∃ x,x=p.1.q*q.2.q:=⟨_,rfl⟩;obtain ⟨y,hy⟩:∃ x,x=p.2.q*q.1.q:=⟨_,rfl⟩;obtain ⟨z,hz⟩:∃ z,z=x - y:=⟨_,rfl⟩;have sx:(RV.of x).ok:=RV.bo (RV.jl (by rw [hx]; exact (RV.fM hp.1.1 (by decide)).mul (RV.fM hp.2.2 (by decide)))) (by decide)
 have sy:(RV.of y).ok:=RV.bo (RV.jl (by rw [hy]; exact (RV.fM hp.1.2 (by decide)).mul (RV.fM hp.2.1 (by decide)))) (by decide)
 conv=>whnf
 refine .inl ⟨11,[[],[],[1],[],[3],[0,1,2,3,4],[],[],[7],[],[9],[0,1,2,3,4,5,6,7,8,9,10],[0,1,2,3,4,5,6,7,8,9,10,11],[0,1,2,3,4,5,6,7,8,9,10,11,12]],by kernel_rfl,?_⟩
 conv=>whnf
 refine ⟨(p.1,q.2),rfl,⟨RV.bo hp.1.1 (by decide),RV.bo hp.2.2 (by decide)⟩,?_⟩
 rw [show hJ.val (p.1,q.2)=(RV.of x).v from by rw [hx]; rfl]
 conv=>whnf
 refine ⟨(p.2,q.1),rfl,⟨RV.bo hp.1.2 (by decide),RV.bo hp.2.1 (by decide)⟩,?_⟩
 rw [show hJ.val (p.2,q.1)=(RV.of y).v from by rw [hy]; rfl]
 conv=>whnf
 refine ⟨(RV.of x,RV.of y),rfl,⟨sx,sy⟩,?_⟩;rw [show eU.val (RV.of x,RV.of y)=(RV.of z).v from by
  show bN ((RV.of x).q - (RV.of y).q)=_
  rw [RV.fw,RV.fw,hz]; rfl]
 conv=>whnf
 show (RV.of z).v=bN _
 rw [hz,hx,hy]
 rfl
theorem LP:bc Tryz.prog 122 n8:=by
 refine bh u6 aL Tryz.func122 (enters_of Tryz.func122 (by kernel_rfl) rfl) (fun _=>rfl) (fun _=>rfl) ?_
 intro ⟨p,q⟩ hp;have hp:p.sz 1073741824∧q.sz 1073741824:=hp;obtain ⟨x,hx⟩:∃ x,x=p.1.q*q.2.q:=⟨_,rfl⟩;obtain ⟨y,hy⟩:∃ x,x=p.2.q*q.1.q:=⟨_,rfl⟩;obtain ⟨z,hz⟩:∃ z,z=x - y:=⟨_,rfl⟩;have sx:(RV.of x).ok:=RV.bo (RV.jl (by rw [hx]; exact (RV.fM hp.1.1 (by decide)).mul (RV.fM hp.2.2 (by decide)))) (by decide)
 have sy:(RV.of y).ok:=RV.bo (RV.jl (by rw [hy]; exact (RV.fM hp.1.2 (by decide)).mul (RV.fM hp.2.1 (by decide)))) (by decide)
 conv=>whnf
 refine .inl ⟨9,[[],[0],[],[2],[0,1,2,3],[],[5],[],[7],[0,1,2,3,4,5,6,7,8],[0,1,2,3,4,5,6,7,8,9],[0,1,2,3,4,5,6,7,8,9,10]],by kernel_rfl,?_⟩
 conv=>whnf
 refine ⟨(p.1,q.2),rfl,⟨RV.bo hp.1.1 (by decide),RV.bo hp.2.2 (by decide)⟩,?_⟩
 rw [show hJ.val (p.1,q.2)=(RV.of x).v from by rw [hx]; rfl]
 conv=>whnf
 refine ⟨(p.2,q.1),rfl,⟨RV.bo hp.1.2 (by decide),RV.bo hp.2.1 (by decide)⟩,?_⟩
 rw [show hJ.val (p.2,q.1)=(RV.of y).v from by rw [hy]; rfl]
 conv=>whnf
 refine ⟨(RV.of x,RV.of y),rfl,⟨sx,sy⟩,?_⟩;rw [show eU.val (RV.of x,RV.of y)=(RV.of z).v from by
  show bN ((RV.of x).q - (RV.of y).q)=_
  rw [RV.fw,RV.fw,hz]; rfl]
 conv=>whnf
 show (RV.of z).v=bN _
 rw [hz,hx,hy]
 rfl
theorem Oh:bc Tryz.prog 74 kv:=by
 refine bh u0 aL Tryz.func74 (enters_of Tryz.func74 (by kernel_rfl) rfl) (fun _=>rfl) (fun _=>rfl) ?_
 intro ⟨p,q⟩ hp;have hp:p.sz 8589934592∧q.sz 8589934592:=hp;obtain ⟨x,hx⟩:∃ x,x=aW p.1.q q.1.q:=⟨_,rfl⟩;obtain ⟨y,hy⟩:∃ x,x=aW p.2.q q.2.q:=⟨_,rfl⟩;have fin:∀ z:Int,z=(if x≠0 then x else y)→Value.int .i64 z=kv.val (p,q):=fun z h=>by rw [h,hx,hy]; rfl
 conv=>whnf
 refine ⟨(p.1,q.1),rfl,⟨hp.1.1,hp.2.1⟩,?_⟩;rw [show jB.val (p.1,q.1)=.int .i64 x from by rw [hx]; rfl]
 conv=>whnf
 refine aI (fun h=>?_) (fun h=>?_)
 ·have h:x≠0:=by
   intro e;subst e;simp at h
  conv=>whnf
  exact fin _ (if_pos h).symm
 ·have h:x=0:=by simpa using h
  conv=>whnf
  refine ⟨(p.2,q.2),rfl,⟨hp.1.2,hp.2.2⟩,?_⟩;rw [show jB.val (p.2,q.2)=.int .i64 y from by rw [hy]; rfl]
  conv=>whnf
  exact fin _ (if_neg (fun e=>e h)).symm
theorem BZ:bc Tryz.prog 76 kv:=by
 refine bh u6 aL Tryz.func76 (enters_of Tryz.func76 (by kernel_rfl) rfl) (fun _=>rfl) (fun _=>rfl) ?_
 intro ⟨p,q⟩ hp;have hp:p.sz 8589934592∧q.sz 8589934592:=hp;obtain ⟨x,hx⟩:∃ x,x=aW p.1.q q.1.q:=⟨_,rfl⟩;obtain ⟨y,hy⟩:∃ x,x=aW p.2.q q.2.q:=⟨_,rfl⟩;have fin:∀ z:Int,z=(if x≠0 then x else y)→Value.int .i64 z=kv.val (p,q):=fun z h=>by rw [h,hx,hy]; rfl
 conv=>whnf
 refine ⟨(p.1,q.1),rfl,⟨hp.1.1,hp.2.1⟩,?_⟩;rw [show jB.val (p.1,q.1)=.int .i64 x from by rw [hx]; rfl]
 conv=>whnf
 refine aI (fun h=>?_) (fun h=>?_)
 ·have h:x≠0:=by
   intro e;subst e;simp at h
  conv=>whnf
  exact fin _ (if_pos h).symm
 ·have h:x=0:=by simpa using h
  conv=>whnf
  refine ⟨(p.2,q.2),rfl,⟨hp.1.2,hp.2.2⟩,?_⟩;rw [show jB.val (p.2,q.2)=.int .i64 y from by rw [hy]; rfl]
  conv=>whnf
  exact fin _ (if_neg (fun e=>e h)).symm
theorem Vi:bc Tryz.prog 148 Hf:=by
 refine bh u6 aL Tryz.func148 (enters_of Tryz.func148 (by kernel_rfl) rfl) (fun _=>rfl) (fun _=>rfl) ?_
 intro (p:PV) hp;have hp:p.sz 8589934592:=hp;obtain ⟨x,hx⟩:∃ x,x=p.1.q:=⟨_,rfl⟩;obtain ⟨y,hy⟩:∃ x,x=p.2.q:=⟨_,rfl⟩;conv=>whnf
 refine .inl ⟨5,[[],[0],[0,1],[],[3],[0,1,2,3,4],[0,1,2,3,4,5],[0,1,2,3,4,5,6]],by kernel_rfl,?_⟩
 conv=>whnf
 refine ⟨p.1,rfl,hp.1,?_⟩;rw [show qz.val p.1=(RV.of x).v from by rw [hx]; rfl]
 conv=>whnf
 refine ⟨p.2,rfl,hp.2,?_⟩;rw [show qz.val p.2=(RV.of y).v from by rw [hy]; rfl]
 conv=>whnf
 show PV.v (RV.of x,RV.of y)=iU _ _
 rw [hx,hy]
 rfl
open Go Go.Ae
theorem Vj:bc Tryz.prog 80 kR:=by
 refine bh u0 aL Tryz.func80 (enters_of Tryz.func80 (by kernel_rfl) rfl) (fun _=>rfl) (fun _=>rfl) ?_
 intro (p:PV) hp;have hp:p.sz 8589934592:=hp;have oq:p.1=RV.of p.1.q→p.2=RV.of p.2.q→Value.int .i64 0=kR.val p:=fun h1 J=>by
  show _=Value.int .i64 (if p.canon then 0 else 1)
  rw [if_pos ⟨h1,J⟩]
 have mT:¬ p.canon→Value.int .i64 1=kR.val p:=fun h=>by
  show _=Value.int .i64 (if p.canon then 0 else 1)
  rw [if_neg h]
 conv=>whnf
 refine .inr ⟨3,?_⟩;conv=>whnf
 refine ⟨⟨by decide,by decide⟩,?_⟩
 conv=>whnf
 refine ⟨p.1,rfl,hp.1,?_⟩;by_cases h1:p.1=RV.of p.1.q
 ·rw [show nm.val p.1=.int .i64 0 from by show Value.int .i64 (if p.1=RV.of p.1.q then 0 else 1)=_; rw [if_pos h1]]
  conv=>whnf
  refine ⟨⟨by decide,by decide⟩,?_⟩
  conv=>whnf
  refine ⟨p.2,rfl,hp.2,?_⟩;by_cases J:p.2=RV.of p.2.q
  ·rw [show nm.val p.2=.int .i64 0 from by show Value.int .i64 (if p.2=RV.of p.2.q then 0 else 1)=_; rw [if_pos J]]
   conv=>whnf
   exact oq h1 J
  ·rw [show nm.val p.2=.int .i64 1 from by show Value.int .i64 (if p.2=RV.of p.2.q then 0 else 1)=_; rw [if_neg J]]
   conv=>whnf
   exact mT (fun h=>J h.2)
 ·rw [show nm.val p.1=.int .i64 1 from by show Value.int .i64 (if p.1=RV.of p.1.q then 0 else 1)=_; rw [if_neg h1]]
  conv=>whnf
  exact mT (fun h=>h1 h.1)
theorem LQ:bc Tryz.prog 68 kR:=by
 refine bh u6 aL Tryz.func68 (enters_of Tryz.func68 (by kernel_rfl) rfl) (fun _=>rfl) (fun _=>rfl) ?_
 intro (p:PV) hp;have hp:p.sz 8589934592:=hp;have oq:p.1=RV.of p.1.q→p.2=RV.of p.2.q→Value.int .i64 0=kR.val p:=fun h1 J=>by
  show _=Value.int .i64 (if p.canon then 0 else 1)
  rw [if_pos ⟨h1,J⟩]
 have mT:¬ p.canon→Value.int .i64 1=kR.val p:=fun h=>by
  show _=Value.int .i64 (if p.canon then 0 else 1)
  rw [if_neg h]
 conv=>whnf
 refine ⟨p.1,rfl,hp.1,?_⟩;by_cases h1:p.1=RV.of p.1.q
 ·rw [show nm.val p.1=.int .i64 0 from by show Value.int .i64 (if p.1=RV.of p.1.q then 0 else 1)=_; rw [if_pos h1]]
  conv=>whnf
  refine ⟨p.2,rfl,hp.2,?_⟩;by_cases J:p.2=RV.of p.2.q
  ·rw [show nm.val p.2=.int .i64 0 from by show Value.int .i64 (if p.2=RV.of p.2.q then 0 else 1)=_; rw [if_pos J]]
   conv=>whnf
   exact oq h1 J
  ·rw [show nm.val p.2=.int .i64 1 from by show Value.int .i64 (if p.2=RV.of p.2.q then 0 else 1)=_; rw [if_neg J]]
   conv=>whnf
   exact mT (fun h=>J h.2)
 ·rw [show nm.val p.1=.int .i64 1 from by show Value.int .i64 (if p.1=RV.of p.1.q then 0 else 1)=_; rw [if_neg h1]]
  conv=>whnf
  exact mT (fun h=>h1 h.1)
def Evf:Env:=En [(85,.p ia),(31,.p sh),(29,.p xA)]
theorem ac6:EnvOk Tryz.prog Evf:=bI ⟨Co,Vh,Zy,trivial⟩ trivial
def Evg:Env:=En [(121,.p ia),(171,.p sh),(170,.p xA),(126,.p Pe)]
theorem ac7:EnvOk Tryz.prog Evg:=bI ⟨yP,Fb,WV,WU,trivial⟩ trivial
theorem abQ:bc Tryz.prog 39 nL:=by
 refine bh ac6 aL Tryz.func39 (enters_of Tryz.func39 (by kernel_rfl) rfl) (fun _=>rfl) (fun _=>rfl) ?_
 intro ⟨⟨p,q⟩,t⟩ hp;have hp:(p.sz 268435456∧q.sz 268435456)∧t.sz 268435456:=hp;obtain ⟨⟨hp,hq⟩,ht⟩:=hp;obtain ⟨x,hx⟩:∃ x,x=q.1.q - p.1.q:=⟨_,rfl⟩;obtain ⟨y,hy⟩:∃ x,x=q.2.q - p.2.q:=⟨_,rfl⟩;obtain ⟨x2,mU⟩:∃ z,z=x*t.q:=⟨_,rfl⟩;obtain ⟨y2,mV⟩:∃ z,z=y*t.q:=⟨_,rfl⟩;obtain ⟨x3,AP⟩:∃ z,z=p.1.q+x2:=⟨_,rfl⟩;obtain ⟨y3,AQ⟩:∃ z,z=p.2.q+y2:=⟨_,rfl⟩;have bx:QB x 536870913:=by rw [hx]; exact (RV.fM hq.1 (by decide)).sub (RV.fM hp.1 (by decide))
 have AR:QB y 536870913:=by rw [hy]; exact (RV.fM hq.2 (by decide)).sub (RV.fM hp.2 (by decide))
 have JQ:QB x2 805306369:=by rw [mU]; exact bx.mul (RV.fM ht (by decide))
 have JR:QB y2 805306369:=by rw [mV]; exact AR.mul (RV.fM ht (by decide))
 conv=>whnf
 refine .inl ⟨6,[[],[],[],[1,2],[],[1,2,3,4],[0,1,2,3,4,5],[0,1,2,3,4,5,6]],by kernel_rfl,?_⟩
 conv=>whnf
 refine ⟨(q,p),rfl,⟨PV.aP hq (by decide),PV.aP hp (by decide)⟩,?_⟩
 rw [show ia.val (q,p)=PV.v (RV.of x,RV.of y) from by rw [hx,hy]; rfl]
 conv=>whnf
 refine ⟨((RV.of x,RV.of y),t),rfl,⟨⟨RV.jl (bx.mono (by decide)),RV.jl (AR.mono (by decide))⟩,RV.aP ht (by decide)⟩,?_⟩
 rw [show sh.val ((RV.of x,RV.of y),t)=PV.v (RV.of x2,RV.of y2) from by
  show iU ((RV.of x).q*t.q) ((RV.of y).q*t.q)=_
  rw [RV.fw,RV.fw,← mU,← mV]; rfl]
 conv=>whnf
 refine ⟨(p,(RV.of x2,RV.of y2)),rfl,⟨PV.aP hp (by decide),RV.jl (JQ.mono (by decide)),RV.jl (JR.mono (by decide))⟩,?_⟩
 rw [show xA.val (p,(RV.of x2,RV.of y2))=PV.v (RV.of x3,RV.of y3) from by
  show iU (p.1.q+(RV.of x2).q) (p.2.q+(RV.of y2).q)=_
  rw [RV.fw,RV.fw,← AP,← AQ]; rfl]
 conv=>whnf
 show PV.v (RV.of x3,RV.of y3)=iU _ _
 rw [AP,AQ,mU,mV,hx,hy]
 rfl
theorem Zz:bc Tryz.prog 151 nL:=by
 refine bh ac7 aL Tryz.func151 (enters_of Tryz.func151 (by kernel_rfl) rfl) (fun _=>rfl) (fun _=>rfl) ?_
 intro ⟨⟨p,q⟩,t⟩ hp;have hp:(p.sz 268435456∧q.sz 268435456)∧t.sz 268435456:=hp;obtain ⟨⟨hp,hq⟩,ht⟩:=hp;obtain ⟨x,hx⟩:∃ x,x=q.1.q - p.1.q:=⟨_,rfl⟩;obtain ⟨y,hy⟩:∃ x,x=q.2.q - p.2.q:=⟨_,rfl⟩;obtain ⟨x2,mU⟩:∃ z,z=x*t.q:=⟨_,rfl⟩;obtain ⟨y2,mV⟩:∃ z,z=y*t.q:=⟨_,rfl⟩;obtain ⟨x3,AP⟩:∃ z,z=p.1.q+x2:=⟨_,rfl⟩;obtain ⟨y3,AQ⟩:∃ z,z=p.2.q+y2:=⟨_,rfl⟩;have bx:QB x 536870913:=by rw [hx]; exact (RV.fM hq.1 (by decide)).sub (RV.fM hp.1 (by decide))
 have AR:QB y 536870913:=by rw [hy]; exact (RV.fM hq.2 (by decide)).sub (RV.fM hp.2 (by decide))
 have JQ:QB x2 805306369:=by rw [mU]; exact bx.mul (RV.fM ht (by decide))
 have JR:QB y2 805306369:=by rw [mV]; exact AR.mul (RV.fM ht (by decide))
 conv=>whnf
 refine .inl ⟨6,[[],[],[],[1,2],[],[1,2,3,4],[0,1,2,3,4,5],[0,1,2,3,4,5,6]],by kernel_rfl,?_⟩
 conv=>whnf
 refine ⟨(q,p),rfl,⟨PV.aP hq (by decide),PV.aP hp (by decide)⟩,?_⟩
 rw [show ia.val (q,p)=PV.v (RV.of x,RV.of y) from by rw [hx,hy]; rfl]
 conv=>whnf
 refine ⟨((RV.of x,RV.of y),t),rfl,⟨⟨RV.jl (bx.mono (by decide)),RV.jl (AR.mono (by decide))⟩,RV.aP ht (by decide)⟩,?_⟩
 rw [show sh.val ((RV.of x,RV.of y),t)=PV.v (RV.of x2,RV.of y2) from by
  show iU ((RV.of x).q*t.q) ((RV.of y).q*t.q)=_
  rw [RV.fw,RV.fw,← mU,← mV]; rfl]
 conv=>whnf
 refine ⟨(p,(RV.of x2,RV.of y2)),rfl,⟨PV.aP hp (by decide),RV.jl (JQ.mono (by decide)),RV.jl (JR.mono (by decide))⟩,?_⟩
 rw [show xA.val (p,(RV.of x2,RV.of y2))=PV.v (RV.of x3,RV.of y3) from by
  show iU (p.1.q+(RV.of x2).q) (p.2.q+(RV.of y2).q)=_
  rw [RV.fw,RV.fw,← AP,← AQ]; rfl]
 conv=>whnf
 show PV.v (RV.of x3,RV.of y3)=iU _ _
 rw [AP,AQ,mU,mV,hx,hy]
 rfl
open Go Go.Ae
open Go Go.Ae
open Go Go.Ae
def Emn:Env:=En [(88,.p mc),(92,.p fE),(82,.p uV)]
theorem ac8:EnvOk Tryz.prog Emn:=bI ⟨Hr,OR,Og,trivial⟩ trivial
theorem Oi:bc Tryz.prog 71 lT:=by
 refine bh ac8 aL Tryz.func71 (enters_of Tryz.func71 (by kernel_rfl) rfl) (fun _=>rfl) (fun _=>rfl) ?_
 intro ⟨⟨b,s,t⟩,⟨b',s',t'⟩⟩ hp;have hp:RV.ok (b,s,t)∧RV.ok (b',s',t'):=hp;obtain ⟨x,hx⟩:∃ x,x=RV.den (b,s,t):=⟨_,rfl⟩;obtain ⟨y,hy⟩:∃ x,x=RV.den (b',s',t'):=⟨_,rfl⟩;have f1:=RV.mD hp.1;have f2:=RV.mD hp.2;have g1:=RV.jW (b,s,t);have g2:=RV.jW (b',s',t');rw [← hx] at f1 g1;rw [← hy] at f2 g2;have hq:=acE (b,s,t) (b',s',t');obtain ⟨B1,m1,h1⟩:=EI.mk' (IV.z (b,s)*IV.z (false,y));obtain ⟨B2,m2,J⟩:=EI.mk' (IV.z (false,x)*IV.z (b',s'));have z1:=h1.gL (dU f1.1.1) (dU f2.1.2);have z2:=J.gL (dU f1.1.2) (dU f2.1.1);obtain ⟨w,hw⟩:∃ w,w=RV.q (b,s,t) / RV.q (b',s',t'):=⟨_,rfl⟩;obtain ⟨e,he⟩:∃ e:Int,e=if RV.q (b',s',t')=0 then 10 else 0:=⟨_,rfl⟩
 have hN:uV.val ((B1,m1),(B2,m2))=.tuple ⟨[(RV.of w).v,.int .i64 e]⟩:=by
  show me (IV.z (B1,m1)) (IV.z (B2,m2))=_
  rw [h1.val,J.val,g1,g2,hw,he];exact hq
 conv=>whnf
 refine .inl ⟨6,[[],[0],[],[0,1,2],[],[],[0,1,2,3,4,5],[0,1,2,3,4,5,6]],by kernel_rfl,?_⟩
 conv=>whnf
 refine ⟨(b,s,t),rfl,by have:=hp.1.2; show t.size≤_; exact Nat.le_trans this (by decide),?_⟩
 rw [show mc.val (b,s,t)=.agg ⟨[.bool b,.string s,.bool false,.string x]⟩ from by rw [hx]; rfl]
 conv=>whnf
 refine ⟨(b',s',t'),rfl,by have:=hp.2.2; show t'.size≤_; exact Nat.le_trans this (by decide),?_⟩
 rw [show mc.val (b',s',t')=.agg ⟨[.bool b',.string s',.bool false,.string y]⟩ from by rw [hy]; rfl]
 conv=>whnf
 refine .inl ⟨13,[[],[0],[],[2],[0,1,2,3],[],[5],[],[7],[0,1,2,3,4,5,6,7,8],[0,1,2,3,4,5,6,7,8,9],[0,1,2,3,4,5,6,7,8,9,10],[0,1,2,3,4,5,6,7,8,9,10],[0,1,2,3,4,5,6,7,8,9,10,11,12],[0,1,2,3,4,5,6,7,8,9,10,11,12,13]],by kernel_rfl,?_⟩
 conv=>whnf
 refine ⟨((b,s),(false,y)),rfl,⟨Nat.le_trans f1.1.1 (by decide),Nat.le_trans f2.1.2 (by decide)⟩,?_⟩
 rw [show fE.val ((b,s),(false,y))=.agg ⟨[.bool B1,.string m1]⟩ from h1.enc]
 conv=>whnf
 refine ⟨((false,x),(b',s')),rfl,⟨Nat.le_trans f1.1.2 (by decide),Nat.le_trans f2.1.1 (by decide)⟩,?_⟩
 rw [show fE.val ((false,x),(b',s'))=.agg ⟨[.bool B2,.string m2]⟩ from J.enc]
 conv=>whnf
 refine ⟨((B1,m1),(B2,m2)),rfl,⟨by show m1.size≤_; omega,by show m2.size≤_; omega⟩,?_⟩
 rw [hN];conv=>whnf
 show Value.tuple ⟨[(RV.of w).v,.int .i64 e]⟩=Value.tuple ⟨[bN _,.int .i64 _]⟩
 rw [hw,he]
 rfl
open Go Go.Ae
def Epa:Env:=En [(85,.p ia),(84,.p n8),(34,.p dT),(37,.p hJ),(38,.p eU),(36,.p jA)]
theorem ac9:EnvOk Tryz.prog Epa:=bI ⟨Co,ML,Gf,Oe,wW,Cn,trivial⟩ trivial
theorem MM:bc Tryz.prog 32 np:=by
 refine bh ac9 aL Tryz.func32 (enters_of Tryz.func32 (by kernel_rfl) rfl) (fun _=>rfl) (fun _=>rfl) ?_
 intro ⟨a,b,c⟩ hp;obtain ⟨sa,sb,sc⟩:a.sz 1048576∧b.sz 1048576∧c.sz 1048576:=hp;have pa:Q2.sz 1048576 a.p:=PV.cM sa (by decide)
 have pb:Q2.sz 1048576 b.p:=PV.cM sb (by decide)
 have pc:Q2.sz 1048576 c.p:=PV.cM sc (by decide)
 obtain ⟨w,hw⟩:∃ w,w=aB a.p b.p c.p:=⟨_,rfl⟩;obtain ⟨u,hu⟩:∃ u,u=cA (sZ b.p a.p):=⟨_,rfl⟩;obtain ⟨v,hv⟩:∃ v,v=cA (sZ c.p a.p):=⟨_,rfl⟩;have su:u.sz 1073741824:=by rw [hu]; exact sC (nw pb pa) (by decide)
 have sv:v.sz 1073741824:=by rw [hv]; exact sC (nw pc pa) (by decide)
 have sw:(RV.of w).ok:=by rw [hw]; exact aaa (wI (nw pb pa) (nw pc pa)) (by decide)
 conv=>whnf
 refine .inl ⟨5,[[],[],[0,1],[],[],[0,1,2,3,4],[0,1,2,3,4,5],[0,1,2,3,4,5,6],[0,1,2,3,4,5,6,7]],by kernel_rfl,?_⟩
 conv=>whnf
 refine ⟨(b,a),rfl,⟨PV.aP sb (by decide),PV.aP sa (by decide)⟩,?_⟩
 rw [show ia.val (b,a)=u.v from by rw [NW,hu]]
 conv=>whnf
 refine ⟨(c,a),rfl,⟨PV.aP sc (by decide),PV.aP sa (by decide)⟩,?_⟩
 rw [show ia.val (c,a)=v.v from by rw [NW,hv]]
 conv=>whnf
 refine ⟨(u,v),rfl,⟨su,sv⟩,?_⟩;rw [show n8.val (u,v)=(RV.of w).v from by rw [UO,hu,hv,gF,gF,hw]; rfl]
 conv=>whnf
 refine ⟨RV.of w,rfl,sw,?_⟩;rw [V3,RV.fw];conv=>whnf
 show Value.int .i64 _=Value.int .i64 _
 rw [hw]
set_option maxHeartbeats 4000000
open Go Go.Ae
def JS:Env:=pU [(80,.p kR),(74,.p kv),(32,.p np),(85,.p ia),(84,.p n8)]
theorem qN:EnvOk Tryz.prog JS:=qZ ⟨Vj,Oh,MM,Co,ML,trivial⟩ trivial
theorem ZA:bc Tryz.prog 108 C8:=by
 refine bh qN aL Tryz.func108 (enters_of Tryz.func108 (by kernel_rfl) rfl) (fun _=>rfl) (fun _=>rfl) ?_
 intro (p:PV) hp;have sp:p.sz 2048:=hp;conv=>whnf
 refine ⟨p,rfl,PV.aP sp (by decide),?_⟩
 by_cases h:p.canon
 ·rw [show kR.val p=.int .i64 0 from congrArg (Value.int .i64) (if_pos h)]
  conv=>whnf
  show Value.bool false=.bool (decide (¬ p.canon))
  rw [decide_eq_false (fun e=>e h)]
 ·rw [show kR.val p=.int .i64 1 from congrArg (Value.int .i64) (if_neg h)]
  conv=>whnf
  show Value.bool true=.bool (decide (¬ p.canon))
  rw [decide_eq_true h]
theorem ZB:dj Tryz.prog 75 sP:=by
 refine dC qN aL Tryz.func75 (enters_of Tryz.func75 (by kernel_rfl) rfl) ?_ ?_ ?_
 ·intro i b hb; simp [sP] at hb; rcases hb with rfl | rfl <;> rfl
 ·intro i b hb; simp [sP] at hb
 intro ⟨a,b,p⟩ hp;have hp:a.sz 2048∧b.sz 2048∧p.sz 2048:=hp;obtain ⟨sa,sb,sp⟩:=hp;have qa:=PV.cM sa (by decide)
 have qb:=PV.cM sb (by decide)
 have qp:=PV.cM sp (by decide)
 have fin:∀ z:Bool,z=s7 a b p→∃ v',dn (List.range 2) 3 (sP.val (a,b,p))=some v'∧gd (.bool z) v':=fun z h=>⟨.bool z,by rw [h]; rfl,.refl _⟩
 conv=>whnf
 refine ⟨by decide,?_⟩
 conv=>whnf
 rw [xM p a];by_cases h1:p=a
 ·rw [decide_eq_true h1];conv=>whnf
  exact fin false (decide_eq_false fun e=>e.1 h1).symm
 rw [decide_eq_false h1];conv=>whnf
 refine ⟨by decide,?_⟩
 conv=>whnf
 rw [xM p b];by_cases J:p=b
 ·rw [decide_eq_true J];conv=>whnf
  exact fin false (decide_eq_false fun e=>e.2.1 J).symm
 rw [decide_eq_false J];conv=>whnf
 refine ⟨by decide,?_⟩
 conv=>whnf
 refine ⟨by decide,?_⟩
 conv=>whnf
 obtain ⟨z,ez,pz⟩:=cZ (aW (aB a.p b.p p.p) 0);refine ⟨(a,b,p),rfl,⟨PV.aP sa (by decide),PV.aP sb (by decide),PV.aP sp (by decide)⟩,?_⟩
 rw [show np.val (a,b,p)=.int .i64 z from ez]
 conv=>whnf
 refine fin _ ?_;unfold s7;rw [← pz];by_cases h3:z≤0
 ·rw [decide_eq_true h3,decide_eq_true ⟨h1,J,h3⟩]; rfl
 ·rw [decide_eq_false h3,decide_eq_false fun e=>h3 e.2.2]; rfl
theorem MN:bc Tryz.prog 70 qe:=by
 refine bh qN aL Tryz.func70 (enters_of Tryz.func70 (by kernel_rfl) rfl) (fun _=>rfl) (fun _=>rfl) ?_
 intro ⟨a,b,p⟩ hp;have hp:a.sz 1048576∧b.sz 1048576∧p.sz 1048576:=hp;obtain ⟨sa,sb,sp⟩:=hp;have qa:=PV.cM sa (by decide)
 have qb:=PV.cM sb (by decide)
 have qp:=PV.cM sp (by decide)
 conv=>whnf
 refine .inl ⟨5,[[],[],[0,1],[],[],[0,1,2,3,4],[0,1,2,3,4,5],[0,1,2,3,4,5,6]],by kernel_rfl,?_⟩
 conv=>whnf
 obtain ⟨u,eu,pu,su,qu⟩:=lV (nw qb qa);refine ⟨(b,a),rfl,⟨PV.aP sb (by decide),PV.aP sa (by decide)⟩,?_⟩
 rw [show ia.val (b,a)=u.v from eu]
 conv=>whnf
 obtain ⟨v,ev,pv,sv,qv⟩:=lV (nw qp qa);refine ⟨(p,a),rfl,⟨PV.aP sp (by decide),PV.aP sa (by decide)⟩,?_⟩
 rw [show ia.val (p,a)=v.v from ev]
 conv=>whnf
 obtain ⟨w,ew,pw,sw,qw⟩:=di (wI qu qv);refine ⟨(u,v),rfl,⟨PV.aP su (by decide),PV.aP sv (by decide)⟩,?_⟩
 rw [show n8.val (u,v)=w.v from ew]
 conv=>whnf
 show w.v=(RV.of (aB a.p b.p p.p)).v
 rw [(RV.iF ew).symm,pu,pv]
 rfl
open Go Go.Ae
theorem Vk:gj Tryz.prog 73 (cC JS cO Tryz.f73):=by
 exact jh qN aL Tryz.func73 (enters_of Tryz.func73 (by kernel_rfl) rfl)
def JT:Env:=En [(108,.p C8),(75,.q sP)] [(73,cC JS cO Tryz.f73)]
theorem ada:EnvOk Tryz.prog JT:=bI ⟨ZA,ZB,trivial⟩ ⟨Vk,trivial⟩
theorem Vl:gj Tryz.prog 106 (cC JT cO Tryz.f106):=by
 exact jh ada aL Tryz.func106 (enters_of Tryz.func106 (by kernel_rfl) rfl)
def D6:Env:=En [] [(106,cC JT cO Tryz.f106)]
theorem adb:EnvOk Tryz.prog D6:=bI trivial ⟨Vl,trivial⟩
theorem KL:gj Tryz.prog 49 (cC D6 cO Tryz.f49):=by
 exact jh adb aL Tryz.func49 (enters_of Tryz.func49 (by kernel_rfl) rfl)
def Ev4:Env:=En [] [(49,cC D6 cO Tryz.f49)]
theorem ade:EnvOk Tryz.prog Ev4:=bI trivial ⟨KL,trivial⟩
theorem EF:dj Tryz.prog 56 dN:=by
 refine dC ade aL Tryz.func56 (enters_of Tryz.func56 (by kernel_rfl) rfl) ?_ ?_ ?_
 ·intro i b hb;cases i with
  | none=>simp [dN,PL.ae] at hb
  | some i=>simp [dN,PL.ae] at hb; rw [hb]; rfl
 ·intro i b hb; simp [dN] at hb
 intro i hp;have hp:i.list.length≤1099511627776∧∀ v∈i.list,v.sz 2048:=hp;obtain ⟨hlen,aY⟩:=hp;cases i with
 | none =>
  conv=>whnf
  refine .inr ⟨1,?_⟩;conv=>whnf
  exact ⟨.bool true,rfl,.refl _⟩
 | some i =>
  obtain ⟨L,c⟩:=i;have hlen:L.length≤1099511627776:=hlen;have aY:∀ v∈L,PV.sz 2048 v:=aY;obtain ⟨n,hn⟩:∃ n,n=L.length:=⟨_,rfl⟩;obtain ⟨g,hg⟩:∃ g,g=bF L:=⟨_,rfl⟩;have fin:∀ z:Bool,z=!fa L→∃ v',dn (List.range 1) 3 (dN.val (some (L,c)))=some v'∧gd (.bool z) v':=fun z h=>⟨.bool z,by rw [h]; rfl,.refl _⟩
  rw [show dN.ae (some (L,c))=[.flat false n 6 g] from by rw [hn,hg]; rfl,show dN.args (some (L,c))=[.slice (some ⟨0,0,none⟩) n c] from by rw [hn]; rfl]
  rw [← hn] at hlen;conv=>whnf
  refine .inl ⟨fun mm tz hz=>∃ (i:Nat),bC (some (.slice (some ⟨0,0,none⟩) n c)::some (.func (.func 108) #[] #[])::aD 5 (some (.int .i64 n)::some (.int .i64 i)::aD 10 [])) tz∧hz=[some (.flat false n 6 g)]∧n - i=mm∧(i≤n∧uX L i),.inr ⟨[0],[0,1,7,8],?_⟩,?_⟩
  ·conv=>whnf
   intro _;conv=>whnf
   refine ⟨_,0,(.aa (.aa (.sk 5 (.aa (.aa (.sk 10 .nil rfl))) rfl))),rfl,rfl,?_⟩;exact ⟨Nat.zero_le _,K4 _⟩
  rintro mm aT _ ⟨i,aw,rfl,rfl,⟨hi,hU⟩⟩
  obtain ⟨az,rfl⟩:∃ az:Nat→Value,aT=.slice (some ⟨0,0,none⟩) n c::.func (.func 108) #[] #[]::zs az 2 5 (.int .i64 n::.int .i64 i::zs az 9 10 []):=bL aw;clear aw;conv=>whnf
  refine aI (fun h3=>?_) (fun h3=>?_)
  ·have h3:i < n:=by
    have:=of_decide_eq_true h3;omega
   have e7:IntKind.i64.wrap ((i:Int)+1)=((i+1:Nat):Int):=by rw [ay (by omega) (by omega)]; rfl
   obtain ⟨m,kN,m5,bd⟩:=rR (l:=L) (i:=i) (by omega)
   rw [← hg] at bd;conv=>whnf
   refine ⟨⟨by omega,by omega⟩,?_⟩
   simp only [toNat_cast,ar,Nat.zero_add];conv=>whnf
   refine ⟨by show i < n; omega,?_⟩
   conv=>whnf
   rw [bd];conv=>whnf
   refine ⟨m,rfl,aY m m5,?_⟩;by_cases h4:m.canon
   ·rw [show C8.val m=.bool false from congrArg Value.bool (decide_eq_false fun e=>e h4)]
    conv=>whnf
    rw [e7];refine .inr ⟨[0],[0,1,7,8],?_⟩;conv=>whnf
    intro _;conv=>whnf
    refine ⟨_,?_,i+1,(.aa (.aa (.sk 5 (.aa (.aa (.sk 10 .nil rfl))) rfl))),rfl,rfl,?_⟩
    ·omega
    ·exact ⟨by omega,LI hU kN h4⟩
   ·rw [show C8.val m=.bool true from congrArg Value.bool (decide_eq_true h4)]
    conv=>whnf
    rw [show decide ((i:Int) ≥ 0)=true from decide_eq_true (by omega)]
    conv=>whnf
    exact fin false (by rw [show fa L=true from List.any_eq_true.2 ⟨m,m5,decide_eq_true h4⟩]; rfl)
  ·have h3:i=n:=by
    have:=of_decide_eq_false h3;omega
   subst h3;conv=>whnf
   exact fin true (by rw [MA (by rw [← hn]; exact hU)]; rfl)
end Go.Proofs.YtlapbjdhekcipaaGreat
