import Derived.Test.YtlapbjdhekcipaaGreatVH
set_option linter.unusedVariables false
set_option linter.unusedSimpArgs false
set_option maxRecDepth 20000
set_option maxHeartbeats 1000000
namespace Go.Proofs.YtlapbjdhekcipaaGreat
open Go Go.Ae
def Emc:Env:=En [(140,.p sF),(188,.p sF)]
theorem OE:EnvOk Tryz.prog Emc:=bI ⟨Yu,Ta,trivial⟩ trivial
theorem VQ:bf Tryz.prog 95 nV:=by
 refine bk OE aM Tryz.func95 (enters_of Tryz.func95 (by kernel_rfl) rfl) (fun _=>rfl) (fun _=>rfl) ?_
 intro ⟨n,d⟩ hp;have hp:n.natAbs < 72057594037927936∧d≠0∧d < 72057594037927936:=hp;obtain ⟨g,hg⟩:∃ g,g=Int.gcd n d:=⟨_,rfl⟩;obtain ⟨gd,bQ,nN⟩:=AJ hp.2.1 hg;have hgd:g≤d:=by
  have h3:=Nat.div_le_self d g;rcases Nat.lt_or_ge d g with h | h
  ·rw [Nat.div_eq_of_lt h] at bQ; omega
  ·exact h
 have fin:∀ v:Value,v=bK (mkRat n d)→v=nV.val (n,d):=fun v h=>h
 conv=>whnf
 refine .inl ⟨fun mm tz hz=>∃ (a:Int) (b:Int),bA (some (.int .i64 n)::some (.int .i64 d)::aB 2 (some (.pointer (some ⟨0,0,none⟩))::some (.int .i64 a)::some (.int .i64 b)::aB 36 [])) tz∧hz=[some (.aL true 3 [[.bool false,.string ⟨#[]⟩,.string ⟨#[]⟩]])]∧b.natAbs=mm∧(((-72057594037927936 < a∧a < 72057594037927936)∧-72057594037927936 < b∧b < 72057594037927936)∧Int.gcd a b=g),.inr ⟨[0],[0,1,4,5,6],?_⟩,?_⟩
 ·conv=>whnf
  intro _;conv=>whnf
  refine ⟨_,n,d,(.aa (.aa (.sk 2 (.aa (.aa (.aa (.sk 36 .nil rfl)))) rfl))),rfl,rfl,?_⟩;exact ⟨⟨⟨by omega,by omega⟩,by omega,by omega⟩,hg.symm⟩
 rintro mm aS _ ⟨a,b,au,rfl,rfl,⟨ef,he⟩⟩
 obtain ⟨az,rfl⟩:∃ az:Nat→Value,aS=.int .i64 n::.int .i64 d::zs az 2 2 (.pointer (some ⟨0,0,none⟩)::.int .i64 a::.int .i64 b::zs az 7 36 []):=bJ au;clear au;conv=>whnf
 refine aI (fun h1=>?_) (fun h1=>?_)
 ·have h1:b≠0:=by
   intro e;subst e;simp at h1
  have ak:(Int.tmod a b).natAbs < b.natAbs:=by
   rw [Int.natAbs_tmod]; exact Nat.mod_lt _ (by omega)
  obtain ⟨r,hr⟩:∃ r,r=Int.tmod a b:=⟨_,rfl⟩;rw [← hr] at ak;conv=>whnf
  refine .inl ⟨5,[[],[],[],[1,2],[0,1],[0,1,2,3,4]],by kernel_rfl,?_⟩
  conv=>whnf
  rw [show decide (b≠0)=true from decide_eq_true h1]
  conv=>whnf
  rw [← hr];refine .inr ⟨[0],[0,1,4,5,6],?_⟩;conv=>whnf
  intro _;conv=>whnf
  refine ⟨_,?_,b,r,(.aa (.aa (.sk 2 (.aa (.aa (.aa (.sk 36 .nil rfl)))) rfl))),rfl,rfl,?_⟩
  ·exact ak
  ·exact ⟨⟨ef.2,by omega,by omega⟩,by rw [hr,U4]; exact he⟩
 ·have h1:b=0:=by simpa using h1
  subst h1;have he:a.natAbs=g:=by rw [← he,Int.gcd_zero_right]
  have em:=Nc a ef.1;rw [he] at em;have en:=Nc n (by omega)
  obtain ⟨N,hN⟩:∃ N,N=n.natAbs:=⟨_,rfl⟩;rw [← hN] at en;conv=>whnf
  rw [em];by_cases J:n=0
  ·subst J;conv=>whnf
   exact fin _ (yj d).symm
  ·refine aI (fun h=>absurd (by simpa using h) J) (fun _=>?_)
   have eq:=Gd J hp.2.1 hg;rw [← hN] at eq;have ed:=Be (a:=N) (g:=g) (by omega)
   have iN:=Be (a:=d) (g:=g) hp.2.2;obtain ⟨x,hx⟩:∃ x,x=nb (N / g):=⟨_,rfl⟩;obtain ⟨y,hy⟩:∃ y,y=nb (d / g):=⟨_,rfl⟩;have ex:sF.val (N / g)=.string x:=by rw [hx]; rfl
   have ey:sF.val (d / g)=.string y:=by rw [hy]; rfl
   rw [← hx] at eq;conv=>whnf
   rw [en,show decide (((g:Nat):Int)≠0)=true from decide_eq_true (by omega)]
   conv=>whnf
   rw [ed];refine ⟨N / g,rfl,by show N / g < _; exact Nat.lt_of_le_of_lt (Nat.div_le_self _ _) (by omega),?_⟩
   rw [ex];conv=>whnf
   refine aI (fun h3=>?_) (fun h3=>?_)
   ·have h3:d≠g:=by
     intro e;rw [e] at h3;simp at h3
    have e4:fo (d / g)=y:=by
     rw [hy]; unfold fo; rw [if_neg (fun h=>h3 (gd.1 h))]
    rw [e4] at eq;conv=>whnf
    rw [show decide (((g:Nat):Int)≠0)=true from decide_eq_true (by omega)]
    conv=>whnf
    rw [iN];refine ⟨d / g,rfl,by show d / g < _; exact Nat.lt_of_le_of_lt (Nat.div_le_self _ _) hp.2.2,?_⟩
    rw [ey];conv=>whnf
    exact fin _ eq.symm
   ·have h3:d=g:=by
     have:((d:Nat):Int)=g:=by simpa using h3
     omega
    have e4:fo (d / g)=⟨#[]⟩:=by unfold fo; rw [if_pos (gd.2 h3)]
    rw [e4] at eq;conv=>whnf
    exact fin _ eq.symm
theorem VR:bf Tryz.prog 172 nV:=by
 refine bk OE aM Tryz.func172 (enters_of Tryz.func172 (by kernel_rfl) rfl) (fun _=>rfl) (fun _=>rfl) ?_
 intro ⟨n,d⟩ hp;have hp:n.natAbs < 72057594037927936∧d≠0∧d < 72057594037927936:=hp;obtain ⟨g,hg⟩:∃ g,g=Int.gcd n d:=⟨_,rfl⟩;obtain ⟨gd,bQ,nN⟩:=AJ hp.2.1 hg;have fin:∀ v:Value,v=bK (mkRat n d)→v=nV.val (n,d):=fun v h=>h
 obtain ⟨N,hN⟩:∃ N,N=n.natAbs:=⟨_,rfl⟩;obtain ⟨B,hB⟩:∃ B,B=decide (n < 0):=⟨_,rfl⟩;have ed:=Be (a:=N) (g:=g) (by omega)
 have iN:=Be (a:=d) (g:=g) hp.2.2;obtain ⟨x,hx⟩:∃ x,x=nb (N / g):=⟨_,rfl⟩;obtain ⟨y,hy⟩:∃ y,y=nb (d / g):=⟨_,rfl⟩;have ex:sF.val (N / g)=.string x:=by rw [hx]; rfl
 have ey:sF.val (d / g)=.string y:=by rw [hy]; rfl
 conv=>whnf
 refine aI (fun h1=>?_) (fun h1=>?_)
 ·have eI:=of_decide_eq_true h1;have eI:n < 0:=eI;have e0:IntKind.i64.wrap (0 - n)=(N:Int):=by rw [ar (by omega) (by omega)]; omega
  have J:n≠0:=by omega
  have eq:=Gd J hp.2.1 hg;rw [← hN,← hx,← hB] at eq;conv=>whnf
  rw [show decide ((n,d).fst < 0)=B from hB.symm]
  rw [show IntKind.i64.wrap (0 - (n,d).fst)=(N:Int) from e0]
  refine aI (fun h=>absurd (by simpa using h) (show N≠0 by omega)) (fun _=>?_)
  conv=>whnf
  refine .inl ⟨fun mm tz hz=>∃ (a:Nat) (b:Nat),bA (some (.int .i64 N)::some (.int .i64 d)::aB 2 (some (.pointer (some ⟨0,0,none⟩))::some (.pointer (some ⟨1,0,none⟩))::some (.int .i64 a)::some (.int .i64 b)::aB 33 [])) tz∧hz=[some (.aL true 3 [[.bool false,.string ⟨#[]⟩,.string ⟨#[]⟩]]),some (.aL true 3 [[.bool B,.string ⟨#[]⟩,.string ⟨#[]⟩]])]∧b=mm∧((a < 72057594037927936∧b < 72057594037927936)∧Nat.gcd a b=g),.inr ⟨[0,1],[0,1,4,5,6,7],?_⟩,?_⟩
  ·conv=>whnf
   intro _;conv=>whnf
   refine ⟨_,N,d,(.aa (.aa (.sk 2 (.aa (.aa (.aa (.aa (.sk 33 .nil rfl))))) rfl))),rfl,rfl,?_⟩;exact ⟨⟨by omega,by omega⟩,by rw [hg,hN]; rfl⟩
  rintro mm aS _ ⟨a,b,au,rfl,rfl,⟨ef,he⟩⟩
  obtain ⟨az,rfl⟩:∃ az:Nat→Value,aS=.int .i64 N::.int .i64 d::zs az 2 2 (.pointer (some ⟨0,0,none⟩)::.pointer (some ⟨1,0,none⟩)::.int .i64 a::.int .i64 b::zs az 8 33 []):=bJ au;clear au;conv=>whnf
  refine aI (fun h1=>?_) (fun h1=>?_)
  ·have h1:0 < b:=by
    have:=of_decide_eq_true h1;omega
   have ak:=Nat.mod_lt a h1;conv=>whnf
   refine .inl ⟨5,[[],[],[],[1,2],[0,1],[0,1,2,3,4]],by kernel_rfl,?_⟩
   conv=>whnf
   rw [show decide (((b:Nat):Int)≠0)=true from decide_eq_true (by omega)]
   conv=>whnf
   rw [show Int.tmod ((a:Nat):Int) ((b:Nat):Int)=((a % b:Nat):Int) from rfl]
   refine .inr ⟨[0,1],[0,1,4,5,6,7],?_⟩;conv=>whnf
   intro _;conv=>whnf
   refine ⟨_,?_,b,a % b,(.aa (.aa (.sk 2 (.aa (.aa (.aa (.aa (.sk 33 .nil rfl))))) rfl))),rfl,rfl,?_⟩
   ·exact ak
   ·exact ⟨⟨ef.2,by omega⟩,by rw [Nat.gcd_comm,← Nat.gcd_rec,Nat.gcd_comm]; exact he⟩
  ·have h1:b=0:=by
    have:=of_decide_eq_false h1;omega
   subst h1;obtain rfl:a=g:=by rw [← he,Nat.gcd_zero_right]
   conv=>whnf
   rw [show decide (((a:Nat):Int)≠0)=true from decide_eq_true (by omega)]
   conv=>whnf
   rw [ed];refine ⟨N / a,rfl,by show N / a < _; exact Nat.lt_of_le_of_lt (Nat.div_le_self _ _) (by omega),?_⟩
   rw [ex];conv=>whnf
   rw [show decide (((a:Nat):Int)≠0)=true from decide_eq_true (by omega)]
   obtain ⟨q,hq⟩:∃ q,q=d / a:=⟨_,rfl⟩;rw [← hq] at iN ey eq gd bQ hy;conv=>whnf
   rw [iN];refine aI (fun h3=>?_) (fun h3=>?_)
   ·have h3:q≠1:=by
     have:=of_decide_eq_true h3;omega
    have e4:fo q=y:=by
     rw [hy]; unfold fo; rw [if_neg h3]
    rw [e4] at eq;conv=>whnf
    rw [show decide (((a:Nat):Int)≠0)=true from decide_eq_true (by omega)]
    conv=>whnf
    rw [iN];refine ⟨q,rfl,by show q < _; rw [hq]; exact Nat.lt_of_le_of_lt (Nat.div_le_self _ _) hp.2.2,?_⟩
    rw [ey];conv=>whnf
    exact fin _ eq.symm
   ·have h3:q=1:=by
     have:=of_decide_eq_false h3;omega
    have e4:fo q=⟨#[]⟩:=by unfold fo; rw [if_pos h3]
    rw [e4] at eq;conv=>whnf
    exact fin _ eq.symm
 ·have eI:=of_decide_eq_false h1;have eI:¬ n < 0:=eI;have e0:n=(N:Int):=by omega
  by_cases J:n=0
  ·subst J;conv=>whnf
   exact fin _ (yj d).symm
  ·have eq:=Gd J hp.2.1 hg;rw [← hN,← hx,← hB] at eq;conv=>whnf
   rw [show decide ((n,d).fst < 0)=B from hB.symm]
   refine aI (fun h=>absurd (by simpa using h) J) (fun _=>?_)
   conv=>whnf
   rw [show (n,d).fst=(N:Int) from e0]
   refine .inl ⟨fun mm tz hz=>∃ (a:Nat) (b:Nat),bA (some (.int .i64 N)::some (.int .i64 d)::aB 2 (some (.pointer (some ⟨0,0,none⟩))::some (.pointer (some ⟨1,0,none⟩))::some (.int .i64 a)::some (.int .i64 b)::aB 33 [])) tz∧hz=[some (.aL true 3 [[.bool false,.string ⟨#[]⟩,.string ⟨#[]⟩]]),some (.aL true 3 [[.bool B,.string ⟨#[]⟩,.string ⟨#[]⟩]])]∧b=mm∧((a < 72057594037927936∧b < 72057594037927936)∧Nat.gcd a b=g),.inr ⟨[0,1],[0,1,4,5,6,7],?_⟩,?_⟩
   ·conv=>whnf
    intro _;conv=>whnf
    refine ⟨_,N,d,(.aa (.aa (.sk 2 (.aa (.aa (.aa (.aa (.sk 33 .nil rfl))))) rfl))),rfl,rfl,?_⟩;exact ⟨⟨by omega,by omega⟩,by rw [hg,hN]; rfl⟩
   rintro mm aS _ ⟨a,b,au,rfl,rfl,⟨ef,he⟩⟩
   obtain ⟨az,rfl⟩:∃ az:Nat→Value,aS=.int .i64 N::.int .i64 d::zs az 2 2 (.pointer (some ⟨0,0,none⟩)::.pointer (some ⟨1,0,none⟩)::.int .i64 a::.int .i64 b::zs az 8 33 []):=bJ au;clear au;conv=>whnf
   refine aI (fun h1=>?_) (fun h1=>?_)
   ·have h1:0 < b:=by
     have:=of_decide_eq_true h1;omega
    have ak:=Nat.mod_lt a h1;conv=>whnf
    refine .inl ⟨5,[[],[],[],[1,2],[0,1],[0,1,2,3,4]],by kernel_rfl,?_⟩
    conv=>whnf
    rw [show decide (((b:Nat):Int)≠0)=true from decide_eq_true (by omega)]
    conv=>whnf
    rw [show Int.tmod ((a:Nat):Int) ((b:Nat):Int)=((a % b:Nat):Int) from rfl]
    refine .inr ⟨[0,1],[0,1,4,5,6,7],?_⟩;conv=>whnf
    intro _;conv=>whnf
    refine ⟨_,?_,b,a % b,(.aa (.aa (.sk 2 (.aa (.aa (.aa (.aa (.sk 33 .nil rfl))))) rfl))),rfl,rfl,?_⟩
    ·exact ak
    ·exact ⟨⟨ef.2,by omega⟩,by rw [Nat.gcd_comm,← Nat.gcd_rec,Nat.gcd_comm]; exact he⟩
   ·have h1:b=0:=by
     have:=of_decide_eq_false h1;omega
    subst h1;obtain rfl:a=g:=by rw [← he,Nat.gcd_zero_right]
    conv=>whnf
    rw [show decide (((a:Nat):Int)≠0)=true from decide_eq_true (by omega)]
    conv=>whnf
    rw [ed];refine ⟨N / a,rfl,by show N / a < _; exact Nat.lt_of_le_of_lt (Nat.div_le_self _ _) (by omega),?_⟩
    rw [ex];conv=>whnf
    rw [show decide (((a:Nat):Int)≠0)=true from decide_eq_true (by omega)]
    obtain ⟨q,hq⟩:∃ q,q=d / a:=⟨_,rfl⟩;rw [← hq] at iN ey eq gd bQ hy;conv=>whnf
    rw [iN];refine aI (fun h3=>?_) (fun h3=>?_)
    ·have h3:q≠1:=by
      have:=of_decide_eq_true h3;omega
     have e4:fo q=y:=by
      rw [hy]; unfold fo; rw [if_neg h3]
     rw [e4] at eq;conv=>whnf
     rw [show decide (((a:Nat):Int)≠0)=true from decide_eq_true (by omega)]
     conv=>whnf
     rw [iN];refine ⟨q,rfl,by show q < _; rw [hq]; exact Nat.lt_of_le_of_lt (Nat.div_le_self _ _) hp.2.2,?_⟩
     rw [ey];conv=>whnf
     exact fin _ eq.symm
    ·have h3:q=1:=by
      have:=of_decide_eq_false h3;omega
     have e4:fo q=⟨#[]⟩:=by unfold fo; rw [if_pos h3]
     rw [e4] at eq;conv=>whnf
     exact fin _ eq.symm
open Go Go.Ae
def Emd:Env:=En [(83,.p eT),(87,.p lX)]
theorem abX:EnvOk Tryz.prog Emd:=bI ⟨sE,GU,trivial⟩ trivial
theorem OF:bf Tryz.prog 132 gW:=by
 refine bk abX aM Tryz.func132 (enters_of Tryz.func132 (by kernel_rfl) rfl) (fun _=>rfl) (fun _=>rfl) ?_
 intro ⟨⟨b,s⟩,n⟩ hp;have hp:s.size≤549755813888∧-9223372036854775808≤n∧n < 9223372036854775808:=hp;obtain ⟨V,m,hV⟩:=EI.mk' n;have hm:m.size≤549755813888:=by
  rw [hV.size];have:=ub hp.2;omega
 obtain ⟨q,hq⟩:∃ q,q=dL (IV.z (b,s)) n:=⟨_,rfl⟩;conv=>whnf
 refine .inl ⟨3,[[],[],[1],[0,1,2],[0,1,2,3],[0,1,2,3,4]],by kernel_rfl,?_⟩
 conv=>whnf
 refine ⟨n,rfl,⟨by omega,by omega⟩,?_⟩
 rw [show eT.val n=.agg ⟨[.bool V,.string m]⟩ from hV.enc]
 conv=>whnf
 refine ⟨((b,s),(V,m)),rfl,⟨hp.1,hm⟩,?_⟩;rw [show lX.val ((b,s),(V,m))=.int .i64 q from by show Value.int .i64 (dL (IV.z (b,s)) (IV.z (V,m)))=_; rw [hV.val,hq]]
 conv=>whnf
 show Value.bool (q == 0)=Value.bool (decide (IV.z (b,s)=n))
 congr 1
 rw [hq];unfold dL
 split
 ·rw [decide_eq_false (by omega)]; rfl
 ·split
  ·rw [decide_eq_false (by omega)]; rfl
  ·rw [decide_eq_true (by omega)]; rfl
theorem Tb:bf Tryz.prog 137 Ms:=by
 refine bk l6 aM Tryz.func137 (enters_of Tryz.func137 (by kernel_rfl) rfl) (fun _=>rfl) (fun _=>rfl) ?_
 intro ⟨b,s⟩ _;conv=>whnf
 rfl
def Eme:Env:=En [(83,.p eT),(132,.p gW),(137,.p Ms)]
theorem abY:EnvOk Tryz.prog Eme:=bI ⟨sE,OF,Tb,trivial⟩ trivial
theorem GV:bf Tryz.prog 88 lY:=by
 refine bk abY aM Tryz.func88 (enters_of Tryz.func88 (by kernel_rfl) rfl) (fun _=>rfl) (fun _=>rfl) ?_
 intro ⟨b,s,t⟩ hp;have hp:t.size≤549755813888:=hp;conv=>whnf
 refine .inl ⟨10,[[],[0],[],[2],[0,1,2,3],[],[5],[0,1,2,3,4,5,6],[0,1,2,3,4,5,6,7],[],[0,1,2,3,4,5,6,7,8,9]],by kernel_rfl,?_⟩
 conv=>whnf
 refine ⟨(b,s),rfl,trivial,?_⟩;conv=>whnf
 refine ⟨(false,t),rfl,trivial,?_⟩;conv=>whnf
 refine ⟨((false,t),0),rfl,⟨hp,r0⟩,?_⟩;by_cases h:ab t=0
 ·rw [show gW.val ((false,t),0)=.bool true from by
   show Value.bool (decide (((ab t:Nat):Int)=0))=_
   rw [h]; rfl]
  obtain ⟨v,hv⟩:∃ v,v=nb 1:=⟨_,rfl⟩;conv=>whnf
  refine ⟨(1:Int),rfl,r1,?_⟩;rw [show eT.val (1:Int)=.agg ⟨[.bool false,.string v]⟩ from by rw [hv]; rfl]
  conv=>whnf
  show Value.agg ⟨[.bool b,.string s,.bool false,.string v]⟩=xu (b,s) (false,RV.den (b,s,t))
  unfold RV.den;rw [if_pos h,← hv]
  rfl
 ·rw [show gW.val ((false,t),0)=.bool false from by
   show Value.bool (decide (((ab t:Nat):Int)=0))=_
   rw [decide_eq_false (by omega)]]
  conv=>whnf
  show Value.agg ⟨[.bool b,.string s,.bool false,.string t]⟩=xu (b,s) (false,RV.den (b,s,t))
  unfold RV.den;rw [if_neg h]
  rfl
def Emf:Env:=En [(132,.p gW),(133,.p uX),(134,.p iH)]
theorem abZ:EnvOk Tryz.prog Emf:=bI ⟨OF,aaQ,aaR,trivial⟩ trivial
theorem L5:bf Tryz.prog 86 oT:=by
 refine bk abZ aM Tryz.func86 (enters_of Tryz.func86 (by kernel_rfl) rfl) (fun _=>rfl) (fun _=>rfl) ?_
 intro ⟨⟨b,s⟩,⟨c,t⟩⟩ hp;have hp:s.size≤549755813888∧t.size≤549755813888∧0 < IV.z (c,t):=hp;obtain ⟨x,hx⟩:∃ x,x=IV.z (b,s):=⟨_,rfl⟩;obtain ⟨d,hd⟩:∃ d,d=(IV.z (c,t)).natAbs:=⟨_,rfl⟩;have bQ:IV.z (c,t)=((d:Nat):Int):=by omega
 have fx:d≠0:=by omega
 obtain ⟨q,hq⟩:∃ q,q=mkRat x d:=⟨_,rfl⟩;have fin:∀ v:Value,v=bK q→v=oT.val ((b,s),(c,t)):=fun v h=>by rw [h,hq,hx,hd]; rfl
 conv=>whnf
 refine ⟨((b,s),0),rfl,⟨hp.1,r0⟩,?_⟩;rw [show gW.val ((b,s),0)=.bool (decide (x=0)) from by rw [hx]; rfl]
 by_cases h1:x=0
 ·rw [decide_eq_true h1];conv=>whnf
  exact fin _ (by rw [hq,h1]; exact (yj d).symm)
 ·rw [decide_eq_false h1];obtain ⟨g,hg⟩:∃ g,g=Int.gcd x d:=⟨_,rfl⟩;obtain ⟨gs,rF⟩:=EI.iR (show 0≤((g:Nat):Int) by omega)
  obtain ⟨qb,qs,hn⟩:=EI.mk' q.num;obtain ⟨es,he⟩:=EI.iR (show 0≤((q.den:Nat):Int) by omega)
  have nN:((g:Nat):Int)≠0:=by
   have:0 < g:=by rw [hg]; exact Int.gcd_pos_of_ne_zero_left _ h1
   omega
  have Ia:g≤d:=by
   have h3:=(AJ fx hg).2.1;rcases Nat.lt_or_ge d g with h | h
   ·rw [Nat.div_eq_of_lt h] at h3; omega
   ·exact h
  have eH:aQ d≤549755813888:=by rw [hd]; exact IV.aQ (i:=(c,t)) hp.2.1
  have Ar:gs.size≤549755813888:=by
   rw [rF.size,Int.natAbs_natCast];exact Nat.le_trans (iO Ia) eH
  have ae:es.size≤549755813888:=by
   rw [he.size,Int.natAbs_natCast];exact Nat.le_trans (iO (by rw [hq]; exact NP x fx)) eH
  have Jg:x.fdiv ((g:Nat):Int)=q.num:=by rw [hg,hq]; exact GJ x fx
  have rC:((d:Nat):Int).fdiv ((g:Nat):Int)=((q.den:Nat):Int):=by rw [hg,hq]; exact GK x fx
  conv=>whnf
  refine ⟨((b,s),(c,t)),rfl,⟨hp.1,hp.2.1⟩,?_⟩;rw [show uX.val ((b,s),(c,t))=.agg ⟨[.bool false,.string gs]⟩ from by
   show aD ((Int.gcd (IV.z (b,s)) (IV.z (c,t)):Nat):Int)=_
   rw [← hx,bQ,← hg,rF.enc]]
  conv=>whnf
  obtain ⟨fb,fs,hf⟩:=EI.mk' (x.fmod ((g:Nat):Int));refine ⟨((b,s),(false,gs)),rfl,⟨hp.1,Ar⟩,?_⟩;rw [show iH.val ((b,s),(false,gs))=.tuple ⟨[.agg ⟨[.bool qb,.string qs]⟩,.agg ⟨[.bool fb,.string fs]⟩,.int .i64 0]⟩ from by
   simp only [iH,rF.val,if_neg nN];rw [← hx,Jg,hn.enc,hf.enc]]
  conv=>whnf
  obtain ⟨kb,ks,hk⟩:=EI.mk' (((d:Nat):Int).fmod ((g:Nat):Int));refine ⟨((c,t),(false,gs)),rfl,⟨hp.2.1,Ar⟩,?_⟩;rw [show iH.val ((c,t),(false,gs))=.tuple ⟨[.agg ⟨[.bool false,.string es]⟩,.agg ⟨[.bool kb,.string ks]⟩,.int .i64 0]⟩ from by
   simp only [iH,rF.val,if_neg nN,bQ];rw [rC,he.enc,hk.enc]]
  conv=>whnf
  refine ⟨((false,es),1),rfl,⟨ae,r1⟩,?_⟩;rw [show gW.val ((false,es),1)=.bool (decide (((q.den:Nat):Int)=1)) from by
   show Value.bool (decide (IV.z (false,es)=1))=_
   rw [he.val]]
  have enc:∀ y,fo q.den=y→Value.agg ⟨[.bool qb,.string qs,.string y]⟩=bK q:=fun y hy=>by
   unfold bK;rw [← hn.nL,← hn.sign,hy]
  by_cases J:q.den=1
  ·rw [decide_eq_true (by omega)]
   conv=>whnf
   exact fin _ (enc _ (by unfold fo; rw [if_pos J]))
  ·rw [decide_eq_false (by omega)]
   conv=>whnf
   exact fin _ (enc _ (by unfold fo; rw [if_neg J,he.nL,Int.natAbs_natCast]))
open Go Go.Ae
def Emg:Env:=En [(95,.p nV)]
theorem OG:EnvOk Tryz.prog Emg:=bI ⟨VQ,trivial⟩ trivial
theorem Yv:bf Tryz.prog 94 Cy:=by
 refine bk OG aM Tryz.func94 (enters_of Tryz.func94 (by kernel_rfl) rfl) (fun _=>rfl) (fun _=>rfl) ?_
 intro ⟨⟨n,d⟩,⟨m,e⟩⟩ hp;obtain ⟨h1,J,h3,h4⟩:=I4.bounds hp;simp only at h1 J h3 h4;obtain ⟨x,hx⟩:∃ x,x=n*(e:Int):=⟨_,rfl⟩;obtain ⟨y,hy⟩:∃ y,y=m*(d:Int):=⟨_,rfl⟩;obtain ⟨k,hk⟩:∃ k,k=d*e:=⟨_,rfl⟩;rw [← hx] at h1;rw [← hy] at J;rw [← hk] at h4;have e1:IntKind.i64.wrap (IntKind.i64.wrap (n*(e:Int))+IntKind.i64.wrap (m*(d:Int)))=x+y:=by
  rw [← hx,← hy,ar (x:=x) (by omega) (by omega),ar (x:=y) (by omega) (by omega),ar (by omega) (by omega)]
 have e2:IntKind.i64.wrap ((d:Int)*(e:Int))=(k:Int):=by
  rw [← Int.natCast_mul,← hk,ar (by omega) (by omega)]
 conv=>whnf
 rw [show IntKind.i64.wrap (IntKind.i64.wrap (((n,d),m,e).fst.fst*(((n,d),m,e).snd.snd:Int))+IntKind.i64.wrap (((n,d),m,e).snd.fst*(((n,d),m,e).fst.snd:Int)))=x+y from e1]
 rw [show IntKind.i64.wrap ((((n,d),m,e).fst.snd:Int)*(((n,d),m,e).snd.snd:Int))=(k:Int) from e2]
 refine ⟨(x+y,k),rfl,⟨by show (x+y).natAbs < _; omega,by show k≠0; omega,by show k < _; omega⟩,?_⟩
 obtain ⟨v,hv⟩:∃ v,v=mkRat (x+y) k:=⟨_,rfl⟩;rw [show nV.val (x+y,k)=(RV.of v).v from by rw [hv]; rfl]
 conv=>whnf
 show (RV.of v).v=bK (mkRat (n*e+m*d) (d*e))
 rw [hv,hx,hy,hk]
 rfl
theorem Yw:bf Tryz.prog 98 Cz:=by
 refine bk OG aM Tryz.func98 (enters_of Tryz.func98 (by kernel_rfl) rfl) (fun _=>rfl) (fun _=>rfl) ?_
 intro ⟨⟨n,d⟩,⟨m,e⟩⟩ hp;obtain ⟨h1,J,h3,h4⟩:=I4.bounds hp;simp only at h1 J h3 h4;obtain ⟨x,hx⟩:∃ x,x=n*m:=⟨_,rfl⟩;obtain ⟨k,hk⟩:∃ k,k=d*e:=⟨_,rfl⟩;rw [← hx] at h3;rw [← hk] at h4;have e1:IntKind.i64.wrap (n*m)=x:=by
  rw [← hx,ar (x:=x) (by omega) (by omega)]
 have e2:IntKind.i64.wrap ((d:Int)*(e:Int))=(k:Int):=by
  rw [← Int.natCast_mul,← hk,ar (by omega) (by omega)]
 conv=>whnf
 rw [show IntKind.i64.wrap (((n,d),m,e).fst.fst*((n,d),m,e).snd.fst)=x from e1]
 rw [show IntKind.i64.wrap ((((n,d),m,e).fst.snd:Int)*(((n,d),m,e).snd.snd:Int))=(k:Int) from e2]
 refine ⟨(x,k),rfl,⟨by show x.natAbs < _; omega,by show k≠0; omega,by show k < _; omega⟩,?_⟩
 obtain ⟨v,hv⟩:∃ v,v=mkRat x k:=⟨_,rfl⟩;rw [show nV.val (x,k)=(RV.of v).v from by rw [hv]; rfl]
 conv=>whnf
 show (RV.of v).v=bK (mkRat (n*m) (d*e))
 rw [hv,hx,hk]
 rfl
theorem Yx:bf Tryz.prog 90 zc:=by
 refine bk l6 aM Tryz.func90 (enters_of Tryz.func90 (by kernel_rfl) rfl) (fun _=>rfl) (fun _=>rfl) ?_
 intro ⟨⟨n,d⟩,⟨m,e⟩⟩ hp;obtain ⟨h1,J,h3,h4⟩:=I4.bounds hp;simp only at h1 J h3 h4;obtain ⟨x,hx⟩:∃ x,x=n*(e:Int):=⟨_,rfl⟩;obtain ⟨y,hy⟩:∃ y,y=m*(d:Int):=⟨_,rfl⟩;rw [← hx] at h1;rw [← hy] at J;have e1:IntKind.i64.wrap (n*(e:Int))=x:=by rw [← hx,ar (x:=x) (by omega) (by omega)]
 have e2:IntKind.i64.wrap (m*(d:Int))=y:=by rw [← hy,ar (x:=y) (by omega) (by omega)]
 have fin:∀ z:Int,z=dL x y→Value.int .i64 z=zc.val ((n,d),(m,e)):=fun z h=>by rw [h,hx,hy]; rfl
 conv=>whnf
 rw [show IntKind.i64.wrap (((n,d),m,e).fst.fst*(((n,d),m,e).snd.snd:Int))=x from e1,show IntKind.i64.wrap (((n,d),m,e).snd.fst*(((n,d),m,e).fst.snd:Int))=y from e2]
 refine aI (fun h=>?_) (fun h=>?_)
 ·have h:=of_decide_eq_true h;conv=>whnf
  exact fin _ (tY h).symm
 ·have h:=of_decide_eq_false h;conv=>whnf
  refine aI (fun h5=>?_) (fun h5=>?_)
  ·have h5:=of_decide_eq_true h5;conv=>whnf
   exact fin _ (tZ h5).symm
  ·have h5:=of_decide_eq_false h5;conv=>whnf
   refine fin _ ?_;unfold dL;rw [if_neg h,if_neg (show ¬ y < x from h5)]
def Emh:Env:=En [(92,.p fg),(97,.p iW),(87,.p lX),(86,.p oT)]
theorem Ho:EnvOk Tryz.prog Emh:=bI ⟨N5,GS,GU,L5,trivial⟩ trivial
theorem Yy:bf Tryz.prog 96 xw:=by
 refine bk Ho aM Tryz.func96 (enters_of Tryz.func96 (by kernel_rfl) rfl) (fun _=>rfl) (fun _=>rfl) ?_
 intro ⟨⟨⟨b,s⟩,⟨c,t⟩⟩,⟨⟨b',s'⟩,⟨c',t'⟩⟩⟩ hp;have hp:((s.size≤17179869184∧t.size≤17179869184)∧0 < IV.z (c,t))∧(s'.size≤17179869184∧t'.size≤17179869184)∧0 < IV.z (c',t'):=hp;obtain ⟨⟨⟨hs,ht⟩,hd⟩,⟨vp,jD⟩,cS⟩:=hp;obtain ⟨B1,m1,h1⟩:=EI.mk' (IV.z (b,s)*IV.z (c',t'));obtain ⟨B2,m2,J⟩:=EI.mk' (IV.z (b',s')*IV.z (c,t));obtain ⟨B3,m3,h3⟩:=EI.mk' (IV.z (b,s)*IV.z (c',t')+IV.z (b',s')*IV.z (c,t));obtain ⟨B4,m4,h4⟩:=EI.mk' (IV.z (c,t)*IV.z (c',t'));have z1:=h1.gD (dB hs) (dB jD);have z2:=J.gD (dB vp) (dB ht);have z4:=h4.gD (dB ht) (dB jD);have z3:m3.size≤34359738369:=h3.FD (by rw [← h1.size]; omega) (by rw [← J.size]; omega)
 have lU:=Int.mul_pos hd cS;conv=>whnf
 refine .inl ⟨15,[[],[0],[],[2],[0,1,2,3],[],[5],[],[7],[0,1,2,3,4,5,6,7,8],[0,1,2,3,4,5,6,7,8,9],[],[11],[],[13],[0,1,2,3,4,5,6,7,8,9,10,11,12,13,14],[0,1,2,3,4,5,6,7,8,9,10,11,12,13,14,15],[0,1,2,3,4,5,6,7,8,9,10,11,12,13,14,15,16],[0,1,2,3,4,5,6,7,8,9,10,11,12,13,14,15,16,17]],by kernel_rfl,?_⟩
 conv=>whnf
 refine ⟨((b,s),(c',t')),rfl,⟨by show s.size≤_; omega,by show t'.size≤_; omega⟩,?_⟩
 rw [show fg.val ((b,s),(c',t'))=.agg ⟨[.bool B1,.string m1]⟩ from h1.enc]
 conv=>whnf
 refine ⟨((b',s'),(c,t)),rfl,⟨by show s'.size≤_; omega,by show t.size≤_; omega⟩,?_⟩
 rw [show fg.val ((b',s'),(c,t))=.agg ⟨[.bool B2,.string m2]⟩ from J.enc]
 conv=>whnf
 refine ⟨((B1,m1),(B2,m2)),rfl,⟨by show m1.size≤_; omega,by show m2.size≤_; omega⟩,?_⟩
 rw [show iW.val ((B1,m1),(B2,m2))=.agg ⟨[.bool B3,.string m3]⟩ from by
  show aD (IV.z (B1,m1)+IV.z (B2,m2))=_
  rw [h1.val,J.val,h3.enc]]
 conv=>whnf
 refine ⟨((c,t),(c',t')),rfl,⟨by show t.size≤_; omega,by show t'.size≤_; omega⟩,?_⟩
 rw [show fg.val ((c,t),(c',t'))=.agg ⟨[.bool B4,.string m4]⟩ from h4.enc]
 conv=>whnf
 refine ⟨((B3,m3),(B4,m4)),rfl,⟨by show m3.size≤_; omega,by show m4.size≤_; omega,by show 0 < IV.z (B4,m4); rw [h4.val]; exact lU⟩,?_⟩
 obtain ⟨v,hv⟩:∃ v,v=mkRat (IV.z (B3,m3)) (IV.z (B4,m4)).natAbs:=⟨_,rfl⟩;rw [show oT.val ((B3,m3),(B4,m4))=(RV.of v).v from by rw [hv]; rfl]
 rw [h3.val,h4.val] at hv;conv=>whnf
 show (RV.of v).v=bK _
 rw [hv]
 rfl
theorem Yz:bf Tryz.prog 99 xx:=by
 refine bk Ho aM Tryz.func99 (enters_of Tryz.func99 (by kernel_rfl) rfl) (fun _=>rfl) (fun _=>rfl) ?_
 intro ⟨⟨⟨b,s⟩,⟨c,t⟩⟩,⟨⟨b',s'⟩,⟨c',t'⟩⟩⟩ hp;have hp:((s.size≤17179869184∧t.size≤17179869184)∧0 < IV.z (c,t))∧(s'.size≤17179869184∧t'.size≤17179869184)∧0 < IV.z (c',t'):=hp;obtain ⟨⟨⟨hs,ht⟩,hd⟩,⟨vp,jD⟩,cS⟩:=hp;obtain ⟨B3,m3,h3⟩:=EI.mk' (IV.z (b,s)*IV.z (b',s'));obtain ⟨B4,m4,h4⟩:=EI.mk' (IV.z (c,t)*IV.z (c',t'));have z3:=h3.gD (dB hs) (dB vp);have z4:=h4.gD (dB ht) (dB jD);have lU:=Int.mul_pos hd cS;conv=>whnf
 refine .inl ⟨9,[[],[0],[],[2],[0,1,2,3],[],[5],[],[7],[0,1,2,3,4,5,6,7,8],[0,1,2,3,4,5,6,7,8,9],[0,1,2,3,4,5,6,7,8,9,10],[0,1,2,3,4,5,6,7,8,9,10,11]],by kernel_rfl,?_⟩
 conv=>whnf
 refine ⟨((b,s),(b',s')),rfl,⟨by show s.size≤_; omega,by show s'.size≤_; omega⟩,?_⟩
 rw [show fg.val ((b,s),(b',s'))=.agg ⟨[.bool B3,.string m3]⟩ from h3.enc]
 conv=>whnf
 refine ⟨((c,t),(c',t')),rfl,⟨by show t.size≤_; omega,by show t'.size≤_; omega⟩,?_⟩
 rw [show fg.val ((c,t),(c',t'))=.agg ⟨[.bool B4,.string m4]⟩ from h4.enc]
 conv=>whnf
 refine ⟨((B3,m3),(B4,m4)),rfl,⟨by show m3.size≤_; omega,by show m4.size≤_; omega,by show 0 < IV.z (B4,m4); rw [h4.val]; exact lU⟩,?_⟩
 obtain ⟨v,hv⟩:∃ v,v=mkRat (IV.z (B3,m3)) (IV.z (B4,m4)).natAbs:=⟨_,rfl⟩;rw [show oT.val ((B3,m3),(B4,m4))=(RV.of v).v from by rw [hv]; rfl]
 rw [h3.val,h4.val] at hv;conv=>whnf
 show (RV.of v).v=bK _
 rw [hv]
 rfl
theorem YA:bf Tryz.prog 91 xy:=by
 refine bk Ho aM Tryz.func91 (enters_of Tryz.func91 (by kernel_rfl) rfl) (fun _=>rfl) (fun _=>rfl) ?_
 intro ⟨⟨⟨b,s⟩,⟨c,t⟩⟩,⟨⟨b',s'⟩,⟨c',t'⟩⟩⟩ hp;have hp:((s.size≤17179869184∧t.size≤17179869184)∧0 < IV.z (c,t))∧(s'.size≤17179869184∧t'.size≤17179869184)∧0 < IV.z (c',t'):=hp;obtain ⟨⟨⟨hs,ht⟩,hd⟩,⟨vp,jD⟩,cS⟩:=hp;obtain ⟨B1,m1,h1⟩:=EI.mk' (IV.z (b,s)*IV.z (c',t'));obtain ⟨B2,m2,J⟩:=EI.mk' (IV.z (b',s')*IV.z (c,t));have z1:=h1.gD (dB hs) (dB jD);have z2:=J.gD (dB vp) (dB ht);obtain ⟨q,hq⟩:∃ q,q=dL (IV.z (b,s)*IV.z (c',t')) (IV.z (b',s')*IV.z (c,t)):=⟨_,rfl⟩;conv=>whnf
 refine .inl ⟨9,[[],[0],[],[2],[0,1,2,3],[],[5],[],[7],[0,1,2,3,4,5,6,7,8],[0,1,2,3,4,5,6,7,8,9],[0,1,2,3,4,5,6,7,8,9,10]],by kernel_rfl,?_⟩
 conv=>whnf
 refine ⟨((b,s),(c',t')),rfl,⟨by show s.size≤_; omega,by show t'.size≤_; omega⟩,?_⟩
 rw [show fg.val ((b,s),(c',t'))=.agg ⟨[.bool B1,.string m1]⟩ from h1.enc]
 conv=>whnf
 refine ⟨((b',s'),(c,t)),rfl,⟨by show s'.size≤_; omega,by show t.size≤_; omega⟩,?_⟩
 rw [show fg.val ((b',s'),(c,t))=.agg ⟨[.bool B2,.string m2]⟩ from J.enc]
 conv=>whnf
 refine ⟨((B1,m1),(B2,m2)),rfl,⟨by show m1.size≤_; omega,by show m2.size≤_; omega⟩,?_⟩
 rw [show lX.val ((B1,m1),(B2,m2))=.int .i64 q from by
  show Value.int .i64 (dL (IV.z (B1,m1)) (IV.z (B2,m2)))=_
  rw [h1.val,J.val,hq]]
 conv=>whnf
 show Value.int .i64 q=_
 rw [hq]
 rfl
open Go Go.Ae
def As:Env:=En [(138,.p bE),(88,.p lY),(94,.p Cy),(96,.p xw),(98,.p Cz),(99,.p xx),(90,.p zc),(91,.p xy)]
theorem OH:EnvOk Tryz.prog As:=bI ⟨Yt,GV,Yv,Yy,Yw,Yz,Yx,YA,trivial⟩ trivial
theorem VS:gi Tryz.prog 93 (ck As cL Tryz.f93):=by
 exact js OH aM Tryz.func93 (enters_of Tryz.func93 (by kernel_rfl) rfl)
theorem VT:gi Tryz.prog 89 (ck As cL Tryz.f89):=by
 exact js OH aM Tryz.func89 (enters_of Tryz.func89 (by kernel_rfl) rfl)
def Emk:Env:=En [] [(93,ck As cL Tryz.f93),(89,ck As cL Tryz.f89)]
theorem Hp:EnvOk Tryz.prog Emk:=bI trivial ⟨VS,VT,trivial⟩
theorem yC:bf Tryz.prog 36 jW:=by
 refine bk Hp aM Tryz.func36 (enters_of Tryz.func36 (by kernel_rfl) rfl) (fun _=>rfl) (fun _=>rfl) ?_
 intro ⟨⟨b,s,t⟩,⟨c,u,v⟩⟩ hp;have hp:RV.ok (b,s,t)∧RV.ok (c,u,v):=hp;obtain ⟨w,hw⟩:∃ w,w=RV.q (b,s,t)+RV.q (c,u,v):=⟨_,rfl⟩;have fin:∀ x:Value,x=(RV.of w).v→x=jW.val ((b,s,t),(c,u,v)):=fun x h=>by rw [h,hw]; rfl
 obtain ⟨x,hx⟩:∃ x,x=RV.den (b,s,t):=⟨_,rfl⟩;obtain ⟨y,hy⟩:∃ y,y=RV.den (c,u,v):=⟨_,rfl⟩;have ex:lY.val (b,s,t)=.agg ⟨[.bool b,.string s,.bool false,.string x]⟩:=by rw [hx]; rfl
 have ey:lY.val (c,u,v)=.agg ⟨[.bool c,.string u,.bool false,.string y]⟩:=by rw [hy]; rfl
 have f1:=RV.mA hp.1;have f2:=RV.mA hp.2;have e2:xw.val (((b,s),(false,x)),((c,u),(false,y)))=(RV.of w).v:=by rw [hx,hy,hw]; exact Za (b,s,t) (c,u,v)
 rw [← hx] at f1;rw [← hy] at f2;have e1:=Y7 (b,s,t) (c,u,v);have hn:=RV.jZ (i:=(b,s,t));have hm:=RV.jZ (i:=(c,u,v));rw [← hw] at e1;obtain ⟨n,bN⟩:∃ n,n=RV.n (b,s,t):=⟨_,rfl⟩;obtain ⟨m,eU⟩:∃ n,n=RV.n (c,u,v):=⟨_,rfl⟩;obtain ⟨d,bQ⟩:∃ n,n=RV.d (b,s,t):=⟨_,rfl⟩;obtain ⟨e,cE⟩:∃ n,n=RV.d (c,u,v):=⟨_,rfl⟩;rw [← bN,← bQ] at hn e1;rw [← eU,← cE] at hm e1;conv=>whnf
 refine ⟨(b,s,t),rfl,trivial,?_⟩;by_cases h1:RV.fN (b,s,t)
 ·rw [show bE.val (b,s,t)=.tuple ⟨[.int .i64 n,.int .i64 d,.bool true]⟩ from by simp only [bE,if_pos h1,decide_eq_true h1,bN,bQ]]
  conv=>whnf
  refine ⟨(c,u,v),rfl,trivial,?_⟩;by_cases J:RV.fN (c,u,v)
  ·rw [show bE.val (c,u,v)=.tuple ⟨[.int .i64 m,.int .i64 e,.bool true]⟩ from by simp only [bE,if_pos J,decide_eq_true J,eU,cE]]
   conv=>whnf
   refine ⟨((n,d),(m,e)),rfl,⟨hn h1,hm J⟩,?_⟩;rw [show Cy.val ((n,d),(m,e))=(RV.of w).v from e1]
   conv=>whnf
   exact fin _ rfl
  ·rw [show bE.val (c,u,v)=.tuple ⟨[.int .i64 0,.int .i64 0,.bool false]⟩ from by simp only [bE,if_neg J,decide_eq_false J]]
   conv=>whnf
   refine .inl ⟨5,[[],[],[1],[],[1,2,3],[0,1,2,3,4],[0,1,2,3,4,5]],by kernel_rfl,?_⟩
   conv=>whnf
   refine ⟨(b,s,t),rfl,by have:=hp.1.2; show t.size≤_; exact Nat.le_trans this (by decide),?_⟩
   rw [ex];conv=>whnf
   refine ⟨(c,u,v),rfl,by have:=hp.2.2; show v.size≤_; exact Nat.le_trans this (by decide),?_⟩
   rw [ey];conv=>whnf
   refine ⟨(((b,s),(false,x)),((c,u),(false,y))),rfl,⟨f1,f2⟩,?_⟩;rw [show xw.val (((b,s),(false,x)),((c,u),(false,y)))=(RV.of w).v from e2]
   conv=>whnf
   exact fin _ rfl
 ·rw [show bE.val (b,s,t)=.tuple ⟨[.int .i64 0,.int .i64 0,.bool false]⟩ from by simp only [bE,if_neg h1,decide_eq_false h1]]
  conv=>whnf
  obtain ⟨k1,k2,k3,hk⟩:∃ (k1 k2:Int) (k3:Bool),bE.val (c,u,v)=.tuple ⟨[.int .i64 k1,.int .i64 k2,.bool k3]⟩:=⟨_,_,_,rfl⟩;refine ⟨(c,u,v),rfl,trivial,?_⟩;rw [hk];conv=>whnf
  refine .inl ⟨5,[[],[],[1],[],[1,2,3],[0,1,2,3,4],[0,1,2,3,4,5]],by kernel_rfl,?_⟩
  conv=>whnf
  refine ⟨(b,s,t),rfl,by have:=hp.1.2; show t.size≤_; exact Nat.le_trans this (by decide),?_⟩
  rw [ex];conv=>whnf
  refine ⟨(c,u,v),rfl,by have:=hp.2.2; show v.size≤_; exact Nat.le_trans this (by decide),?_⟩
  rw [ey];conv=>whnf
  refine ⟨(((b,s),(false,x)),((c,u),(false,y))),rfl,⟨f1,f2⟩,?_⟩;rw [show xw.val (((b,s),(false,x)),((c,u),(false,y)))=(RV.of w).v from e2]
  conv=>whnf
  exact fin _ rfl
theorem Gs:bf Tryz.prog 37 jX:=by
 refine bk Hp aM Tryz.func37 (enters_of Tryz.func37 (by kernel_rfl) rfl) (fun _=>rfl) (fun _=>rfl) ?_
 intro ⟨⟨b,s,t⟩,⟨c,u,v⟩⟩ hp;have hp:RV.ok (b,s,t)∧RV.ok (c,u,v):=hp;obtain ⟨w,hw⟩:∃ w,w=RV.q (b,s,t)*RV.q (c,u,v):=⟨_,rfl⟩;have fin:∀ x:Value,x=(RV.of w).v→x=jX.val ((b,s,t),(c,u,v)):=fun x h=>by rw [h,hw]; rfl
 obtain ⟨x,hx⟩:∃ x,x=RV.den (b,s,t):=⟨_,rfl⟩;obtain ⟨y,hy⟩:∃ y,y=RV.den (c,u,v):=⟨_,rfl⟩;have ex:lY.val (b,s,t)=.agg ⟨[.bool b,.string s,.bool false,.string x]⟩:=by rw [hx]; rfl
 have ey:lY.val (c,u,v)=.agg ⟨[.bool c,.string u,.bool false,.string y]⟩:=by rw [hy]; rfl
 have f1:=RV.mA hp.1;have f2:=RV.mA hp.2;have e2:xx.val (((b,s),(false,x)),((c,u),(false,y)))=(RV.of w).v:=by rw [hx,hy,hw]; exact Zb (b,s,t) (c,u,v)
 rw [← hx] at f1;rw [← hy] at f2;have e1:=Y8 (b,s,t) (c,u,v);have hn:=RV.jZ (i:=(b,s,t));have hm:=RV.jZ (i:=(c,u,v));rw [← hw] at e1;obtain ⟨n,bN⟩:∃ n,n=RV.n (b,s,t):=⟨_,rfl⟩;obtain ⟨m,eU⟩:∃ n,n=RV.n (c,u,v):=⟨_,rfl⟩;obtain ⟨d,bQ⟩:∃ n,n=RV.d (b,s,t):=⟨_,rfl⟩;obtain ⟨e,cE⟩:∃ n,n=RV.d (c,u,v):=⟨_,rfl⟩;rw [← bN,← bQ] at hn e1;rw [← eU,← cE] at hm e1;conv=>whnf
 refine ⟨(b,s,t),rfl,trivial,?_⟩;by_cases h1:RV.fN (b,s,t)
 ·rw [show bE.val (b,s,t)=.tuple ⟨[.int .i64 n,.int .i64 d,.bool true]⟩ from by simp only [bE,if_pos h1,decide_eq_true h1,bN,bQ]]
  conv=>whnf
  refine ⟨(c,u,v),rfl,trivial,?_⟩;by_cases J:RV.fN (c,u,v)
  ·rw [show bE.val (c,u,v)=.tuple ⟨[.int .i64 m,.int .i64 e,.bool true]⟩ from by simp only [bE,if_pos J,decide_eq_true J,eU,cE]]
   conv=>whnf
   refine ⟨((n,d),(m,e)),rfl,⟨hn h1,hm J⟩,?_⟩;rw [show Cz.val ((n,d),(m,e))=(RV.of w).v from e1]
   conv=>whnf
   exact fin _ rfl
  ·rw [show bE.val (c,u,v)=.tuple ⟨[.int .i64 0,.int .i64 0,.bool false]⟩ from by simp only [bE,if_neg J,decide_eq_false J]]
   conv=>whnf
   refine .inl ⟨5,[[],[],[1],[],[1,2,3],[0,1,2,3,4],[0,1,2,3,4,5]],by kernel_rfl,?_⟩
   conv=>whnf
   refine ⟨(b,s,t),rfl,by have:=hp.1.2; show t.size≤_; exact Nat.le_trans this (by decide),?_⟩
   rw [ex];conv=>whnf
   refine ⟨(c,u,v),rfl,by have:=hp.2.2; show v.size≤_; exact Nat.le_trans this (by decide),?_⟩
   rw [ey];conv=>whnf
   refine ⟨(((b,s),(false,x)),((c,u),(false,y))),rfl,⟨f1,f2⟩,?_⟩;rw [show xx.val (((b,s),(false,x)),((c,u),(false,y)))=(RV.of w).v from e2]
   conv=>whnf
   exact fin _ rfl
 ·rw [show bE.val (b,s,t)=.tuple ⟨[.int .i64 0,.int .i64 0,.bool false]⟩ from by simp only [bE,if_neg h1,decide_eq_false h1]]
  conv=>whnf
  obtain ⟨k1,k2,k3,hk⟩:∃ (k1 k2:Int) (k3:Bool),bE.val (c,u,v)=.tuple ⟨[.int .i64 k1,.int .i64 k2,.bool k3]⟩:=⟨_,_,_,rfl⟩;refine ⟨(c,u,v),rfl,trivial,?_⟩;rw [hk];conv=>whnf
  refine .inl ⟨5,[[],[],[1],[],[1,2,3],[0,1,2,3,4],[0,1,2,3,4,5]],by kernel_rfl,?_⟩
  conv=>whnf
  refine ⟨(b,s,t),rfl,by have:=hp.1.2; show t.size≤_; exact Nat.le_trans this (by decide),?_⟩
  rw [ex];conv=>whnf
  refine ⟨(c,u,v),rfl,by have:=hp.2.2; show v.size≤_; exact Nat.le_trans this (by decide),?_⟩
  rw [ey];conv=>whnf
  refine ⟨(((b,s),(false,x)),((c,u),(false,y))),rfl,⟨f1,f2⟩,?_⟩;rw [show xx.val (((b,s),(false,x)),((c,u),(false,y)))=(RV.of w).v from e2]
  conv=>whnf
  exact fin _ rfl
theorem Gt:bf Tryz.prog 35 eD:=by
 refine bk Hp aM Tryz.func35 (enters_of Tryz.func35 (by kernel_rfl) rfl) (fun _=>rfl) (fun _=>rfl) ?_
 intro ⟨⟨b,s,t⟩,⟨c,u,v⟩⟩ hp;have hp:RV.ok (b,s,t)∧RV.ok (c,u,v):=hp;obtain ⟨w,hw⟩:∃ w,w=aN (RV.q (b,s,t)) (RV.q (c,u,v)):=⟨_,rfl⟩;have fin:∀ x:Value,x=.int .i64 w→x=eD.val ((b,s,t),(c,u,v)):=fun x h=>by rw [h,hw]; rfl
 obtain ⟨x,hx⟩:∃ x,x=RV.den (b,s,t):=⟨_,rfl⟩;obtain ⟨y,hy⟩:∃ y,y=RV.den (c,u,v):=⟨_,rfl⟩;have ex:lY.val (b,s,t)=.agg ⟨[.bool b,.string s,.bool false,.string x]⟩:=by rw [hx]; rfl
 have ey:lY.val (c,u,v)=.agg ⟨[.bool c,.string u,.bool false,.string y]⟩:=by rw [hy]; rfl
 have f1:=RV.mA hp.1;have f2:=RV.mA hp.2;have e2:xy.val (((b,s),(false,x)),((c,u),(false,y)))=.int .i64 w:=by rw [hx,hy,hw]; exact Zc (b,s,t) (c,u,v)
 rw [← hx] at f1;rw [← hy] at f2;have e1:=Y9 (b,s,t) (c,u,v);have hn:=RV.jZ (i:=(b,s,t));have hm:=RV.jZ (i:=(c,u,v));rw [← hw] at e1;obtain ⟨n,bN⟩:∃ n,n=RV.n (b,s,t):=⟨_,rfl⟩;obtain ⟨m,eU⟩:∃ n,n=RV.n (c,u,v):=⟨_,rfl⟩;obtain ⟨d,bQ⟩:∃ n,n=RV.d (b,s,t):=⟨_,rfl⟩;obtain ⟨e,cE⟩:∃ n,n=RV.d (c,u,v):=⟨_,rfl⟩;rw [← bN,← bQ] at hn e1;rw [← eU,← cE] at hm e1;conv=>whnf
 refine ⟨(b,s,t),rfl,trivial,?_⟩;by_cases h1:RV.fN (b,s,t)
 ·rw [show bE.val (b,s,t)=.tuple ⟨[.int .i64 n,.int .i64 d,.bool true]⟩ from by simp only [bE,if_pos h1,decide_eq_true h1,bN,bQ]]
  conv=>whnf
  refine ⟨(c,u,v),rfl,trivial,?_⟩;by_cases J:RV.fN (c,u,v)
  ·rw [show bE.val (c,u,v)=.tuple ⟨[.int .i64 m,.int .i64 e,.bool true]⟩ from by simp only [bE,if_pos J,decide_eq_true J,eU,cE]]
   conv=>whnf
   refine ⟨((n,d),(m,e)),rfl,⟨hn h1,hm J⟩,?_⟩;rw [show zc.val ((n,d),(m,e))=.int .i64 w from e1]
   conv=>whnf
   exact fin _ rfl
  ·rw [show bE.val (c,u,v)=.tuple ⟨[.int .i64 0,.int .i64 0,.bool false]⟩ from by simp only [bE,if_neg J,decide_eq_false J]]
   conv=>whnf
   refine .inl ⟨5,[[],[],[1],[],[1,2,3],[0,1,2,3,4],[0,1,2,3,4,5]],by kernel_rfl,?_⟩
   conv=>whnf
   refine ⟨(b,s,t),rfl,by have:=hp.1.2; show t.size≤_; exact Nat.le_trans this (by decide),?_⟩
   rw [ex];conv=>whnf
   refine ⟨(c,u,v),rfl,by have:=hp.2.2; show v.size≤_; exact Nat.le_trans this (by decide),?_⟩
   rw [ey];conv=>whnf
   refine ⟨(((b,s),(false,x)),((c,u),(false,y))),rfl,⟨f1,f2⟩,?_⟩;rw [show xy.val (((b,s),(false,x)),((c,u),(false,y)))=.int .i64 w from e2]
   conv=>whnf
   exact fin _ rfl
 ·rw [show bE.val (b,s,t)=.tuple ⟨[.int .i64 0,.int .i64 0,.bool false]⟩ from by simp only [bE,if_neg h1,decide_eq_false h1]]
  conv=>whnf
  obtain ⟨k1,k2,k3,hk⟩:∃ (k1 k2:Int) (k3:Bool),bE.val (c,u,v)=.tuple ⟨[.int .i64 k1,.int .i64 k2,.bool k3]⟩:=⟨_,_,_,rfl⟩;refine ⟨(c,u,v),rfl,trivial,?_⟩;rw [hk];conv=>whnf
  refine .inl ⟨5,[[],[],[1],[],[1,2,3],[0,1,2,3,4],[0,1,2,3,4,5]],by kernel_rfl,?_⟩
  conv=>whnf
  refine ⟨(b,s,t),rfl,by have:=hp.1.2; show t.size≤_; exact Nat.le_trans this (by decide),?_⟩
  rw [ex];conv=>whnf
  refine ⟨(c,u,v),rfl,by have:=hp.2.2; show v.size≤_; exact Nat.le_trans this (by decide),?_⟩
  rw [ey];conv=>whnf
  refine ⟨(((b,s),(false,x)),((c,u),(false,y))),rfl,⟨f1,f2⟩,?_⟩;rw [show xy.val (((b,s),(false,x)),((c,u),(false,y)))=.int .i64 w from e2]
  conv=>whnf
  exact fin _ rfl
open Go Go.Ae
def Eml:Env:=tx [(36,.p jW),(88,.p lY),(86,.p oT),(87,.p lX),(83,.p eT),(130,.p gR)]
theorem zh:EnvOk Tryz.prog Eml:=vg ⟨yC,GV,L5,GU,sE,aaO,trivial⟩ trivial
theorem ue:bf Tryz.prog 38 gh:=by
 refine bk zh aM Tryz.func38 (enters_of Tryz.func38 (by kernel_rfl) rfl) (fun _=>rfl) (fun _=>rfl) ?_
 intro ⟨⟨b,s,t⟩,⟨c,u,v⟩⟩ hp;have hp:RV.ok (b,s,t)∧RV.ok (c,u,v):=hp;obtain ⟨w,hw⟩:∃ w,w=RV.q (b,s,t) - RV.q (c,u,v):=⟨_,rfl⟩;conv=>whnf
 refine ⟨((b,s,t),(!c,u,v)),rfl,hp,?_⟩;rw [show jW.val ((b,s,t),(!c,u,v))=(RV.of w).v from by
  rw [hw];show bK (RV.q (b,s,t)+RV.q (!c,u,v))=bK _
  rw [NQ,← Rat.sub_eq_add_neg]]
 conv=>whnf
 show (RV.of w).v=bK _
 rw [hw]
 rfl
theorem BA:bf Tryz.prog 34 cK:=by
 refine bk zh aM Tryz.func34 (enters_of Tryz.func34 (by kernel_rfl) rfl) (fun _=>rfl) (fun _=>rfl) ?_
 intro ⟨b,s,t⟩ hp;have hp:RV.ok (b,s,t):=hp;obtain ⟨x,hx⟩:∃ x,x=RV.den (b,s,t):=⟨_,rfl⟩;obtain ⟨w,hw⟩:∃ w,w=aN (RV.q (b,s,t)) 0:=⟨_,rfl⟩;conv=>whnf
 refine ⟨(b,s,t),rfl,by have:=hp.2; show t.size≤_; exact Nat.le_trans this (by decide),?_⟩
 rw [show lY.val (b,s,t)=.agg ⟨[.bool b,.string s,.bool false,.string x]⟩ from by rw [hx]; rfl]
 conv=>whnf
 refine ⟨((b,s),(false,⟨#[]⟩)),rfl,⟨by have:=hp.1; show s.size≤_; exact Nat.le_trans this (by decide),Nat.zero_le _⟩,?_⟩
 rw [show lX.val ((b,s),(false,⟨#[]⟩))=.int .i64 w from by rw [hw,Zd]; rfl]
 conv=>whnf
 show Value.int .i64 w=_
 rw [hw]
 rfl
theorem xj:bf Tryz.prog 33 kD:=by
 refine bk zh aM Tryz.func33 (enters_of Tryz.func33 (by kernel_rfl) rfl) (fun _=>rfl) (fun _=>rfl) ?_
 intro (n:Int) hp;have hp:-9223372036854775808≤n∧n < 9223372036854775808:=hp;obtain ⟨w,hw⟩:∃ w:Rat,w=(n:Rat):=⟨_,rfl⟩;obtain ⟨B,m,hE⟩:=EI.mk' n;obtain ⟨k,hF⟩:=EI.iR (show 0≤(1:Int) by decide)
 have hm:=hE.size;have hk:=hF.size;have h8:=ub hp;have h1:=ub r1;conv=>whnf
 refine ⟨n,rfl,hp,?_⟩;rw [show eT.val n=.agg ⟨[.bool B,.string m]⟩ from hE.enc]
 conv=>whnf
 refine ⟨(1:Int),rfl,r1,?_⟩;rw [show eT.val (1:Int)=.agg ⟨[.bool false,.string k]⟩ from hF.enc]
 conv=>whnf
 refine ⟨((B,m),(false,k)),rfl,⟨by show m.size≤_; omega,by show k.size≤_; omega,by show 0 < IV.z (false,k); rw [hF.val]; decide⟩,?_⟩
 rw [show oT.val ((B,m),(false,k))=(RV.of w).v from by
  rw [hw,ij n];show bK (mkRat (IV.z (B,m)) (IV.z (false,k)).natAbs)=_
  rw [hE.val,hF.val]; rfl]
 conv=>whnf
 show (RV.of w).v=bK _
 rw [hw]
 rfl
theorem Uj:bf Tryz.prog 129 m5:=by
 refine bk zh aM Tryz.func129 (enters_of Tryz.func129 (by kernel_rfl) rfl) (fun _=>rfl) (fun _=>rfl) ?_
 intro ⟨b,s,t⟩ hp;have hp:RV.ok (b,s,t):=hp;obtain ⟨⟨c,u,v⟩,hw⟩:∃ w,w=RV.of (RV.q (b,s,t)):=⟨_,rfl⟩;obtain ⟨x,hx⟩:∃ x,x=RV.den (b,s,t):=⟨_,rfl⟩;have f1:=RV.mA hp;have e1:=RV.ada (b,s,t);rw [show RV.den (b,s,t)=x from hx.symm] at f1 e1
 have heq:=cg (b,s,t) (c,u,v);conv=>whnf
 refine .inl ⟨4,[[],[],[1],[1,2],[0,1,2,3]],by kernel_rfl,?_⟩
 conv=>whnf
 refine ⟨(b,s,t),rfl,by have:=hp.2; show t.size≤_; exact Nat.le_trans this (by decide),?_⟩
 rw [show lY.val (b,s,t)=.agg ⟨[.bool b,.string s,.bool false,.string x]⟩ from by rw [hx]; rfl]
 conv=>whnf
 refine ⟨((b,s),(false,x)),rfl,⟨Nat.le_trans f1.1.1 (by decide),Nat.le_trans f1.1.2 (by decide),f1.2⟩,?_⟩
 rw [show oT.val ((b,s),(false,x))=RV.v (c,u,v) from by
  rw [hw,e1]; rfl]
 conv=>whnf
 by_cases h:(b,s,t)=(c,u,v)
 ·rw [decide_eq_true h] at heq;refine aI (fun J=>?_) (fun J=>?_)
  ·exfalso;rw [show bz [Value.bool b,.string s,.string t] [.bool c,.string u,.string v]=true from heq] at J
   cases J
  ·conv=>whnf
   show _=Value.int .i64 (if (b,s,t)=RV.of (RV.q (b,s,t)) then 0 else 1)
   rw [← hw,if_pos h]
 ·rw [decide_eq_false h] at heq;refine aI (fun J=>?_) (fun J=>?_)
  ·conv=>whnf
   show _=Value.int .i64 (if (b,s,t)=RV.of (RV.q (b,s,t)) then 0 else 1)
   rw [← hw,if_neg h]
  ·exfalso;rw [show bz [Value.bool b,.string s,.string t] [.bool c,.string u,.string v]=false from heq] at J
   cases J
theorem Nt:bf Tryz.prog 82 uK:=by
 refine bk zh aM Tryz.func82 (enters_of Tryz.func82 (by kernel_rfl) rfl) (fun _=>rfl) (fun _=>rfl) ?_
 intro ⟨⟨b,s⟩,⟨c,t⟩⟩ hp;have hp:s.size≤549755813888∧t.size≤549755813888:=hp;obtain ⟨x,hx⟩:∃ x,x=IV.z (b,s):=⟨_,rfl⟩;obtain ⟨y,hy⟩:∃ y,y=IV.z (c,t):=⟨_,rfl⟩;obtain ⟨w,hw⟩:∃ w,w=Rat.divInt x y:=⟨_,rfl⟩;have ec:lX.val ((c,t),(false,⟨#[]⟩))=.int .i64 (dL y 0):=by rw [hy]; rfl
 have od:y=0→∀ v,v=bK 0→Value.tuple ⟨[v,.int .i64 10]⟩=uK.val ((b,s),(c,t)):=fun h v hv=>by
  show _=jx (IV.z (b,s)) (IV.z (c,t))
  rw [← hy,hv]; unfold jx; rw [if_pos h,h,Rat.divInt_zero]
 have fin:y≠0→∀ v,v=bK w→Value.tuple ⟨[v,.int .i64 0]⟩=uK.val ((b,s),(c,t)):=fun h v hv=>by
  show _=jx (IV.z (b,s)) (IV.z (c,t))
  rw [← hx,← hy,hv]; unfold jx; rw [if_neg h,hw]
 conv=>whnf
 refine ⟨((c,t),(false,⟨#[]⟩)),rfl,⟨hp.2,Nat.zero_le _⟩,?_⟩;rw [ec];rcases Int.lt_trichotomy y 0 with h | h | h
 ·rw [tY h];obtain ⟨B,m,hE⟩:=EI.mk' (-x);obtain ⟨k,hF⟩:=EI.iR (show 0≤-y by omega)
  have hm:m.size≤549755813888:=by rw [hE.size,Int.natAbs_neg,hx]; exact dB hp.1
  have hk:k.size≤549755813888:=by rw [hF.size,Int.natAbs_neg,hy]; exact dB hp.2
  conv=>whnf
  refine .inl ⟨3,[[],[0],[],[0,1,2],[0,1,2,3],[0,1,2,3,4]],by kernel_rfl,?_⟩
  conv=>whnf
  refine ⟨(b,s),rfl,hp.1,?_⟩;rw [show gR.val (b,s)=.agg ⟨[.bool B,.string m]⟩ from by show aD (-IV.z (b,s))=_; rw [← hx,hE.enc]]
  conv=>whnf
  refine ⟨(c,t),rfl,hp.2,?_⟩;rw [show gR.val (c,t)=.agg ⟨[.bool false,.string k]⟩ from by show aD (-IV.z (c,t))=_; rw [← hy,hF.enc]]
  conv=>whnf
  refine ⟨((B,m),(false,k)),rfl,⟨hm,hk,by show 0 < IV.z (false,k); rw [hF.val]; omega⟩,?_⟩
  rw [show oT.val ((B,m),(false,k))=(RV.of w).v from by
   rw [hw,RN h];show bK (mkRat (IV.z (B,m)) (IV.z (false,k)).natAbs)=_
   rw [hE.val,hF.val]; rfl]
  conv=>whnf
  exact fin (by omega) _ rfl
 ·rw [h];conv=>whnf
  exact od h _ abA.symm
 ·rw [tZ h];conv=>whnf
  refine ⟨((b,s),(c,t)),rfl,⟨hp.1,hp.2,by show 0 < IV.z (c,t); omega⟩,?_⟩
  rw [show oT.val ((b,s),(c,t))=(RV.of w).v from by
   rw [hw,KY h,hx,hy]; rfl]
  conv=>whnf
  exact fin (by omega) _ rfl
def Emm:Env:=En [(82,.p uK),(83,.p eT)]
theorem ab0:EnvOk Tryz.prog Emm:=bI ⟨Nt,sE,trivial⟩ trivial
theorem L6:bf Tryz.prog 30 wS:=by
 refine bk ab0 aM Tryz.func30 (enters_of Tryz.func30 (by kernel_rfl) rfl) (fun _=>rfl) (fun _=>rfl) ?_
 intro ⟨n,d⟩ hp;have hp:(-9223372036854775808≤n∧n < 9223372036854775808)∧-9223372036854775808≤d∧d < 9223372036854775808:=hp;obtain ⟨B,m,hE⟩:=EI.mk' n;obtain ⟨D,k,hF⟩:=EI.mk' d;have hm:=hE.size;have hk:=hF.size;have h8:=ub hp.1;have h1:=ub hp.2;obtain ⟨q,e,Qp⟩:∃ (q:Rat) (e:Int),jx n d=.tuple ⟨[(RV.of q).v,.int .i64 e]⟩:=by
  exact ⟨_,_,rfl⟩
 conv=>whnf
 refine ⟨n,rfl,hp.1,?_⟩;rw [show eT.val n=.agg ⟨[.bool B,.string m]⟩ from hE.enc]
 conv=>whnf
 refine ⟨d,rfl,hp.2,?_⟩;rw [show eT.val d=.agg ⟨[.bool D,.string k]⟩ from hF.enc]
 conv=>whnf
 refine ⟨((B,m),(D,k)),rfl,⟨by show m.size≤_; omega,by show k.size≤_; omega⟩,?_⟩
 rw [show uK.val ((B,m),(D,k))=.tuple ⟨[(RV.of q).v,.int .i64 e]⟩ from by
  show jx (IV.z (B,m)) (IV.z (D,k))=_
  rw [hE.val,hF.val,Qp]]
 conv=>whnf
 show Value.tuple ⟨[(RV.of q).v,.int .i64 e]⟩=jx n d
 rw [Qp]
open Go Go.Ae
def Eqa:Env:=En [(173,.p iW),(155,.p eT),(175,.p uX),(176,.p iH),(174,.p gR)]
theorem OI:EnvOk Tryz.prog Eqa:=bI ⟨Gr,yS,Yr,Ys,Gq,trivial⟩ trivial
theorem MQ:bf Tryz.prog 157 nW:=by
 refine bk OI aM Tryz.func157 (enters_of Tryz.func157 (by kernel_rfl) rfl) (fun _=>rfl) (fun _=>rfl) ?_
 intro ⟨b,s,t⟩ hp;have hp:s.size≤8589934592∧t.size≤8589934592:=hp;obtain ⟨B,m,hE⟩:=EI.mk' (RV.n (b,s,t));obtain ⟨k,hF⟩:=EI.iR (show 0≤((ab t:Nat):Int) by omega)
 obtain ⟨j,hG⟩:=EI.iR (show 0≤(1:Int) by decide)
 have fin:∀ (v:Value),v=aD ((RV.d (b,s,t):Nat):Int)→Value.tuple ⟨[.agg ⟨[.bool B,.string m]⟩,v]⟩=nW.val (b,s,t):=fun v h=>by
  rw [h,← hE.enc]; rfl
 conv=>whnf
 refine ⟨((b,s),(false,⟨#[]⟩)),rfl,⟨by show s.size≤_; omega,Nat.zero_le _⟩,?_⟩
 rw [show iW.val ((b,s),(false,⟨#[]⟩))=.agg ⟨[.bool B,.string m]⟩ from by
  show aD (IV.z (b,s)+0)=_
  rw [Int.add_zero]; exact hE.enc]
 conv=>whnf
 refine ⟨((false,t),(false,⟨#[]⟩)),rfl,⟨by show t.size≤_; omega,Nat.zero_le _⟩,?_⟩
 rw [show iW.val ((false,t),(false,⟨#[]⟩))=.agg ⟨[.bool false,.string k]⟩ from by
  show aD (((ab t:Nat):Int)+0)=_
  rw [Int.add_zero]; exact hF.enc]
 conv=>whnf
 rw [hF.nil];by_cases h:ab t=0
 ·rw [decide_eq_true (by omega)]
  have fin:=fin (.agg ⟨[.bool false,.string j]⟩) (by rw [← hG.enc]; unfold RV.d; rw [if_pos h]; rfl)
  conv=>whnf
  refine ⟨(1:Int),rfl,r1,?_⟩;rw [show eT.val (1:Int)=.agg ⟨[.bool false,.string j]⟩ from hG.enc]
  conv=>whnf
  refine .inr (.inl ⟨(.br 0 (.br 1 (.br 2 (.br 3 .leaf .leaf) .leaf) (.br 2 (.br 1 (.br 3 .leaf .leaf) .leaf) .leaf)) (.br 1 (.br 0 (.br 2 (.br 3 .leaf .leaf) .leaf) .leaf) .leaf)),by kernel_rfl,?_⟩)
  repeat' ((conv=>whnf); first | exact True.intro | refine And.intro ?_ ?_)
  all_goals conv=>whnf
  all_goals exact fin
 ·rw [decide_eq_false (by omega)]
  have fin:=fin (.agg ⟨[.bool false,.string k]⟩) (by rw [← hF.enc]; unfold RV.d; rw [if_neg h])
  conv=>whnf
  refine .inr (.inl ⟨(.br 0 (.br 1 (.br 2 (.br 3 .leaf .leaf) .leaf) (.br 2 (.br 1 (.br 3 .leaf .leaf) .leaf) .leaf)) (.br 1 (.br 0 (.br 2 (.br 3 .leaf .leaf) .leaf) .leaf) .leaf)),by kernel_rfl,?_⟩)
  repeat' ((conv=>whnf); first | exact True.intro | refine And.intro ?_ ?_)
  all_goals conv=>whnf
  all_goals exact fin
theorem Uk:bf Tryz.prog 154 p9:=by
 refine bk OI aM Tryz.func154 (enters_of Tryz.func154 (by kernel_rfl) rfl) (fun _=>rfl) (fun _=>rfl) ?_
 intro ⟨⟨b,s⟩,⟨c,t⟩⟩ hp;have hp:s.size≤549755813888∧t.size≤549755813888∧0 < IV.z (c,t):=hp;obtain ⟨x,hx⟩:∃ x,x=IV.z (b,s):=⟨_,rfl⟩;obtain ⟨d,hd⟩:∃ d,d=(IV.z (c,t)).natAbs:=⟨_,rfl⟩;have bQ:IV.z (c,t)=((d:Nat):Int):=by omega
 have fx:d≠0:=by omega
 obtain ⟨q,hq⟩:∃ q,q=mkRat x d:=⟨_,rfl⟩;have fin:∀ v:Value,v=bK q→v=p9.val ((b,s),(c,t)):=fun v h=>by rw [h,hq,hx,hd]; rfl
 obtain ⟨B,m,hE⟩:=EI.mk' x;obtain ⟨k,hF⟩:=EI.iR (show 0≤((d:Nat):Int) by omega)
 have eH:aQ d≤549755813888:=by rw [hd]; exact IV.aQ (i:=(c,t)) hp.2.1
 have rk:m.size≤549755813888:=by rw [hE.size,hx]; exact dB hp.1
 have jB:k.size≤549755813888:=by rw [hF.size,Int.natAbs_natCast]; exact eH
 conv=>whnf
 refine .inl ⟨5,[[],[],[0,1],[],[],[0,1,2,3,4],[0,1,2,3,4,5],[0,1,2,3,4,5,6]],by kernel_rfl,?_⟩
 conv=>whnf
 refine ⟨((b,s),(false,⟨#[]⟩)),rfl,⟨hp.1,Nat.zero_le _⟩,?_⟩;rw [show iW.val ((b,s),(false,⟨#[]⟩))=.agg ⟨[.bool B,.string m]⟩ from by
  show aD (IV.z (b,s)+0)=_
  rw [Int.add_zero,← hx]; exact hE.enc]
 conv=>whnf
 refine ⟨((c,t),(false,⟨#[]⟩)),rfl,⟨hp.2.1,Nat.zero_le _⟩,?_⟩;rw [show iW.val ((c,t),(false,⟨#[]⟩))=.agg ⟨[.bool false,.string k]⟩ from by
  show aD (IV.z (c,t)+0)=_
  rw [Int.add_zero,bQ]; exact hF.enc]
 conv=>whnf
 rw [hE.nil];by_cases h1:x=0
 ·rw [decide_eq_true h1];conv=>whnf
  exact fin _ (by rw [hq,h1]; exact (yj d).symm)
 ·rw [decide_eq_false h1];obtain ⟨g,hg⟩:∃ g,g=Int.gcd x d:=⟨_,rfl⟩;obtain ⟨gs,rF⟩:=EI.iR (show 0≤((g:Nat):Int) by omega)
  obtain ⟨qb,qs,hn⟩:=EI.mk' q.num;obtain ⟨es,he⟩:=EI.iR (show 0≤((q.den:Nat):Int) by omega)
  have nN:((g:Nat):Int)≠0:=by
   have:0 < g:=by rw [hg]; exact Int.gcd_pos_of_ne_zero_left _ h1
   omega
  have Ia:g≤d:=by
   have h3:=(AJ fx hg).2.1;rcases Nat.lt_or_ge d g with h | h
   ·rw [Nat.div_eq_of_lt h] at h3; omega
   ·exact h
  have Ar:gs.size≤549755813888:=by
   rw [rF.size,Int.natAbs_natCast];exact Nat.le_trans (iO Ia) eH
  have Jg:x.fdiv ((g:Nat):Int)=q.num:=by rw [hg,hq]; exact GJ x fx
  have rC:((d:Nat):Int).fdiv ((g:Nat):Int)=((q.den:Nat):Int):=by rw [hg,hq]; exact GK x fx
  conv=>whnf
  refine ⟨((B,m),(false,k)),rfl,⟨rk,jB⟩,?_⟩;rw [show uX.val ((B,m),(false,k))=.agg ⟨[.bool false,.string gs]⟩ from by
   show aD ((Int.gcd (IV.z (B,m)) (IV.z (false,k)):Nat):Int)=_
   rw [hE.val,hF.val,← hg,rF.enc]]
  conv=>whnf
  obtain ⟨fb,fs,hf⟩:=EI.mk' (x.fmod ((g:Nat):Int));refine ⟨((B,m),(false,gs)),rfl,⟨rk,Ar⟩,?_⟩;rw [show iH.val ((B,m),(false,gs))=.tuple ⟨[.agg ⟨[.bool qb,.string qs]⟩,.agg ⟨[.bool fb,.string fs]⟩,.int .i64 0]⟩ from by
   simp only [iH,rF.val,hE.val,if_neg nN];rw [Jg,hn.enc,hf.enc]]
  conv=>whnf
  obtain ⟨kb,ks,hk⟩:=EI.mk' (((d:Nat):Int).fmod ((g:Nat):Int));refine ⟨((false,k),(false,gs)),rfl,⟨jB,Ar⟩,?_⟩;rw [show iH.val ((false,k),(false,gs))=.tuple ⟨[.agg ⟨[.bool false,.string es]⟩,.agg ⟨[.bool kb,.string ks]⟩,.int .i64 0]⟩ from by
   simp only [iH,rF.val,hF.val,if_neg nN];rw [rC,he.enc,hk.enc]]
  conv=>whnf
  have enc:∀ y,fo q.den=y→Value.agg ⟨[.bool qb,.string qs,.string y]⟩=bK q:=fun y hy=>by
   unfold bK;rw [← hn.nL,← hn.sign,hy]
  have ees:es=nb q.den:=he.nL;have qO:(es.toList == (⟨#[1]⟩:ByteArray).toList)=decide (q.den=1):=by
   rw [qk,ees,show (⟨#[1]⟩:ByteArray)=nb 1 from ade.symm]
   by_cases h:q.den=1
   ·rw [h]; simp
   ·rw [decide_eq_false h,decide_eq_false (fun e=>h (NK e))]
  rw [qO];by_cases J:q.den=1
  ·rw [decide_eq_true J];conv=>whnf
   exact fin _ (enc _ (by unfold fo; rw [if_pos J]))
  ·rw [decide_eq_false J];conv=>whnf
   exact fin _ (enc _ (by unfold fo; rw [if_neg J,he.nL,Int.natAbs_natCast]))
open Go Go.Ae
def Eqb:Env:=tx [(158,.p bE),(172,.p nV),(157,.p nW),(154,.p p9),(155,.p eT),(173,.p iW),(160,.p fg),(159,.p lX)]
theorem zi:EnvOk Tryz.prog Eqb:=vg ⟨VP,VR,MQ,Uk,yS,Gr,Yq,Yo,trivial⟩ trivial
theorem YB:bf Tryz.prog 120 kD:=by
 refine bk zi aM Tryz.func120 (enters_of Tryz.func120 (by kernel_rfl) rfl) (fun _=>rfl) (fun _=>rfl) ?_
 intro (n:Int) hp;have hp:-9223372036854775808≤n∧n < 9223372036854775808:=hp;obtain ⟨w,hw⟩:∃ w:Rat,w=(n:Rat):=⟨_,rfl⟩;obtain ⟨B,m,hE⟩:=EI.mk' n;obtain ⟨k,hF⟩:=EI.iR (show 0≤(1:Int) by decide)
 have hm:=hE.size;have hk:=hF.size;have h8:=ub hp;have h1:=ub r1;conv=>whnf
 refine ⟨n,rfl,hp,?_⟩;rw [show eT.val n=.agg ⟨[.bool B,.string m]⟩ from hE.enc]
 conv=>whnf
 refine ⟨(1:Int),rfl,r1,?_⟩;rw [show eT.val (1:Int)=.agg ⟨[.bool false,.string k]⟩ from hF.enc]
 conv=>whnf
 refine ⟨((B,m),(false,k)),rfl,⟨by show m.size≤_; omega,by show k.size≤_; omega,by show 0 < IV.z (false,k); rw [hF.val]; decide⟩,?_⟩
 rw [show p9.val ((B,m),(false,k))=(RV.of w).v from by
  rw [hw,ij n];show bK (mkRat (IV.z (B,m)) (IV.z (false,k)).natAbs)=_
  rw [hE.val,hF.val]; rfl]
 conv=>whnf
 show (RV.of w).v=bK _
 rw [hw]
 rfl
theorem L7:bf Tryz.prog 153 yP:=by
 refine bk zi aM Tryz.func153 (enters_of Tryz.func153 (by kernel_rfl) rfl) (fun _=>rfl) (fun _=>rfl) ?_
 intro ⟨b,s,t⟩ hp;have hp:s.size≤8589934592∧t.size≤8589934592:=hp;obtain ⟨w,hw⟩:∃ w,w=RV.q (b,s,t):=⟨_,rfl⟩;have fin:∀ x:Value,x=(RV.of w).v→x=yP.val (b,s,t):=fun x h=>by rw [h,hw]; rfl
 have hn:=RV.jZ (i:=(b,s,t));obtain ⟨n,bN⟩:∃ n,n=RV.n (b,s,t):=⟨_,rfl⟩;obtain ⟨d,bQ⟩:∃ n,n=RV.d (b,s,t):=⟨_,rfl⟩;have fx:d≠0:=by rw [bQ]; exact RV.jV _
 have Qq:w=mkRat n d:=by rw [hw,bN,bQ]; rfl
 conv=>whnf
 refine ⟨(b,s,t),rfl,trivial,?_⟩;by_cases h1:RV.fN (b,s,t)
 ·rw [show bE.val (b,s,t)=.tuple ⟨[.int .i64 n,.int .i64 d,.bool true]⟩ from by simp only [bE,if_pos h1,decide_eq_true h1,bN,bQ]]
  have hn:=hn h1;rw [← bN,← bQ] at hn;have hn:(-16777216 < n∧n < 16777216)∧0 < d∧d < 16777216:=hn;conv=>whnf
  refine ⟨(n,d),rfl,⟨by show n.natAbs < _; omega,by show d≠0; omega,by show d < _; omega⟩,?_⟩
  rw [show nV.val (n,d)=(RV.of w).v from by rw [Qq]; rfl]
  conv=>whnf
  exact fin _ rfl
 ·rw [show bE.val (b,s,t)=.tuple ⟨[.int .i64 0,.int .i64 0,.bool false]⟩ from by simp only [bE,if_neg h1,decide_eq_false h1]]
  obtain ⟨B,m,hE⟩:=EI.mk' n;obtain ⟨k,hF⟩:=EI.iR (show 0≤((d:Nat):Int) by omega)
  have rk:m.size≤8589934592:=by rw [hE.size,bN]; exact dB (b:=b) hp.1
  have jB:k.size≤8589934593:=by
   rw [hF.size,bQ,← RV.jY];exact dB (Nat.le_trans (RV.rT _) (Nat.succ_le_succ hp.2))
  conv=>whnf
  refine ⟨(b,s,t),rfl,hp,?_⟩;rw [show nW.val (b,s,t)=.tuple ⟨[.agg ⟨[.bool B,.string m]⟩,.agg ⟨[.bool false,.string k]⟩]⟩ from by
   rw [← hE.enc,← hF.enc,bN,bQ]; rfl]
  conv=>whnf
  refine ⟨((B,m),(false,k)),rfl,⟨by show m.size≤_; omega,by show k.size≤_; omega,by show 0 < IV.z (false,k); rw [hF.val]; omega⟩,?_⟩
  rw [show p9.val ((B,m),(false,k))=(RV.of w).v from by
   show bK (mkRat (IV.z (B,m)) (IV.z (false,k)).natAbs)=_
   rw [hE.val,hF.val,Qq,Int.natAbs_natCast]; rfl]
  conv=>whnf
  exact fin _ rfl
def Eqc:Env:=tx [(153,.p yP)]
theorem ab1:EnvOk Tryz.prog Eqc:=vg ⟨L7,trivial⟩ trivial
theorem Tc:bf Tryz.prog 119 m5:=by
 refine bk ab1 aM Tryz.func119 (enters_of Tryz.func119 (by kernel_rfl) rfl) (fun _=>rfl) (fun _=>rfl) ?_
 intro ⟨b,s,t⟩ hp;have hp:RV.ok (b,s,t):=hp;obtain ⟨⟨c,u,v⟩,hw⟩:∃ w,w=RV.of (RV.q (b,s,t)):=⟨_,rfl⟩;have heq:=cg (c,u,v) (b,s,t);conv=>whnf
 refine .inl ⟨3,[[],[0],[],[0,1,2]],by kernel_rfl,?_⟩
 conv=>whnf
 refine ⟨(b,s,t),rfl,hp,?_⟩;rw [show yP.val (b,s,t)=RV.v (c,u,v) from by rw [hw]; rfl]
 conv=>whnf
 by_cases h:(c,u,v)=(b,s,t)
 ·rw [decide_eq_true h] at heq;refine aI (fun J=>?_) (fun J=>?_)
  ·exfalso;rw [show bz [Value.bool c,.string u,.string v] [.bool b,.string s,.string t]=true from heq] at J
   cases J
  ·conv=>whnf
   show _=Value.int .i64 (if (b,s,t)=RV.of (RV.q (b,s,t)) then 0 else 1)
   rw [← hw,if_pos h.symm]
 ·rw [decide_eq_false h] at heq;refine aI (fun J=>?_) (fun J=>?_)
  ·conv=>whnf
   show _=Value.int .i64 (if (b,s,t)=RV.of (RV.q (b,s,t)) then 0 else 1)
   rw [← hw,if_neg (fun e=>h e.symm)]
  ·exfalso;rw [show bz [Value.bool c,.string u,.string v] [.bool b,.string s,.string t]=false from heq] at J
   cases J
open Go Go.Ae
theorem MR:bf Tryz.prog 169 jW:=by
 refine bk zi aM Tryz.func169 (enters_of Tryz.func169 (by kernel_rfl) rfl) (fun _=>rfl) (fun _=>rfl) ?_
 intro ⟨⟨b,s,t⟩,⟨c,u,v⟩⟩ hp;have hp:(s.size≤8589934592∧t.size≤8589934592)∧u.size≤8589934592∧v.size≤8589934592:=hp;have hn:=RV.jZ (i:=(b,s,t));have hm:=RV.jZ (i:=(c,u,v));obtain ⟨n,bN⟩:∃ n,n=RV.n (b,s,t):=⟨_,rfl⟩;obtain ⟨m,eU⟩:∃ n,n=RV.n (c,u,v):=⟨_,rfl⟩;obtain ⟨d,bQ⟩:∃ n,n=RV.d (b,s,t):=⟨_,rfl⟩;obtain ⟨e,cE⟩:∃ n,n=RV.d (c,u,v):=⟨_,rfl⟩;have fx:d≠0:=by rw [bQ]; exact RV.jV _
 have Qr:e≠0:=by rw [cE]; exact RV.jV _
 rw [← bN,← bQ] at hn;rw [← eU,← cE] at hm;obtain ⟨B,p,hP⟩:=EI.mk' n;obtain ⟨q,hQ⟩:=EI.iR (show 0≤((d:Nat):Int) by omega)
 obtain ⟨D,p',ml⟩:=EI.mk' m;obtain ⟨q',kO⟩:=EI.iR (show 0≤((e:Nat):Int) by omega)
 have sn:aQ n.natAbs≤8589934593:=by rw [bN]; exact dB (b:=b) (Nat.le_succ_of_le hp.1.1)
 have sm:aQ m.natAbs≤8589934593:=by rw [eU]; exact dB (b:=c) (Nat.le_succ_of_le hp.2.1)
 have sd:aQ (Int.natAbs ((d:Nat):Int))≤8589934593:=by
  rw [bQ,← RV.jY];exact dB (Nat.le_trans (RV.rT _) (Nat.succ_le_succ hp.1.2))
 have se:aQ (Int.natAbs ((e:Nat):Int))≤8589934593:=by
  rw [cE,← RV.jY];exact dB (Nat.le_trans (RV.rT _) (Nat.succ_le_succ hp.2.2))
 have zp:p.size≤8589934593:=by rw [hP.size]; exact sn
 have zq:q.size≤8589934593:=by rw [hQ.size]; exact sd
 have Qs:p'.size≤8589934593:=by rw [ml.size]; exact sm
 have Qt:q'.size≤8589934593:=by rw [kO.size]; exact se
 have pa:nW.val (b,s,t)=.tuple ⟨[.agg ⟨[.bool B,.string p]⟩,.agg ⟨[.bool false,.string q]⟩]⟩:=by
  rw [← hP.enc,← hQ.enc,bN,bQ]; rfl
 have pb:nW.val (c,u,v)=.tuple ⟨[.agg ⟨[.bool D,.string p']⟩,.agg ⟨[.bool false,.string q']⟩]⟩:=by
  rw [← ml.enc,← kO.enc,eU,cE]; rfl
 obtain ⟨w,hw⟩:∃ w,w=mkRat (n*e+m*d) (d*e):=⟨_,rfl⟩;have fin:∀ x:Value,x=(RV.of w).v→x=jW.val ((b,s,t),(c,u,v)):=fun x h=>by
  rw [h,hw,bN,eU,bQ,cE];show bK _=bK (RV.q (b,s,t)+RV.q (c,u,v))
  rw [Hg]
 conv=>whnf
 refine ⟨(b,s,t),rfl,trivial,?_⟩;by_cases h1:RV.fN (b,s,t)
 ·rw [show bE.val (b,s,t)=.tuple ⟨[.int .i64 n,.int .i64 d,.bool true]⟩ from by simp only [bE,if_pos h1,decide_eq_true h1,bN,bQ]]
  conv=>whnf
  refine ⟨(c,u,v),rfl,trivial,?_⟩;by_cases J:RV.fN (c,u,v)
  ·rw [show bE.val (c,u,v)=.tuple ⟨[.int .i64 m,.int .i64 e,.bool true]⟩ from by simp only [bE,if_pos J,decide_eq_true J,eU,cE]]
   have ba:I4.ok ((n,d),(m,e)):=⟨hn h1,hm J⟩;obtain ⟨b1,b2,b3,b4⟩:=I4.bounds ba;simp only at b1 b2 b3 b4;conv=>whnf
   obtain ⟨x,hx⟩:∃ x,x=n*(e:Int):=⟨_,rfl⟩;obtain ⟨y,hy⟩:∃ y,y=m*(d:Int):=⟨_,rfl⟩;obtain ⟨k,hk⟩:∃ k,k=d*e:=⟨_,rfl⟩;rw [← hx] at b1;rw [← hy] at b2;rw [← hk] at b4;have e1:IntKind.i64.wrap (IntKind.i64.wrap (n*(e:Int))+IntKind.i64.wrap (m*(d:Int)))=x+y:=by
    rw [← hx,← hy,ar (x:=x) (by omega) (by omega),ar (x:=y) (by omega) (by omega),ar (by omega) (by omega)]
   have e2:IntKind.i64.wrap ((d:Int)*(e:Int))=(k:Int):=by
    rw [← Int.natCast_mul,← hk,ar (by omega) (by omega)]
   rw [e1,e2];refine ⟨(x+y,k),rfl,⟨by show (x+y).natAbs < _; omega,by show k≠0; omega,by show k < _; omega⟩,?_⟩
   rw [show nV.val (x+y,k)=(RV.of w).v from by rw [hw,hx,hy,hk]; rfl]
   conv=>whnf
   exact fin _ rfl
  ·rw [show bE.val (c,u,v)=.tuple ⟨[.int .i64 0,.int .i64 0,.bool false]⟩ from by simp only [bE,if_neg J,decide_eq_false J]]
   conv=>whnf
   refine ⟨(b,s,t),rfl,hp.1,?_⟩;rw [pa];conv=>whnf
   refine ⟨(c,u,v),rfl,hp.2,?_⟩;rw [pb];obtain ⟨B1,m1,g1⟩:=EI.mk' (n*(e:Int));obtain ⟨B2,m2,g2⟩:=EI.mk' (m*(d:Int));obtain ⟨B3,m3,g3⟩:=EI.mk' (n*(e:Int)+m*(d:Int));obtain ⟨B4,m4,g4⟩:=EI.mk' ((d:Int)*(e:Int));have z1:=g1.gD sn se;have z2:=g2.gD sm sd;have z4:=g4.gD sd se;have z3:m3.size≤17179869187:=g3.FD (by rw [← g1.size]; omega) (by rw [← g2.size]; omega)
   have lU:(0:Int) < (d:Int)*(e:Int):=Int.mul_pos (by omega) (by omega)
   conv=>whnf
   refine .inl ⟨9,[[],[],[0,1],[],[],[0,1,2,3,4],[0,1,2,3,4,5],[],[],[0,1,2,3,4,5,6,7,8],[0,1,2,3,4,5,6,7,8,9],[0,1,2,3,4,5,6,7,8,9,10]],by kernel_rfl,?_⟩
   conv=>whnf
   refine ⟨((B,p),(false,q')),rfl,⟨by show p.size≤_; omega,by show q'.size≤_; omega⟩,?_⟩
   rw [show fg.val ((B,p),(false,q'))=.agg ⟨[.bool B1,.string m1]⟩ from by show aD (IV.z (B,p)*IV.z (false,q'))=_; rw [hP.val,kO.val,g1.enc]]
   conv=>whnf
   refine ⟨((D,p'),(false,q)),rfl,⟨by show p'.size≤_; omega,by show q.size≤_; omega⟩,?_⟩
   rw [show fg.val ((D,p'),(false,q))=.agg ⟨[.bool B2,.string m2]⟩ from by show aD (IV.z (D,p')*IV.z (false,q))=_; rw [ml.val,hQ.val,g2.enc]]
   conv=>whnf
   refine ⟨((B1,m1),(B2,m2)),rfl,⟨by show m1.size≤_; omega,by show m2.size≤_; omega⟩,?_⟩
   rw [show iW.val ((B1,m1),(B2,m2))=.agg ⟨[.bool B3,.string m3]⟩ from by show aD (IV.z (B1,m1)+IV.z (B2,m2))=_; rw [g1.val,g2.val,g3.enc]]
   conv=>whnf
   refine ⟨((false,q),(false,q')),rfl,⟨by show q.size≤_; omega,by show q'.size≤_; omega⟩,?_⟩
   rw [show fg.val ((false,q),(false,q'))=.agg ⟨[.bool B4,.string m4]⟩ from by show aD (IV.z (false,q)*IV.z (false,q'))=_; rw [hQ.val,kO.val,g4.enc]]
   conv=>whnf
   refine ⟨((B3,m3),(B4,m4)),rfl,⟨by show m3.size≤_; omega,by show m4.size≤_; omega,by show 0 < IV.z (B4,m4); rw [g4.val]; exact lU⟩,?_⟩
   rw [show p9.val ((B3,m3),(B4,m4))=(RV.of w).v from by
    show bK (mkRat (IV.z (B3,m3)) (IV.z (B4,m4)).natAbs)=_
    rw [g3.val,g4.val,hw,← Int.natCast_mul,Int.natAbs_natCast]; rfl]
   conv=>whnf
   exact fin _ rfl
 ·rw [show bE.val (b,s,t)=.tuple ⟨[.int .i64 0,.int .i64 0,.bool false]⟩ from by simp only [bE,if_neg h1,decide_eq_false h1]]
  conv=>whnf
  obtain ⟨k1,k2,k3,hk⟩:∃ (k1 k2:Int) (k3:Bool),bE.val (c,u,v)=.tuple ⟨[.int .i64 k1,.int .i64 k2,.bool k3]⟩:=⟨_,_,_,rfl⟩;refine ⟨(c,u,v),rfl,trivial,?_⟩;rw [hk];conv=>whnf
  refine ⟨(b,s,t),rfl,hp.1,?_⟩;rw [pa];conv=>whnf
  refine ⟨(c,u,v),rfl,hp.2,?_⟩;rw [pb];obtain ⟨B1,m1,g1⟩:=EI.mk' (n*(e:Int));obtain ⟨B2,m2,g2⟩:=EI.mk' (m*(d:Int));obtain ⟨B3,m3,g3⟩:=EI.mk' (n*(e:Int)+m*(d:Int));obtain ⟨B4,m4,g4⟩:=EI.mk' ((d:Int)*(e:Int));have z1:=g1.gD sn se;have z2:=g2.gD sm sd;have z4:=g4.gD sd se;have z3:m3.size≤17179869187:=g3.FD (by rw [← g1.size]; omega) (by rw [← g2.size]; omega)
  have lU:(0:Int) < (d:Int)*(e:Int):=Int.mul_pos (by omega) (by omega)
  conv=>whnf
  refine .inl ⟨9,[[],[],[0,1],[],[],[0,1,2,3,4],[0,1,2,3,4,5],[],[],[0,1,2,3,4,5,6,7,8],[0,1,2,3,4,5,6,7,8,9],[0,1,2,3,4,5,6,7,8,9,10]],by kernel_rfl,?_⟩
  conv=>whnf
  refine ⟨((B,p),(false,q')),rfl,⟨by show p.size≤_; omega,by show q'.size≤_; omega⟩,?_⟩
  rw [show fg.val ((B,p),(false,q'))=.agg ⟨[.bool B1,.string m1]⟩ from by show aD (IV.z (B,p)*IV.z (false,q'))=_; rw [hP.val,kO.val,g1.enc]]
  conv=>whnf
  refine ⟨((D,p'),(false,q)),rfl,⟨by show p'.size≤_; omega,by show q.size≤_; omega⟩,?_⟩
  rw [show fg.val ((D,p'),(false,q))=.agg ⟨[.bool B2,.string m2]⟩ from by show aD (IV.z (D,p')*IV.z (false,q))=_; rw [ml.val,hQ.val,g2.enc]]
  conv=>whnf
  refine ⟨((B1,m1),(B2,m2)),rfl,⟨by show m1.size≤_; omega,by show m2.size≤_; omega⟩,?_⟩
  rw [show iW.val ((B1,m1),(B2,m2))=.agg ⟨[.bool B3,.string m3]⟩ from by show aD (IV.z (B1,m1)+IV.z (B2,m2))=_; rw [g1.val,g2.val,g3.enc]]
  conv=>whnf
  refine ⟨((false,q),(false,q')),rfl,⟨by show q.size≤_; omega,by show q'.size≤_; omega⟩,?_⟩
  rw [show fg.val ((false,q),(false,q'))=.agg ⟨[.bool B4,.string m4]⟩ from by show aD (IV.z (false,q)*IV.z (false,q'))=_; rw [hQ.val,kO.val,g4.enc]]
  conv=>whnf
  refine ⟨((B3,m3),(B4,m4)),rfl,⟨by show m3.size≤_; omega,by show m4.size≤_; omega,by show 0 < IV.z (B4,m4); rw [g4.val]; exact lU⟩,?_⟩
  rw [show p9.val ((B3,m3),(B4,m4))=(RV.of w).v from by
   show bK (mkRat (IV.z (B3,m3)) (IV.z (B4,m4)).natAbs)=_
   rw [g3.val,g4.val,hw,← Int.natCast_mul,Int.natAbs_natCast]; rfl]
  conv=>whnf
  exact fin _ rfl
theorem MS:bf Tryz.prog 156 jX:=by
 refine bk zi aM Tryz.func156 (enters_of Tryz.func156 (by kernel_rfl) rfl) (fun _=>rfl) (fun _=>rfl) ?_
 intro ⟨⟨b,s,t⟩,⟨c,u,v⟩⟩ hp;have hp:(s.size≤8589934592∧t.size≤8589934592)∧u.size≤8589934592∧v.size≤8589934592:=hp;have hn:=RV.jZ (i:=(b,s,t));have hm:=RV.jZ (i:=(c,u,v));obtain ⟨n,bN⟩:∃ n,n=RV.n (b,s,t):=⟨_,rfl⟩;obtain ⟨m,eU⟩:∃ n,n=RV.n (c,u,v):=⟨_,rfl⟩;obtain ⟨d,bQ⟩:∃ n,n=RV.d (b,s,t):=⟨_,rfl⟩;obtain ⟨e,cE⟩:∃ n,n=RV.d (c,u,v):=⟨_,rfl⟩;have fx:d≠0:=by rw [bQ]; exact RV.jV _
 have Qr:e≠0:=by rw [cE]; exact RV.jV _
 rw [← bN,← bQ] at hn;rw [← eU,← cE] at hm;obtain ⟨B,p,hP⟩:=EI.mk' n;obtain ⟨q,hQ⟩:=EI.iR (show 0≤((d:Nat):Int) by omega)
 obtain ⟨D,p',ml⟩:=EI.mk' m;obtain ⟨q',kO⟩:=EI.iR (show 0≤((e:Nat):Int) by omega)
 have sn:aQ n.natAbs≤8589934593:=by rw [bN]; exact dB (b:=b) (Nat.le_succ_of_le hp.1.1)
 have sm:aQ m.natAbs≤8589934593:=by rw [eU]; exact dB (b:=c) (Nat.le_succ_of_le hp.2.1)
 have sd:aQ (Int.natAbs ((d:Nat):Int))≤8589934593:=by
  rw [bQ,← RV.jY];exact dB (Nat.le_trans (RV.rT _) (Nat.succ_le_succ hp.1.2))
 have se:aQ (Int.natAbs ((e:Nat):Int))≤8589934593:=by
  rw [cE,← RV.jY];exact dB (Nat.le_trans (RV.rT _) (Nat.succ_le_succ hp.2.2))
 have zp:p.size≤8589934593:=by rw [hP.size]; exact sn
 have zq:q.size≤8589934593:=by rw [hQ.size]; exact sd
 have Qs:p'.size≤8589934593:=by rw [ml.size]; exact sm
 have Qt:q'.size≤8589934593:=by rw [kO.size]; exact se
 have pa:nW.val (b,s,t)=.tuple ⟨[.agg ⟨[.bool B,.string p]⟩,.agg ⟨[.bool false,.string q]⟩]⟩:=by
  rw [← hP.enc,← hQ.enc,bN,bQ]; rfl
 have pb:nW.val (c,u,v)=.tuple ⟨[.agg ⟨[.bool D,.string p']⟩,.agg ⟨[.bool false,.string q']⟩]⟩:=by
  rw [← ml.enc,← kO.enc,eU,cE]; rfl
 obtain ⟨w,hw⟩:∃ w,w=mkRat (n*m) (d*e):=⟨_,rfl⟩;have fin:∀ x:Value,x=(RV.of w).v→x=jX.val ((b,s,t),(c,u,v)):=fun x h=>by
  rw [h,hw,bN,eU,bQ,cE];show bK _=bK (RV.q (b,s,t)*RV.q (c,u,v))
  rw [Hh]
 conv=>whnf
 refine ⟨(b,s,t),rfl,trivial,?_⟩;by_cases h1:RV.fN (b,s,t)
 ·rw [show bE.val (b,s,t)=.tuple ⟨[.int .i64 n,.int .i64 d,.bool true]⟩ from by simp only [bE,if_pos h1,decide_eq_true h1,bN,bQ]]
  conv=>whnf
  refine ⟨(c,u,v),rfl,trivial,?_⟩;by_cases J:RV.fN (c,u,v)
  ·rw [show bE.val (c,u,v)=.tuple ⟨[.int .i64 m,.int .i64 e,.bool true]⟩ from by simp only [bE,if_pos J,decide_eq_true J,eU,cE]]
   have ba:I4.ok ((n,d),(m,e)):=⟨hn h1,hm J⟩;obtain ⟨b1,b2,b3,b4⟩:=I4.bounds ba;simp only at b1 b2 b3 b4;conv=>whnf
   obtain ⟨x,hx⟩:∃ x,x=n*m:=⟨_,rfl⟩;obtain ⟨k,hk⟩:∃ k,k=d*e:=⟨_,rfl⟩;rw [← hx] at b3;rw [← hk] at b4;have e1:IntKind.i64.wrap (n*m)=x:=by
    rw [← hx,ar (x:=x) (by omega) (by omega)]
   have e2:IntKind.i64.wrap ((d:Int)*(e:Int))=(k:Int):=by
    rw [← Int.natCast_mul,← hk,ar (by omega) (by omega)]
   rw [e1,e2];refine ⟨(x,k),rfl,⟨by show x.natAbs < _; omega,by show k≠0; omega,by show k < _; omega⟩,?_⟩
   rw [show nV.val (x,k)=(RV.of w).v from by rw [hw,hx,hk]; rfl]
   conv=>whnf
   exact fin _ rfl
  ·rw [show bE.val (c,u,v)=.tuple ⟨[.int .i64 0,.int .i64 0,.bool false]⟩ from by simp only [bE,if_neg J,decide_eq_false J]]
   conv=>whnf
   refine ⟨(b,s,t),rfl,hp.1,?_⟩;rw [pa];conv=>whnf
   refine ⟨(c,u,v),rfl,hp.2,?_⟩;rw [pb];obtain ⟨B1,m1,g1⟩:=EI.mk' (n*m);obtain ⟨B4,m4,g4⟩:=EI.mk' ((d:Int)*(e:Int));have z1:=g1.gD sn sm;have z4:=g4.gD sd se;have lU:(0:Int) < (d:Int)*(e:Int):=Int.mul_pos (by omega) (by omega)
   conv=>whnf
   refine .inl ⟨5,[[],[],[0,1],[],[],[0,1,2,3,4],[0,1,2,3,4,5],[0,1,2,3,4,5,6]],by kernel_rfl,?_⟩
   conv=>whnf
   refine ⟨((B,p),(D,p')),rfl,⟨by show p.size≤_; omega,by show p'.size≤_; omega⟩,?_⟩
   rw [show fg.val ((B,p),(D,p'))=.agg ⟨[.bool B1,.string m1]⟩ from by show aD (IV.z (B,p)*IV.z (D,p'))=_; rw [hP.val,ml.val,g1.enc]]
   conv=>whnf
   refine ⟨((false,q),(false,q')),rfl,⟨by show q.size≤_; omega,by show q'.size≤_; omega⟩,?_⟩
   rw [show fg.val ((false,q),(false,q'))=.agg ⟨[.bool B4,.string m4]⟩ from by show aD (IV.z (false,q)*IV.z (false,q'))=_; rw [hQ.val,kO.val,g4.enc]]
   conv=>whnf
   refine ⟨((B1,m1),(B4,m4)),rfl,⟨by show m1.size≤_; omega,by show m4.size≤_; omega,by show 0 < IV.z (B4,m4); rw [g4.val]; exact lU⟩,?_⟩
   rw [show p9.val ((B1,m1),(B4,m4))=(RV.of w).v from by
    show bK (mkRat (IV.z (B1,m1)) (IV.z (B4,m4)).natAbs)=_
    rw [g1.val,g4.val,hw,← Int.natCast_mul,Int.natAbs_natCast]; rfl]
   conv=>whnf
   exact fin _ rfl
 ·rw [show bE.val (b,s,t)=.tuple ⟨[.int .i64 0,.int .i64 0,.bool false]⟩ from by simp only [bE,if_neg h1,decide_eq_false h1]]
  conv=>whnf
  obtain ⟨k1,k2,k3,hk⟩:∃ (k1 k2:Int) (k3:Bool),bE.val (c,u,v)=.tuple ⟨[.int .i64 k1,.int .i64 k2,.bool k3]⟩:=⟨_,_,_,rfl⟩;refine ⟨(c,u,v),rfl,trivial,?_⟩;rw [hk];conv=>whnf
  refine ⟨(b,s,t),rfl,hp.1,?_⟩;rw [pa];conv=>whnf
  refine ⟨(c,u,v),rfl,hp.2,?_⟩;rw [pb];obtain ⟨B1,m1,g1⟩:=EI.mk' (n*m);obtain ⟨B4,m4,g4⟩:=EI.mk' ((d:Int)*(e:Int));have z1:=g1.gD sn sm;have z4:=g4.gD sd se;have lU:(0:Int) < (d:Int)*(e:Int):=Int.mul_pos (by omega) (by omega)
  conv=>whnf
  refine .inl ⟨5,[[],[],[0,1],[],[],[0,1,2,3,4],[0,1,2,3,4,5],[0,1,2,3,4,5,6]],by kernel_rfl,?_⟩
  conv=>whnf
  refine ⟨((B,p),(D,p')),rfl,⟨by show p.size≤_; omega,by show p'.size≤_; omega⟩,?_⟩
  rw [show fg.val ((B,p),(D,p'))=.agg ⟨[.bool B1,.string m1]⟩ from by show aD (IV.z (B,p)*IV.z (D,p'))=_; rw [hP.val,ml.val,g1.enc]]
  conv=>whnf
  refine ⟨((false,q),(false,q')),rfl,⟨by show q.size≤_; omega,by show q'.size≤_; omega⟩,?_⟩
  rw [show fg.val ((false,q),(false,q'))=.agg ⟨[.bool B4,.string m4]⟩ from by show aD (IV.z (false,q)*IV.z (false,q'))=_; rw [hQ.val,kO.val,g4.enc]]
  conv=>whnf
  refine ⟨((B1,m1),(B4,m4)),rfl,⟨by show m1.size≤_; omega,by show m4.size≤_; omega,by show 0 < IV.z (B4,m4); rw [g4.val]; exact lU⟩,?_⟩
  rw [show p9.val ((B1,m1),(B4,m4))=(RV.of w).v from by
   show bK (mkRat (IV.z (B1,m1)) (IV.z (B4,m4)).natAbs)=_
   rw [g1.val,g4.val,hw,← Int.natCast_mul,Int.natAbs_natCast]; rfl]
  conv=>whnf
  exact fin _ rfl
theorem FR:bf Tryz.prog 128 eD:=by
 refine bk zi aM Tryz.func128 (enters_of Tryz.func128 (by kernel_rfl) rfl) (fun _=>rfl) (fun _=>rfl) ?_
 intro ⟨⟨b,s,t⟩,⟨c,u,v⟩⟩ hp;have hp:(s.size≤8589934592∧t.size≤8589934592)∧u.size≤8589934592∧v.size≤8589934592:=hp;have hn:=RV.jZ (i:=(b,s,t));have hm:=RV.jZ (i:=(c,u,v));obtain ⟨n,bN⟩:∃ n,n=RV.n (b,s,t):=⟨_,rfl⟩;obtain ⟨m,eU⟩:∃ n,n=RV.n (c,u,v):=⟨_,rfl⟩;obtain ⟨d,bQ⟩:∃ n,n=RV.d (b,s,t):=⟨_,rfl⟩;obtain ⟨e,cE⟩:∃ n,n=RV.d (c,u,v):=⟨_,rfl⟩;have fx:d≠0:=by rw [bQ]; exact RV.jV _
 have Qr:e≠0:=by rw [cE]; exact RV.jV _
 rw [← bN,← bQ] at hn;rw [← eU,← cE] at hm;obtain ⟨B,p,hP⟩:=EI.mk' n;obtain ⟨q,hQ⟩:=EI.iR (show 0≤((d:Nat):Int) by omega)
 obtain ⟨D,p',ml⟩:=EI.mk' m;obtain ⟨q',kO⟩:=EI.iR (show 0≤((e:Nat):Int) by omega)
 have sn:aQ n.natAbs≤8589934593:=by rw [bN]; exact dB (b:=b) (Nat.le_succ_of_le hp.1.1)
 have sm:aQ m.natAbs≤8589934593:=by rw [eU]; exact dB (b:=c) (Nat.le_succ_of_le hp.2.1)
 have sd:aQ (Int.natAbs ((d:Nat):Int))≤8589934593:=by
  rw [bQ,← RV.jY];exact dB (Nat.le_trans (RV.rT _) (Nat.succ_le_succ hp.1.2))
 have se:aQ (Int.natAbs ((e:Nat):Int))≤8589934593:=by
  rw [cE,← RV.jY];exact dB (Nat.le_trans (RV.rT _) (Nat.succ_le_succ hp.2.2))
 have zp:p.size≤8589934593:=by rw [hP.size]; exact sn
 have zq:q.size≤8589934593:=by rw [hQ.size]; exact sd
 have Qs:p'.size≤8589934593:=by rw [ml.size]; exact sm
 have Qt:q'.size≤8589934593:=by rw [kO.size]; exact se
 have pa:nW.val (b,s,t)=.tuple ⟨[.agg ⟨[.bool B,.string p]⟩,.agg ⟨[.bool false,.string q]⟩]⟩:=by
  rw [← hP.enc,← hQ.enc,bN,bQ]; rfl
 have pb:nW.val (c,u,v)=.tuple ⟨[.agg ⟨[.bool D,.string p']⟩,.agg ⟨[.bool false,.string q']⟩]⟩:=by
  rw [← ml.enc,← kO.enc,eU,cE]; rfl
 obtain ⟨w,hw⟩:∃ w,w=dL (n*e) (m*d):=⟨_,rfl⟩;have fin:∀ x:Int,x=w→Value.int .i64 x=eD.val ((b,s,t),(c,u,v)):=fun x h=>by
  rw [h,hw,bN,eU,bQ,cE];show Value.int .i64 _=.int .i64 (aN (RV.q (b,s,t)) (RV.q (c,u,v)))
  rw [Cx]
 conv=>whnf
 refine ⟨(b,s,t),rfl,trivial,?_⟩;by_cases h1:RV.fN (b,s,t)
 ·rw [show bE.val (b,s,t)=.tuple ⟨[.int .i64 n,.int .i64 d,.bool true]⟩ from by simp only [bE,if_pos h1,decide_eq_true h1,bN,bQ]]
  conv=>whnf
  refine ⟨(c,u,v),rfl,trivial,?_⟩;by_cases J:RV.fN (c,u,v)
  ·rw [show bE.val (c,u,v)=.tuple ⟨[.int .i64 m,.int .i64 e,.bool true]⟩ from by simp only [bE,if_pos J,decide_eq_true J,eU,cE]]
   have ba:I4.ok ((n,d),(m,e)):=⟨hn h1,hm J⟩;obtain ⟨b1,b2,b3,b4⟩:=I4.bounds ba;simp only at b1 b2 b3 b4;conv=>whnf
   obtain ⟨x,hx⟩:∃ x,x=n*(e:Int):=⟨_,rfl⟩;obtain ⟨y,hy⟩:∃ y,y=m*(d:Int):=⟨_,rfl⟩;rw [← hx] at b1;rw [← hy] at b2;have e1:IntKind.i64.wrap (n*(e:Int))=x:=by rw [← hx,ar (x:=x) (by omega) (by omega)]
   have e2:IntKind.i64.wrap (m*(d:Int))=y:=by rw [← hy,ar (x:=y) (by omega) (by omega)]
   rw [← hx,← hy] at hw;rw [e1,e2];refine aI (fun h=>?_) (fun h=>?_)
   ·have h:=of_decide_eq_true h;conv=>whnf
    exact fin _ (hw.trans (tY h)).symm
   ·have h:=of_decide_eq_false h;conv=>whnf
    rw [e1,e2];refine aI (fun h5=>?_) (fun h5=>?_)
    ·have h5:=of_decide_eq_true h5;conv=>whnf
     exact fin _ (hw.trans (tZ h5)).symm
    ·have h5:=of_decide_eq_false h5;conv=>whnf
     refine fin _ ?_;rw [hw];unfold dL;rw [if_neg h,if_neg (show ¬ y < x from h5)]
  ·rw [show bE.val (c,u,v)=.tuple ⟨[.int .i64 0,.int .i64 0,.bool false]⟩ from by simp only [bE,if_neg J,decide_eq_false J]]
   conv=>whnf
   refine ⟨(b,s,t),rfl,hp.1,?_⟩;rw [pa];conv=>whnf
   refine ⟨(c,u,v),rfl,hp.2,?_⟩;rw [pb];obtain ⟨B1,m1,g1⟩:=EI.mk' (n*(e:Int));obtain ⟨B2,m2,g2⟩:=EI.mk' (m*(d:Int));have z1:=g1.gD sn se;have z2:=g2.gD sm sd;conv=>whnf
   refine .inl ⟨5,[[],[],[0,1],[],[],[0,1,2,3,4],[0,1,2,3,4,5],[0,1,2,3,4,5,6]],by kernel_rfl,?_⟩
   conv=>whnf
   refine ⟨((B,p),(false,q')),rfl,⟨by show p.size≤_; omega,by show q'.size≤_; omega⟩,?_⟩
   rw [show fg.val ((B,p),(false,q'))=.agg ⟨[.bool B1,.string m1]⟩ from by show aD (IV.z (B,p)*IV.z (false,q'))=_; rw [hP.val,kO.val,g1.enc]]
   conv=>whnf
   refine ⟨((D,p'),(false,q)),rfl,⟨by show p'.size≤_; omega,by show q.size≤_; omega⟩,?_⟩
   rw [show fg.val ((D,p'),(false,q))=.agg ⟨[.bool B2,.string m2]⟩ from by show aD (IV.z (D,p')*IV.z (false,q))=_; rw [ml.val,hQ.val,g2.enc]]
   conv=>whnf
   refine ⟨((B1,m1),(B2,m2)),rfl,⟨by show m1.size≤_; omega,by show m2.size≤_; omega⟩,?_⟩
   rw [show lX.val ((B1,m1),(B2,m2))=.int .i64 w from by show Value.int .i64 (dL (IV.z (B1,m1)) (IV.z (B2,m2)))=_; rw [g1.val,g2.val,hw]]
   conv=>whnf
   exact fin _ rfl
 ·rw [show bE.val (b,s,t)=.tuple ⟨[.int .i64 0,.int .i64 0,.bool false]⟩ from by simp only [bE,if_neg h1,decide_eq_false h1]]
  conv=>whnf
  obtain ⟨k1,k2,k3,hk⟩:∃ (k1 k2:Int) (k3:Bool),bE.val (c,u,v)=.tuple ⟨[.int .i64 k1,.int .i64 k2,.bool k3]⟩:=⟨_,_,_,rfl⟩;refine ⟨(c,u,v),rfl,trivial,?_⟩;rw [hk];conv=>whnf
  refine ⟨(b,s,t),rfl,hp.1,?_⟩;rw [pa];conv=>whnf
  refine ⟨(c,u,v),rfl,hp.2,?_⟩;rw [pb];obtain ⟨B1,m1,g1⟩:=EI.mk' (n*(e:Int));obtain ⟨B2,m2,g2⟩:=EI.mk' (m*(d:Int));have z1:=g1.gD sn se;have z2:=g2.gD sm sd;conv=>whnf
  refine .inl ⟨5,[[],[],[0,1],[],[],[0,1,2,3,4],[0,1,2,3,4,5],[0,1,2,3,4,5,6]],by kernel_rfl,?_⟩
  conv=>whnf
  refine ⟨((B,p),(false,q')),rfl,⟨by show p.size≤_; omega,by show q'.size≤_; omega⟩,?_⟩
  rw [show fg.val ((B,p),(false,q'))=.agg ⟨[.bool B1,.string m1]⟩ from by show aD (IV.z (B,p)*IV.z (false,q'))=_; rw [hP.val,kO.val,g1.enc]]
  conv=>whnf
  refine ⟨((D,p'),(false,q)),rfl,⟨by show p'.size≤_; omega,by show q.size≤_; omega⟩,?_⟩
  rw [show fg.val ((D,p'),(false,q))=.agg ⟨[.bool B2,.string m2]⟩ from by show aD (IV.z (D,p')*IV.z (false,q))=_; rw [ml.val,hQ.val,g2.enc]]
  conv=>whnf
  refine ⟨((B1,m1),(B2,m2)),rfl,⟨by show m1.size≤_; omega,by show m2.size≤_; omega⟩,?_⟩
  rw [show lX.val ((B1,m1),(B2,m2))=.int .i64 w from by show Value.int .i64 (dL (IV.z (B1,m1)) (IV.z (B2,m2)))=_; rw [g1.val,g2.val,hw]]
  conv=>whnf
  exact fin _ rfl
def Eqd:Env:=En [(169,.p jW),(128,.p eD)]
theorem ab2:EnvOk Tryz.prog Eqd:=bI ⟨MR,FR,trivial⟩ trivial
theorem VU:bf Tryz.prog 146 gh:=by
 refine bk ab2 aM Tryz.func146 (enters_of Tryz.func146 (by kernel_rfl) rfl) (fun _=>rfl) (fun _=>rfl) ?_
 intro ⟨⟨b,s,t⟩,⟨c,u,v⟩⟩ hp;have hp:RV.ok (b,s,t)∧RV.ok (c,u,v):=hp;obtain ⟨w,hw⟩:∃ w,w=RV.q (b,s,t) - RV.q (c,u,v):=⟨_,rfl⟩;conv=>whnf
 refine ⟨((b,s,t),(!c,u,v)),rfl,hp,?_⟩;rw [show jW.val ((b,s,t),(!c,u,v))=(RV.of w).v from by
  rw [hw];show bK (RV.q (b,s,t)+RV.q (!c,u,v))=bK _
  rw [NQ,← Rat.sub_eq_add_neg]]
 conv=>whnf
 show (RV.of w).v=bK _
 rw [hw]
 rfl
open Go Go.Ae
def Jh:Env:=En [(36,.p jW),(38,.p gh),(37,.p jX)]
theorem ab3:EnvOk Tryz.prog Jh:=bI ⟨yC,ue,Gs,trivial⟩ trivial
theorem YC:gi Tryz.prog 81 (ck Jh cL Tryz.f81):=by
 exact js ab3 aM Tryz.func81 (enters_of Tryz.func81 (by kernel_rfl) rfl)
def Evb:Env:=En [(33,.p kD),(36,.p jW),(38,.p gh),(35,.p eD),(129,.p m5)] [(81,ck Jh cL Tryz.f81)]
theorem uP:EnvOk Tryz.prog Evb:=bI ⟨xj,yC,ue,Gt,Uj,trivial⟩ ⟨YC,trivial⟩
def Evr:Env:=En [(120,.p kD),(169,.p jW),(146,.p gh),(156,.p jX),(128,.p eD),(119,.p m5),(153,.p yP)]
theorem CH:EnvOk Tryz.prog Evr:=bI ⟨YB,MR,VU,MS,FR,Tc,L7,trivial⟩ trivial
theorem N6:bf Tryz.prog 55 qS:=by
 refine bk uP aM Tryz.func55 (enters_of Tryz.func55 (by kernel_rfl) rfl) (fun _=>rfl) (fun _=>rfl) ?_
 intro ⟨n,m⟩ hp;have hp:rm n∧rm m:=hp;obtain ⟨x,hx⟩:∃ x:Rat,x=(n:Rat):=⟨_,rfl⟩;obtain ⟨y,hy⟩:∃ x:Rat,x=(m:Rat):=⟨_,rfl⟩;conv=>whnf
 refine ⟨n,rfl,hp.1,?_⟩;rw [show kD.val n=(RV.of x).v from by rw [hx]; rfl]
 conv=>whnf
 refine ⟨m,rfl,hp.2,?_⟩;rw [show kD.val m=(RV.of y).v from by rw [hy]; rfl]
 conv=>whnf
 show PV.v (RV.of x,RV.of y)=mK _ _
 rw [hx,hy]
 rfl
theorem YD:bf Tryz.prog 29 Hi:=by
 refine bk uP aM Tryz.func29 (enters_of Tryz.func29 (by kernel_rfl) rfl) (fun _=>rfl) (fun _=>rfl) ?_
 intro ⟨p,q⟩ hp;have hp:p.sz 8589934592∧q.sz 8589934592:=hp;obtain ⟨x,hx⟩:∃ x,x=p.1.q+q.1.q:=⟨_,rfl⟩;obtain ⟨y,hy⟩:∃ x,x=p.2.q+q.2.q:=⟨_,rfl⟩;conv=>whnf
 refine .inl ⟨11,[[],[],[1],[],[3],[0,1,2,3,4],[],[],[7],[],[9],[0,1,2,3,4,5,6,7,8,9,10],[0,1,2,3,4,5,6,7,8,9,10,11],[0,1,2,3,4,5,6,7,8,9,10,11,12]],by kernel_rfl,?_⟩
 conv=>whnf
 refine ⟨(p.1,q.1),rfl,⟨hp.1.1,hp.2.1⟩,?_⟩;rw [show jW.val (p.1,q.1)=(RV.of x).v from by rw [hx]; rfl]
 conv=>whnf
 refine ⟨(p.2,q.2),rfl,⟨hp.1.2,hp.2.2⟩,?_⟩;rw [show jW.val (p.2,q.2)=(RV.of y).v from by rw [hy]; rfl]
 conv=>whnf
 show PV.v (RV.of x,RV.of y)=mK _ _
 rw [hx,hy]
 rfl
theorem BU:bf Tryz.prog 85 ld:=by
 refine bk uP aM Tryz.func85 (enters_of Tryz.func85 (by kernel_rfl) rfl) (fun _=>rfl) (fun _=>rfl) ?_
 intro ⟨p,q⟩ hp;have hp:p.sz 8589934592∧q.sz 8589934592:=hp;obtain ⟨x,hx⟩:∃ x,x=p.1.q - q.1.q:=⟨_,rfl⟩;obtain ⟨y,hy⟩:∃ x,x=p.2.q - q.2.q:=⟨_,rfl⟩;conv=>whnf
 refine .inl ⟨11,[[],[],[1],[],[3],[0,1,2,3,4],[],[],[7],[],[9],[0,1,2,3,4,5,6,7,8,9,10],[0,1,2,3,4,5,6,7,8,9,10,11],[0,1,2,3,4,5,6,7,8,9,10,11,12]],by kernel_rfl,?_⟩
 conv=>whnf
 refine ⟨(p.1,q.1),rfl,⟨hp.1.1,hp.2.1⟩,?_⟩;rw [show gh.val (p.1,q.1)=(RV.of x).v from by rw [hx]; rfl]
 conv=>whnf
 refine ⟨(p.2,q.2),rfl,⟨hp.1.2,hp.2.2⟩,?_⟩;rw [show gh.val (p.2,q.2)=(RV.of y).v from by rw [hy]; rfl]
 conv=>whnf
 show PV.v (RV.of x,RV.of y)=mK _ _
 rw [hx,hy]
 rfl
theorem VV:bf Tryz.prog 121 ld:=by
 refine bk CH aM Tryz.func121 (enters_of Tryz.func121 (by kernel_rfl) rfl) (fun _=>rfl) (fun _=>rfl) ?_
 intro ⟨p,q⟩ hp;have hp:p.sz 8589934592∧q.sz 8589934592:=hp;obtain ⟨x,hx⟩:∃ x,x=p.1.q - q.1.q:=⟨_,rfl⟩;obtain ⟨y,hy⟩:∃ x,x=p.2.q - q.2.q:=⟨_,rfl⟩;conv=>whnf
 refine .inl ⟨9,[[],[0],[],[2],[0,1,2,3],[],[5],[],[7],[0,1,2,3,4,5,6,7,8],[0,1,2,3,4,5,6,7,8,9],[0,1,2,3,4,5,6,7,8,9,10]],by kernel_rfl,?_⟩
 conv=>whnf
 refine ⟨(p.1,q.1),rfl,⟨hp.1.1,hp.2.1⟩,?_⟩;rw [show gh.val (p.1,q.1)=(RV.of x).v from by rw [hx]; rfl]
 conv=>whnf
 refine ⟨(p.2,q.2),rfl,⟨hp.1.2,hp.2.2⟩,?_⟩;rw [show gh.val (p.2,q.2)=(RV.of y).v from by rw [hy]; rfl]
 conv=>whnf
 show PV.v (RV.of x,RV.of y)=mK _ _
 rw [hx,hy]
 rfl
theorem Ul:bf Tryz.prog 31 Ge:=by
 refine bk uP aM Tryz.func31 (enters_of Tryz.func31 (by kernel_rfl) rfl) (fun _=>rfl) (fun _=>rfl) ?_
 intro ⟨p,q⟩ hp;have hp:p.sz 8589934592∧q.sz 8589934592:=hp;obtain ⟨x,hx⟩:∃ x,x=p.1.q*q.q:=⟨_,rfl⟩;obtain ⟨y,hy⟩:∃ x,x=p.2.q*q.q:=⟨_,rfl⟩;conv=>whnf
 refine .inl ⟨11,[[],[],[1],[],[3],[0,1,2,3,4],[],[],[7],[],[9],[0,1,2,3,4,5,6,7,8,9,10],[0,1,2,3,4,5,6,7,8,9,10,11],[0,1,2,3,4,5,6,7,8,9,10,11,12]],by kernel_rfl,?_⟩
 conv=>whnf
 refine ⟨(p.1,q),rfl,⟨hp.1.1,hp.2⟩,?_⟩;rw [show jX.val (p.1,q)=(RV.of x).v from by rw [hx]; rfl]
 conv=>whnf
 refine ⟨(p.2,q),rfl,⟨hp.1.2,hp.2⟩,?_⟩;rw [show jX.val (p.2,q)=(RV.of y).v from by rw [hy]; rfl]
 conv=>whnf
 show PV.v (RV.of x,RV.of y)=mK _ _
 rw [hx,hy]
 rfl
theorem L8:bf Tryz.prog 84 qe:=by
 refine bk uP aM Tryz.func84 (enters_of Tryz.func84 (by kernel_rfl) rfl) (fun _=>rfl) (fun _=>rfl) ?_
 intro ⟨p,q⟩ hp;have hp:p.sz 1073741824∧q.sz 1073741824:=hp;obtain ⟨x,hx⟩:∃ x,x=p.1.q*q.2.q:=⟨_,rfl⟩;obtain ⟨y,hy⟩:∃ x,x=p.2.q*q.1.q:=⟨_,rfl⟩;obtain ⟨z,hz⟩:∃ z,z=x - y:=⟨_,rfl⟩;have sx:(RV.of x).ok:=RV.aT (RV.nm (by rw [hx]; exact (RV.ke hp.1.1 (by decide)).mul (RV.ke hp.2.2 (by decide)))) (by decide)
 have sy:(RV.of y).ok:=RV.aT (RV.nm (by rw [hy]; exact (RV.ke hp.1.2 (by decide)).mul (RV.ke hp.2.1 (by decide)))) (by decide)
 conv=>whnf
 refine .inl ⟨11,[[],[],[1],[],[3],[0,1,2,3,4],[],[],[7],[],[9],[0,1,2,3,4,5,6,7,8,9,10],[0,1,2,3,4,5,6,7,8,9,10,11],[0,1,2,3,4,5,6,7,8,9,10,11,12]],by kernel_rfl,?_⟩
 conv=>whnf
 refine ⟨(p.1,q.2),rfl,⟨RV.aT hp.1.1 (by decide),RV.aT hp.2.2 (by decide)⟩,?_⟩
 rw [show jX.val (p.1,q.2)=(RV.of x).v from by rw [hx]; rfl]
 conv=>whnf
 refine ⟨(p.2,q.1),rfl,⟨RV.aT hp.1.2 (by decide),RV.aT hp.2.1 (by decide)⟩,?_⟩
 rw [show jX.val (p.2,q.1)=(RV.of y).v from by rw [hy]; rfl]
 conv=>whnf
 refine ⟨(RV.of x,RV.of y),rfl,⟨sx,sy⟩,?_⟩;rw [show gh.val (RV.of x,RV.of y)=(RV.of z).v from by
  show bK ((RV.of x).q - (RV.of y).q)=_
  rw [RV.ij,RV.ij,hz]; rfl]
 conv=>whnf
 show (RV.of z).v=bK _
 rw [hz,hx,hy]
 rfl
theorem Td:bf Tryz.prog 122 qe:=by
 refine bk CH aM Tryz.func122 (enters_of Tryz.func122 (by kernel_rfl) rfl) (fun _=>rfl) (fun _=>rfl) ?_
 intro ⟨p,q⟩ hp;have hp:p.sz 1073741824∧q.sz 1073741824:=hp;obtain ⟨x,hx⟩:∃ x,x=p.1.q*q.2.q:=⟨_,rfl⟩;obtain ⟨y,hy⟩:∃ x,x=p.2.q*q.1.q:=⟨_,rfl⟩;obtain ⟨z,hz⟩:∃ z,z=x - y:=⟨_,rfl⟩;have sx:(RV.of x).ok:=RV.aT (RV.nm (by rw [hx]; exact (RV.ke hp.1.1 (by decide)).mul (RV.ke hp.2.2 (by decide)))) (by decide)
 have sy:(RV.of y).ok:=RV.aT (RV.nm (by rw [hy]; exact (RV.ke hp.1.2 (by decide)).mul (RV.ke hp.2.1 (by decide)))) (by decide)
 conv=>whnf
 refine .inl ⟨9,[[],[0],[],[2],[0,1,2,3],[],[5],[],[7],[0,1,2,3,4,5,6,7,8],[0,1,2,3,4,5,6,7,8,9],[0,1,2,3,4,5,6,7,8,9,10]],by kernel_rfl,?_⟩
 conv=>whnf
 refine ⟨(p.1,q.2),rfl,⟨RV.aT hp.1.1 (by decide),RV.aT hp.2.2 (by decide)⟩,?_⟩
 rw [show jX.val (p.1,q.2)=(RV.of x).v from by rw [hx]; rfl]
 conv=>whnf
 refine ⟨(p.2,q.1),rfl,⟨RV.aT hp.1.2 (by decide),RV.aT hp.2.1 (by decide)⟩,?_⟩
 rw [show jX.val (p.2,q.1)=(RV.of y).v from by rw [hy]; rfl]
 conv=>whnf
 refine ⟨(RV.of x,RV.of y),rfl,⟨sx,sy⟩,?_⟩;rw [show gh.val (RV.of x,RV.of y)=(RV.of z).v from by
  show bK ((RV.of x).q - (RV.of y).q)=_
  rw [RV.ij,RV.ij,hz]; rfl]
 conv=>whnf
 show (RV.of z).v=bK _
 rw [hz,hx,hy]
 rfl
theorem Nv:bf Tryz.prog 74 pj:=by
 refine bk uP aM Tryz.func74 (enters_of Tryz.func74 (by kernel_rfl) rfl) (fun _=>rfl) (fun _=>rfl) ?_
 intro ⟨p,q⟩ hp;have hp:p.sz 8589934592∧q.sz 8589934592:=hp;obtain ⟨x,hx⟩:∃ x,x=aN p.1.q q.1.q:=⟨_,rfl⟩;obtain ⟨y,hy⟩:∃ x,x=aN p.2.q q.2.q:=⟨_,rfl⟩;have fin:∀ z:Int,z=(if x≠0 then x else y)→Value.int .i64 z=pj.val (p,q):=fun z h=>by rw [h,hx,hy]; rfl
 conv=>whnf
 refine ⟨(p.1,q.1),rfl,⟨hp.1.1,hp.2.1⟩,?_⟩;rw [show eD.val (p.1,q.1)=.int .i64 x from by rw [hx]; rfl]
 conv=>whnf
 refine aI (fun h=>?_) (fun h=>?_)
 ·have h:x≠0:=by
   intro e;subst e;simp at h
  conv=>whnf
  exact fin _ (if_pos h).symm
 ·have h:x=0:=by simpa using h
  conv=>whnf
  refine ⟨(p.2,q.2),rfl,⟨hp.1.2,hp.2.2⟩,?_⟩;rw [show eD.val (p.2,q.2)=.int .i64 y from by rw [hy]; rfl]
  conv=>whnf
  exact fin _ (if_neg (fun e=>e h)).symm
theorem VW:bf Tryz.prog 76 pj:=by
 refine bk CH aM Tryz.func76 (enters_of Tryz.func76 (by kernel_rfl) rfl) (fun _=>rfl) (fun _=>rfl) ?_
 intro ⟨p,q⟩ hp;have hp:p.sz 8589934592∧q.sz 8589934592:=hp;obtain ⟨x,hx⟩:∃ x,x=aN p.1.q q.1.q:=⟨_,rfl⟩;obtain ⟨y,hy⟩:∃ x,x=aN p.2.q q.2.q:=⟨_,rfl⟩;have fin:∀ z:Int,z=(if x≠0 then x else y)→Value.int .i64 z=pj.val (p,q):=fun z h=>by rw [h,hx,hy]; rfl
 conv=>whnf
 refine ⟨(p.1,q.1),rfl,⟨hp.1.1,hp.2.1⟩,?_⟩;rw [show eD.val (p.1,q.1)=.int .i64 x from by rw [hx]; rfl]
 conv=>whnf
 refine aI (fun h=>?_) (fun h=>?_)
 ·have h:x≠0:=by
   intro e;subst e;simp at h
  conv=>whnf
  exact fin _ (if_pos h).symm
 ·have h:x=0:=by simpa using h
  conv=>whnf
  refine ⟨(p.2,q.2),rfl,⟨hp.1.2,hp.2.2⟩,?_⟩;rw [show eD.val (p.2,q.2)=.int .i64 y from by rw [hy]; rfl]
  conv=>whnf
  exact fin _ (if_neg (fun e=>e h)).symm
open Go Go.Ae
theorem L9:bf Tryz.prog 80 kj:=by
 refine bk uP aM Tryz.func80 (enters_of Tryz.func80 (by kernel_rfl) rfl) (fun _=>rfl) (fun _=>rfl) ?_
 intro (p:PV) hp;have hp:p.sz 8589934592:=hp;have od:p.1=RV.of p.1.q→p.2=RV.of p.2.q→Value.int .i64 0=kj.val p:=fun h1 J=>by
  show _=Value.int .i64 (if p.canon then 0 else 1)
  rw [if_pos ⟨h1,J⟩]
 have mM:¬ p.canon→Value.int .i64 1=kj.val p:=fun h=>by
  show _=Value.int .i64 (if p.canon then 0 else 1)
  rw [if_neg h]
 conv=>whnf
 refine .inr ⟨3,?_⟩;conv=>whnf
 refine ⟨⟨by decide,by decide⟩,?_⟩
 conv=>whnf
 refine ⟨p.1,rfl,hp.1,?_⟩;by_cases h1:p.1=RV.of p.1.q
 ·rw [show m5.val p.1=.int .i64 0 from by show Value.int .i64 (if p.1=RV.of p.1.q then 0 else 1)=_; rw [if_pos h1]]
  conv=>whnf
  refine ⟨⟨by decide,by decide⟩,?_⟩
  conv=>whnf
  refine ⟨p.2,rfl,hp.2,?_⟩;by_cases J:p.2=RV.of p.2.q
  ·rw [show m5.val p.2=.int .i64 0 from by show Value.int .i64 (if p.2=RV.of p.2.q then 0 else 1)=_; rw [if_pos J]]
   conv=>whnf
   exact od h1 J
  ·rw [show m5.val p.2=.int .i64 1 from by show Value.int .i64 (if p.2=RV.of p.2.q then 0 else 1)=_; rw [if_neg J]]
   conv=>whnf
   exact mM (fun h=>J h.2)
 ·rw [show m5.val p.1=.int .i64 1 from by show Value.int .i64 (if p.1=RV.of p.1.q then 0 else 1)=_; rw [if_neg h1]]
  conv=>whnf
  exact mM (fun h=>h1 h.1)
theorem Te:bf Tryz.prog 68 kj:=by
 refine bk CH aM Tryz.func68 (enters_of Tryz.func68 (by kernel_rfl) rfl) (fun _=>rfl) (fun _=>rfl) ?_
 intro (p:PV) hp;have hp:p.sz 8589934592:=hp;have od:p.1=RV.of p.1.q→p.2=RV.of p.2.q→Value.int .i64 0=kj.val p:=fun h1 J=>by
  show _=Value.int .i64 (if p.canon then 0 else 1)
  rw [if_pos ⟨h1,J⟩]
 have mM:¬ p.canon→Value.int .i64 1=kj.val p:=fun h=>by
  show _=Value.int .i64 (if p.canon then 0 else 1)
  rw [if_neg h]
 conv=>whnf
 refine ⟨p.1,rfl,hp.1,?_⟩;by_cases h1:p.1=RV.of p.1.q
 ·rw [show m5.val p.1=.int .i64 0 from by show Value.int .i64 (if p.1=RV.of p.1.q then 0 else 1)=_; rw [if_pos h1]]
  conv=>whnf
  refine ⟨p.2,rfl,hp.2,?_⟩;by_cases J:p.2=RV.of p.2.q
  ·rw [show m5.val p.2=.int .i64 0 from by show Value.int .i64 (if p.2=RV.of p.2.q then 0 else 1)=_; rw [if_pos J]]
   conv=>whnf
   exact od h1 J
  ·rw [show m5.val p.2=.int .i64 1 from by show Value.int .i64 (if p.2=RV.of p.2.q then 0 else 1)=_; rw [if_neg J]]
   conv=>whnf
   exact mM (fun h=>J h.2)
 ·rw [show m5.val p.1=.int .i64 1 from by show Value.int .i64 (if p.1=RV.of p.1.q then 0 else 1)=_; rw [if_neg h1]]
  conv=>whnf
  exact mM (fun h=>h1 h.1)
def Evf:Env:=En [(85,.p ld),(31,.p Ge),(29,.p Hi)]
theorem ab4:EnvOk Tryz.prog Evf:=bI ⟨BU,Ul,YD,trivial⟩ trivial
theorem N7:bf Tryz.prog 39 iZ:=by
 refine bk ab4 aM Tryz.func39 (enters_of Tryz.func39 (by kernel_rfl) rfl) (fun _=>rfl) (fun _=>rfl) ?_
 intro ⟨⟨p,q⟩,t⟩ hp;have hp:(p.sz 268435456∧q.sz 268435456)∧t.sz 268435456:=hp;obtain ⟨⟨hp,hq⟩,ht⟩:=hp;obtain ⟨x,hx⟩:∃ x,x=q.1.q - p.1.q:=⟨_,rfl⟩;obtain ⟨y,hy⟩:∃ x,x=q.2.q - p.2.q:=⟨_,rfl⟩;obtain ⟨x2,q7⟩:∃ z,z=x*t.q:=⟨_,rfl⟩;obtain ⟨y2,q8⟩:∃ z,z=y*t.q:=⟨_,rfl⟩;obtain ⟨x3,Qu⟩:∃ z,z=p.1.q+x2:=⟨_,rfl⟩;obtain ⟨y3,Qv⟩:∃ z,z=p.2.q+y2:=⟨_,rfl⟩;have bx:QB x 536870913:=by rw [hx]; exact (RV.ke hq.1 (by decide)).sub (RV.ke hp.1 (by decide))
 have Qw:QB y 536870913:=by rw [hy]; exact (RV.ke hq.2 (by decide)).sub (RV.ke hp.2 (by decide))
 have bx2:QB x2 805306369:=by rw [q7]; exact bx.mul (RV.ke ht (by decide))
 have by2:QB y2 805306369:=by rw [q8]; exact Qw.mul (RV.ke ht (by decide))
 conv=>whnf
 refine .inl ⟨6,[[],[],[],[1,2],[],[1,2,3,4],[0,1,2,3,4,5],[0,1,2,3,4,5,6]],by kernel_rfl,?_⟩
 conv=>whnf
 refine ⟨(q,p),rfl,⟨PV.aJ hq (by decide),PV.aJ hp (by decide)⟩,?_⟩
 rw [show ld.val (q,p)=PV.v (RV.of x,RV.of y) from by rw [hx,hy]; rfl]
 conv=>whnf
 refine ⟨((RV.of x,RV.of y),t),rfl,⟨⟨RV.nm (bx.mono (by decide)),RV.nm (Qw.mono (by decide))⟩,RV.aJ ht (by decide)⟩,?_⟩
 rw [show Ge.val ((RV.of x,RV.of y),t)=PV.v (RV.of x2,RV.of y2) from by
  show mK ((RV.of x).q*t.q) ((RV.of y).q*t.q)=_
  rw [RV.ij,RV.ij,← q7,← q8]; rfl]
 conv=>whnf
 refine ⟨(p,(RV.of x2,RV.of y2)),rfl,⟨PV.aJ hp (by decide),RV.nm (bx2.mono (by decide)),RV.nm (by2.mono (by decide))⟩,?_⟩
 rw [show Hi.val (p,(RV.of x2,RV.of y2))=PV.v (RV.of x3,RV.of y3) from by
  show mK (p.1.q+(RV.of x2).q) (p.2.q+(RV.of y2).q)=_
  rw [RV.ij,RV.ij,← Qu,← Qv]; rfl]
 conv=>whnf
 show PV.v (RV.of x3,RV.of y3)=mK _ _
 rw [Qu,Qv,q7,q8,hx,hy]
 rfl
open Go Go.Ae
open Go Go.Ae
open Go Go.Ae
def Emn:Env:=En [(88,.p lY),(92,.p fg),(82,.p uK)]
theorem ab5:EnvOk Tryz.prog Emn:=bI ⟨GV,N5,Nt,trivial⟩ trivial
theorem Nw:bf Tryz.prog 71 qI:=by
 refine bk ab5 aM Tryz.func71 (enters_of Tryz.func71 (by kernel_rfl) rfl) (fun _=>rfl) (fun _=>rfl) ?_
 intro ⟨⟨b,s,t⟩,⟨b',s',t'⟩⟩ hp;have hp:RV.ok (b,s,t)∧RV.ok (b',s',t'):=hp;obtain ⟨x,hx⟩:∃ x,x=RV.den (b,s,t):=⟨_,rfl⟩;obtain ⟨y,hy⟩:∃ x,x=RV.den (b',s',t'):=⟨_,rfl⟩;have f1:=RV.mA hp.1;have f2:=RV.mA hp.2;have g1:=RV.jY (b,s,t);have g2:=RV.jY (b',s',t');rw [← hx] at f1 g1;rw [← hy] at f2 g2;have hq:=abB (b,s,t) (b',s',t');obtain ⟨B1,m1,h1⟩:=EI.mk' (IV.z (b,s)*IV.z (false,y));obtain ⟨B2,m2,J⟩:=EI.mk' (IV.z (false,x)*IV.z (b',s'));have z1:=h1.gD (dB f1.1.1) (dB f2.1.2);have z2:=J.gD (dB f1.1.2) (dB f2.1.1);obtain ⟨w,hw⟩:∃ w,w=RV.q (b,s,t) / RV.q (b',s',t'):=⟨_,rfl⟩;obtain ⟨e,he⟩:∃ e:Int,e=if RV.q (b',s',t')=0 then 10 else 0:=⟨_,rfl⟩
 have hN:uK.val ((B1,m1),(B2,m2))=.tuple ⟨[(RV.of w).v,.int .i64 e]⟩:=by
  show jx (IV.z (B1,m1)) (IV.z (B2,m2))=_
  rw [h1.val,J.val,g1,g2,hw,he];exact hq
 conv=>whnf
 refine .inl ⟨6,[[],[0],[],[0,1,2],[],[],[0,1,2,3,4,5],[0,1,2,3,4,5,6]],by kernel_rfl,?_⟩
 conv=>whnf
 refine ⟨(b,s,t),rfl,by have:=hp.1.2; show t.size≤_; exact Nat.le_trans this (by decide),?_⟩
 rw [show lY.val (b,s,t)=.agg ⟨[.bool b,.string s,.bool false,.string x]⟩ from by rw [hx]; rfl]
 conv=>whnf
 refine ⟨(b',s',t'),rfl,by have:=hp.2.2; show t'.size≤_; exact Nat.le_trans this (by decide),?_⟩
 rw [show lY.val (b',s',t')=.agg ⟨[.bool b',.string s',.bool false,.string y]⟩ from by rw [hy]; rfl]
 conv=>whnf
 refine .inl ⟨13,[[],[0],[],[2],[0,1,2,3],[],[5],[],[7],[0,1,2,3,4,5,6,7,8],[0,1,2,3,4,5,6,7,8,9],[0,1,2,3,4,5,6,7,8,9,10],[0,1,2,3,4,5,6,7,8,9,10],[0,1,2,3,4,5,6,7,8,9,10,11,12],[0,1,2,3,4,5,6,7,8,9,10,11,12,13]],by kernel_rfl,?_⟩
 conv=>whnf
 refine ⟨((b,s),(false,y)),rfl,⟨Nat.le_trans f1.1.1 (by decide),Nat.le_trans f2.1.2 (by decide)⟩,?_⟩
 rw [show fg.val ((b,s),(false,y))=.agg ⟨[.bool B1,.string m1]⟩ from h1.enc]
 conv=>whnf
 refine ⟨((false,x),(b',s')),rfl,⟨Nat.le_trans f1.1.2 (by decide),Nat.le_trans f2.1.1 (by decide)⟩,?_⟩
 rw [show fg.val ((false,x),(b',s'))=.agg ⟨[.bool B2,.string m2]⟩ from J.enc]
 conv=>whnf
 refine ⟨((B1,m1),(B2,m2)),rfl,⟨by show m1.size≤_; omega,by show m2.size≤_; omega⟩,?_⟩
 rw [hN];conv=>whnf
 show Value.tuple ⟨[(RV.of w).v,.int .i64 e]⟩=Value.tuple ⟨[bK _,.int .i64 _]⟩
 rw [hw,he]
 rfl
open Go Go.Ae
def Epa:Env:=En [(85,.p ld),(84,.p qe),(34,.p cK),(37,.p jX),(38,.p gh),(36,.p jW)]
theorem ab6:EnvOk Tryz.prog Epa:=bI ⟨BU,L8,BA,Gs,ue,yC,trivial⟩ trivial
theorem Fj:bf Tryz.prog 32 mw:=by
 refine bk ab6 aM Tryz.func32 (enters_of Tryz.func32 (by kernel_rfl) rfl) (fun _=>rfl) (fun _=>rfl) ?_
 intro ⟨a,b,c⟩ hp;obtain ⟨sa,sb,sc⟩:a.sz 1048576∧b.sz 1048576∧c.sz 1048576:=hp;have pa:Q2.sz 1048576 a.p:=PV.c9 sa (by decide)
 have pb:Q2.sz 1048576 b.p:=PV.c9 sb (by decide)
 have pc:Q2.sz 1048576 c.p:=PV.c9 sc (by decide)
 obtain ⟨w,hw⟩:∃ w,w=an a.p b.p c.p:=⟨_,rfl⟩;obtain ⟨u,hu⟩:∃ u,u=cA (sQ b.p a.p):=⟨_,rfl⟩;obtain ⟨v,hv⟩:∃ v,v=cA (sQ c.p a.p):=⟨_,rfl⟩;have su:u.sz 1073741824:=by rw [hu]; exact xe (o5 pb pa) (by decide)
 have sv:v.sz 1073741824:=by rw [hv]; exact xe (o5 pc pa) (by decide)
 have sw:(RV.of w).ok:=by rw [hw]; exact Zg (yq (o5 pb pa) (o5 pc pa)) (by decide)
 conv=>whnf
 refine .inl ⟨5,[[],[],[0,1],[],[],[0,1,2,3,4],[0,1,2,3,4,5],[0,1,2,3,4,5,6],[0,1,2,3,4,5,6,7]],by kernel_rfl,?_⟩
 conv=>whnf
 refine ⟨(b,a),rfl,⟨PV.aJ sb (by decide),PV.aJ sa (by decide)⟩,?_⟩
 rw [show ld.val (b,a)=u.v from by rw [Nd,hu]]
 conv=>whnf
 refine ⟨(c,a),rfl,⟨PV.aJ sc (by decide),PV.aJ sa (by decide)⟩,?_⟩
 rw [show ld.val (c,a)=v.v from by rw [Nd,hv]]
 conv=>whnf
 refine ⟨(u,v),rfl,⟨su,sv⟩,?_⟩;rw [show qe.val (u,v)=(RV.of w).v from by rw [TX,hu,hv,ie,ie,hw]; rfl]
 conv=>whnf
 refine ⟨RV.of w,rfl,sw,?_⟩;rw [U7,RV.ij];conv=>whnf
 show Value.int .i64 _=Value.int .i64 _
 rw [hw]
set_option maxHeartbeats 4000000
open Go Go.Ae
def Ji:Env:=tx [(80,.p kj),(74,.p pj),(32,.p mw),(85,.p ld),(84,.p qe)]
theorem qK:EnvOk Tryz.prog Ji:=vg ⟨L9,Nv,Fj,BU,L8,trivial⟩ trivial
theorem YE:bf Tryz.prog 108 CG:=by
 refine bk qK aM Tryz.func108 (enters_of Tryz.func108 (by kernel_rfl) rfl) (fun _=>rfl) (fun _=>rfl) ?_
 intro (p:PV) hp;have sp:p.sz 2048:=hp;conv=>whnf
 refine ⟨p,rfl,PV.aJ sp (by decide),?_⟩
 by_cases h:p.canon
 ·rw [show kj.val p=.int .i64 0 from congrArg (Value.int .i64) (if_pos h)]
  conv=>whnf
  show Value.bool false=.bool (decide (¬ p.canon))
  rw [decide_eq_false (fun e=>e h)]
 ·rw [show kj.val p=.int .i64 1 from congrArg (Value.int .i64) (if_neg h)]
  conv=>whnf
  show Value.bool true=.bool (decide (¬ p.canon))
  rw [decide_eq_true h]
theorem YF:dc Tryz.prog 75 sH:=by
 refine eg qK aM Tryz.func75 (enters_of Tryz.func75 (by kernel_rfl) rfl) ?_ ?_ ?_
 ·intro i b hb; simp [sH] at hb; rcases hb with rfl | rfl <;> rfl
 ·intro i b hb; simp [sH] at hb
 intro ⟨a,b,p⟩ hp;have hp:a.sz 2048∧b.sz 2048∧p.sz 2048:=hp;obtain ⟨sa,sb,sp⟩:=hp;have qa:=PV.c9 sa (by decide)
 have qb:=PV.c9 sb (by decide)
 have qp:=PV.c9 sp (by decide)
 have fin:∀ z:Bool,z=sT a b p→∃ v',cQ (List.range 2) 3 (sH.val (a,b,p))=some v'∧eZ (.bool z) v':=fun z h=>⟨.bool z,by rw [h]; rfl,.refl _⟩
 conv=>whnf
 refine ⟨by decide,?_⟩
 conv=>whnf
 rw [C2 p a];by_cases h1:p=a
 ·rw [decide_eq_true h1];conv=>whnf
  exact fin false (decide_eq_false fun e=>e.1 h1).symm
 rw [decide_eq_false h1];conv=>whnf
 refine ⟨by decide,?_⟩
 conv=>whnf
 rw [C2 p b];by_cases J:p=b
 ·rw [decide_eq_true J];conv=>whnf
  exact fin false (decide_eq_false fun e=>e.2.1 J).symm
 rw [decide_eq_false J];conv=>whnf
 refine ⟨by decide,?_⟩
 conv=>whnf
 refine ⟨by decide,?_⟩
 conv=>whnf
 obtain ⟨z,ez,pz⟩:=dJ (aN (an a.p b.p p.p) 0);refine ⟨(a,b,p),rfl,⟨PV.aJ sa (by decide),PV.aJ sb (by decide),PV.aJ sp (by decide)⟩,?_⟩
 rw [show mw.val (a,b,p)=.int .i64 z from ez]
 conv=>whnf
 refine fin _ ?_;unfold sT;rw [← pz];by_cases h3:z≤0
 ·rw [decide_eq_true h3,decide_eq_true ⟨h1,J,h3⟩]; rfl
 ·rw [decide_eq_false h3,decide_eq_false fun e=>h3 e.2.2]; rfl
theorem Ma:bf Tryz.prog 70 qh:=by
 refine bk qK aM Tryz.func70 (enters_of Tryz.func70 (by kernel_rfl) rfl) (fun _=>rfl) (fun _=>rfl) ?_
 intro ⟨a,b,p⟩ hp;have hp:a.sz 1048576∧b.sz 1048576∧p.sz 1048576:=hp;obtain ⟨sa,sb,sp⟩:=hp;have qa:=PV.c9 sa (by decide)
 have qb:=PV.c9 sb (by decide)
 have qp:=PV.c9 sp (by decide)
 conv=>whnf
 refine .inl ⟨5,[[],[],[0,1],[],[],[0,1,2,3,4],[0,1,2,3,4,5],[0,1,2,3,4,5,6]],by kernel_rfl,?_⟩
 conv=>whnf
 obtain ⟨u,eu,pu,su,qu⟩:=sG (o5 qb qa);refine ⟨(b,a),rfl,⟨PV.aJ sb (by decide),PV.aJ sa (by decide)⟩,?_⟩
 rw [show ld.val (b,a)=u.v from eu]
 conv=>whnf
 obtain ⟨v,ev,pv,sv,qv⟩:=sG (o5 qp qa);refine ⟨(p,a),rfl,⟨PV.aJ sp (by decide),PV.aJ sa (by decide)⟩,?_⟩
 rw [show ld.val (p,a)=v.v from ev]
 conv=>whnf
 obtain ⟨w,ew,pw,sw,qw⟩:=fm (yq qu qv);refine ⟨(u,v),rfl,⟨PV.aJ su (by decide),PV.aJ sv (by decide)⟩,?_⟩
 rw [show qe.val (u,v)=w.v from ew]
 conv=>whnf
 show w.v=(RV.of (an a.p b.p p.p)).v
 rw [(RV.lZ ew).symm,pu,pv]
 rfl
open Go Go.Ae
theorem Um:gi Tryz.prog 73 (ck Ji cL Tryz.f73):=by
 exact js qK aM Tryz.func73 (enters_of Tryz.func73 (by kernel_rfl) rfl)
def Jj:Env:=En [(108,.p CG),(75,.q sH)] [(73,ck Ji cL Tryz.f73)]
theorem ab7:EnvOk Tryz.prog Jj:=bI ⟨YE,YF,trivial⟩ ⟨Um,trivial⟩
theorem Un:gi Tryz.prog 106 (ck Jj cL Tryz.f106):=by
 exact js ab7 aM Tryz.func106 (enters_of Tryz.func106 (by kernel_rfl) rfl)
def DJ:Env:=En [] [(106,ck Jj cL Tryz.f106)]
theorem ab8:EnvOk Tryz.prog DJ:=bI trivial ⟨Un,trivial⟩
theorem Kb:gi Tryz.prog 49 (ck DJ cL Tryz.f49):=by
 exact js ab8 aM Tryz.func49 (enters_of Tryz.func49 (by kernel_rfl) rfl)
def Ev4:Env:=En [] [(49,ck DJ cL Tryz.f49)]
theorem ab9:EnvOk Tryz.prog Ev4:=bI trivial ⟨Kb,trivial⟩
theorem D4:dc Tryz.prog 56 eE:=by
 refine eg ab9 aM Tryz.func56 (enters_of Tryz.func56 (by kernel_rfl) rfl) ?_ ?_ ?_
 ·intro i b hb;cases i with
  | none=>simp [eE,PL.aj] at hb
  | some i=>simp [eE,PL.aj] at hb; rw [hb]; rfl
 ·intro i b hb; simp [eE] at hb
 intro i hp;have hp:i.list.length≤1099511627776∧∀ v∈i.list,v.sz 2048:=hp;obtain ⟨hlen,aU⟩:=hp;cases i with
 | none =>
  conv=>whnf
  refine .inr ⟨1,?_⟩;conv=>whnf
  exact ⟨.bool true,rfl,.refl _⟩
 | some i =>
  obtain ⟨L,c⟩:=i;have hlen:L.length≤1099511627776:=hlen;have aU:∀ v∈L,PV.sz 2048 v:=aU;obtain ⟨n,hn⟩:∃ n,n=L.length:=⟨_,rfl⟩;obtain ⟨g,hg⟩:∃ g,g=dq L:=⟨_,rfl⟩;have fin:∀ z:Bool,z=!dH L→∃ v',cQ (List.range 1) 3 (eE.val (some (L,c)))=some v'∧eZ (.bool z) v':=fun z h=>⟨.bool z,by rw [h]; rfl,.refl _⟩
  rw [show eE.aj (some (L,c))=[.flat false n 6 g] from by rw [hn,hg]; rfl,show eE.args (some (L,c))=[.slice (some ⟨0,0,none⟩) n c] from by rw [hn]; rfl]
  rw [← hn] at hlen;conv=>whnf
  refine .inl ⟨fun mm tz hz=>∃ (i:Nat),bA (some (.slice (some ⟨0,0,none⟩) n c)::some (.func (.func 108) #[] #[])::aB 5 (some (.int .i64 n)::some (.int .i64 i)::aB 10 [])) tz∧hz=[some (.flat false n 6 g)]∧n - i=mm∧(i≤n∧uL L i),.inr ⟨[0],[0,1,7,8],?_⟩,?_⟩
  ·conv=>whnf
   intro _;conv=>whnf
   refine ⟨_,0,(.aa (.aa (.sk 5 (.aa (.aa (.sk 10 .nil rfl))) rfl))),rfl,rfl,?_⟩;exact ⟨Nat.zero_le _,Ku _⟩
  rintro mm aS _ ⟨i,au,rfl,rfl,⟨hi,hU⟩⟩
  obtain ⟨az,rfl⟩:∃ az:Nat→Value,aS=.slice (some ⟨0,0,none⟩) n c::.func (.func 108) #[] #[]::zs az 2 5 (.int .i64 n::.int .i64 i::zs az 9 10 []):=bJ au;clear au;conv=>whnf
  refine aI (fun h3=>?_) (fun h3=>?_)
  ·have h3:i < n:=by
    have:=of_decide_eq_true h3;omega
   have e7:IntKind.i64.wrap ((i:Int)+1)=((i+1:Nat):Int):=by rw [ar (by omega) (by omega)]; rfl
   obtain ⟨m,lH,mR,aX⟩:=rO (l:=L) (i:=i) (by omega)
   rw [← hg] at aX;conv=>whnf
   refine ⟨⟨by omega,by omega⟩,?_⟩
   simp only [toNat_cast,ax,Nat.zero_add];conv=>whnf
   refine ⟨by show i < n; omega,?_⟩
   conv=>whnf
   rw [aX];conv=>whnf
   refine ⟨m,rfl,aU m mR,?_⟩;by_cases h4:m.canon
   ·rw [show CG.val m=.bool false from congrArg Value.bool (decide_eq_false fun e=>e h4)]
    conv=>whnf
    rw [e7];refine .inr ⟨[0],[0,1,7,8],?_⟩;conv=>whnf
    intro _;conv=>whnf
    refine ⟨_,?_,i+1,(.aa (.aa (.sk 5 (.aa (.aa (.sk 10 .nil rfl))) rfl))),rfl,rfl,?_⟩
    ·omega
    ·exact ⟨by omega,K7 hU lH h4⟩
   ·rw [show CG.val m=.bool true from congrArg Value.bool (decide_eq_true h4)]
    conv=>whnf
    rw [show decide ((i:Int) ≥ 0)=true from decide_eq_true (by omega)]
    conv=>whnf
    exact fin false (by rw [show dH L=true from List.any_eq_true.2 ⟨m,mR,decide_eq_true h4⟩]; rfl)
  ·have h3:i=n:=by
    have:=of_decide_eq_false h3;omega
   subst h3;conv=>whnf
   exact fin true (by rw [LP (by rw [← hn]; exact hU)]; rfl)
end Go.Proofs.YtlapbjdhekcipaaGreat
