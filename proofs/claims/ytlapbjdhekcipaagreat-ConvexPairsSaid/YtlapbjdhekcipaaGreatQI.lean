import Derived.Test.YtlapbjdhekcipaaGreatQH
set_option linter.unusedVariables false
set_option linter.unusedSimpArgs false
/- Contracts of rational: ratios of machine integers. -/
set_option maxRecDepth 20000
set_option maxHeartbeats 1000000
namespace Go.Proofs.YtlapbjdhekcipaaGreat
open Go Go.Ae
def Emc:Env:=En [(140,.p rK),(188,.p rK)]
theorem N0:EnvOk Tryz.prog Emc:=bL ⟨XU,Sr,trivial⟩ trivial
theorem Ve:bm Tryz.prog 95 nr:=by
 refine bt N0 aO Tryz.func95 (enters_of Tryz.func95 (by kernel_rfl) rfl) (fun _=>rfl) (fun _=>rfl) ?_
 intro ⟨n,d⟩ hp
 have hp:n.natAbs < 72057594037927936∧d≠0∧d < 72057594037927936:=hp
 obtain ⟨g,hg⟩:∃ g,g=Int.gcd n d:=⟨_,rfl⟩
 obtain ⟨gj,bV,ni⟩:=Ag hp.2.1 hg
 have hgd:g≤d:=by
  have h3:=Nat.div_le_self d g
  rcases Nat.lt_or_ge d g with h | h
  ·rw [Nat.div_eq_of_lt h] at bV; omega
  ·exact h
 have fin:∀ v:Value,v=bM (mkRat n d)→v=nr.val (n,d):=fun v h=>h
 conv=>whnf
 refine .inl ⟨fun mm tz hz=>∃ (a:Int) (b:Int),bE (some (.int .i64 n)::some (.int .i64 d)::aD 2 (some (.pointer (some ⟨0,0,none⟩))::some (.int .i64 a)::some (.int .i64 b)::aD 36 [])) tz∧hz=[some (.aQ true 3 [[.bool false,.string ⟨#[]⟩,.string ⟨#[]⟩]])]∧b.natAbs=mm∧(((-72057594037927936 < a∧a < 72057594037927936)∧-72057594037927936 < b∧b < 72057594037927936)∧Int.gcd a b=g),.inr ⟨[0],[0,1,4,5,6],?_⟩,?_⟩
 ·conv=>whnf
  intro _
  conv=>whnf
  refine ⟨_,n,d,(.aa (.aa (.sk 2 (.aa (.aa (.aa (.sk 36 .nil rfl)))) rfl))),rfl,rfl,?_⟩
  exact ⟨⟨⟨by omega,by omega⟩,by omega,by omega⟩,hg.symm⟩
 rintro mm aT _ ⟨a,b,ar,rfl,rfl,⟨eH,he⟩⟩
 obtain ⟨az,rfl⟩:∃ az:Nat→Value,aT=.int .i64 n::.int .i64 d::zs az 2 2 (.pointer (some ⟨0,0,none⟩)::.int .i64 a::.int .i64 b::zs az 7 36 []):=bK ar
 clear ar
 conv=>whnf
 refine aL (fun h1=>?_) (fun h1=>?_)
 ·have h1:b≠0:=by
   intro e
   subst e
   simp at h1
  have ak:(Int.tmod a b).natAbs < b.natAbs:=by
   rw [Int.natAbs_tmod]; exact Nat.mod_lt _ (by omega)
  obtain ⟨r,hr⟩:∃ r,r=Int.tmod a b:=⟨_,rfl⟩
  rw [← hr] at ak
  conv=>whnf
  refine .inl ⟨5,[[],[],[],[1,2],[0,1],[0,1,2,3,4]],by kernel_rfl,?_⟩
  conv=>whnf
  rw [show decide (b≠0)=true from decide_eq_true h1]
  conv=>whnf
  rw [← hr]
  refine .inr ⟨[0],[0,1,4,5,6],?_⟩
  conv=>whnf
  intro _
  conv=>whnf
  refine ⟨_,?_,b,r,(.aa (.aa (.sk 2 (.aa (.aa (.aa (.sk 36 .nil rfl)))) rfl))),rfl,rfl,?_⟩
  ·exact ak
  ·exact ⟨⟨eH.2,by omega,by omega⟩,by rw [hr,Us]; exact he⟩
 ·have h1:b=0:=by simpa using h1
  subst h1
  have he:a.natAbs=g:=by rw [← he,Int.gcd_zero_right]
  have em:=MG a eH.1
  rw [he] at em
  have en:=MG n (by omega)
  obtain ⟨N,hN⟩:∃ N,N=n.natAbs:=⟨_,rfl⟩
  rw [← hN] at en
  conv=>whnf
  rw [em]
  by_cases J:n=0
  ·subst J
   conv=>whnf
   exact fin _ (xL d).symm
  ·refine aL (fun h=>absurd (by simpa using h) J) (fun _=>?_)
   have eq:=FF J hp.2.1 hg
   rw [← hN] at eq
   have ed:=AN (a:=N) (g:=g) (by omega)
   have kv:=AN (a:=d) (g:=g) hp.2.2
   obtain ⟨x,hx⟩:∃ x,x=nb (N / g):=⟨_,rfl⟩
   obtain ⟨y,hy⟩:∃ y,y=nb (d / g):=⟨_,rfl⟩
   have ex:rK.val (N / g)=.string x:=by rw [hx]; rfl
   have ey:rK.val (d / g)=.string y:=by rw [hy]; rfl
   rw [← hx] at eq
   conv=>whnf
   rw [en,show decide (((g:Nat):Int)≠0)=true from decide_eq_true (by omega)]
   conv=>whnf
   rw [ed]
   refine ⟨N / g,rfl,by show N / g < _; exact Nat.lt_of_le_of_lt (Nat.div_le_self _ _) (by omega),?_⟩
   rw [ex]
   conv=>whnf
   refine aL (fun h3=>?_) (fun h3=>?_)
   ·have h3:d≠g:=by
     intro e
     rw [e] at h3
     simp at h3
    have e4:fK (d / g)=y:=by
     rw [hy]; unfold fK; rw [if_neg (fun h=>h3 (gj.1 h))]
    rw [e4] at eq
    conv=>whnf
    rw [show decide (((g:Nat):Int)≠0)=true from decide_eq_true (by omega)]
    conv=>whnf
    rw [kv]
    refine ⟨d / g,rfl,by show d / g < _; exact Nat.lt_of_le_of_lt (Nat.div_le_self _ _) hp.2.2,?_⟩
    rw [ey]
    conv=>whnf
    exact fin _ eq.symm
   ·have h3:d=g:=by
     have:((d:Nat):Int)=g:=by simpa using h3
     omega
    have e4:fK (d / g)=⟨#[]⟩:=by unfold fK; rw [if_pos (gj.2 h3)]
    rw [e4] at eq
    conv=>whnf
    exact fin _ eq.symm
theorem Vf:bm Tryz.prog 172 nr:=by
 refine bt N0 aO Tryz.func172 (enters_of Tryz.func172 (by kernel_rfl) rfl) (fun _=>rfl) (fun _=>rfl) ?_
 intro ⟨n,d⟩ hp
 have hp:n.natAbs < 72057594037927936∧d≠0∧d < 72057594037927936:=hp
 obtain ⟨g,hg⟩:∃ g,g=Int.gcd n d:=⟨_,rfl⟩
 obtain ⟨gj,bV,ni⟩:=Ag hp.2.1 hg
 have fin:∀ v:Value,v=bM (mkRat n d)→v=nr.val (n,d):=fun v h=>h
 obtain ⟨N,hN⟩:∃ N,N=n.natAbs:=⟨_,rfl⟩
 obtain ⟨B,hB⟩:∃ B,B=decide (n < 0):=⟨_,rfl⟩
 have ed:=AN (a:=N) (g:=g) (by omega)
 have kv:=AN (a:=d) (g:=g) hp.2.2
 obtain ⟨x,hx⟩:∃ x,x=nb (N / g):=⟨_,rfl⟩
 obtain ⟨y,hy⟩:∃ y,y=nb (d / g):=⟨_,rfl⟩
 have ex:rK.val (N / g)=.string x:=by rw [hx]; rfl
 have ey:rK.val (d / g)=.string y:=by rw [hy]; rfl
 conv=>whnf
 refine aL (fun h1=>?_) (fun h1=>?_)
 ·have fh:=of_decide_eq_true h1
  have fh:n < 0:=fh
  have e0:IntKind.i64.wrap (0 - n)=(N:Int):=by rw [au (by omega) (by omega)]; omega
  have J:n≠0:=by omega
  have eq:=FF J hp.2.1 hg
  rw [← hN,← hx,← hB] at eq
  conv=>whnf
  rw [show decide ((n,d).fst < 0)=B from hB.symm]
  rw [show IntKind.i64.wrap (0 - (n,d).fst)=(N:Int) from e0]
  refine aL (fun h=>absurd (by simpa using h) (show N≠0 by omega)) (fun _=>?_)
  conv=>whnf
  refine .inl ⟨fun mm tz hz=>∃ (a:Nat) (b:Nat),bE (some (.int .i64 N)::some (.int .i64 d)::aD 2 (some (.pointer (some ⟨0,0,none⟩))::some (.pointer (some ⟨1,0,none⟩))::some (.int .i64 a)::some (.int .i64 b)::aD 33 [])) tz∧hz=[some (.aQ true 3 [[.bool false,.string ⟨#[]⟩,.string ⟨#[]⟩]]),some (.aQ true 3 [[.bool B,.string ⟨#[]⟩,.string ⟨#[]⟩]])]∧b=mm∧((a < 72057594037927936∧b < 72057594037927936)∧Nat.gcd a b=g),.inr ⟨[0,1],[0,1,4,5,6,7],?_⟩,?_⟩
  ·conv=>whnf
   intro _
   conv=>whnf
   refine ⟨_,N,d,(.aa (.aa (.sk 2 (.aa (.aa (.aa (.aa (.sk 33 .nil rfl))))) rfl))),rfl,rfl,?_⟩
   exact ⟨⟨by omega,by omega⟩,by rw [hg,hN]; rfl⟩
  rintro mm aT _ ⟨a,b,ar,rfl,rfl,⟨eH,he⟩⟩
  obtain ⟨az,rfl⟩:∃ az:Nat→Value,aT=.int .i64 N::.int .i64 d::zs az 2 2 (.pointer (some ⟨0,0,none⟩)::.pointer (some ⟨1,0,none⟩)::.int .i64 a::.int .i64 b::zs az 8 33 []):=bK ar
  clear ar
  conv=>whnf
  refine aL (fun h1=>?_) (fun h1=>?_)
  ·have h1:0 < b:=by
    have:=of_decide_eq_true h1
    omega
   have ak:=Nat.mod_lt a h1
   conv=>whnf
   refine .inl ⟨5,[[],[],[],[1,2],[0,1],[0,1,2,3,4]],by kernel_rfl,?_⟩
   conv=>whnf
   rw [show decide (((b:Nat):Int)≠0)=true from decide_eq_true (by omega)]
   conv=>whnf
   rw [show Int.tmod ((a:Nat):Int) ((b:Nat):Int)=((a % b:Nat):Int) from rfl]
   refine .inr ⟨[0,1],[0,1,4,5,6,7],?_⟩
   conv=>whnf
   intro _
   conv=>whnf
   refine ⟨_,?_,b,a % b,(.aa (.aa (.sk 2 (.aa (.aa (.aa (.aa (.sk 33 .nil rfl))))) rfl))),rfl,rfl,?_⟩
   ·exact ak
   ·exact ⟨⟨eH.2,by omega⟩,by rw [Nat.gcd_comm,← Nat.gcd_rec,Nat.gcd_comm]; exact he⟩
  ·have h1:b=0:=by
    have:=of_decide_eq_false h1
    omega
   subst h1
   obtain rfl:a=g:=by rw [← he,Nat.gcd_zero_right]
   conv=>whnf
   rw [show decide (((a:Nat):Int)≠0)=true from decide_eq_true (by omega)]
   conv=>whnf
   rw [ed]
   refine ⟨N / a,rfl,by show N / a < _; exact Nat.lt_of_le_of_lt (Nat.div_le_self _ _) (by omega),?_⟩
   rw [ex]
   conv=>whnf
   rw [show decide (((a:Nat):Int)≠0)=true from decide_eq_true (by omega)]
   obtain ⟨q,hq⟩:∃ q,q=d / a:=⟨_,rfl⟩
   rw [← hq] at kv ey eq gj bV hy
   conv=>whnf
   rw [kv]
   refine aL (fun h3=>?_) (fun h3=>?_)
   ·have h3:q≠1:=by
     have:=of_decide_eq_true h3
     omega
    have e4:fK q=y:=by
     rw [hy]; unfold fK; rw [if_neg h3]
    rw [e4] at eq
    conv=>whnf
    rw [show decide (((a:Nat):Int)≠0)=true from decide_eq_true (by omega)]
    conv=>whnf
    rw [kv]
    refine ⟨q,rfl,by show q < _; rw [hq]; exact Nat.lt_of_le_of_lt (Nat.div_le_self _ _) hp.2.2,?_⟩
    rw [ey]
    conv=>whnf
    exact fin _ eq.symm
   ·have h3:q=1:=by
     have:=of_decide_eq_false h3
     omega
    have e4:fK q=⟨#[]⟩:=by unfold fK; rw [if_pos h3]
    rw [e4] at eq
    conv=>whnf
    exact fin _ eq.symm
 ·have fh:=of_decide_eq_false h1
  have fh:¬ n < 0:=fh
  have e0:n=(N:Int):=by omega
  by_cases J:n=0
  ·subst J
   conv=>whnf
   exact fin _ (xL d).symm
  ·have eq:=FF J hp.2.1 hg
   rw [← hN,← hx,← hB] at eq
   conv=>whnf
   rw [show decide ((n,d).fst < 0)=B from hB.symm]
   refine aL (fun h=>absurd (by simpa using h) J) (fun _=>?_)
   conv=>whnf
   rw [show (n,d).fst=(N:Int) from e0]
   refine .inl ⟨fun mm tz hz=>∃ (a:Nat) (b:Nat),bE (some (.int .i64 N)::some (.int .i64 d)::aD 2 (some (.pointer (some ⟨0,0,none⟩))::some (.pointer (some ⟨1,0,none⟩))::some (.int .i64 a)::some (.int .i64 b)::aD 33 [])) tz∧hz=[some (.aQ true 3 [[.bool false,.string ⟨#[]⟩,.string ⟨#[]⟩]]),some (.aQ true 3 [[.bool B,.string ⟨#[]⟩,.string ⟨#[]⟩]])]∧b=mm∧((a < 72057594037927936∧b < 72057594037927936)∧Nat.gcd a b=g),.inr ⟨[0,1],[0,1,4,5,6,7],?_⟩,?_⟩
   ·conv=>whnf
    intro _
    conv=>whnf
    refine ⟨_,N,d,(.aa (.aa (.sk 2 (.aa (.aa (.aa (.aa (.sk 33 .nil rfl))))) rfl))),rfl,rfl,?_⟩
    exact ⟨⟨by omega,by omega⟩,by rw [hg,hN]; rfl⟩
   rintro mm aT _ ⟨a,b,ar,rfl,rfl,⟨eH,he⟩⟩
   obtain ⟨az,rfl⟩:∃ az:Nat→Value,aT=.int .i64 N::.int .i64 d::zs az 2 2 (.pointer (some ⟨0,0,none⟩)::.pointer (some ⟨1,0,none⟩)::.int .i64 a::.int .i64 b::zs az 8 33 []):=bK ar
   clear ar
   conv=>whnf
   refine aL (fun h1=>?_) (fun h1=>?_)
   ·have h1:0 < b:=by
     have:=of_decide_eq_true h1
     omega
    have ak:=Nat.mod_lt a h1
    conv=>whnf
    refine .inl ⟨5,[[],[],[],[1,2],[0,1],[0,1,2,3,4]],by kernel_rfl,?_⟩
    conv=>whnf
    rw [show decide (((b:Nat):Int)≠0)=true from decide_eq_true (by omega)]
    conv=>whnf
    rw [show Int.tmod ((a:Nat):Int) ((b:Nat):Int)=((a % b:Nat):Int) from rfl]
    refine .inr ⟨[0,1],[0,1,4,5,6,7],?_⟩
    conv=>whnf
    intro _
    conv=>whnf
    refine ⟨_,?_,b,a % b,(.aa (.aa (.sk 2 (.aa (.aa (.aa (.aa (.sk 33 .nil rfl))))) rfl))),rfl,rfl,?_⟩
    ·exact ak
    ·exact ⟨⟨eH.2,by omega⟩,by rw [Nat.gcd_comm,← Nat.gcd_rec,Nat.gcd_comm]; exact he⟩
   ·have h1:b=0:=by
     have:=of_decide_eq_false h1
     omega
    subst h1
    obtain rfl:a=g:=by rw [← he,Nat.gcd_zero_right]
    conv=>whnf
    rw [show decide (((a:Nat):Int)≠0)=true from decide_eq_true (by omega)]
    conv=>whnf
    rw [ed]
    refine ⟨N / a,rfl,by show N / a < _; exact Nat.lt_of_le_of_lt (Nat.div_le_self _ _) (by omega),?_⟩
    rw [ex]
    conv=>whnf
    rw [show decide (((a:Nat):Int)≠0)=true from decide_eq_true (by omega)]
    obtain ⟨q,hq⟩:∃ q,q=d / a:=⟨_,rfl⟩
    rw [← hq] at kv ey eq gj bV hy
    conv=>whnf
    rw [kv]
    refine aL (fun h3=>?_) (fun h3=>?_)
    ·have h3:q≠1:=by
      have:=of_decide_eq_true h3
      omega
     have e4:fK q=y:=by
      rw [hy]; unfold fK; rw [if_neg h3]
     rw [e4] at eq
     conv=>whnf
     rw [show decide (((a:Nat):Int)≠0)=true from decide_eq_true (by omega)]
     conv=>whnf
     rw [kv]
     refine ⟨q,rfl,by show q < _; rw [hq]; exact Nat.lt_of_le_of_lt (Nat.div_le_self _ _) hp.2.2,?_⟩
     rw [ey]
     conv=>whnf
     exact fin _ eq.symm
    ·have h3:q=1:=by
      have:=of_decide_eq_false h3
      omega
     have e4:fK q=⟨#[]⟩:=by unfold fK; rw [if_pos h3]
     rw [e4] at eq
     conv=>whnf
     exact fin _ eq.symm
end Go.Proofs.YtlapbjdhekcipaaGreat
/- Contracts of rational: fractions in lowest terms. -/
set_option maxRecDepth 20000
set_option maxHeartbeats 1000000
namespace Go.Proofs.YtlapbjdhekcipaaGreat
open Go Go.Ae
def Emd:Env:=En [(83,.p eZ),(87,.p lE)]
theorem abk:EnvOk Tryz.prog Emd:=bL ⟨rJ,Gm,trivial⟩ trivial
theorem N1:bm Tryz.prog 132 gY:=by
 refine bt abk aO Tryz.func132 (enters_of Tryz.func132 (by kernel_rfl) rfl) (fun _=>rfl) (fun _=>rfl) ?_
 intro ⟨⟨b,s⟩,n⟩ hp
 have hp:s.size≤549755813888∧-9223372036854775808≤n∧n < 9223372036854775808:=hp
 obtain ⟨V,m,hV⟩:=EI.mk' n
 have hm:m.size≤549755813888:=by
  rw [hV.size]
  have:=tw hp.2
  omega
 obtain ⟨q,hq⟩:∃ q,q=dP (IV.z (b,s)) n:=⟨_,rfl⟩
 conv=>whnf
 refine .inl ⟨3,[[],[],[1],[0,1,2],[0,1,2,3],[0,1,2,3,4]],by kernel_rfl,?_⟩
 conv=>whnf
 refine ⟨n,rfl,⟨by omega,by omega⟩,?_⟩
 rw [show eZ.val n=.agg ⟨[.bool V,.string m]⟩ from hV.enc]
 conv=>whnf
 refine ⟨((b,s),(V,m)),rfl,⟨hp.1,hm⟩,?_⟩
 rw [show lE.val ((b,s),(V,m))=.int .i64 q from by show Value.int .i64 (dP (IV.z (b,s)) (IV.z (V,m)))=_; rw [hV.val,hq]]
 conv=>whnf
 show Value.bool (q == 0)=Value.bool (decide (IV.z (b,s)=n))
 congr 1
 rw [hq]
 unfold dP
 split
 ·rw [decide_eq_false (by omega)]; rfl
 ·split
  ·rw [decide_eq_false (by omega)]; rfl
  ·rw [decide_eq_true (by omega)]; rfl
theorem Ss:bm Tryz.prog 137 LS:=by
 refine bt lJ aO Tryz.func137 (enters_of Tryz.func137 (by kernel_rfl) rfl) (fun _=>rfl) (fun _=>rfl) ?_
 intro ⟨b,s⟩ _
 conv=>whnf
 rfl
def Eme:Env:=En [(83,.p eZ),(132,.p gY),(137,.p LS)]
theorem abl:EnvOk Tryz.prog Eme:=bL ⟨rJ,N1,Ss,trivial⟩ trivial
theorem Gn:bm Tryz.prog 88 lF:=by
 refine bt abl aO Tryz.func88 (enters_of Tryz.func88 (by kernel_rfl) rfl) (fun _=>rfl) (fun _=>rfl) ?_
 intro ⟨b,s,t⟩ hp
 have hp:t.size≤549755813888:=hp
 conv=>whnf
 refine .inl ⟨10,[[],[0],[],[2],[0,1,2,3],[],[5],[0,1,2,3,4,5,6],[0,1,2,3,4,5,6,7],[],[0,1,2,3,4,5,6,7,8,9]],by kernel_rfl,?_⟩
 conv=>whnf
 refine ⟨(b,s),rfl,trivial,?_⟩
 conv=>whnf
 refine ⟨(false,t),rfl,trivial,?_⟩
 conv=>whnf
 refine ⟨((false,t),0),rfl,⟨hp,r0⟩,?_⟩
 by_cases h:ab t=0
 ·rw [show gY.val ((false,t),0)=.bool true from by
   show Value.bool (decide (((ab t:Nat):Int)=0))=_
   rw [h]; rfl]
  obtain ⟨v,hv⟩:∃ v,v=nb 1:=⟨_,rfl⟩
  conv=>whnf
  refine ⟨(1:Int),rfl,r1,?_⟩
  rw [show eZ.val (1:Int)=.agg ⟨[.bool false,.string v]⟩ from by rw [hv]; rfl]
  conv=>whnf
  show Value.agg ⟨[.bool b,.string s,.bool false,.string v]⟩=wJ (b,s) (false,RV.den (b,s,t))
  unfold RV.den
  rw [if_pos h,← hv]
  rfl
 ·rw [show gY.val ((false,t),0)=.bool false from by
   show Value.bool (decide (((ab t:Nat):Int)=0))=_
   rw [decide_eq_false (by omega)]]
  conv=>whnf
  show Value.agg ⟨[.bool b,.string s,.bool false,.string t]⟩=wJ (b,s) (false,RV.den (b,s,t))
  unfold RV.den
  rw [if_neg h]
  rfl
def Emf:Env:=En [(132,.p gY),(133,.p um),(134,.p iH)]
theorem abm:EnvOk Tryz.prog Emf:=bL ⟨N1,aad,aae,trivial⟩ trivial
theorem Lu:bm Tryz.prog 86 oh:=by
 refine bt abm aO Tryz.func86 (enters_of Tryz.func86 (by kernel_rfl) rfl) (fun _=>rfl) (fun _=>rfl) ?_
 intro ⟨⟨b,s⟩,⟨c,t⟩⟩ hp
 have hp:s.size≤549755813888∧t.size≤549755813888∧0 < IV.z (c,t):=hp
 obtain ⟨x,hx⟩:∃ x,x=IV.z (b,s):=⟨_,rfl⟩
 obtain ⟨d,hd⟩:∃ d,d=(IV.z (c,t)).natAbs:=⟨_,rfl⟩
 have bV:IV.z (c,t)=((d:Nat):Int):=by omega
 have fF:d≠0:=by omega
 obtain ⟨q,hq⟩:∃ q,q=mkRat x d:=⟨_,rfl⟩
 have fin:∀ v:Value,v=bM q→v=oh.val ((b,s),(c,t)):=fun v h=>by rw [h,hq,hx,hd]; rfl
 conv=>whnf
 refine ⟨((b,s),0),rfl,⟨hp.1,r0⟩,?_⟩
 rw [show gY.val ((b,s),0)=.bool (decide (x=0)) from by rw [hx]; rfl]
 by_cases h1:x=0
 ·rw [decide_eq_true h1]
  conv=>whnf
  exact fin _ (by rw [hq,h1]; exact (xL d).symm)
 ·rw [decide_eq_false h1]
  obtain ⟨g,hg⟩:∃ g,g=Int.gcd x d:=⟨_,rfl⟩
  obtain ⟨gs,qL⟩:=EI.iS (show 0≤((g:Nat):Int) by omega)
  obtain ⟨qb,qs,hn⟩:=EI.mk' q.num
  obtain ⟨es,he⟩:=EI.iS (show 0≤((q.den:Nat):Int) by omega)
  have ni:((g:Nat):Int)≠0:=by
   have:0 < g:=by rw [hg]; exact Int.gcd_pos_of_ne_zero_left _ h1
   omega
  have HG:g≤d:=by
   have h3:=(Ag fF hg).2.1
   rcases Nat.lt_or_ge d g with h | h
   ·rw [Nat.div_eq_of_lt h] at h3; omega
   ·exact h
  have eO:aR d≤549755813888:=by rw [hd]; exact IV.aR (i:=(c,t)) hp.2.1
  have zU:gs.size≤549755813888:=by
   rw [qL.size,Int.natAbs_natCast]
   exact Nat.le_trans (iO HG) eO
  have ah:es.size≤549755813888:=by
   rw [he.size,Int.natAbs_natCast]
   exact Nat.le_trans (iO (by rw [hq]; exact Nl x fF)) eO
  have IN:x.fdiv ((g:Nat):Int)=q.num:=by rw [hg,hq]; exact Gb x fF
  have qI:((d:Nat):Int).fdiv ((g:Nat):Int)=((q.den:Nat):Int):=by rw [hg,hq]; exact Gc x fF
  conv=>whnf
  refine ⟨((b,s),(c,t)),rfl,⟨hp.1,hp.2.1⟩,?_⟩
  rw [show um.val ((b,s),(c,t))=.agg ⟨[.bool false,.string gs]⟩ from by
   show aF ((Int.gcd (IV.z (b,s)) (IV.z (c,t)):Nat):Int)=_
   rw [← hx,bV,← hg,qL.enc]]
  conv=>whnf
  obtain ⟨fb,fs,hf⟩:=EI.mk' (x.fmod ((g:Nat):Int))
  refine ⟨((b,s),(false,gs)),rfl,⟨hp.1,zU⟩,?_⟩
  rw [show iH.val ((b,s),(false,gs))=.tuple ⟨[.agg ⟨[.bool qb,.string qs]⟩,.agg ⟨[.bool fb,.string fs]⟩,.int .i64 0]⟩ from by
   simp only [iH,qL.val,if_neg ni]
   rw [← hx,IN,hn.enc,hf.enc]]
  conv=>whnf
  obtain ⟨kb,ks,hk⟩:=EI.mk' (((d:Nat):Int).fmod ((g:Nat):Int))
  refine ⟨((c,t),(false,gs)),rfl,⟨hp.2.1,zU⟩,?_⟩
  rw [show iH.val ((c,t),(false,gs))=.tuple ⟨[.agg ⟨[.bool false,.string es]⟩,.agg ⟨[.bool kb,.string ks]⟩,.int .i64 0]⟩ from by
   simp only [iH,qL.val,if_neg ni,bV]
   rw [qI,he.enc,hk.enc]]
  conv=>whnf
  refine ⟨((false,es),1),rfl,⟨ah,r1⟩,?_⟩
  rw [show gY.val ((false,es),1)=.bool (decide (((q.den:Nat):Int)=1)) from by
   show Value.bool (decide (IV.z (false,es)=1))=_
   rw [he.val]]
  have enc:∀ y,fK q.den=y→Value.agg ⟨[.bool qb,.string qs,.string y]⟩=bM q:=fun y hy=>by
   unfold bM
   rw [← hn.ng,← hn.sign,hy]
  by_cases J:q.den=1
  ·rw [decide_eq_true (by omega)]
   conv=>whnf
   exact fin _ (enc _ (by unfold fK; rw [if_pos J]))
  ·rw [decide_eq_false (by omega)]
   conv=>whnf
   exact fin _ (enc _ (by unfold fK; rw [if_neg J,he.ng,Int.natAbs_natCast]))
end Go.Proofs.YtlapbjdhekcipaaGreat
/- Contracts of rational: what is made of small numbers, and of large ones. -/
set_option maxRecDepth 20000
set_option maxHeartbeats 1000000
namespace Go.Proofs.YtlapbjdhekcipaaGreat
open Go Go.Ae
def Emg:Env:=En [(95,.p nr)]
theorem N2:EnvOk Tryz.prog Emg:=bL ⟨Ve,trivial⟩ trivial
theorem XW:bm Tryz.prog 94 BY:=by
 refine bt N2 aO Tryz.func94 (enters_of Tryz.func94 (by kernel_rfl) rfl) (fun _=>rfl) (fun _=>rfl) ?_
 intro ⟨⟨n,d⟩,⟨m,e⟩⟩ hp
 obtain ⟨h1,J,h3,h4⟩:=I4.bounds hp
 simp only at h1 J h3 h4
 obtain ⟨x,hx⟩:∃ x,x=n*(e:Int):=⟨_,rfl⟩
 obtain ⟨y,hy⟩:∃ y,y=m*(d:Int):=⟨_,rfl⟩
 obtain ⟨k,hk⟩:∃ k,k=d*e:=⟨_,rfl⟩
 rw [← hx] at h1
 rw [← hy] at J
 rw [← hk] at h4
 have e1:IntKind.i64.wrap (IntKind.i64.wrap (n*(e:Int))+IntKind.i64.wrap (m*(d:Int)))=x+y:=by
  rw [← hx,← hy,au (x:=x) (by omega) (by omega),au (x:=y) (by omega) (by omega),au (by omega) (by omega)]
 have e2:IntKind.i64.wrap ((d:Int)*(e:Int))=(k:Int):=by
  rw [← Int.natCast_mul,← hk,au (by omega) (by omega)]
 conv=>whnf
 rw [show IntKind.i64.wrap (IntKind.i64.wrap (((n,d),m,e).fst.fst*(((n,d),m,e).snd.snd:Int))+IntKind.i64.wrap (((n,d),m,e).snd.fst*(((n,d),m,e).fst.snd:Int)))=x+y from e1]
 rw [show IntKind.i64.wrap ((((n,d),m,e).fst.snd:Int)*(((n,d),m,e).snd.snd:Int))=(k:Int) from e2]
 refine ⟨(x+y,k),rfl,⟨by show (x+y).natAbs < _; omega,by show k≠0; omega,by show k < _; omega⟩,?_⟩
 obtain ⟨v,hv⟩:∃ v,v=mkRat (x+y) k:=⟨_,rfl⟩
 rw [show nr.val (x+y,k)=(RV.of v).v from by rw [hv]; rfl]
 conv=>whnf
 show (RV.of v).v=bM (mkRat (n*e+m*d) (d*e))
 rw [hv,hx,hy,hk]
 rfl
theorem XX:bm Tryz.prog 98 BZ:=by
 refine bt N2 aO Tryz.func98 (enters_of Tryz.func98 (by kernel_rfl) rfl) (fun _=>rfl) (fun _=>rfl) ?_
 intro ⟨⟨n,d⟩,⟨m,e⟩⟩ hp
 obtain ⟨h1,J,h3,h4⟩:=I4.bounds hp
 simp only at h1 J h3 h4
 obtain ⟨x,hx⟩:∃ x,x=n*m:=⟨_,rfl⟩
 obtain ⟨k,hk⟩:∃ k,k=d*e:=⟨_,rfl⟩
 rw [← hx] at h3
 rw [← hk] at h4
 have e1:IntKind.i64.wrap (n*m)=x:=by
  rw [← hx,au (x:=x) (by omega) (by omega)]
 have e2:IntKind.i64.wrap ((d:Int)*(e:Int))=(k:Int):=by
  rw [← Int.natCast_mul,← hk,au (by omega) (by omega)]
 conv=>whnf
 rw [show IntKind.i64.wrap (((n,d),m,e).fst.fst*((n,d),m,e).snd.fst)=x from e1]
 rw [show IntKind.i64.wrap ((((n,d),m,e).fst.snd:Int)*(((n,d),m,e).snd.snd:Int))=(k:Int) from e2]
 refine ⟨(x,k),rfl,⟨by show x.natAbs < _; omega,by show k≠0; omega,by show k < _; omega⟩,?_⟩
 obtain ⟨v,hv⟩:∃ v,v=mkRat x k:=⟨_,rfl⟩
 rw [show nr.val (x,k)=(RV.of v).v from by rw [hv]; rfl]
 conv=>whnf
 show (RV.of v).v=bM (mkRat (n*m) (d*e))
 rw [hv,hx,hk]
 rfl
theorem XY:bm Tryz.prog 90 yG:=by
 refine bt lJ aO Tryz.func90 (enters_of Tryz.func90 (by kernel_rfl) rfl) (fun _=>rfl) (fun _=>rfl) ?_
 intro ⟨⟨n,d⟩,⟨m,e⟩⟩ hp
 obtain ⟨h1,J,h3,h4⟩:=I4.bounds hp
 simp only at h1 J h3 h4
 obtain ⟨x,hx⟩:∃ x,x=n*(e:Int):=⟨_,rfl⟩
 obtain ⟨y,hy⟩:∃ y,y=m*(d:Int):=⟨_,rfl⟩
 rw [← hx] at h1
 rw [← hy] at J
 have e1:IntKind.i64.wrap (n*(e:Int))=x:=by rw [← hx,au (x:=x) (by omega) (by omega)]
 have e2:IntKind.i64.wrap (m*(d:Int))=y:=by rw [← hy,au (x:=y) (by omega) (by omega)]
 have fin:∀ z:Int,z=dP x y→Value.int .i64 z=yG.val ((n,d),(m,e)):=fun z h=>by rw [h,hx,hy]; rfl
 conv=>whnf
 rw [show IntKind.i64.wrap (((n,d),m,e).fst.fst*(((n,d),m,e).snd.snd:Int))=x from e1,show IntKind.i64.wrap (((n,d),m,e).snd.fst*(((n,d),m,e).fst.snd:Int))=y from e2]
 refine aL (fun h=>?_) (fun h=>?_)
 ·have h:=of_decide_eq_true h
  conv=>whnf
  exact fin _ (tj h).symm
 ·have h:=of_decide_eq_false h
  conv=>whnf
  refine aL (fun h5=>?_) (fun h5=>?_)
  ·have h5:=of_decide_eq_true h5
   conv=>whnf
   exact fin _ (tq h5).symm
  ·have h5:=of_decide_eq_false h5
   conv=>whnf
   refine fin _ ?_
   unfold dP
   rw [if_neg h,if_neg (show ¬ y < x from h5)]
def Emh:Env:=En [(92,.p fm),(97,.p iW),(87,.p lE),(86,.p oh)]
theorem GV:EnvOk Tryz.prog Emh:=bL ⟨Nz,Gl,Gm,Lu,trivial⟩ trivial
theorem XZ:bm Tryz.prog 96 wK:=by
 refine bt GV aO Tryz.func96 (enters_of Tryz.func96 (by kernel_rfl) rfl) (fun _=>rfl) (fun _=>rfl) ?_
 intro ⟨⟨⟨b,s⟩,⟨c,t⟩⟩,⟨⟨b',s'⟩,⟨c',t'⟩⟩⟩ hp
 have hp:((s.size≤17179869184∧t.size≤17179869184)∧0 < IV.z (c,t))∧(s'.size≤17179869184∧t'.size≤17179869184)∧0 < IV.z (c',t'):=hp
 obtain ⟨⟨⟨hs,ht⟩,hd⟩,⟨uJ,jy⟩,cY⟩:=hp
 obtain ⟨B1,m1,h1⟩:=EI.mk' (IV.z (b,s)*IV.z (c',t'))
 obtain ⟨B2,m2,J⟩:=EI.mk' (IV.z (b',s')*IV.z (c,t))
 obtain ⟨B3,m3,h3⟩:=EI.mk' (IV.z (b,s)*IV.z (c',t')+IV.z (b',s')*IV.z (c,t))
 obtain ⟨B4,m4,h4⟩:=EI.mk' (IV.z (c,t)*IV.z (c',t'))
 have z1:=h1.gC (dI hs) (dI jy)
 have z2:=J.gC (dI uJ) (dI ht)
 have z4:=h4.gC (dI ht) (dI jy)
 have z3:m3.size≤34359738369:=h3.E2 (by rw [← h1.size]; omega) (by rw [← J.size]; omega)
 have lz:=Int.mul_pos hd cY
 conv=>whnf
 refine .inl ⟨15,[[],[0],[],[2],[0,1,2,3],[],[5],[],[7],[0,1,2,3,4,5,6,7,8],[0,1,2,3,4,5,6,7,8,9],[],[11],[],[13],[0,1,2,3,4,5,6,7,8,9,10,11,12,13,14],[0,1,2,3,4,5,6,7,8,9,10,11,12,13,14,15],[0,1,2,3,4,5,6,7,8,9,10,11,12,13,14,15,16],[0,1,2,3,4,5,6,7,8,9,10,11,12,13,14,15,16,17]],by kernel_rfl,?_⟩
 conv=>whnf
 refine ⟨((b,s),(c',t')),rfl,⟨by show s.size≤_; omega,by show t'.size≤_; omega⟩,?_⟩
 rw [show fm.val ((b,s),(c',t'))=.agg ⟨[.bool B1,.string m1]⟩ from h1.enc]
 conv=>whnf
 refine ⟨((b',s'),(c,t)),rfl,⟨by show s'.size≤_; omega,by show t.size≤_; omega⟩,?_⟩
 rw [show fm.val ((b',s'),(c,t))=.agg ⟨[.bool B2,.string m2]⟩ from J.enc]
 conv=>whnf
 refine ⟨((B1,m1),(B2,m2)),rfl,⟨by show m1.size≤_; omega,by show m2.size≤_; omega⟩,?_⟩
 rw [show iW.val ((B1,m1),(B2,m2))=.agg ⟨[.bool B3,.string m3]⟩ from by
  show aF (IV.z (B1,m1)+IV.z (B2,m2))=_
  rw [h1.val,J.val,h3.enc]]
 conv=>whnf
 refine ⟨((c,t),(c',t')),rfl,⟨by show t.size≤_; omega,by show t'.size≤_; omega⟩,?_⟩
 rw [show fm.val ((c,t),(c',t'))=.agg ⟨[.bool B4,.string m4]⟩ from h4.enc]
 conv=>whnf
 refine ⟨((B3,m3),(B4,m4)),rfl,⟨by show m3.size≤_; omega,by show m4.size≤_; omega,by show 0 < IV.z (B4,m4); rw [h4.val]; exact lz⟩,?_⟩
 obtain ⟨v,hv⟩:∃ v,v=mkRat (IV.z (B3,m3)) (IV.z (B4,m4)).natAbs:=⟨_,rfl⟩
 rw [show oh.val ((B3,m3),(B4,m4))=(RV.of v).v from by rw [hv]; rfl]
 rw [h3.val,h4.val] at hv
 conv=>whnf
 show (RV.of v).v=bM _
 rw [hv]
 rfl
theorem X0:bm Tryz.prog 99 wL:=by
 refine bt GV aO Tryz.func99 (enters_of Tryz.func99 (by kernel_rfl) rfl) (fun _=>rfl) (fun _=>rfl) ?_
 intro ⟨⟨⟨b,s⟩,⟨c,t⟩⟩,⟨⟨b',s'⟩,⟨c',t'⟩⟩⟩ hp
 have hp:((s.size≤17179869184∧t.size≤17179869184)∧0 < IV.z (c,t))∧(s'.size≤17179869184∧t'.size≤17179869184)∧0 < IV.z (c',t'):=hp
 obtain ⟨⟨⟨hs,ht⟩,hd⟩,⟨uJ,jy⟩,cY⟩:=hp
 obtain ⟨B3,m3,h3⟩:=EI.mk' (IV.z (b,s)*IV.z (b',s'))
 obtain ⟨B4,m4,h4⟩:=EI.mk' (IV.z (c,t)*IV.z (c',t'))
 have z3:=h3.gC (dI hs) (dI uJ)
 have z4:=h4.gC (dI ht) (dI jy)
 have lz:=Int.mul_pos hd cY
 conv=>whnf
 refine .inl ⟨9,[[],[0],[],[2],[0,1,2,3],[],[5],[],[7],[0,1,2,3,4,5,6,7,8],[0,1,2,3,4,5,6,7,8,9],[0,1,2,3,4,5,6,7,8,9,10],[0,1,2,3,4,5,6,7,8,9,10,11]],by kernel_rfl,?_⟩
 conv=>whnf
 refine ⟨((b,s),(b',s')),rfl,⟨by show s.size≤_; omega,by show s'.size≤_; omega⟩,?_⟩
 rw [show fm.val ((b,s),(b',s'))=.agg ⟨[.bool B3,.string m3]⟩ from h3.enc]
 conv=>whnf
 refine ⟨((c,t),(c',t')),rfl,⟨by show t.size≤_; omega,by show t'.size≤_; omega⟩,?_⟩
 rw [show fm.val ((c,t),(c',t'))=.agg ⟨[.bool B4,.string m4]⟩ from h4.enc]
 conv=>whnf
 refine ⟨((B3,m3),(B4,m4)),rfl,⟨by show m3.size≤_; omega,by show m4.size≤_; omega,by show 0 < IV.z (B4,m4); rw [h4.val]; exact lz⟩,?_⟩
 obtain ⟨v,hv⟩:∃ v,v=mkRat (IV.z (B3,m3)) (IV.z (B4,m4)).natAbs:=⟨_,rfl⟩
 rw [show oh.val ((B3,m3),(B4,m4))=(RV.of v).v from by rw [hv]; rfl]
 rw [h3.val,h4.val] at hv
 conv=>whnf
 show (RV.of v).v=bM _
 rw [hv]
 rfl
theorem X1:bm Tryz.prog 91 wM:=by
 refine bt GV aO Tryz.func91 (enters_of Tryz.func91 (by kernel_rfl) rfl) (fun _=>rfl) (fun _=>rfl) ?_
 intro ⟨⟨⟨b,s⟩,⟨c,t⟩⟩,⟨⟨b',s'⟩,⟨c',t'⟩⟩⟩ hp
 have hp:((s.size≤17179869184∧t.size≤17179869184)∧0 < IV.z (c,t))∧(s'.size≤17179869184∧t'.size≤17179869184)∧0 < IV.z (c',t'):=hp
 obtain ⟨⟨⟨hs,ht⟩,hd⟩,⟨uJ,jy⟩,cY⟩:=hp
 obtain ⟨B1,m1,h1⟩:=EI.mk' (IV.z (b,s)*IV.z (c',t'))
 obtain ⟨B2,m2,J⟩:=EI.mk' (IV.z (b',s')*IV.z (c,t))
 have z1:=h1.gC (dI hs) (dI jy)
 have z2:=J.gC (dI uJ) (dI ht)
 obtain ⟨q,hq⟩:∃ q,q=dP (IV.z (b,s)*IV.z (c',t')) (IV.z (b',s')*IV.z (c,t)):=⟨_,rfl⟩
 conv=>whnf
 refine .inl ⟨9,[[],[0],[],[2],[0,1,2,3],[],[5],[],[7],[0,1,2,3,4,5,6,7,8],[0,1,2,3,4,5,6,7,8,9],[0,1,2,3,4,5,6,7,8,9,10]],by kernel_rfl,?_⟩
 conv=>whnf
 refine ⟨((b,s),(c',t')),rfl,⟨by show s.size≤_; omega,by show t'.size≤_; omega⟩,?_⟩
 rw [show fm.val ((b,s),(c',t'))=.agg ⟨[.bool B1,.string m1]⟩ from h1.enc]
 conv=>whnf
 refine ⟨((b',s'),(c,t)),rfl,⟨by show s'.size≤_; omega,by show t.size≤_; omega⟩,?_⟩
 rw [show fm.val ((b',s'),(c,t))=.agg ⟨[.bool B2,.string m2]⟩ from J.enc]
 conv=>whnf
 refine ⟨((B1,m1),(B2,m2)),rfl,⟨by show m1.size≤_; omega,by show m2.size≤_; omega⟩,?_⟩
 rw [show lE.val ((B1,m1),(B2,m2))=.int .i64 q from by
  show Value.int .i64 (dP (IV.z (B1,m1)) (IV.z (B2,m2)))=_
  rw [h1.val,J.val,hq]]
 conv=>whnf
 show Value.int .i64 q=_
 rw [hq]
 rfl
end Go.Proofs.YtlapbjdhekcipaaGreat
/- Contracts of rational: the operations. -/
set_option maxRecDepth 20000
set_option maxHeartbeats 1000000
namespace Go.Proofs.YtlapbjdhekcipaaGreat
open Go Go.Ae
def zV:Env:=En [(138,.p bH),(88,.p lF),(94,.p BY),(96,.p wK),(98,.p BZ),(99,.p wL),(90,.p yG),(91,.p wM)]
theorem N3:EnvOk Tryz.prog zV:=bL ⟨XT,Gn,XW,XZ,XX,X0,XY,X1,trivial⟩ trivial
theorem Vg:gl Tryz.prog 93 (cI zV cV Tryz.f93):=by
 exact jn N3 aO Tryz.func93 (enters_of Tryz.func93 (by kernel_rfl) rfl)
theorem Vh:gl Tryz.prog 89 (cI zV cV Tryz.f89):=by
 exact jn N3 aO Tryz.func89 (enters_of Tryz.func89 (by kernel_rfl) rfl)
def Emk:Env:=En [] [(93,cI zV cV Tryz.f93),(89,cI zV cV Tryz.f89)]
theorem GW:EnvOk Tryz.prog Emk:=bL trivial ⟨Vg,Vh,trivial⟩
theorem Bo:bm Tryz.prog 36 lf:=by
 refine bt GW aO Tryz.func36 (enters_of Tryz.func36 (by kernel_rfl) rfl) (fun _=>rfl) (fun _=>rfl) ?_
 intro ⟨⟨b,s,t⟩,⟨c,u,v⟩⟩ hp
 have hp:RV.ok (b,s,t)∧RV.ok (c,u,v):=hp
 obtain ⟨w,hw⟩:∃ w,w=RV.q (b,s,t)+RV.q (c,u,v):=⟨_,rfl⟩
 have fin:∀ x:Value,x=(RV.of w).v→x=lf.val ((b,s,t),(c,u,v)):=fun x h=>by rw [h,hw]; rfl
 obtain ⟨x,hx⟩:∃ x,x=RV.den (b,s,t):=⟨_,rfl⟩
 obtain ⟨y,hy⟩:∃ y,y=RV.den (c,u,v):=⟨_,rfl⟩
 have ex:lF.val (b,s,t)=.agg ⟨[.bool b,.string s,.bool false,.string x]⟩:=by rw [hx]; rfl
 have ey:lF.val (c,u,v)=.agg ⟨[.bool c,.string u,.bool false,.string y]⟩:=by rw [hy]; rfl
 have f1:=RV.l9 hp.1
 have f2:=RV.l9 hp.2
 have e2:wK.val (((b,s),(false,x)),((c,u),(false,y)))=(RV.of w).v:=by rw [hx,hy,hw]; exact Yy (b,s,t) (c,u,v)
 rw [← hx] at f1
 rw [← hy] at f2
 have e1:=Yv (b,s,t) (c,u,v)
 have hn:=RV.jN (i:=(b,s,t))
 have hm:=RV.jN (i:=(c,u,v))
 rw [← hw] at e1
 obtain ⟨n,bR⟩:∃ n,n=RV.n (b,s,t):=⟨_,rfl⟩
 obtain ⟨m,fa⟩:∃ n,n=RV.n (c,u,v):=⟨_,rfl⟩
 obtain ⟨d,bV⟩:∃ n,n=RV.d (b,s,t):=⟨_,rfl⟩
 obtain ⟨e,bX⟩:∃ n,n=RV.d (c,u,v):=⟨_,rfl⟩
 rw [← bR,← bV] at hn e1
 rw [← fa,← bX] at hm e1
 conv=>whnf
 refine ⟨(b,s,t),rfl,trivial,?_⟩
 by_cases h1:RV.fY (b,s,t)
 ·rw [show bH.val (b,s,t)=.tuple ⟨[.int .i64 n,.int .i64 d,.bool true]⟩ from by simp only [bH,if_pos h1,decide_eq_true h1,bR,bV]]
  conv=>whnf
  refine ⟨(c,u,v),rfl,trivial,?_⟩
  by_cases J:RV.fY (c,u,v)
  ·rw [show bH.val (c,u,v)=.tuple ⟨[.int .i64 m,.int .i64 e,.bool true]⟩ from by simp only [bH,if_pos J,decide_eq_true J,fa,bX]]
   conv=>whnf
   refine ⟨((n,d),(m,e)),rfl,⟨hn h1,hm J⟩,?_⟩
   rw [show BY.val ((n,d),(m,e))=(RV.of w).v from e1]
   conv=>whnf
   exact fin _ rfl
  ·rw [show bH.val (c,u,v)=.tuple ⟨[.int .i64 0,.int .i64 0,.bool false]⟩ from by simp only [bH,if_neg J,decide_eq_false J]]
   conv=>whnf
   refine .inl ⟨5,[[],[],[1],[],[1,2,3],[0,1,2,3,4],[0,1,2,3,4,5]],by kernel_rfl,?_⟩
   conv=>whnf
   refine ⟨(b,s,t),rfl,by have:=hp.1.2; show t.size≤_; exact Nat.le_trans this (by decide),?_⟩
   rw [ex]
   conv=>whnf
   refine ⟨(c,u,v),rfl,by have:=hp.2.2; show v.size≤_; exact Nat.le_trans this (by decide),?_⟩
   rw [ey]
   conv=>whnf
   refine ⟨(((b,s),(false,x)),((c,u),(false,y))),rfl,⟨f1,f2⟩,?_⟩
   rw [show wK.val (((b,s),(false,x)),((c,u),(false,y)))=(RV.of w).v from e2]
   conv=>whnf
   exact fin _ rfl
 ·rw [show bH.val (b,s,t)=.tuple ⟨[.int .i64 0,.int .i64 0,.bool false]⟩ from by simp only [bH,if_neg h1,decide_eq_false h1]]
  conv=>whnf
  obtain ⟨k1,k2,k3,hk⟩:∃ (k1 k2:Int) (k3:Bool),bH.val (c,u,v)=.tuple ⟨[.int .i64 k1,.int .i64 k2,.bool k3]⟩:=⟨_,_,_,rfl⟩
  refine ⟨(c,u,v),rfl,trivial,?_⟩
  rw [hk]
  conv=>whnf
  refine .inl ⟨5,[[],[],[1],[],[1,2,3],[0,1,2,3,4],[0,1,2,3,4,5]],by kernel_rfl,?_⟩
  conv=>whnf
  refine ⟨(b,s,t),rfl,by have:=hp.1.2; show t.size≤_; exact Nat.le_trans this (by decide),?_⟩
  rw [ex]
  conv=>whnf
  refine ⟨(c,u,v),rfl,by have:=hp.2.2; show v.size≤_; exact Nat.le_trans this (by decide),?_⟩
  rw [ey]
  conv=>whnf
  refine ⟨(((b,s),(false,x)),((c,u),(false,y))),rfl,⟨f1,f2⟩,?_⟩
  rw [show wK.val (((b,s),(false,x)),((c,u),(false,y)))=(RV.of w).v from e2]
  conv=>whnf
  exact fin _ rfl
theorem MW:bm Tryz.prog 37 lg:=by
 refine bt GW aO Tryz.func37 (enters_of Tryz.func37 (by kernel_rfl) rfl) (fun _=>rfl) (fun _=>rfl) ?_
 intro ⟨⟨b,s,t⟩,⟨c,u,v⟩⟩ hp
 have hp:RV.ok (b,s,t)∧RV.ok (c,u,v):=hp
 obtain ⟨w,hw⟩:∃ w,w=RV.q (b,s,t)*RV.q (c,u,v):=⟨_,rfl⟩
 have fin:∀ x:Value,x=(RV.of w).v→x=lg.val ((b,s,t),(c,u,v)):=fun x h=>by rw [h,hw]; rfl
 obtain ⟨x,hx⟩:∃ x,x=RV.den (b,s,t):=⟨_,rfl⟩
 obtain ⟨y,hy⟩:∃ y,y=RV.den (c,u,v):=⟨_,rfl⟩
 have ex:lF.val (b,s,t)=.agg ⟨[.bool b,.string s,.bool false,.string x]⟩:=by rw [hx]; rfl
 have ey:lF.val (c,u,v)=.agg ⟨[.bool c,.string u,.bool false,.string y]⟩:=by rw [hy]; rfl
 have f1:=RV.l9 hp.1
 have f2:=RV.l9 hp.2
 have e2:wL.val (((b,s),(false,x)),((c,u),(false,y)))=(RV.of w).v:=by rw [hx,hy,hw]; exact Yz (b,s,t) (c,u,v)
 rw [← hx] at f1
 rw [← hy] at f2
 have e1:=Yw (b,s,t) (c,u,v)
 have hn:=RV.jN (i:=(b,s,t))
 have hm:=RV.jN (i:=(c,u,v))
 rw [← hw] at e1
 obtain ⟨n,bR⟩:∃ n,n=RV.n (b,s,t):=⟨_,rfl⟩
 obtain ⟨m,fa⟩:∃ n,n=RV.n (c,u,v):=⟨_,rfl⟩
 obtain ⟨d,bV⟩:∃ n,n=RV.d (b,s,t):=⟨_,rfl⟩
 obtain ⟨e,bX⟩:∃ n,n=RV.d (c,u,v):=⟨_,rfl⟩
 rw [← bR,← bV] at hn e1
 rw [← fa,← bX] at hm e1
 conv=>whnf
 refine ⟨(b,s,t),rfl,trivial,?_⟩
 by_cases h1:RV.fY (b,s,t)
 ·rw [show bH.val (b,s,t)=.tuple ⟨[.int .i64 n,.int .i64 d,.bool true]⟩ from by simp only [bH,if_pos h1,decide_eq_true h1,bR,bV]]
  conv=>whnf
  refine ⟨(c,u,v),rfl,trivial,?_⟩
  by_cases J:RV.fY (c,u,v)
  ·rw [show bH.val (c,u,v)=.tuple ⟨[.int .i64 m,.int .i64 e,.bool true]⟩ from by simp only [bH,if_pos J,decide_eq_true J,fa,bX]]
   conv=>whnf
   refine ⟨((n,d),(m,e)),rfl,⟨hn h1,hm J⟩,?_⟩
   rw [show BZ.val ((n,d),(m,e))=(RV.of w).v from e1]
   conv=>whnf
   exact fin _ rfl
  ·rw [show bH.val (c,u,v)=.tuple ⟨[.int .i64 0,.int .i64 0,.bool false]⟩ from by simp only [bH,if_neg J,decide_eq_false J]]
   conv=>whnf
   refine .inl ⟨5,[[],[],[1],[],[1,2,3],[0,1,2,3,4],[0,1,2,3,4,5]],by kernel_rfl,?_⟩
   conv=>whnf
   refine ⟨(b,s,t),rfl,by have:=hp.1.2; show t.size≤_; exact Nat.le_trans this (by decide),?_⟩
   rw [ex]
   conv=>whnf
   refine ⟨(c,u,v),rfl,by have:=hp.2.2; show v.size≤_; exact Nat.le_trans this (by decide),?_⟩
   rw [ey]
   conv=>whnf
   refine ⟨(((b,s),(false,x)),((c,u),(false,y))),rfl,⟨f1,f2⟩,?_⟩
   rw [show wL.val (((b,s),(false,x)),((c,u),(false,y)))=(RV.of w).v from e2]
   conv=>whnf
   exact fin _ rfl
 ·rw [show bH.val (b,s,t)=.tuple ⟨[.int .i64 0,.int .i64 0,.bool false]⟩ from by simp only [bH,if_neg h1,decide_eq_false h1]]
  conv=>whnf
  obtain ⟨k1,k2,k3,hk⟩:∃ (k1 k2:Int) (k3:Bool),bH.val (c,u,v)=.tuple ⟨[.int .i64 k1,.int .i64 k2,.bool k3]⟩:=⟨_,_,_,rfl⟩
  refine ⟨(c,u,v),rfl,trivial,?_⟩
  rw [hk]
  conv=>whnf
  refine .inl ⟨5,[[],[],[1],[],[1,2,3],[0,1,2,3,4],[0,1,2,3,4,5]],by kernel_rfl,?_⟩
  conv=>whnf
  refine ⟨(b,s,t),rfl,by have:=hp.1.2; show t.size≤_; exact Nat.le_trans this (by decide),?_⟩
  rw [ex]
  conv=>whnf
  refine ⟨(c,u,v),rfl,by have:=hp.2.2; show v.size≤_; exact Nat.le_trans this (by decide),?_⟩
  rw [ey]
  conv=>whnf
  refine ⟨(((b,s),(false,x)),((c,u),(false,y))),rfl,⟨f1,f2⟩,?_⟩
  rw [show wL.val (((b,s),(false,x)),((c,u),(false,y)))=(RV.of w).v from e2]
  conv=>whnf
  exact fin _ rfl
theorem MX:bm Tryz.prog 35 jL:=by
 refine bt GW aO Tryz.func35 (enters_of Tryz.func35 (by kernel_rfl) rfl) (fun _=>rfl) (fun _=>rfl) ?_
 intro ⟨⟨b,s,t⟩,⟨c,u,v⟩⟩ hp
 have hp:RV.ok (b,s,t)∧RV.ok (c,u,v):=hp
 obtain ⟨w,hw⟩:∃ w,w=aY (RV.q (b,s,t)) (RV.q (c,u,v)):=⟨_,rfl⟩
 have fin:∀ x:Value,x=.int .i64 w→x=jL.val ((b,s,t),(c,u,v)):=fun x h=>by rw [h,hw]; rfl
 obtain ⟨x,hx⟩:∃ x,x=RV.den (b,s,t):=⟨_,rfl⟩
 obtain ⟨y,hy⟩:∃ y,y=RV.den (c,u,v):=⟨_,rfl⟩
 have ex:lF.val (b,s,t)=.agg ⟨[.bool b,.string s,.bool false,.string x]⟩:=by rw [hx]; rfl
 have ey:lF.val (c,u,v)=.agg ⟨[.bool c,.string u,.bool false,.string y]⟩:=by rw [hy]; rfl
 have f1:=RV.l9 hp.1
 have f2:=RV.l9 hp.2
 have e2:wM.val (((b,s),(false,x)),((c,u),(false,y)))=.int .i64 w:=by rw [hx,hy,hw]; exact YA (b,s,t) (c,u,v)
 rw [← hx] at f1
 rw [← hy] at f2
 have e1:=Yx (b,s,t) (c,u,v)
 have hn:=RV.jN (i:=(b,s,t))
 have hm:=RV.jN (i:=(c,u,v))
 rw [← hw] at e1
 obtain ⟨n,bR⟩:∃ n,n=RV.n (b,s,t):=⟨_,rfl⟩
 obtain ⟨m,fa⟩:∃ n,n=RV.n (c,u,v):=⟨_,rfl⟩
 obtain ⟨d,bV⟩:∃ n,n=RV.d (b,s,t):=⟨_,rfl⟩
 obtain ⟨e,bX⟩:∃ n,n=RV.d (c,u,v):=⟨_,rfl⟩
 rw [← bR,← bV] at hn e1
 rw [← fa,← bX] at hm e1
 conv=>whnf
 refine ⟨(b,s,t),rfl,trivial,?_⟩
 by_cases h1:RV.fY (b,s,t)
 ·rw [show bH.val (b,s,t)=.tuple ⟨[.int .i64 n,.int .i64 d,.bool true]⟩ from by simp only [bH,if_pos h1,decide_eq_true h1,bR,bV]]
  conv=>whnf
  refine ⟨(c,u,v),rfl,trivial,?_⟩
  by_cases J:RV.fY (c,u,v)
  ·rw [show bH.val (c,u,v)=.tuple ⟨[.int .i64 m,.int .i64 e,.bool true]⟩ from by simp only [bH,if_pos J,decide_eq_true J,fa,bX]]
   conv=>whnf
   refine ⟨((n,d),(m,e)),rfl,⟨hn h1,hm J⟩,?_⟩
   rw [show yG.val ((n,d),(m,e))=.int .i64 w from e1]
   conv=>whnf
   exact fin _ rfl
  ·rw [show bH.val (c,u,v)=.tuple ⟨[.int .i64 0,.int .i64 0,.bool false]⟩ from by simp only [bH,if_neg J,decide_eq_false J]]
   conv=>whnf
   refine .inl ⟨5,[[],[],[1],[],[1,2,3],[0,1,2,3,4],[0,1,2,3,4,5]],by kernel_rfl,?_⟩
   conv=>whnf
   refine ⟨(b,s,t),rfl,by have:=hp.1.2; show t.size≤_; exact Nat.le_trans this (by decide),?_⟩
   rw [ex]
   conv=>whnf
   refine ⟨(c,u,v),rfl,by have:=hp.2.2; show v.size≤_; exact Nat.le_trans this (by decide),?_⟩
   rw [ey]
   conv=>whnf
   refine ⟨(((b,s),(false,x)),((c,u),(false,y))),rfl,⟨f1,f2⟩,?_⟩
   rw [show wM.val (((b,s),(false,x)),((c,u),(false,y)))=.int .i64 w from e2]
   conv=>whnf
   exact fin _ rfl
 ·rw [show bH.val (b,s,t)=.tuple ⟨[.int .i64 0,.int .i64 0,.bool false]⟩ from by simp only [bH,if_neg h1,decide_eq_false h1]]
  conv=>whnf
  obtain ⟨k1,k2,k3,hk⟩:∃ (k1 k2:Int) (k3:Bool),bH.val (c,u,v)=.tuple ⟨[.int .i64 k1,.int .i64 k2,.bool k3]⟩:=⟨_,_,_,rfl⟩
  refine ⟨(c,u,v),rfl,trivial,?_⟩
  rw [hk]
  conv=>whnf
  refine .inl ⟨5,[[],[],[1],[],[1,2,3],[0,1,2,3,4],[0,1,2,3,4,5]],by kernel_rfl,?_⟩
  conv=>whnf
  refine ⟨(b,s,t),rfl,by have:=hp.1.2; show t.size≤_; exact Nat.le_trans this (by decide),?_⟩
  rw [ex]
  conv=>whnf
  refine ⟨(c,u,v),rfl,by have:=hp.2.2; show v.size≤_; exact Nat.le_trans this (by decide),?_⟩
  rw [ey]
  conv=>whnf
  refine ⟨(((b,s),(false,x)),((c,u),(false,y))),rfl,⟨f1,f2⟩,?_⟩
  rw [show wM.val (((b,s),(false,x)),((c,u),(false,y)))=.int .i64 w from e2]
  conv=>whnf
  exact fin _ rfl
end Go.Proofs.YtlapbjdhekcipaaGreat
/- Contracts of rational: differences, signs, checks. -/
set_option maxRecDepth 20000
set_option maxHeartbeats 1000000
namespace Go.Proofs.YtlapbjdhekcipaaGreat
open Go Go.Ae
def Eml:Env:=sL [(36,.p lf),(88,.p lF),(86,.p oh),(87,.p lE),(83,.p eZ),(130,.p gV)]
theorem yM:EnvOk Tryz.prog Eml:=uA ⟨Bo,Gn,Lu,Gm,rJ,aab,trivial⟩ trivial
theorem wa:bm Tryz.prog 38 gL:=by
 refine bt yM aO Tryz.func38 (enters_of Tryz.func38 (by kernel_rfl) rfl) (fun _=>rfl) (fun _=>rfl) ?_
 intro ⟨⟨b,s,t⟩,⟨c,u,v⟩⟩ hp
 have hp:RV.ok (b,s,t)∧RV.ok (c,u,v):=hp
 obtain ⟨w,hw⟩:∃ w,w=RV.q (b,s,t) - RV.q (c,u,v):=⟨_,rfl⟩
 conv=>whnf
 refine ⟨((b,s,t),(!c,u,v)),rfl,hp,?_⟩
 rw [show lf.val ((b,s,t),(!c,u,v))=(RV.of w).v from by
  rw [hw]
  show bM (RV.q (b,s,t)+RV.q (!c,u,v))=bM _
  rw [Nm,← Rat.sub_eq_add_neg]]
 conv=>whnf
 show (RV.of w).v=bM _
 rw [hw]
 rfl
theorem Fi:bm Tryz.prog 34 iD:=by
 refine bt yM aO Tryz.func34 (enters_of Tryz.func34 (by kernel_rfl) rfl) (fun _=>rfl) (fun _=>rfl) ?_
 intro ⟨b,s,t⟩ hp
 have hp:RV.ok (b,s,t):=hp
 obtain ⟨x,hx⟩:∃ x,x=RV.den (b,s,t):=⟨_,rfl⟩
 obtain ⟨w,hw⟩:∃ w,w=aY (RV.q (b,s,t)) 0:=⟨_,rfl⟩
 conv=>whnf
 refine ⟨(b,s,t),rfl,by have:=hp.2; show t.size≤_; exact Nat.le_trans this (by decide),?_⟩
 rw [show lF.val (b,s,t)=.agg ⟨[.bool b,.string s,.bool false,.string x]⟩ from by rw [hx]; rfl]
 conv=>whnf
 refine ⟨((b,s),(false,⟨#[]⟩)),rfl,⟨by have:=hp.1; show s.size≤_; exact Nat.le_trans this (by decide),Nat.zero_le _⟩,?_⟩
 rw [show lE.val ((b,s),(false,⟨#[]⟩))=.int .i64 w from by rw [hw,YB]; rfl]
 conv=>whnf
 show Value.int .i64 w=_
 rw [hw]
 rfl
theorem yq:bm Tryz.prog 33 mr:=by
 refine bt yM aO Tryz.func33 (enters_of Tryz.func33 (by kernel_rfl) rfl) (fun _=>rfl) (fun _=>rfl) ?_
 intro (n:Int) hp
 have hp:-9223372036854775808≤n∧n < 9223372036854775808:=hp
 obtain ⟨w,hw⟩:∃ w:Rat,w=(n:Rat):=⟨_,rfl⟩
 obtain ⟨B,m,hE⟩:=EI.mk' n
 obtain ⟨k,hF⟩:=EI.iS (show 0≤(1:Int) by decide)
 have hm:=hE.size
 have hk:=hF.size
 have h8:=tw hp
 have h1:=tw r1
 conv=>whnf
 refine ⟨n,rfl,hp,?_⟩
 rw [show eZ.val n=.agg ⟨[.bool B,.string m]⟩ from hE.enc]
 conv=>whnf
 refine ⟨(1:Int),rfl,r1,?_⟩
 rw [show eZ.val (1:Int)=.agg ⟨[.bool false,.string k]⟩ from hF.enc]
 conv=>whnf
 refine ⟨((B,m),(false,k)),rfl,⟨by show m.size≤_; omega,by show k.size≤_; omega,by show 0 < IV.z (false,k); rw [hF.val]; decide⟩,?_⟩
 rw [show oh.val ((B,m),(false,k))=(RV.of w).v from by
  rw [hw,ik n]
  show bM (mkRat (IV.z (B,m)) (IV.z (false,k)).natAbs)=_
  rw [hE.val,hF.val]; rfl]
 conv=>whnf
 show (RV.of w).v=bM _
 rw [hw]
 rfl
theorem TA:bm Tryz.prog 129 mI:=by
 refine bt yM aO Tryz.func129 (enters_of Tryz.func129 (by kernel_rfl) rfl) (fun _=>rfl) (fun _=>rfl) ?_
 intro ⟨b,s,t⟩ hp
 have hp:RV.ok (b,s,t):=hp
 obtain ⟨⟨c,u,v⟩,hw⟩:∃ w,w=RV.of (RV.q (b,s,t)):=⟨_,rfl⟩
 obtain ⟨x,hx⟩:∃ x,x=RV.den (b,s,t):=⟨_,rfl⟩
 have f1:=RV.l9 hp
 have e1:=RV.acs (b,s,t)
 rw [show RV.den (b,s,t)=x from hx.symm] at f1 e1
 have heq:=Dy (b,s,t) (c,u,v)
 conv=>whnf
 refine .inl ⟨4,[[],[],[1],[1,2],[0,1,2,3]],by kernel_rfl,?_⟩
 conv=>whnf
 refine ⟨(b,s,t),rfl,by have:=hp.2; show t.size≤_; exact Nat.le_trans this (by decide),?_⟩
 rw [show lF.val (b,s,t)=.agg ⟨[.bool b,.string s,.bool false,.string x]⟩ from by rw [hx]; rfl]
 conv=>whnf
 refine ⟨((b,s),(false,x)),rfl,⟨Nat.le_trans f1.1.1 (by decide),Nat.le_trans f1.1.2 (by decide),f1.2⟩,?_⟩
 rw [show oh.val ((b,s),(false,x))=RV.v (c,u,v) from by
  rw [hw,e1]; rfl]
 conv=>whnf
 by_cases h:(b,s,t)=(c,u,v)
 ·rw [decide_eq_true h] at heq
  refine aL (fun J=>?_) (fun J=>?_)
  ·exfalso
   rw [show eT [Value.bool b,.string s,.string t] [.bool c,.string u,.string v]=true from heq] at J
   cases J
  ·conv=>whnf
   show _=Value.int .i64 (if (b,s,t)=RV.of (RV.q (b,s,t)) then 0 else 1)
   rw [← hw,if_pos h]
 ·rw [decide_eq_false h] at heq
  refine aL (fun J=>?_) (fun J=>?_)
  ·conv=>whnf
   show _=Value.int .i64 (if (b,s,t)=RV.of (RV.q (b,s,t)) then 0 else 1)
   rw [← hw,if_neg h]
  ·exfalso
   rw [show eT [Value.bool b,.string s,.string t] [.bool c,.string u,.string v]=false from heq] at J
   cases J
theorem MY:bm Tryz.prog 82 tY:=by
 refine bt yM aO Tryz.func82 (enters_of Tryz.func82 (by kernel_rfl) rfl) (fun _=>rfl) (fun _=>rfl) ?_
 intro ⟨⟨b,s⟩,⟨c,t⟩⟩ hp
 have hp:s.size≤549755813888∧t.size≤549755813888:=hp
 obtain ⟨x,hx⟩:∃ x,x=IV.z (b,s):=⟨_,rfl⟩
 obtain ⟨y,hy⟩:∃ y,y=IV.z (c,t):=⟨_,rfl⟩
 obtain ⟨w,hw⟩:∃ w,w=Rat.divInt x y:=⟨_,rfl⟩
 have ec:lE.val ((c,t),(false,⟨#[]⟩))=.int .i64 (dP y 0):=by rw [hy]; rfl
 have fZ:y=0→∀ v,v=bM 0→Value.tuple ⟨[v,.int .i64 10]⟩=tY.val ((b,s),(c,t)):=fun h v hv=>by
  show _=lG (IV.z (b,s)) (IV.z (c,t))
  rw [← hy,hv]; unfold lG; rw [if_pos h,h,Rat.divInt_zero]
 have fin:y≠0→∀ v,v=bM w→Value.tuple ⟨[v,.int .i64 0]⟩=tY.val ((b,s),(c,t)):=fun h v hv=>by
  show _=lG (IV.z (b,s)) (IV.z (c,t))
  rw [← hx,← hy,hv]; unfold lG; rw [if_neg h,hw]
 conv=>whnf
 refine ⟨((c,t),(false,⟨#[]⟩)),rfl,⟨hp.2,Nat.zero_le _⟩,?_⟩
 rw [ec]
 rcases Int.lt_trichotomy y 0 with h | h | h
 ·rw [tj h]
  obtain ⟨B,m,hE⟩:=EI.mk' (-x)
  obtain ⟨k,hF⟩:=EI.iS (show 0≤-y by omega)
  have hm:m.size≤549755813888:=by rw [hE.size,Int.natAbs_neg,hx]; exact dI hp.1
  have hk:k.size≤549755813888:=by rw [hF.size,Int.natAbs_neg,hy]; exact dI hp.2
  conv=>whnf
  refine .inl ⟨3,[[],[0],[],[0,1,2],[0,1,2,3],[0,1,2,3,4]],by kernel_rfl,?_⟩
  conv=>whnf
  refine ⟨(b,s),rfl,hp.1,?_⟩
  rw [show gV.val (b,s)=.agg ⟨[.bool B,.string m]⟩ from by show aF (-IV.z (b,s))=_; rw [← hx,hE.enc]]
  conv=>whnf
  refine ⟨(c,t),rfl,hp.2,?_⟩
  rw [show gV.val (c,t)=.agg ⟨[.bool false,.string k]⟩ from by show aF (-IV.z (c,t))=_; rw [← hy,hF.enc]]
  conv=>whnf
  refine ⟨((B,m),(false,k)),rfl,⟨hm,hk,by show 0 < IV.z (false,k); rw [hF.val]; omega⟩,?_⟩
  rw [show oh.val ((B,m),(false,k))=(RV.of w).v from by
   rw [hw,Ra h]
   show bM (mkRat (IV.z (B,m)) (IV.z (false,k)).natAbs)=_
   rw [hE.val,hF.val]; rfl]
  conv=>whnf
  exact fin (by omega) _ rfl
 ·rw [h]
  conv=>whnf
  exact fZ h _ aaW.symm
 ·rw [tq h]
  conv=>whnf
  refine ⟨((b,s),(c,t)),rfl,⟨hp.1,hp.2,by show 0 < IV.z (c,t); omega⟩,?_⟩
  rw [show oh.val ((b,s),(c,t))=(RV.of w).v from by
   rw [hw,Kx h,hx,hy]; rfl]
  conv=>whnf
  exact fin (by omega) _ rfl
def Emm:Env:=En [(82,.p tY),(83,.p eZ)]
theorem abn:EnvOk Tryz.prog Emm:=bL ⟨MY,rJ,trivial⟩ trivial
theorem TB:bm Tryz.prog 30 FG:=by
 refine bt abn aO Tryz.func30 (enters_of Tryz.func30 (by kernel_rfl) rfl) (fun _=>rfl) (fun _=>rfl) ?_
 intro ⟨n,d⟩ hp
 have hp:(-9223372036854775808≤n∧n < 9223372036854775808)∧-9223372036854775808≤d∧d < 9223372036854775808:=hp
 obtain ⟨B,m,hE⟩:=EI.mk' n
 obtain ⟨D,k,hF⟩:=EI.mk' d
 have hm:=hE.size
 have hk:=hF.size
 have h8:=tw hp.1
 have h1:=tw hp.2
 obtain ⟨q,e,PN⟩:∃ (q:Rat) (e:Int),lG n d=.tuple ⟨[(RV.of q).v,.int .i64 e]⟩:=by
  exact ⟨_,_,rfl⟩
 conv=>whnf
 refine ⟨n,rfl,hp.1,?_⟩
 rw [show eZ.val n=.agg ⟨[.bool B,.string m]⟩ from hE.enc]
 conv=>whnf
 refine ⟨d,rfl,hp.2,?_⟩
 rw [show eZ.val d=.agg ⟨[.bool D,.string k]⟩ from hF.enc]
 conv=>whnf
 refine ⟨((B,m),(D,k)),rfl,⟨by show m.size≤_; omega,by show k.size≤_; omega⟩,?_⟩
 rw [show tY.val ((B,m),(D,k))=.tuple ⟨[(RV.of q).v,.int .i64 e]⟩ from by
  show lG (IV.z (B,m)) (IV.z (D,k))=_
  rw [hE.val,hF.val,PN]]
 conv=>whnf
 show Value.tuple ⟨[(RV.of q).v,.int .i64 e]⟩=lG n d
 rw [PN]
end Go.Proofs.YtlapbjdhekcipaaGreat
/- Contracts of the reference rationals: parts, lowest terms. -/
set_option maxRecDepth 20000
set_option maxHeartbeats 1000000
namespace Go.Proofs.YtlapbjdhekcipaaGreat
open Go Go.Ae
def Eqa:Env:=En [(173,.p iW),(155,.p eZ),(175,.p um),(176,.p iH),(174,.p gV)]
theorem N4:EnvOk Tryz.prog Eqa:=bL ⟨FW,yp,XQ,XR,FU,trivial⟩ trivial
theorem Ml:bm Tryz.prog 157 nt:=by
 refine bt N4 aO Tryz.func157 (enters_of Tryz.func157 (by kernel_rfl) rfl) (fun _=>rfl) (fun _=>rfl) ?_
 intro ⟨b,s,t⟩ hp
 have hp:s.size≤8589934592∧t.size≤8589934592:=hp
 obtain ⟨B,m,hE⟩:=EI.mk' (RV.n (b,s,t))
 obtain ⟨k,hF⟩:=EI.iS (show 0≤((ab t:Nat):Int) by omega)
 obtain ⟨j,hG⟩:=EI.iS (show 0≤(1:Int) by decide)
 have fin:∀ (v:Value),v=aF ((RV.d (b,s,t):Nat):Int)→Value.tuple ⟨[.agg ⟨[.bool B,.string m]⟩,v]⟩=nt.val (b,s,t):=fun v h=>by
  rw [h,← hE.enc]; rfl
 conv=>whnf
 refine ⟨((b,s),(false,⟨#[]⟩)),rfl,⟨by show s.size≤_; omega,Nat.zero_le _⟩,?_⟩
 rw [show iW.val ((b,s),(false,⟨#[]⟩))=.agg ⟨[.bool B,.string m]⟩ from by
  show aF (IV.z (b,s)+0)=_
  rw [Int.add_zero]; exact hE.enc]
 conv=>whnf
 refine ⟨((false,t),(false,⟨#[]⟩)),rfl,⟨by show t.size≤_; omega,Nat.zero_le _⟩,?_⟩
 rw [show iW.val ((false,t),(false,⟨#[]⟩))=.agg ⟨[.bool false,.string k]⟩ from by
  show aF (((ab t:Nat):Int)+0)=_
  rw [Int.add_zero]; exact hF.enc]
 conv=>whnf
 rw [hF.nil]
 by_cases h:ab t=0
 ·rw [decide_eq_true (by omega)]
  have fin:=fin (.agg ⟨[.bool false,.string j]⟩) (by rw [← hG.enc]; unfold RV.d; rw [if_pos h]; rfl)
  conv=>whnf
  refine ⟨(1:Int),rfl,r1,?_⟩
  rw [show eZ.val (1:Int)=.agg ⟨[.bool false,.string j]⟩ from hG.enc]
  conv=>whnf
  refine .inr (.inl ⟨(.br 0 (.br 1 (.br 2 (.br 3 .leaf .leaf) .leaf) (.br 2 (.br 1 (.br 3 .leaf .leaf) .leaf) .leaf)) (.br 1 (.br 0 (.br 2 (.br 3 .leaf .leaf) .leaf) .leaf) .leaf)),by kernel_rfl,?_⟩)
  repeat' ((conv=>whnf); first | exact True.intro | refine And.intro ?_ ?_)
  all_goals conv=>whnf
  all_goals exact fin
 ·rw [decide_eq_false (by omega)]
  have fin:=fin (.agg ⟨[.bool false,.string k]⟩) (by rw [← hF.enc]; unfold RV.d; rw [if_neg h])
  conv=>whnf
  refine .inr (.inl ⟨(.br 0 (.br 1 (.br 2 (.br 3 .leaf .leaf) .leaf) (.br 2 (.br 1 (.br 3 .leaf .leaf) .leaf) .leaf)) (.br 1 (.br 0 (.br 2 (.br 3 .leaf .leaf) .leaf) .leaf) .leaf)),by kernel_rfl,?_⟩)
  repeat' ((conv=>whnf); first | exact True.intro | refine And.intro ?_ ?_)
  all_goals conv=>whnf
  all_goals exact fin
theorem TC:bm Tryz.prog 154 ph:=by
 refine bt N4 aO Tryz.func154 (enters_of Tryz.func154 (by kernel_rfl) rfl) (fun _=>rfl) (fun _=>rfl) ?_
 intro ⟨⟨b,s⟩,⟨c,t⟩⟩ hp
 have hp:s.size≤549755813888∧t.size≤549755813888∧0 < IV.z (c,t):=hp
 obtain ⟨x,hx⟩:∃ x,x=IV.z (b,s):=⟨_,rfl⟩
 obtain ⟨d,hd⟩:∃ d,d=(IV.z (c,t)).natAbs:=⟨_,rfl⟩
 have bV:IV.z (c,t)=((d:Nat):Int):=by omega
 have fF:d≠0:=by omega
 obtain ⟨q,hq⟩:∃ q,q=mkRat x d:=⟨_,rfl⟩
 have fin:∀ v:Value,v=bM q→v=ph.val ((b,s),(c,t)):=fun v h=>by rw [h,hq,hx,hd]; rfl
 obtain ⟨B,m,hE⟩:=EI.mk' x
 obtain ⟨k,hF⟩:=EI.iS (show 0≤((d:Nat):Int) by omega)
 have eO:aR d≤549755813888:=by rw [hd]; exact IV.aR (i:=(c,t)) hp.2.1
 have qA:m.size≤549755813888:=by rw [hE.size,hx]; exact dI hp.1
 have jw:k.size≤549755813888:=by rw [hF.size,Int.natAbs_natCast]; exact eO
 conv=>whnf
 refine .inl ⟨5,[[],[],[0,1],[],[],[0,1,2,3,4],[0,1,2,3,4,5],[0,1,2,3,4,5,6]],by kernel_rfl,?_⟩
 conv=>whnf
 refine ⟨((b,s),(false,⟨#[]⟩)),rfl,⟨hp.1,Nat.zero_le _⟩,?_⟩
 rw [show iW.val ((b,s),(false,⟨#[]⟩))=.agg ⟨[.bool B,.string m]⟩ from by
  show aF (IV.z (b,s)+0)=_
  rw [Int.add_zero,← hx]; exact hE.enc]
 conv=>whnf
 refine ⟨((c,t),(false,⟨#[]⟩)),rfl,⟨hp.2.1,Nat.zero_le _⟩,?_⟩
 rw [show iW.val ((c,t),(false,⟨#[]⟩))=.agg ⟨[.bool false,.string k]⟩ from by
  show aF (IV.z (c,t)+0)=_
  rw [Int.add_zero,bV]; exact hF.enc]
 conv=>whnf
 rw [hE.nil]
 by_cases h1:x=0
 ·rw [decide_eq_true h1]
  conv=>whnf
  exact fin _ (by rw [hq,h1]; exact (xL d).symm)
 ·rw [decide_eq_false h1]
  obtain ⟨g,hg⟩:∃ g,g=Int.gcd x d:=⟨_,rfl⟩
  obtain ⟨gs,qL⟩:=EI.iS (show 0≤((g:Nat):Int) by omega)
  obtain ⟨qb,qs,hn⟩:=EI.mk' q.num
  obtain ⟨es,he⟩:=EI.iS (show 0≤((q.den:Nat):Int) by omega)
  have ni:((g:Nat):Int)≠0:=by
   have:0 < g:=by rw [hg]; exact Int.gcd_pos_of_ne_zero_left _ h1
   omega
  have HG:g≤d:=by
   have h3:=(Ag fF hg).2.1
   rcases Nat.lt_or_ge d g with h | h
   ·rw [Nat.div_eq_of_lt h] at h3; omega
   ·exact h
  have zU:gs.size≤549755813888:=by
   rw [qL.size,Int.natAbs_natCast]
   exact Nat.le_trans (iO HG) eO
  have IN:x.fdiv ((g:Nat):Int)=q.num:=by rw [hg,hq]; exact Gb x fF
  have qI:((d:Nat):Int).fdiv ((g:Nat):Int)=((q.den:Nat):Int):=by rw [hg,hq]; exact Gc x fF
  conv=>whnf
  refine ⟨((B,m),(false,k)),rfl,⟨qA,jw⟩,?_⟩
  rw [show um.val ((B,m),(false,k))=.agg ⟨[.bool false,.string gs]⟩ from by
   show aF ((Int.gcd (IV.z (B,m)) (IV.z (false,k)):Nat):Int)=_
   rw [hE.val,hF.val,← hg,qL.enc]]
  conv=>whnf
  obtain ⟨fb,fs,hf⟩:=EI.mk' (x.fmod ((g:Nat):Int))
  refine ⟨((B,m),(false,gs)),rfl,⟨qA,zU⟩,?_⟩
  rw [show iH.val ((B,m),(false,gs))=.tuple ⟨[.agg ⟨[.bool qb,.string qs]⟩,.agg ⟨[.bool fb,.string fs]⟩,.int .i64 0]⟩ from by
   simp only [iH,qL.val,hE.val,if_neg ni]
   rw [IN,hn.enc,hf.enc]]
  conv=>whnf
  obtain ⟨kb,ks,hk⟩:=EI.mk' (((d:Nat):Int).fmod ((g:Nat):Int))
  refine ⟨((false,k),(false,gs)),rfl,⟨jw,zU⟩,?_⟩
  rw [show iH.val ((false,k),(false,gs))=.tuple ⟨[.agg ⟨[.bool false,.string es]⟩,.agg ⟨[.bool kb,.string ks]⟩,.int .i64 0]⟩ from by
   simp only [iH,qL.val,hF.val,if_neg ni]
   rw [qI,he.enc,hk.enc]]
  conv=>whnf
  have enc:∀ y,fK q.den=y→Value.agg ⟨[.bool qb,.string qs,.string y]⟩=bM q:=fun y hy=>by
   unfold bM
   rw [← hn.ng,← hn.sign,hy]
  have ees:es=nb q.den:=he.ng
  have pS:(es.toList == (⟨#[1]⟩:ByteArray).toList)=decide (q.den=1):=by
   rw [pC,ees,show (⟨#[1]⟩:ByteArray)=nb 1 from acv.symm]
   by_cases h:q.den=1
   ·rw [h]; simp
   ·rw [decide_eq_false h,decide_eq_false (fun e=>h (Ng e))]
  rw [pS]
  by_cases J:q.den=1
  ·rw [decide_eq_true J]
   conv=>whnf
   exact fin _ (enc _ (by unfold fK; rw [if_pos J]))
  ·rw [decide_eq_false J]
   conv=>whnf
   exact fin _ (enc _ (by unfold fK; rw [if_neg J,he.ng,Int.natAbs_natCast]))
end Go.Proofs.YtlapbjdhekcipaaGreat
/- Contracts of the reference rationals: the operations. -/
set_option maxRecDepth 20000
set_option maxHeartbeats 1000000
namespace Go.Proofs.YtlapbjdhekcipaaGreat
open Go Go.Ae
def Eqb:Env:=sL [(158,.p bH),(172,.p nr),(157,.p nt),(154,.p ph),(155,.p eZ),(173,.p iW),(160,.p fm),(159,.p lE)]
theorem yN:EnvOk Tryz.prog Eqb:=uA ⟨Vd,Vf,Ml,TC,yp,FW,XP,XN,trivial⟩ trivial
theorem X2:bm Tryz.prog 120 mr:=by
 refine bt yN aO Tryz.func120 (enters_of Tryz.func120 (by kernel_rfl) rfl) (fun _=>rfl) (fun _=>rfl) ?_
 intro (n:Int) hp
 have hp:-9223372036854775808≤n∧n < 9223372036854775808:=hp
 obtain ⟨w,hw⟩:∃ w:Rat,w=(n:Rat):=⟨_,rfl⟩
 obtain ⟨B,m,hE⟩:=EI.mk' n
 obtain ⟨k,hF⟩:=EI.iS (show 0≤(1:Int) by decide)
 have hm:=hE.size
 have hk:=hF.size
 have h8:=tw hp
 have h1:=tw r1
 conv=>whnf
 refine ⟨n,rfl,hp,?_⟩
 rw [show eZ.val n=.agg ⟨[.bool B,.string m]⟩ from hE.enc]
 conv=>whnf
 refine ⟨(1:Int),rfl,r1,?_⟩
 rw [show eZ.val (1:Int)=.agg ⟨[.bool false,.string k]⟩ from hF.enc]
 conv=>whnf
 refine ⟨((B,m),(false,k)),rfl,⟨by show m.size≤_; omega,by show k.size≤_; omega,by show 0 < IV.z (false,k); rw [hF.val]; decide⟩,?_⟩
 rw [show ph.val ((B,m),(false,k))=(RV.of w).v from by
  rw [hw,ik n]
  show bM (mkRat (IV.z (B,m)) (IV.z (false,k)).natAbs)=_
  rw [hE.val,hF.val]; rfl]
 conv=>whnf
 show (RV.of w).v=bM _
 rw [hw]
 rfl
theorem Lv:bm Tryz.prog 153 ym:=by
 refine bt yN aO Tryz.func153 (enters_of Tryz.func153 (by kernel_rfl) rfl) (fun _=>rfl) (fun _=>rfl) ?_
 intro ⟨b,s,t⟩ hp
 have hp:s.size≤8589934592∧t.size≤8589934592:=hp
 obtain ⟨w,hw⟩:∃ w,w=RV.q (b,s,t):=⟨_,rfl⟩
 have fin:∀ x:Value,x=(RV.of w).v→x=ym.val (b,s,t):=fun x h=>by rw [h,hw]; rfl
 have hn:=RV.jN (i:=(b,s,t))
 obtain ⟨n,bR⟩:∃ n,n=RV.n (b,s,t):=⟨_,rfl⟩
 obtain ⟨d,bV⟩:∃ n,n=RV.d (b,s,t):=⟨_,rfl⟩
 have fF:d≠0:=by rw [bV]; exact RV.jK _
 have PO:w=mkRat n d:=by rw [hw,bR,bV]; rfl
 conv=>whnf
 refine ⟨(b,s,t),rfl,trivial,?_⟩
 by_cases h1:RV.fY (b,s,t)
 ·rw [show bH.val (b,s,t)=.tuple ⟨[.int .i64 n,.int .i64 d,.bool true]⟩ from by simp only [bH,if_pos h1,decide_eq_true h1,bR,bV]]
  have hn:=hn h1
  rw [← bR,← bV] at hn
  have hn:(-16777216 < n∧n < 16777216)∧0 < d∧d < 16777216:=hn
  conv=>whnf
  refine ⟨(n,d),rfl,⟨by show n.natAbs < _; omega,by show d≠0; omega,by show d < _; omega⟩,?_⟩
  rw [show nr.val (n,d)=(RV.of w).v from by rw [PO]; rfl]
  conv=>whnf
  exact fin _ rfl
 ·rw [show bH.val (b,s,t)=.tuple ⟨[.int .i64 0,.int .i64 0,.bool false]⟩ from by simp only [bH,if_neg h1,decide_eq_false h1]]
  obtain ⟨B,m,hE⟩:=EI.mk' n
  obtain ⟨k,hF⟩:=EI.iS (show 0≤((d:Nat):Int) by omega)
  have qA:m.size≤8589934592:=by rw [hE.size,bR]; exact dI (b:=b) hp.1
  have jw:k.size≤8589934593:=by
   rw [hF.size,bV,← RV.jM]
   exact dI (Nat.le_trans (RV.q7 _) (Nat.succ_le_succ hp.2))
  conv=>whnf
  refine ⟨(b,s,t),rfl,hp,?_⟩
  rw [show nt.val (b,s,t)=.tuple ⟨[.agg ⟨[.bool B,.string m]⟩,.agg ⟨[.bool false,.string k]⟩]⟩ from by
   rw [← hE.enc,← hF.enc,bR,bV]; rfl]
  conv=>whnf
  refine ⟨((B,m),(false,k)),rfl,⟨by show m.size≤_; omega,by show k.size≤_; omega,by show 0 < IV.z (false,k); rw [hF.val]; omega⟩,?_⟩
  rw [show ph.val ((B,m),(false,k))=(RV.of w).v from by
   show bM (mkRat (IV.z (B,m)) (IV.z (false,k)).natAbs)=_
   rw [hE.val,hF.val,PO,Int.natAbs_natCast]; rfl]
  conv=>whnf
  exact fin _ rfl
def Eqc:Env:=sL [(153,.p ym)]
theorem abo:EnvOk Tryz.prog Eqc:=uA ⟨Lv,trivial⟩ trivial
theorem St:bm Tryz.prog 119 mI:=by
 refine bt abo aO Tryz.func119 (enters_of Tryz.func119 (by kernel_rfl) rfl) (fun _=>rfl) (fun _=>rfl) ?_
 intro ⟨b,s,t⟩ hp
 have hp:RV.ok (b,s,t):=hp
 obtain ⟨⟨c,u,v⟩,hw⟩:∃ w,w=RV.of (RV.q (b,s,t)):=⟨_,rfl⟩
 have heq:=Dy (c,u,v) (b,s,t)
 conv=>whnf
 refine .inl ⟨3,[[],[0],[],[0,1,2]],by kernel_rfl,?_⟩
 conv=>whnf
 refine ⟨(b,s,t),rfl,hp,?_⟩
 rw [show ym.val (b,s,t)=RV.v (c,u,v) from by rw [hw]; rfl]
 conv=>whnf
 by_cases h:(c,u,v)=(b,s,t)
 ·rw [decide_eq_true h] at heq
  refine aL (fun J=>?_) (fun J=>?_)
  ·exfalso
   rw [show eT [Value.bool c,.string u,.string v] [.bool b,.string s,.string t]=true from heq] at J
   cases J
  ·conv=>whnf
   show _=Value.int .i64 (if (b,s,t)=RV.of (RV.q (b,s,t)) then 0 else 1)
   rw [← hw,if_pos h.symm]
 ·rw [decide_eq_false h] at heq
  refine aL (fun J=>?_) (fun J=>?_)
  ·conv=>whnf
   show _=Value.int .i64 (if (b,s,t)=RV.of (RV.q (b,s,t)) then 0 else 1)
   rw [← hw,if_neg (fun e=>h e.symm)]
  ·exfalso
   rw [show eT [Value.bool c,.string u,.string v] [.bool b,.string s,.string t]=false from heq] at J
   cases J
end Go.Proofs.YtlapbjdhekcipaaGreat
/- Contracts of the reference rationals: sum, product, comparison. -/
set_option maxRecDepth 20000
set_option maxHeartbeats 1000000
namespace Go.Proofs.YtlapbjdhekcipaaGreat
open Go Go.Ae
theorem Mm:bm Tryz.prog 169 lf:=by
 refine bt yN aO Tryz.func169 (enters_of Tryz.func169 (by kernel_rfl) rfl) (fun _=>rfl) (fun _=>rfl) ?_
 intro ⟨⟨b,s,t⟩,⟨c,u,v⟩⟩ hp
 have hp:(s.size≤8589934592∧t.size≤8589934592)∧u.size≤8589934592∧v.size≤8589934592:=hp
 have hn:=RV.jN (i:=(b,s,t))
 have hm:=RV.jN (i:=(c,u,v))
 obtain ⟨n,bR⟩:∃ n,n=RV.n (b,s,t):=⟨_,rfl⟩
 obtain ⟨m,fa⟩:∃ n,n=RV.n (c,u,v):=⟨_,rfl⟩
 obtain ⟨d,bV⟩:∃ n,n=RV.d (b,s,t):=⟨_,rfl⟩
 obtain ⟨e,bX⟩:∃ n,n=RV.d (c,u,v):=⟨_,rfl⟩
 have fF:d≠0:=by rw [bV]; exact RV.jK _
 have PQ:e≠0:=by rw [bX]; exact RV.jK _
 rw [← bR,← bV] at hn
 rw [← fa,← bX] at hm
 obtain ⟨B,p,hP⟩:=EI.mk' n
 obtain ⟨q,hQ⟩:=EI.iS (show 0≤((d:Nat):Int) by omega)
 obtain ⟨D,p',lT⟩:=EI.mk' m
 obtain ⟨q',ky⟩:=EI.iS (show 0≤((e:Nat):Int) by omega)
 have sn:aR n.natAbs≤8589934593:=by rw [bR]; exact dI (b:=b) (Nat.le_succ_of_le hp.1.1)
 have sm:aR m.natAbs≤8589934593:=by rw [fa]; exact dI (b:=c) (Nat.le_succ_of_le hp.2.1)
 have sd:aR (Int.natAbs ((d:Nat):Int))≤8589934593:=by
  rw [bV,← RV.jM]
  exact dI (Nat.le_trans (RV.q7 _) (Nat.succ_le_succ hp.1.2))
 have se:aR (Int.natAbs ((e:Nat):Int))≤8589934593:=by
  rw [bX,← RV.jM]
  exact dI (Nat.le_trans (RV.q7 _) (Nat.succ_le_succ hp.2.2))
 have zp:p.size≤8589934593:=by rw [hP.size]; exact sn
 have zq:q.size≤8589934593:=by rw [hQ.size]; exact sd
 have PR:p'.size≤8589934593:=by rw [lT.size]; exact sm
 have PS:q'.size≤8589934593:=by rw [ky.size]; exact se
 have pa:nt.val (b,s,t)=.tuple ⟨[.agg ⟨[.bool B,.string p]⟩,.agg ⟨[.bool false,.string q]⟩]⟩:=by
  rw [← hP.enc,← hQ.enc,bR,bV]; rfl
 have pb:nt.val (c,u,v)=.tuple ⟨[.agg ⟨[.bool D,.string p']⟩,.agg ⟨[.bool false,.string q']⟩]⟩:=by
  rw [← lT.enc,← ky.enc,fa,bX]; rfl
 obtain ⟨w,hw⟩:∃ w,w=mkRat (n*e+m*d) (d*e):=⟨_,rfl⟩
 have fin:∀ x:Value,x=(RV.of w).v→x=lf.val ((b,s,t),(c,u,v)):=fun x h=>by
  rw [h,hw,bR,fa,bV,bX]
  show bM _=bM (RV.q (b,s,t)+RV.q (c,u,v))
  rw [GL]
 conv=>whnf
 refine ⟨(b,s,t),rfl,trivial,?_⟩
 by_cases h1:RV.fY (b,s,t)
 ·rw [show bH.val (b,s,t)=.tuple ⟨[.int .i64 n,.int .i64 d,.bool true]⟩ from by simp only [bH,if_pos h1,decide_eq_true h1,bR,bV]]
  conv=>whnf
  refine ⟨(c,u,v),rfl,trivial,?_⟩
  by_cases J:RV.fY (c,u,v)
  ·rw [show bH.val (c,u,v)=.tuple ⟨[.int .i64 m,.int .i64 e,.bool true]⟩ from by simp only [bH,if_pos J,decide_eq_true J,fa,bX]]
   have bg:I4.ok ((n,d),(m,e)):=⟨hn h1,hm J⟩
   obtain ⟨b1,b2,b3,b4⟩:=I4.bounds bg
   simp only at b1 b2 b3 b4
   conv=>whnf
   obtain ⟨x,hx⟩:∃ x,x=n*(e:Int):=⟨_,rfl⟩
   obtain ⟨y,hy⟩:∃ y,y=m*(d:Int):=⟨_,rfl⟩
   obtain ⟨k,hk⟩:∃ k,k=d*e:=⟨_,rfl⟩
   rw [← hx] at b1
   rw [← hy] at b2
   rw [← hk] at b4
   have e1:IntKind.i64.wrap (IntKind.i64.wrap (n*(e:Int))+IntKind.i64.wrap (m*(d:Int)))=x+y:=by
    rw [← hx,← hy,au (x:=x) (by omega) (by omega),au (x:=y) (by omega) (by omega),au (by omega) (by omega)]
   have e2:IntKind.i64.wrap ((d:Int)*(e:Int))=(k:Int):=by
    rw [← Int.natCast_mul,← hk,au (by omega) (by omega)]
   rw [e1,e2]
   refine ⟨(x+y,k),rfl,⟨by show (x+y).natAbs < _; omega,by show k≠0; omega,by show k < _; omega⟩,?_⟩
   rw [show nr.val (x+y,k)=(RV.of w).v from by rw [hw,hx,hy,hk]; rfl]
   conv=>whnf
   exact fin _ rfl
  ·rw [show bH.val (c,u,v)=.tuple ⟨[.int .i64 0,.int .i64 0,.bool false]⟩ from by simp only [bH,if_neg J,decide_eq_false J]]
   conv=>whnf
   refine ⟨(b,s,t),rfl,hp.1,?_⟩
   rw [pa]
   conv=>whnf
   refine ⟨(c,u,v),rfl,hp.2,?_⟩
   rw [pb]
   obtain ⟨B1,m1,g1⟩:=EI.mk' (n*(e:Int))
   obtain ⟨B2,m2,g2⟩:=EI.mk' (m*(d:Int))
   obtain ⟨B3,m3,g3⟩:=EI.mk' (n*(e:Int)+m*(d:Int))
   obtain ⟨B4,m4,g4⟩:=EI.mk' ((d:Int)*(e:Int))
   have z1:=g1.gC sn se
   have z2:=g2.gC sm sd
   have z4:=g4.gC sd se
   have z3:m3.size≤17179869187:=g3.E2 (by rw [← g1.size]; omega) (by rw [← g2.size]; omega)
   have lz:(0:Int) < (d:Int)*(e:Int):=Int.mul_pos (by omega) (by omega)
   conv=>whnf
   refine .inl ⟨9,[[],[],[0,1],[],[],[0,1,2,3,4],[0,1,2,3,4,5],[],[],[0,1,2,3,4,5,6,7,8],[0,1,2,3,4,5,6,7,8,9],[0,1,2,3,4,5,6,7,8,9,10]],by kernel_rfl,?_⟩
   conv=>whnf
   refine ⟨((B,p),(false,q')),rfl,⟨by show p.size≤_; omega,by show q'.size≤_; omega⟩,?_⟩
   rw [show fm.val ((B,p),(false,q'))=.agg ⟨[.bool B1,.string m1]⟩ from by show aF (IV.z (B,p)*IV.z (false,q'))=_; rw [hP.val,ky.val,g1.enc]]
   conv=>whnf
   refine ⟨((D,p'),(false,q)),rfl,⟨by show p'.size≤_; omega,by show q.size≤_; omega⟩,?_⟩
   rw [show fm.val ((D,p'),(false,q))=.agg ⟨[.bool B2,.string m2]⟩ from by show aF (IV.z (D,p')*IV.z (false,q))=_; rw [lT.val,hQ.val,g2.enc]]
   conv=>whnf
   refine ⟨((B1,m1),(B2,m2)),rfl,⟨by show m1.size≤_; omega,by show m2.size≤_; omega⟩,?_⟩
   rw [show iW.val ((B1,m1),(B2,m2))=.agg ⟨[.bool B3,.string m3]⟩ from by show aF (IV.z (B1,m1)+IV.z (B2,m2))=_; rw [g1.val,g2.val,g3.enc]]
   conv=>whnf
   refine ⟨((false,q),(false,q')),rfl,⟨by show q.size≤_; omega,by show q'.size≤_; omega⟩,?_⟩
   rw [show fm.val ((false,q),(false,q'))=.agg ⟨[.bool B4,.string m4]⟩ from by show aF (IV.z (false,q)*IV.z (false,q'))=_; rw [hQ.val,ky.val,g4.enc]]
   conv=>whnf
   refine ⟨((B3,m3),(B4,m4)),rfl,⟨by show m3.size≤_; omega,by show m4.size≤_; omega,by show 0 < IV.z (B4,m4); rw [g4.val]; exact lz⟩,?_⟩
   rw [show ph.val ((B3,m3),(B4,m4))=(RV.of w).v from by
    show bM (mkRat (IV.z (B3,m3)) (IV.z (B4,m4)).natAbs)=_
    rw [g3.val,g4.val,hw,← Int.natCast_mul,Int.natAbs_natCast]; rfl]
   conv=>whnf
   exact fin _ rfl
 ·rw [show bH.val (b,s,t)=.tuple ⟨[.int .i64 0,.int .i64 0,.bool false]⟩ from by simp only [bH,if_neg h1,decide_eq_false h1]]
  conv=>whnf
  obtain ⟨k1,k2,k3,hk⟩:∃ (k1 k2:Int) (k3:Bool),bH.val (c,u,v)=.tuple ⟨[.int .i64 k1,.int .i64 k2,.bool k3]⟩:=⟨_,_,_,rfl⟩
  refine ⟨(c,u,v),rfl,trivial,?_⟩
  rw [hk]
  conv=>whnf
  refine ⟨(b,s,t),rfl,hp.1,?_⟩
  rw [pa]
  conv=>whnf
  refine ⟨(c,u,v),rfl,hp.2,?_⟩
  rw [pb]
  obtain ⟨B1,m1,g1⟩:=EI.mk' (n*(e:Int))
  obtain ⟨B2,m2,g2⟩:=EI.mk' (m*(d:Int))
  obtain ⟨B3,m3,g3⟩:=EI.mk' (n*(e:Int)+m*(d:Int))
  obtain ⟨B4,m4,g4⟩:=EI.mk' ((d:Int)*(e:Int))
  have z1:=g1.gC sn se
  have z2:=g2.gC sm sd
  have z4:=g4.gC sd se
  have z3:m3.size≤17179869187:=g3.E2 (by rw [← g1.size]; omega) (by rw [← g2.size]; omega)
  have lz:(0:Int) < (d:Int)*(e:Int):=Int.mul_pos (by omega) (by omega)
  conv=>whnf
  refine .inl ⟨9,[[],[],[0,1],[],[],[0,1,2,3,4],[0,1,2,3,4,5],[],[],[0,1,2,3,4,5,6,7,8],[0,1,2,3,4,5,6,7,8,9],[0,1,2,3,4,5,6,7,8,9,10]],by kernel_rfl,?_⟩
  conv=>whnf
  refine ⟨((B,p),(false,q')),rfl,⟨by show p.size≤_; omega,by show q'.size≤_; omega⟩,?_⟩
  rw [show fm.val ((B,p),(false,q'))=.agg ⟨[.bool B1,.string m1]⟩ from by show aF (IV.z (B,p)*IV.z (false,q'))=_; rw [hP.val,ky.val,g1.enc]]
  conv=>whnf
  refine ⟨((D,p'),(false,q)),rfl,⟨by show p'.size≤_; omega,by show q.size≤_; omega⟩,?_⟩
  rw [show fm.val ((D,p'),(false,q))=.agg ⟨[.bool B2,.string m2]⟩ from by show aF (IV.z (D,p')*IV.z (false,q))=_; rw [lT.val,hQ.val,g2.enc]]
  conv=>whnf
  refine ⟨((B1,m1),(B2,m2)),rfl,⟨by show m1.size≤_; omega,by show m2.size≤_; omega⟩,?_⟩
  rw [show iW.val ((B1,m1),(B2,m2))=.agg ⟨[.bool B3,.string m3]⟩ from by show aF (IV.z (B1,m1)+IV.z (B2,m2))=_; rw [g1.val,g2.val,g3.enc]]
  conv=>whnf
  refine ⟨((false,q),(false,q')),rfl,⟨by show q.size≤_; omega,by show q'.size≤_; omega⟩,?_⟩
  rw [show fm.val ((false,q),(false,q'))=.agg ⟨[.bool B4,.string m4]⟩ from by show aF (IV.z (false,q)*IV.z (false,q'))=_; rw [hQ.val,ky.val,g4.enc]]
  conv=>whnf
  refine ⟨((B3,m3),(B4,m4)),rfl,⟨by show m3.size≤_; omega,by show m4.size≤_; omega,by show 0 < IV.z (B4,m4); rw [g4.val]; exact lz⟩,?_⟩
  rw [show ph.val ((B3,m3),(B4,m4))=(RV.of w).v from by
   show bM (mkRat (IV.z (B3,m3)) (IV.z (B4,m4)).natAbs)=_
   rw [g3.val,g4.val,hw,← Int.natCast_mul,Int.natAbs_natCast]; rfl]
  conv=>whnf
  exact fin _ rfl
theorem Mn:bm Tryz.prog 156 lg:=by
 refine bt yN aO Tryz.func156 (enters_of Tryz.func156 (by kernel_rfl) rfl) (fun _=>rfl) (fun _=>rfl) ?_
 intro ⟨⟨b,s,t⟩,⟨c,u,v⟩⟩ hp
 have hp:(s.size≤8589934592∧t.size≤8589934592)∧u.size≤8589934592∧v.size≤8589934592:=hp
 have hn:=RV.jN (i:=(b,s,t))
 have hm:=RV.jN (i:=(c,u,v))
 obtain ⟨n,bR⟩:∃ n,n=RV.n (b,s,t):=⟨_,rfl⟩
 obtain ⟨m,fa⟩:∃ n,n=RV.n (c,u,v):=⟨_,rfl⟩
 obtain ⟨d,bV⟩:∃ n,n=RV.d (b,s,t):=⟨_,rfl⟩
 obtain ⟨e,bX⟩:∃ n,n=RV.d (c,u,v):=⟨_,rfl⟩
 have fF:d≠0:=by rw [bV]; exact RV.jK _
 have PQ:e≠0:=by rw [bX]; exact RV.jK _
 rw [← bR,← bV] at hn
 rw [← fa,← bX] at hm
 obtain ⟨B,p,hP⟩:=EI.mk' n
 obtain ⟨q,hQ⟩:=EI.iS (show 0≤((d:Nat):Int) by omega)
 obtain ⟨D,p',lT⟩:=EI.mk' m
 obtain ⟨q',ky⟩:=EI.iS (show 0≤((e:Nat):Int) by omega)
 have sn:aR n.natAbs≤8589934593:=by rw [bR]; exact dI (b:=b) (Nat.le_succ_of_le hp.1.1)
 have sm:aR m.natAbs≤8589934593:=by rw [fa]; exact dI (b:=c) (Nat.le_succ_of_le hp.2.1)
 have sd:aR (Int.natAbs ((d:Nat):Int))≤8589934593:=by
  rw [bV,← RV.jM]
  exact dI (Nat.le_trans (RV.q7 _) (Nat.succ_le_succ hp.1.2))
 have se:aR (Int.natAbs ((e:Nat):Int))≤8589934593:=by
  rw [bX,← RV.jM]
  exact dI (Nat.le_trans (RV.q7 _) (Nat.succ_le_succ hp.2.2))
 have zp:p.size≤8589934593:=by rw [hP.size]; exact sn
 have zq:q.size≤8589934593:=by rw [hQ.size]; exact sd
 have PR:p'.size≤8589934593:=by rw [lT.size]; exact sm
 have PS:q'.size≤8589934593:=by rw [ky.size]; exact se
 have pa:nt.val (b,s,t)=.tuple ⟨[.agg ⟨[.bool B,.string p]⟩,.agg ⟨[.bool false,.string q]⟩]⟩:=by
  rw [← hP.enc,← hQ.enc,bR,bV]; rfl
 have pb:nt.val (c,u,v)=.tuple ⟨[.agg ⟨[.bool D,.string p']⟩,.agg ⟨[.bool false,.string q']⟩]⟩:=by
  rw [← lT.enc,← ky.enc,fa,bX]; rfl
 obtain ⟨w,hw⟩:∃ w,w=mkRat (n*m) (d*e):=⟨_,rfl⟩
 have fin:∀ x:Value,x=(RV.of w).v→x=lg.val ((b,s,t),(c,u,v)):=fun x h=>by
  rw [h,hw,bR,fa,bV,bX]
  show bM _=bM (RV.q (b,s,t)*RV.q (c,u,v))
  rw [GM]
 conv=>whnf
 refine ⟨(b,s,t),rfl,trivial,?_⟩
 by_cases h1:RV.fY (b,s,t)
 ·rw [show bH.val (b,s,t)=.tuple ⟨[.int .i64 n,.int .i64 d,.bool true]⟩ from by simp only [bH,if_pos h1,decide_eq_true h1,bR,bV]]
  conv=>whnf
  refine ⟨(c,u,v),rfl,trivial,?_⟩
  by_cases J:RV.fY (c,u,v)
  ·rw [show bH.val (c,u,v)=.tuple ⟨[.int .i64 m,.int .i64 e,.bool true]⟩ from by simp only [bH,if_pos J,decide_eq_true J,fa,bX]]
   have bg:I4.ok ((n,d),(m,e)):=⟨hn h1,hm J⟩
   obtain ⟨b1,b2,b3,b4⟩:=I4.bounds bg
   simp only at b1 b2 b3 b4
   conv=>whnf
   obtain ⟨x,hx⟩:∃ x,x=n*m:=⟨_,rfl⟩
   obtain ⟨k,hk⟩:∃ k,k=d*e:=⟨_,rfl⟩
   rw [← hx] at b3
   rw [← hk] at b4
   have e1:IntKind.i64.wrap (n*m)=x:=by
    rw [← hx,au (x:=x) (by omega) (by omega)]
   have e2:IntKind.i64.wrap ((d:Int)*(e:Int))=(k:Int):=by
    rw [← Int.natCast_mul,← hk,au (by omega) (by omega)]
   rw [e1,e2]
   refine ⟨(x,k),rfl,⟨by show x.natAbs < _; omega,by show k≠0; omega,by show k < _; omega⟩,?_⟩
   rw [show nr.val (x,k)=(RV.of w).v from by rw [hw,hx,hk]; rfl]
   conv=>whnf
   exact fin _ rfl
  ·rw [show bH.val (c,u,v)=.tuple ⟨[.int .i64 0,.int .i64 0,.bool false]⟩ from by simp only [bH,if_neg J,decide_eq_false J]]
   conv=>whnf
   refine ⟨(b,s,t),rfl,hp.1,?_⟩
   rw [pa]
   conv=>whnf
   refine ⟨(c,u,v),rfl,hp.2,?_⟩
   rw [pb]
   obtain ⟨B1,m1,g1⟩:=EI.mk' (n*m)
   obtain ⟨B4,m4,g4⟩:=EI.mk' ((d:Int)*(e:Int))
   have z1:=g1.gC sn sm
   have z4:=g4.gC sd se
   have lz:(0:Int) < (d:Int)*(e:Int):=Int.mul_pos (by omega) (by omega)
   conv=>whnf
   refine .inl ⟨5,[[],[],[0,1],[],[],[0,1,2,3,4],[0,1,2,3,4,5],[0,1,2,3,4,5,6]],by kernel_rfl,?_⟩
   conv=>whnf
   refine ⟨((B,p),(D,p')),rfl,⟨by show p.size≤_; omega,by show p'.size≤_; omega⟩,?_⟩
   rw [show fm.val ((B,p),(D,p'))=.agg ⟨[.bool B1,.string m1]⟩ from by show aF (IV.z (B,p)*IV.z (D,p'))=_; rw [hP.val,lT.val,g1.enc]]
   conv=>whnf
   refine ⟨((false,q),(false,q')),rfl,⟨by show q.size≤_; omega,by show q'.size≤_; omega⟩,?_⟩
   rw [show fm.val ((false,q),(false,q'))=.agg ⟨[.bool B4,.string m4]⟩ from by show aF (IV.z (false,q)*IV.z (false,q'))=_; rw [hQ.val,ky.val,g4.enc]]
   conv=>whnf
   refine ⟨((B1,m1),(B4,m4)),rfl,⟨by show m1.size≤_; omega,by show m4.size≤_; omega,by show 0 < IV.z (B4,m4); rw [g4.val]; exact lz⟩,?_⟩
   rw [show ph.val ((B1,m1),(B4,m4))=(RV.of w).v from by
    show bM (mkRat (IV.z (B1,m1)) (IV.z (B4,m4)).natAbs)=_
    rw [g1.val,g4.val,hw,← Int.natCast_mul,Int.natAbs_natCast]; rfl]
   conv=>whnf
   exact fin _ rfl
 ·rw [show bH.val (b,s,t)=.tuple ⟨[.int .i64 0,.int .i64 0,.bool false]⟩ from by simp only [bH,if_neg h1,decide_eq_false h1]]
  conv=>whnf
  obtain ⟨k1,k2,k3,hk⟩:∃ (k1 k2:Int) (k3:Bool),bH.val (c,u,v)=.tuple ⟨[.int .i64 k1,.int .i64 k2,.bool k3]⟩:=⟨_,_,_,rfl⟩
  refine ⟨(c,u,v),rfl,trivial,?_⟩
  rw [hk]
  conv=>whnf
  refine ⟨(b,s,t),rfl,hp.1,?_⟩
  rw [pa]
  conv=>whnf
  refine ⟨(c,u,v),rfl,hp.2,?_⟩
  rw [pb]
  obtain ⟨B1,m1,g1⟩:=EI.mk' (n*m)
  obtain ⟨B4,m4,g4⟩:=EI.mk' ((d:Int)*(e:Int))
  have z1:=g1.gC sn sm
  have z4:=g4.gC sd se
  have lz:(0:Int) < (d:Int)*(e:Int):=Int.mul_pos (by omega) (by omega)
  conv=>whnf
  refine .inl ⟨5,[[],[],[0,1],[],[],[0,1,2,3,4],[0,1,2,3,4,5],[0,1,2,3,4,5,6]],by kernel_rfl,?_⟩
  conv=>whnf
  refine ⟨((B,p),(D,p')),rfl,⟨by show p.size≤_; omega,by show p'.size≤_; omega⟩,?_⟩
  rw [show fm.val ((B,p),(D,p'))=.agg ⟨[.bool B1,.string m1]⟩ from by show aF (IV.z (B,p)*IV.z (D,p'))=_; rw [hP.val,lT.val,g1.enc]]
  conv=>whnf
  refine ⟨((false,q),(false,q')),rfl,⟨by show q.size≤_; omega,by show q'.size≤_; omega⟩,?_⟩
  rw [show fm.val ((false,q),(false,q'))=.agg ⟨[.bool B4,.string m4]⟩ from by show aF (IV.z (false,q)*IV.z (false,q'))=_; rw [hQ.val,ky.val,g4.enc]]
  conv=>whnf
  refine ⟨((B1,m1),(B4,m4)),rfl,⟨by show m1.size≤_; omega,by show m4.size≤_; omega,by show 0 < IV.z (B4,m4); rw [g4.val]; exact lz⟩,?_⟩
  rw [show ph.val ((B1,m1),(B4,m4))=(RV.of w).v from by
   show bM (mkRat (IV.z (B1,m1)) (IV.z (B4,m4)).natAbs)=_
   rw [g1.val,g4.val,hw,← Int.natCast_mul,Int.natAbs_natCast]; rfl]
  conv=>whnf
  exact fin _ rfl
theorem Fj:bm Tryz.prog 128 jL:=by
 refine bt yN aO Tryz.func128 (enters_of Tryz.func128 (by kernel_rfl) rfl) (fun _=>rfl) (fun _=>rfl) ?_
 intro ⟨⟨b,s,t⟩,⟨c,u,v⟩⟩ hp
 have hp:(s.size≤8589934592∧t.size≤8589934592)∧u.size≤8589934592∧v.size≤8589934592:=hp
 have hn:=RV.jN (i:=(b,s,t))
 have hm:=RV.jN (i:=(c,u,v))
 obtain ⟨n,bR⟩:∃ n,n=RV.n (b,s,t):=⟨_,rfl⟩
 obtain ⟨m,fa⟩:∃ n,n=RV.n (c,u,v):=⟨_,rfl⟩
 obtain ⟨d,bV⟩:∃ n,n=RV.d (b,s,t):=⟨_,rfl⟩
 obtain ⟨e,bX⟩:∃ n,n=RV.d (c,u,v):=⟨_,rfl⟩
 have fF:d≠0:=by rw [bV]; exact RV.jK _
 have PQ:e≠0:=by rw [bX]; exact RV.jK _
 rw [← bR,← bV] at hn
 rw [← fa,← bX] at hm
 obtain ⟨B,p,hP⟩:=EI.mk' n
 obtain ⟨q,hQ⟩:=EI.iS (show 0≤((d:Nat):Int) by omega)
 obtain ⟨D,p',lT⟩:=EI.mk' m
 obtain ⟨q',ky⟩:=EI.iS (show 0≤((e:Nat):Int) by omega)
 have sn:aR n.natAbs≤8589934593:=by rw [bR]; exact dI (b:=b) (Nat.le_succ_of_le hp.1.1)
 have sm:aR m.natAbs≤8589934593:=by rw [fa]; exact dI (b:=c) (Nat.le_succ_of_le hp.2.1)
 have sd:aR (Int.natAbs ((d:Nat):Int))≤8589934593:=by
  rw [bV,← RV.jM]
  exact dI (Nat.le_trans (RV.q7 _) (Nat.succ_le_succ hp.1.2))
 have se:aR (Int.natAbs ((e:Nat):Int))≤8589934593:=by
  rw [bX,← RV.jM]
  exact dI (Nat.le_trans (RV.q7 _) (Nat.succ_le_succ hp.2.2))
 have zp:p.size≤8589934593:=by rw [hP.size]; exact sn
 have zq:q.size≤8589934593:=by rw [hQ.size]; exact sd
 have PR:p'.size≤8589934593:=by rw [lT.size]; exact sm
 have PS:q'.size≤8589934593:=by rw [ky.size]; exact se
 have pa:nt.val (b,s,t)=.tuple ⟨[.agg ⟨[.bool B,.string p]⟩,.agg ⟨[.bool false,.string q]⟩]⟩:=by
  rw [← hP.enc,← hQ.enc,bR,bV]; rfl
 have pb:nt.val (c,u,v)=.tuple ⟨[.agg ⟨[.bool D,.string p']⟩,.agg ⟨[.bool false,.string q']⟩]⟩:=by
  rw [← lT.enc,← ky.enc,fa,bX]; rfl
 obtain ⟨w,hw⟩:∃ w,w=dP (n*e) (m*d):=⟨_,rfl⟩
 have fin:∀ x:Int,x=w→Value.int .i64 x=jL.val ((b,s,t),(c,u,v)):=fun x h=>by
  rw [h,hw,bR,fa,bV,bX]
  show Value.int .i64 _=.int .i64 (aY (RV.q (b,s,t)) (RV.q (c,u,v)))
  rw [BX]
 conv=>whnf
 refine ⟨(b,s,t),rfl,trivial,?_⟩
 by_cases h1:RV.fY (b,s,t)
 ·rw [show bH.val (b,s,t)=.tuple ⟨[.int .i64 n,.int .i64 d,.bool true]⟩ from by simp only [bH,if_pos h1,decide_eq_true h1,bR,bV]]
  conv=>whnf
  refine ⟨(c,u,v),rfl,trivial,?_⟩
  by_cases J:RV.fY (c,u,v)
  ·rw [show bH.val (c,u,v)=.tuple ⟨[.int .i64 m,.int .i64 e,.bool true]⟩ from by simp only [bH,if_pos J,decide_eq_true J,fa,bX]]
   have bg:I4.ok ((n,d),(m,e)):=⟨hn h1,hm J⟩
   obtain ⟨b1,b2,b3,b4⟩:=I4.bounds bg
   simp only at b1 b2 b3 b4
   conv=>whnf
   obtain ⟨x,hx⟩:∃ x,x=n*(e:Int):=⟨_,rfl⟩
   obtain ⟨y,hy⟩:∃ y,y=m*(d:Int):=⟨_,rfl⟩
   rw [← hx] at b1
   rw [← hy] at b2
   have e1:IntKind.i64.wrap (n*(e:Int))=x:=by rw [← hx,au (x:=x) (by omega) (by omega)]
   have e2:IntKind.i64.wrap (m*(d:Int))=y:=by rw [← hy,au (x:=y) (by omega) (by omega)]
   rw [← hx,← hy] at hw
   rw [e1,e2]
   refine aL (fun h=>?_) (fun h=>?_)
   ·have h:=of_decide_eq_true h
    conv=>whnf
    exact fin _ (hw.trans (tj h)).symm
   ·have h:=of_decide_eq_false h
    conv=>whnf
    rw [e1,e2]
    refine aL (fun h5=>?_) (fun h5=>?_)
    ·have h5:=of_decide_eq_true h5
     conv=>whnf
     exact fin _ (hw.trans (tq h5)).symm
    ·have h5:=of_decide_eq_false h5
     conv=>whnf
     refine fin _ ?_
     rw [hw]
     unfold dP
     rw [if_neg h,if_neg (show ¬ y < x from h5)]
  ·rw [show bH.val (c,u,v)=.tuple ⟨[.int .i64 0,.int .i64 0,.bool false]⟩ from by simp only [bH,if_neg J,decide_eq_false J]]
   conv=>whnf
   refine ⟨(b,s,t),rfl,hp.1,?_⟩
   rw [pa]
   conv=>whnf
   refine ⟨(c,u,v),rfl,hp.2,?_⟩
   rw [pb]
   obtain ⟨B1,m1,g1⟩:=EI.mk' (n*(e:Int))
   obtain ⟨B2,m2,g2⟩:=EI.mk' (m*(d:Int))
   have z1:=g1.gC sn se
   have z2:=g2.gC sm sd
   conv=>whnf
   refine .inl ⟨5,[[],[],[0,1],[],[],[0,1,2,3,4],[0,1,2,3,4,5],[0,1,2,3,4,5,6]],by kernel_rfl,?_⟩
   conv=>whnf
   refine ⟨((B,p),(false,q')),rfl,⟨by show p.size≤_; omega,by show q'.size≤_; omega⟩,?_⟩
   rw [show fm.val ((B,p),(false,q'))=.agg ⟨[.bool B1,.string m1]⟩ from by show aF (IV.z (B,p)*IV.z (false,q'))=_; rw [hP.val,ky.val,g1.enc]]
   conv=>whnf
   refine ⟨((D,p'),(false,q)),rfl,⟨by show p'.size≤_; omega,by show q.size≤_; omega⟩,?_⟩
   rw [show fm.val ((D,p'),(false,q))=.agg ⟨[.bool B2,.string m2]⟩ from by show aF (IV.z (D,p')*IV.z (false,q))=_; rw [lT.val,hQ.val,g2.enc]]
   conv=>whnf
   refine ⟨((B1,m1),(B2,m2)),rfl,⟨by show m1.size≤_; omega,by show m2.size≤_; omega⟩,?_⟩
   rw [show lE.val ((B1,m1),(B2,m2))=.int .i64 w from by show Value.int .i64 (dP (IV.z (B1,m1)) (IV.z (B2,m2)))=_; rw [g1.val,g2.val,hw]]
   conv=>whnf
   exact fin _ rfl
 ·rw [show bH.val (b,s,t)=.tuple ⟨[.int .i64 0,.int .i64 0,.bool false]⟩ from by simp only [bH,if_neg h1,decide_eq_false h1]]
  conv=>whnf
  obtain ⟨k1,k2,k3,hk⟩:∃ (k1 k2:Int) (k3:Bool),bH.val (c,u,v)=.tuple ⟨[.int .i64 k1,.int .i64 k2,.bool k3]⟩:=⟨_,_,_,rfl⟩
  refine ⟨(c,u,v),rfl,trivial,?_⟩
  rw [hk]
  conv=>whnf
  refine ⟨(b,s,t),rfl,hp.1,?_⟩
  rw [pa]
  conv=>whnf
  refine ⟨(c,u,v),rfl,hp.2,?_⟩
  rw [pb]
  obtain ⟨B1,m1,g1⟩:=EI.mk' (n*(e:Int))
  obtain ⟨B2,m2,g2⟩:=EI.mk' (m*(d:Int))
  have z1:=g1.gC sn se
  have z2:=g2.gC sm sd
  conv=>whnf
  refine .inl ⟨5,[[],[],[0,1],[],[],[0,1,2,3,4],[0,1,2,3,4,5],[0,1,2,3,4,5,6]],by kernel_rfl,?_⟩
  conv=>whnf
  refine ⟨((B,p),(false,q')),rfl,⟨by show p.size≤_; omega,by show q'.size≤_; omega⟩,?_⟩
  rw [show fm.val ((B,p),(false,q'))=.agg ⟨[.bool B1,.string m1]⟩ from by show aF (IV.z (B,p)*IV.z (false,q'))=_; rw [hP.val,ky.val,g1.enc]]
  conv=>whnf
  refine ⟨((D,p'),(false,q)),rfl,⟨by show p'.size≤_; omega,by show q.size≤_; omega⟩,?_⟩
  rw [show fm.val ((D,p'),(false,q))=.agg ⟨[.bool B2,.string m2]⟩ from by show aF (IV.z (D,p')*IV.z (false,q))=_; rw [lT.val,hQ.val,g2.enc]]
  conv=>whnf
  refine ⟨((B1,m1),(B2,m2)),rfl,⟨by show m1.size≤_; omega,by show m2.size≤_; omega⟩,?_⟩
  rw [show lE.val ((B1,m1),(B2,m2))=.int .i64 w from by show Value.int .i64 (dP (IV.z (B1,m1)) (IV.z (B2,m2)))=_; rw [g1.val,g2.val,hw]]
  conv=>whnf
  exact fin _ rfl
def Eqd:Env:=En [(169,.p lf),(128,.p jL)]
theorem abp:EnvOk Tryz.prog Eqd:=bL ⟨Mm,Fj,trivial⟩ trivial
theorem Vi:bm Tryz.prog 146 gL:=by
 refine bt abp aO Tryz.func146 (enters_of Tryz.func146 (by kernel_rfl) rfl) (fun _=>rfl) (fun _=>rfl) ?_
 intro ⟨⟨b,s,t⟩,⟨c,u,v⟩⟩ hp
 have hp:RV.ok (b,s,t)∧RV.ok (c,u,v):=hp
 obtain ⟨w,hw⟩:∃ w,w=RV.q (b,s,t) - RV.q (c,u,v):=⟨_,rfl⟩
 conv=>whnf
 refine ⟨((b,s,t),(!c,u,v)),rfl,hp,?_⟩
 rw [show lf.val ((b,s,t),(!c,u,v))=(RV.of w).v from by
  rw [hw]
  show bM (RV.q (b,s,t)+RV.q (!c,u,v))=bM _
  rw [Nm,← Rat.sub_eq_add_neg]]
 conv=>whnf
 show (RV.of w).v=bM _
 rw [hw]
 rfl
end Go.Proofs.YtlapbjdhekcipaaGreat
/- Contracts of vector and of the reference vectors: sums, products. -/
set_option maxRecDepth 20000
set_option maxHeartbeats 1000000
namespace Go.Proofs.YtlapbjdhekcipaaGreat
open Go Go.Ae
def IP:Env:=En [(36,.p lf),(38,.p gL),(37,.p lg)]
theorem abq:EnvOk Tryz.prog IP:=bL ⟨Bo,wa,MW,trivial⟩ trivial
theorem X3:gl Tryz.prog 81 (cI IP cV Tryz.f81):=by
 exact jn abq aO Tryz.func81 (enters_of Tryz.func81 (by kernel_rfl) rfl)
def Evb:Env:=En [(33,.p mr),(36,.p lf),(38,.p gL),(35,.p jL),(129,.p mI)] [(81,cI IP cV Tryz.f81)]
theorem ud:EnvOk Tryz.prog Evb:=bL ⟨yq,Bo,wa,MX,TA,trivial⟩ ⟨X3,trivial⟩
def Evr:Env:=En [(120,.p mr),(169,.p lf),(146,.p gL),(156,.p lg),(128,.p jL),(119,.p mI),(153,.p ym)]
theorem Ca:EnvOk Tryz.prog Evr:=bL ⟨X2,Mm,Vi,Mn,Fj,St,Lv,trivial⟩ trivial
theorem NA:bm Tryz.prog 55 pV:=by
 refine bt ud aO Tryz.func55 (enters_of Tryz.func55 (by kernel_rfl) rfl) (fun _=>rfl) (fun _=>rfl) ?_
 intro ⟨n,m⟩ hp
 have hp:uU n∧uU m:=hp
 obtain ⟨x,hx⟩:∃ x:Rat,x=(n:Rat):=⟨_,rfl⟩
 obtain ⟨y,hy⟩:∃ x:Rat,x=(m:Rat):=⟨_,rfl⟩
 conv=>whnf
 refine ⟨n,rfl,hp.1,?_⟩
 rw [show mr.val n=(RV.of x).v from by rw [hx]; rfl]
 conv=>whnf
 refine ⟨m,rfl,hp.2,?_⟩
 rw [show mr.val m=(RV.of y).v from by rw [hy]; rfl]
 conv=>whnf
 show PV.v (RV.of x,RV.of y)=mu _ _
 rw [hx,hy]
 rfl
theorem X4:bm Tryz.prog 29 GN:=by
 refine bt ud aO Tryz.func29 (enters_of Tryz.func29 (by kernel_rfl) rfl) (fun _=>rfl) (fun _=>rfl) ?_
 intro ⟨p,q⟩ hp
 have hp:p.sz 8589934592∧q.sz 8589934592:=hp
 obtain ⟨x,hx⟩:∃ x,x=p.1.q+q.1.q:=⟨_,rfl⟩
 obtain ⟨y,hy⟩:∃ x,x=p.2.q+q.2.q:=⟨_,rfl⟩
 conv=>whnf
 refine .inl ⟨11,[[],[],[1],[],[3],[0,1,2,3,4],[],[],[7],[],[9],[0,1,2,3,4,5,6,7,8,9,10],[0,1,2,3,4,5,6,7,8,9,10,11],[0,1,2,3,4,5,6,7,8,9,10,11,12]],by kernel_rfl,?_⟩
 conv=>whnf
 refine ⟨(p.1,q.1),rfl,⟨hp.1.1,hp.2.1⟩,?_⟩
 rw [show lf.val (p.1,q.1)=(RV.of x).v from by rw [hx]; rfl]
 conv=>whnf
 refine ⟨(p.2,q.2),rfl,⟨hp.1.2,hp.2.2⟩,?_⟩
 rw [show lf.val (p.2,q.2)=(RV.of y).v from by rw [hy]; rfl]
 conv=>whnf
 show PV.v (RV.of x,RV.of y)=mu _ _
 rw [hx,hy]
 rfl
theorem Bp:bm Tryz.prog 85 kF:=by
 refine bt ud aO Tryz.func85 (enters_of Tryz.func85 (by kernel_rfl) rfl) (fun _=>rfl) (fun _=>rfl) ?_
 intro ⟨p,q⟩ hp
 have hp:p.sz 8589934592∧q.sz 8589934592:=hp
 obtain ⟨x,hx⟩:∃ x,x=p.1.q - q.1.q:=⟨_,rfl⟩
 obtain ⟨y,hy⟩:∃ x,x=p.2.q - q.2.q:=⟨_,rfl⟩
 conv=>whnf
 refine .inl ⟨11,[[],[],[1],[],[3],[0,1,2,3,4],[],[],[7],[],[9],[0,1,2,3,4,5,6,7,8,9,10],[0,1,2,3,4,5,6,7,8,9,10,11],[0,1,2,3,4,5,6,7,8,9,10,11,12]],by kernel_rfl,?_⟩
 conv=>whnf
 refine ⟨(p.1,q.1),rfl,⟨hp.1.1,hp.2.1⟩,?_⟩
 rw [show gL.val (p.1,q.1)=(RV.of x).v from by rw [hx]; rfl]
 conv=>whnf
 refine ⟨(p.2,q.2),rfl,⟨hp.1.2,hp.2.2⟩,?_⟩
 rw [show gL.val (p.2,q.2)=(RV.of y).v from by rw [hy]; rfl]
 conv=>whnf
 show PV.v (RV.of x,RV.of y)=mu _ _
 rw [hx,hy]
 rfl
theorem Vj:bm Tryz.prog 121 kF:=by
 refine bt Ca aO Tryz.func121 (enters_of Tryz.func121 (by kernel_rfl) rfl) (fun _=>rfl) (fun _=>rfl) ?_
 intro ⟨p,q⟩ hp
 have hp:p.sz 8589934592∧q.sz 8589934592:=hp
 obtain ⟨x,hx⟩:∃ x,x=p.1.q - q.1.q:=⟨_,rfl⟩
 obtain ⟨y,hy⟩:∃ x,x=p.2.q - q.2.q:=⟨_,rfl⟩
 conv=>whnf
 refine .inl ⟨9,[[],[0],[],[2],[0,1,2,3],[],[5],[],[7],[0,1,2,3,4,5,6,7,8],[0,1,2,3,4,5,6,7,8,9],[0,1,2,3,4,5,6,7,8,9,10]],by kernel_rfl,?_⟩
 conv=>whnf
 refine ⟨(p.1,q.1),rfl,⟨hp.1.1,hp.2.1⟩,?_⟩
 rw [show gL.val (p.1,q.1)=(RV.of x).v from by rw [hx]; rfl]
 conv=>whnf
 refine ⟨(p.2,q.2),rfl,⟨hp.1.2,hp.2.2⟩,?_⟩
 rw [show gL.val (p.2,q.2)=(RV.of y).v from by rw [hy]; rfl]
 conv=>whnf
 show PV.v (RV.of x,RV.of y)=mu _ _
 rw [hx,hy]
 rfl
theorem TD:bm Tryz.prog 31 FH:=by
 refine bt ud aO Tryz.func31 (enters_of Tryz.func31 (by kernel_rfl) rfl) (fun _=>rfl) (fun _=>rfl) ?_
 intro ⟨p,q⟩ hp
 have hp:p.sz 8589934592∧q.sz 8589934592:=hp
 obtain ⟨x,hx⟩:∃ x,x=p.1.q*q.q:=⟨_,rfl⟩
 obtain ⟨y,hy⟩:∃ x,x=p.2.q*q.q:=⟨_,rfl⟩
 conv=>whnf
 refine .inl ⟨11,[[],[],[1],[],[3],[0,1,2,3,4],[],[],[7],[],[9],[0,1,2,3,4,5,6,7,8,9,10],[0,1,2,3,4,5,6,7,8,9,10,11],[0,1,2,3,4,5,6,7,8,9,10,11,12]],by kernel_rfl,?_⟩
 conv=>whnf
 refine ⟨(p.1,q),rfl,⟨hp.1.1,hp.2⟩,?_⟩
 rw [show lg.val (p.1,q)=(RV.of x).v from by rw [hx]; rfl]
 conv=>whnf
 refine ⟨(p.2,q),rfl,⟨hp.1.2,hp.2⟩,?_⟩
 rw [show lg.val (p.2,q)=(RV.of y).v from by rw [hy]; rfl]
 conv=>whnf
 show PV.v (RV.of x,RV.of y)=mu _ _
 rw [hx,hy]
 rfl
theorem Lw:bm Tryz.prog 84 pj:=by
 refine bt ud aO Tryz.func84 (enters_of Tryz.func84 (by kernel_rfl) rfl) (fun _=>rfl) (fun _=>rfl) ?_
 intro ⟨p,q⟩ hp
 have hp:p.sz 1073741824∧q.sz 1073741824:=hp
 obtain ⟨x,hx⟩:∃ x,x=p.1.q*q.2.q:=⟨_,rfl⟩
 obtain ⟨y,hy⟩:∃ x,x=p.2.q*q.1.q:=⟨_,rfl⟩
 obtain ⟨z,hz⟩:∃ z,z=x - y:=⟨_,rfl⟩
 have sx:(RV.of x).ok:=RV.b6 (RV.mR (by rw [hx]; exact (RV.jX hp.1.1 (by decide)).mul (RV.jX hp.2.2 (by decide)))) (by decide)
 have sy:(RV.of y).ok:=RV.b6 (RV.mR (by rw [hy]; exact (RV.jX hp.1.2 (by decide)).mul (RV.jX hp.2.1 (by decide)))) (by decide)
 conv=>whnf
 refine .inl ⟨11,[[],[],[1],[],[3],[0,1,2,3,4],[],[],[7],[],[9],[0,1,2,3,4,5,6,7,8,9,10],[0,1,2,3,4,5,6,7,8,9,10,11],[0,1,2,3,4,5,6,7,8,9,10,11,12]],by kernel_rfl,?_⟩
 conv=>whnf
 refine ⟨(p.1,q.2),rfl,⟨RV.b6 hp.1.1 (by decide),RV.b6 hp.2.2 (by decide)⟩,?_⟩
 rw [show lg.val (p.1,q.2)=(RV.of x).v from by rw [hx]; rfl]
 conv=>whnf
 refine ⟨(p.2,q.1),rfl,⟨RV.b6 hp.1.2 (by decide),RV.b6 hp.2.1 (by decide)⟩,?_⟩
 rw [show lg.val (p.2,q.1)=(RV.of y).v from by rw [hy]; rfl]
 conv=>whnf
 refine ⟨(RV.of x,RV.of y),rfl,⟨sx,sy⟩,?_⟩
 rw [show gL.val (RV.of x,RV.of y)=(RV.of z).v from by
  show bM ((RV.of x).q - (RV.of y).q)=_
  rw [RV.ik,RV.ik,hz]; rfl]
 conv=>whnf
 show (RV.of z).v=bM _
 rw [hz,hx,hy]
 rfl
theorem Su:bm Tryz.prog 122 pj:=by
 refine bt Ca aO Tryz.func122 (enters_of Tryz.func122 (by kernel_rfl) rfl) (fun _=>rfl) (fun _=>rfl) ?_
 intro ⟨p,q⟩ hp
 have hp:p.sz 1073741824∧q.sz 1073741824:=hp
 obtain ⟨x,hx⟩:∃ x,x=p.1.q*q.2.q:=⟨_,rfl⟩
 obtain ⟨y,hy⟩:∃ x,x=p.2.q*q.1.q:=⟨_,rfl⟩
 obtain ⟨z,hz⟩:∃ z,z=x - y:=⟨_,rfl⟩
 have sx:(RV.of x).ok:=RV.b6 (RV.mR (by rw [hx]; exact (RV.jX hp.1.1 (by decide)).mul (RV.jX hp.2.2 (by decide)))) (by decide)
 have sy:(RV.of y).ok:=RV.b6 (RV.mR (by rw [hy]; exact (RV.jX hp.1.2 (by decide)).mul (RV.jX hp.2.1 (by decide)))) (by decide)
 conv=>whnf
 refine .inl ⟨9,[[],[0],[],[2],[0,1,2,3],[],[5],[],[7],[0,1,2,3,4,5,6,7,8],[0,1,2,3,4,5,6,7,8,9],[0,1,2,3,4,5,6,7,8,9,10]],by kernel_rfl,?_⟩
 conv=>whnf
 refine ⟨(p.1,q.2),rfl,⟨RV.b6 hp.1.1 (by decide),RV.b6 hp.2.2 (by decide)⟩,?_⟩
 rw [show lg.val (p.1,q.2)=(RV.of x).v from by rw [hx]; rfl]
 conv=>whnf
 refine ⟨(p.2,q.1),rfl,⟨RV.b6 hp.1.2 (by decide),RV.b6 hp.2.1 (by decide)⟩,?_⟩
 rw [show lg.val (p.2,q.1)=(RV.of y).v from by rw [hy]; rfl]
 conv=>whnf
 refine ⟨(RV.of x,RV.of y),rfl,⟨sx,sy⟩,?_⟩
 rw [show gL.val (RV.of x,RV.of y)=(RV.of z).v from by
  show bM ((RV.of x).q - (RV.of y).q)=_
  rw [RV.ik,RV.ik,hz]; rfl]
 conv=>whnf
 show (RV.of z).v=bM _
 rw [hz,hx,hy]
 rfl
theorem MZ:bm Tryz.prog 74 oD:=by
 refine bt ud aO Tryz.func74 (enters_of Tryz.func74 (by kernel_rfl) rfl) (fun _=>rfl) (fun _=>rfl) ?_
 intro ⟨p,q⟩ hp
 have hp:p.sz 8589934592∧q.sz 8589934592:=hp
 obtain ⟨x,hx⟩:∃ x,x=aY p.1.q q.1.q:=⟨_,rfl⟩
 obtain ⟨y,hy⟩:∃ x,x=aY p.2.q q.2.q:=⟨_,rfl⟩
 have fin:∀ z:Int,z=(if x≠0 then x else y)→Value.int .i64 z=oD.val (p,q):=fun z h=>by rw [h,hx,hy]; rfl
 conv=>whnf
 refine ⟨(p.1,q.1),rfl,⟨hp.1.1,hp.2.1⟩,?_⟩
 rw [show jL.val (p.1,q.1)=.int .i64 x from by rw [hx]; rfl]
 conv=>whnf
 refine aL (fun h=>?_) (fun h=>?_)
 ·have h:x≠0:=by
   intro e
   subst e
   simp at h
  conv=>whnf
  exact fin _ (if_pos h).symm
 ·have h:x=0:=by simpa using h
  conv=>whnf
  refine ⟨(p.2,q.2),rfl,⟨hp.1.2,hp.2.2⟩,?_⟩
  rw [show jL.val (p.2,q.2)=.int .i64 y from by rw [hy]; rfl]
  conv=>whnf
  exact fin _ (if_neg (fun e=>e h)).symm
theorem Vk:bm Tryz.prog 76 oD:=by
 refine bt Ca aO Tryz.func76 (enters_of Tryz.func76 (by kernel_rfl) rfl) (fun _=>rfl) (fun _=>rfl) ?_
 intro ⟨p,q⟩ hp
 have hp:p.sz 8589934592∧q.sz 8589934592:=hp
 obtain ⟨x,hx⟩:∃ x,x=aY p.1.q q.1.q:=⟨_,rfl⟩
 obtain ⟨y,hy⟩:∃ x,x=aY p.2.q q.2.q:=⟨_,rfl⟩
 have fin:∀ z:Int,z=(if x≠0 then x else y)→Value.int .i64 z=oD.val (p,q):=fun z h=>by rw [h,hx,hy]; rfl
 conv=>whnf
 refine ⟨(p.1,q.1),rfl,⟨hp.1.1,hp.2.1⟩,?_⟩
 rw [show jL.val (p.1,q.1)=.int .i64 x from by rw [hx]; rfl]
 conv=>whnf
 refine aL (fun h=>?_) (fun h=>?_)
 ·have h:x≠0:=by
   intro e
   subst e
   simp at h
  conv=>whnf
  exact fin _ (if_pos h).symm
 ·have h:x=0:=by simpa using h
  conv=>whnf
  refine ⟨(p.2,q.2),rfl,⟨hp.1.2,hp.2.2⟩,?_⟩
  rw [show jL.val (p.2,q.2)=.int .i64 y from by rw [hy]; rfl]
  conv=>whnf
  exact fin _ (if_neg (fun e=>e h)).symm
end Go.Proofs.YtlapbjdhekcipaaGreat
/- Contracts of vector and of the reference vectors: checks, extremes. -/
set_option maxRecDepth 20000
set_option maxHeartbeats 1000000
namespace Go.Proofs.YtlapbjdhekcipaaGreat
open Go Go.Ae
theorem TE:bm Tryz.prog 80 kA:=by
 refine bt ud aO Tryz.func80 (enters_of Tryz.func80 (by kernel_rfl) rfl) (fun _=>rfl) (fun _=>rfl) ?_
 intro (p:PV) hp
 have hp:p.sz 8589934592:=hp
 have fZ:p.1=RV.of p.1.q→p.2=RV.of p.2.q→Value.int .i64 0=kA.val p:=fun h1 J=>by
  show _=Value.int .i64 (if p.canon then 0 else 1)
  rw [if_pos ⟨h1,J⟩]
 have mw:¬ p.canon→Value.int .i64 1=kA.val p:=fun h=>by
  show _=Value.int .i64 (if p.canon then 0 else 1)
  rw [if_neg h]
 conv=>whnf
 refine .inr ⟨3,?_⟩
 conv=>whnf
 refine ⟨⟨by decide,by decide⟩,?_⟩
 conv=>whnf
 refine ⟨p.1,rfl,hp.1,?_⟩
 by_cases h1:p.1=RV.of p.1.q
 ·rw [show mI.val p.1=.int .i64 0 from by show Value.int .i64 (if p.1=RV.of p.1.q then 0 else 1)=_; rw [if_pos h1]]
  conv=>whnf
  refine ⟨⟨by decide,by decide⟩,?_⟩
  conv=>whnf
  refine ⟨p.2,rfl,hp.2,?_⟩
  by_cases J:p.2=RV.of p.2.q
  ·rw [show mI.val p.2=.int .i64 0 from by show Value.int .i64 (if p.2=RV.of p.2.q then 0 else 1)=_; rw [if_pos J]]
   conv=>whnf
   exact fZ h1 J
  ·rw [show mI.val p.2=.int .i64 1 from by show Value.int .i64 (if p.2=RV.of p.2.q then 0 else 1)=_; rw [if_neg J]]
   conv=>whnf
   exact mw (fun h=>J h.2)
 ·rw [show mI.val p.1=.int .i64 1 from by show Value.int .i64 (if p.1=RV.of p.1.q then 0 else 1)=_; rw [if_neg h1]]
  conv=>whnf
  exact mw (fun h=>h1 h.1)
theorem KM:bm Tryz.prog 68 kA:=by
 refine bt Ca aO Tryz.func68 (enters_of Tryz.func68 (by kernel_rfl) rfl) (fun _=>rfl) (fun _=>rfl) ?_
 intro (p:PV) hp
 have hp:p.sz 8589934592:=hp
 have fZ:p.1=RV.of p.1.q→p.2=RV.of p.2.q→Value.int .i64 0=kA.val p:=fun h1 J=>by
  show _=Value.int .i64 (if p.canon then 0 else 1)
  rw [if_pos ⟨h1,J⟩]
 have mw:¬ p.canon→Value.int .i64 1=kA.val p:=fun h=>by
  show _=Value.int .i64 (if p.canon then 0 else 1)
  rw [if_neg h]
 conv=>whnf
 refine ⟨p.1,rfl,hp.1,?_⟩
 by_cases h1:p.1=RV.of p.1.q
 ·rw [show mI.val p.1=.int .i64 0 from by show Value.int .i64 (if p.1=RV.of p.1.q then 0 else 1)=_; rw [if_pos h1]]
  conv=>whnf
  refine ⟨p.2,rfl,hp.2,?_⟩
  by_cases J:p.2=RV.of p.2.q
  ·rw [show mI.val p.2=.int .i64 0 from by show Value.int .i64 (if p.2=RV.of p.2.q then 0 else 1)=_; rw [if_pos J]]
   conv=>whnf
   exact fZ h1 J
  ·rw [show mI.val p.2=.int .i64 1 from by show Value.int .i64 (if p.2=RV.of p.2.q then 0 else 1)=_; rw [if_neg J]]
   conv=>whnf
   exact mw (fun h=>J h.2)
 ·rw [show mI.val p.1=.int .i64 1 from by show Value.int .i64 (if p.1=RV.of p.1.q then 0 else 1)=_; rw [if_neg h1]]
  conv=>whnf
  exact mw (fun h=>h1 h.1)
def Evf:Env:=En [(85,.p kF),(31,.p FH),(29,.p GN)]
theorem abr:EnvOk Tryz.prog Evf:=bL ⟨Bp,TD,X4,trivial⟩ trivial
theorem aag:bm Tryz.prog 39 wX:=by
 refine bt abr aO Tryz.func39 (enters_of Tryz.func39 (by kernel_rfl) rfl) (fun _=>rfl) (fun _=>rfl) ?_
 intro ⟨⟨p,q⟩,t⟩ hp
 have hp:(p.sz 268435456∧q.sz 268435456)∧t.sz 268435456:=hp
 obtain ⟨⟨hp,hq⟩,ht⟩:=hp
 obtain ⟨x,hx⟩:∃ x,x=q.1.q - p.1.q:=⟨_,rfl⟩
 obtain ⟨y,hy⟩:∃ x,x=q.2.q - p.2.q:=⟨_,rfl⟩
 obtain ⟨x2,p8⟩:∃ z,z=x*t.q:=⟨_,rfl⟩
 obtain ⟨y2,p9⟩:∃ z,z=y*t.q:=⟨_,rfl⟩
 obtain ⟨x3,PT⟩:∃ z,z=p.1.q+x2:=⟨_,rfl⟩
 obtain ⟨y3,PU⟩:∃ z,z=p.2.q+y2:=⟨_,rfl⟩
 have bx:QB x 536870913:=by rw [hx]; exact (RV.jX hq.1 (by decide)).sub (RV.jX hp.1 (by decide))
 have PW:QB y 536870913:=by rw [hy]; exact (RV.jX hq.2 (by decide)).sub (RV.jX hp.2 (by decide))
 have bx2:QB x2 805306369:=by rw [p8]; exact bx.mul (RV.jX ht (by decide))
 have by2:QB y2 805306369:=by rw [p9]; exact PW.mul (RV.jX ht (by decide))
 conv=>whnf
 refine .inl ⟨6,[[],[],[],[1,2],[],[1,2,3,4],[0,1,2,3,4,5],[0,1,2,3,4,5,6]],by kernel_rfl,?_⟩
 conv=>whnf
 refine ⟨(q,p),rfl,⟨PV.a8 hq (by decide),PV.a8 hp (by decide)⟩,?_⟩
 rw [show kF.val (q,p)=PV.v (RV.of x,RV.of y) from by rw [hx,hy]; rfl]
 conv=>whnf
 refine ⟨((RV.of x,RV.of y),t),rfl,⟨⟨RV.mR (bx.mono (by decide)),RV.mR (PW.mono (by decide))⟩,RV.a8 ht (by decide)⟩,?_⟩
 rw [show FH.val ((RV.of x,RV.of y),t)=PV.v (RV.of x2,RV.of y2) from by
  show mu ((RV.of x).q*t.q) ((RV.of y).q*t.q)=_
  rw [RV.ik,RV.ik,← p8,← p9]; rfl]
 conv=>whnf
 refine ⟨(p,(RV.of x2,RV.of y2)),rfl,⟨PV.a8 hp (by decide),RV.mR (bx2.mono (by decide)),RV.mR (by2.mono (by decide))⟩,?_⟩
 rw [show GN.val (p,(RV.of x2,RV.of y2))=PV.v (RV.of x3,RV.of y3) from by
  show mu (p.1.q+(RV.of x2).q) (p.2.q+(RV.of y2).q)=_
  rw [RV.ik,RV.ik,← PT,← PU]; rfl]
 conv=>whnf
 show PV.v (RV.of x3,RV.of y3)=mu _ _
 rw [PT,PU,p8,p9,hx,hy]
 rfl
end Go.Proofs.YtlapbjdhekcipaaGreat
/- Contracts of vector and of the reference vectors: lists. -/
set_option maxRecDepth 20000
set_option maxHeartbeats 1000000
namespace Go.Proofs.YtlapbjdhekcipaaGreat
open Go Go.Ae
end Go.Proofs.YtlapbjdhekcipaaGreat
/- Contracts of vector and of the reference vectors: square distance, boxes. -/
set_option maxRecDepth 20000
set_option maxHeartbeats 1000000
namespace Go.Proofs.YtlapbjdhekcipaaGreat
open Go Go.Ae
end Go.Proofs.YtlapbjdhekcipaaGreat
/- Contracts of rational: quotients of rationals. -/
set_option maxRecDepth 20000
set_option maxHeartbeats 1000000
namespace Go.Proofs.YtlapbjdhekcipaaGreat
open Go Go.Ae
def Emn:Env:=En [(88,.p lF),(92,.p fm),(82,.p tY)]
theorem abt:EnvOk Tryz.prog Emn:=bL ⟨Gn,Nz,MY,trivial⟩ trivial
theorem M0:bm Tryz.prog 71 pN:=by
 refine bt abt aO Tryz.func71 (enters_of Tryz.func71 (by kernel_rfl) rfl) (fun _=>rfl) (fun _=>rfl) ?_
 intro ⟨⟨b,s,t⟩,⟨b',s',t'⟩⟩ hp
 have hp:RV.ok (b,s,t)∧RV.ok (b',s',t'):=hp
 obtain ⟨x,hx⟩:∃ x,x=RV.den (b,s,t):=⟨_,rfl⟩
 obtain ⟨y,hy⟩:∃ x,x=RV.den (b',s',t'):=⟨_,rfl⟩
 have f1:=RV.l9 hp.1
 have f2:=RV.l9 hp.2
 have g1:=RV.jM (b,s,t)
 have g2:=RV.jM (b',s',t')
 rw [← hx] at f1 g1
 rw [← hy] at f2 g2
 have hq:=aaX (b,s,t) (b',s',t')
 obtain ⟨B1,m1,h1⟩:=EI.mk' (IV.z (b,s)*IV.z (false,y))
 obtain ⟨B2,m2,J⟩:=EI.mk' (IV.z (false,x)*IV.z (b',s'))
 have z1:=h1.gC (dI f1.1.1) (dI f2.1.2)
 have z2:=J.gC (dI f1.1.2) (dI f2.1.1)
 obtain ⟨w,hw⟩:∃ w,w=RV.q (b,s,t) / RV.q (b',s',t'):=⟨_,rfl⟩
 obtain ⟨e,he⟩:∃ e:Int,e=if RV.q (b',s',t')=0 then 10 else 0:=⟨_,rfl⟩
 have hN:tY.val ((B1,m1),(B2,m2))=.tuple ⟨[(RV.of w).v,.int .i64 e]⟩:=by
  show lG (IV.z (B1,m1)) (IV.z (B2,m2))=_
  rw [h1.val,J.val,g1,g2,hw,he]
  exact hq
 conv=>whnf
 refine .inl ⟨6,[[],[0],[],[0,1,2],[],[],[0,1,2,3,4,5],[0,1,2,3,4,5,6]],by kernel_rfl,?_⟩
 conv=>whnf
 refine ⟨(b,s,t),rfl,by have:=hp.1.2; show t.size≤_; exact Nat.le_trans this (by decide),?_⟩
 rw [show lF.val (b,s,t)=.agg ⟨[.bool b,.string s,.bool false,.string x]⟩ from by rw [hx]; rfl]
 conv=>whnf
 refine ⟨(b',s',t'),rfl,by have:=hp.2.2; show t'.size≤_; exact Nat.le_trans this (by decide),?_⟩
 rw [show lF.val (b',s',t')=.agg ⟨[.bool b',.string s',.bool false,.string y]⟩ from by rw [hy]; rfl]
 conv=>whnf
 refine .inl ⟨13,[[],[0],[],[2],[0,1,2,3],[],[5],[],[7],[0,1,2,3,4,5,6,7,8],[0,1,2,3,4,5,6,7,8,9],[0,1,2,3,4,5,6,7,8,9,10],[0,1,2,3,4,5,6,7,8,9,10],[0,1,2,3,4,5,6,7,8,9,10,11,12],[0,1,2,3,4,5,6,7,8,9,10,11,12,13]],by kernel_rfl,?_⟩
 conv=>whnf
 refine ⟨((b,s),(false,y)),rfl,⟨Nat.le_trans f1.1.1 (by decide),Nat.le_trans f2.1.2 (by decide)⟩,?_⟩
 rw [show fm.val ((b,s),(false,y))=.agg ⟨[.bool B1,.string m1]⟩ from h1.enc]
 conv=>whnf
 refine ⟨((false,x),(b',s')),rfl,⟨Nat.le_trans f1.1.2 (by decide),Nat.le_trans f2.1.1 (by decide)⟩,?_⟩
 rw [show fm.val ((false,x),(b',s'))=.agg ⟨[.bool B2,.string m2]⟩ from J.enc]
 conv=>whnf
 refine ⟨((B1,m1),(B2,m2)),rfl,⟨by show m1.size≤_; omega,by show m2.size≤_; omega⟩,?_⟩
 rw [hN]
 conv=>whnf
 show Value.tuple ⟨[(RV.of w).v,.int .i64 e]⟩=Value.tuple ⟨[bM _,.int .i64 _]⟩
 rw [hw,he]
 rfl
end Go.Proofs.YtlapbjdhekcipaaGreat
/- Contracts of predicate: orientations. -/
set_option maxRecDepth 20000
set_option maxHeartbeats 1000000
namespace Go.Proofs.YtlapbjdhekcipaaGreat
open Go Go.Ae
def Epa:Env:=En [(85,.p kF),(84,.p pj),(34,.p iD),(37,.p lg),(38,.p gL),(36,.p lf)]
theorem abu:EnvOk Tryz.prog Epa:=bL ⟨Bp,Lw,Fi,MW,wa,Bo,trivial⟩ trivial
theorem Lx:bm Tryz.prog 32 lZ:=by
 refine bt abu aO Tryz.func32 (enters_of Tryz.func32 (by kernel_rfl) rfl) (fun _=>rfl) (fun _=>rfl) ?_
 intro ⟨a,b,c⟩ hp
 obtain ⟨sa,sb,sc⟩:a.sz 1048576∧b.sz 1048576∧c.sz 1048576:=hp
 have pa:Q2.sz 1048576 a.p:=PV.dp sa (by decide)
 have pb:Q2.sz 1048576 b.p:=PV.dp sb (by decide)
 have pc:Q2.sz 1048576 c.p:=PV.dp sc (by decide)
 obtain ⟨w,hw⟩:∃ w,w=aw a.p b.p c.p:=⟨_,rfl⟩
 obtain ⟨u,hu⟩:∃ u,u=cB (rX b.p a.p):=⟨_,rfl⟩
 obtain ⟨v,hv⟩:∃ v,v=cB (rX c.p a.p):=⟨_,rfl⟩
 have su:u.sz 1073741824:=by rw [hu]; exact wm (ou pb pa) (by decide)
 have sv:v.sz 1073741824:=by rw [hv]; exact wm (ou pc pa) (by decide)
 have sw:(RV.of w).ok:=by rw [hw]; exact YE (xT (ou pb pa) (ou pc pa)) (by decide)
 conv=>whnf
 refine .inl ⟨5,[[],[],[0,1],[],[],[0,1,2,3,4],[0,1,2,3,4,5],[0,1,2,3,4,5,6],[0,1,2,3,4,5,6,7]],by kernel_rfl,?_⟩
 conv=>whnf
 refine ⟨(b,a),rfl,⟨PV.a8 sb (by decide),PV.a8 sa (by decide)⟩,?_⟩
 rw [show kF.val (b,a)=u.v from by rw [MH,hu]]
 conv=>whnf
 refine ⟨(c,a),rfl,⟨PV.a8 sc (by decide),PV.a8 sa (by decide)⟩,?_⟩
 rw [show kF.val (c,a)=v.v from by rw [MH,hv]]
 conv=>whnf
 refine ⟨(u,v),rfl,⟨su,sv⟩,?_⟩
 rw [show pj.val (u,v)=(RV.of w).v from by rw [Te,hu,hv,ig,ig,hw]; rfl]
 conv=>whnf
 refine ⟨RV.of w,rfl,sw,?_⟩
 rw [Uv,RV.ik]
 conv=>whnf
 show Value.int .i64 _=Value.int .i64 _
 rw [hw]
end Go.Proofs.YtlapbjdhekcipaaGreat
/- Contracts of convex: what is asked of a point. -/
set_option maxRecDepth 20000
set_option maxHeartbeats 4000000
namespace Go.Proofs.YtlapbjdhekcipaaGreat
open Go Go.Ae
def IQ:Env:=sL [(80,.p kA),(74,.p oD),(32,.p lZ),(85,.p kF),(84,.p pj)]
theorem pP:EnvOk Tryz.prog IQ:=uA ⟨TE,MZ,Lx,Bp,Lw,trivial⟩ trivial
theorem X5:bm Tryz.prog 108 B9:=by
 refine bt pP aO Tryz.func108 (enters_of Tryz.func108 (by kernel_rfl) rfl) (fun _=>rfl) (fun _=>rfl) ?_
 intro (p:PV) hp
 have sp:p.sz 2048:=hp
 conv=>whnf
 refine ⟨p,rfl,PV.a8 sp (by decide),?_⟩
 by_cases h:p.canon
 ·rw [show kA.val p=.int .i64 0 from congrArg (Value.int .i64) (if_pos h)]
  conv=>whnf
  show Value.bool false=.bool (decide (¬ p.canon))
  rw [decide_eq_false (fun e=>e h)]
 ·rw [show kA.val p=.int .i64 1 from congrArg (Value.int .i64) (if_neg h)]
  conv=>whnf
  show Value.bool true=.bool (decide (¬ p.canon))
  rw [decide_eq_true h]
theorem X6:cZ Tryz.prog 75 rM:=by
 refine dt pP aO Tryz.func75 (enters_of Tryz.func75 (by kernel_rfl) rfl) ?_ ?_ ?_
 ·intro i b hb; simp [rM] at hb; rcases hb with rfl | rfl <;> rfl
 ·intro i b hb; simp [rM] at hb
 intro ⟨a,b,p⟩ hp
 have hp:a.sz 2048∧b.sz 2048∧p.sz 2048:=hp
 obtain ⟨sa,sb,sp⟩:=hp
 have qa:=PV.dp sa (by decide)
 have qb:=PV.dp sb (by decide)
 have qp:=PV.dp sp (by decide)
 have fin:∀ z:Bool,z=r4 a b p→∃ v',cP (List.range 2) 3 (rM.val (a,b,p))=some v'∧dT (.bool z) v':=fun z h=>⟨.bool z,by rw [h]; rfl,.refl _⟩
 conv=>whnf
 refine ⟨by decide,?_⟩
 conv=>whnf
 rw [Cu p a]
 by_cases h1:p=a
 ·rw [decide_eq_true h1]
  conv=>whnf
  exact fin false (decide_eq_false fun e=>e.1 h1).symm
 rw [decide_eq_false h1]
 conv=>whnf
 refine ⟨by decide,?_⟩
 conv=>whnf
 rw [Cu p b]
 by_cases J:p=b
 ·rw [decide_eq_true J]
  conv=>whnf
  exact fin false (decide_eq_false fun e=>e.2.1 J).symm
 rw [decide_eq_false J]
 conv=>whnf
 refine ⟨by decide,?_⟩
 conv=>whnf
 refine ⟨by decide,?_⟩
 conv=>whnf
 obtain ⟨z,ez,pz⟩:=eJ (aY (aw a.p b.p p.p) 0)
 refine ⟨(a,b,p),rfl,⟨PV.a8 sa (by decide),PV.a8 sb (by decide),PV.a8 sp (by decide)⟩,?_⟩
 rw [show lZ.val (a,b,p)=.int .i64 z from ez]
 conv=>whnf
 refine fin _ ?_
 unfold r4
 rw [← pz]
 by_cases h3:z≤0
 ·rw [decide_eq_true h3,decide_eq_true ⟨h1,J,h3⟩]; rfl
 ·rw [decide_eq_false h3,decide_eq_false fun e=>h3 e.2.2]; rfl
theorem Ly:bm Tryz.prog 70 pr:=by
 refine bt pP aO Tryz.func70 (enters_of Tryz.func70 (by kernel_rfl) rfl) (fun _=>rfl) (fun _=>rfl) ?_
 intro ⟨a,b,p⟩ hp
 have hp:a.sz 1048576∧b.sz 1048576∧p.sz 1048576:=hp
 obtain ⟨sa,sb,sp⟩:=hp
 have qa:=PV.dp sa (by decide)
 have qb:=PV.dp sb (by decide)
 have qp:=PV.dp sp (by decide)
 conv=>whnf
 refine .inl ⟨5,[[],[],[0,1],[],[],[0,1,2,3,4],[0,1,2,3,4,5],[0,1,2,3,4,5,6]],by kernel_rfl,?_⟩
 conv=>whnf
 obtain ⟨u,eu,pu,su,qu⟩:=rL (ou qb qa)
 refine ⟨(b,a),rfl,⟨PV.a8 sb (by decide),PV.a8 sa (by decide)⟩,?_⟩
 rw [show kF.val (b,a)=u.v from eu]
 conv=>whnf
 obtain ⟨v,ev,pv,sv,qv⟩:=rL (ou qp qa)
 refine ⟨(p,a),rfl,⟨PV.a8 sp (by decide),PV.a8 sa (by decide)⟩,?_⟩
 rw [show kF.val (p,a)=v.v from ev]
 conv=>whnf
 obtain ⟨w,ew,pw,sw,qw⟩:=gN (xT qu qv)
 refine ⟨(u,v),rfl,⟨PV.a8 su (by decide),PV.a8 sv (by decide)⟩,?_⟩
 rw [show pj.val (u,v)=w.v from ew]
 conv=>whnf
 show w.v=(RV.of (aw a.p b.p p.p)).v
 rw [(RV.nJ ew).symm,pu,pv]
 rfl
end Go.Proofs.YtlapbjdhekcipaaGreat
/- Contracts of convex: whether a list is a convex ring. -/
set_option maxRecDepth 20000
set_option maxHeartbeats 4000000
namespace Go.Proofs.YtlapbjdhekcipaaGreat
open Go Go.Ae
theorem TF:gl Tryz.prog 73 (cI IQ cV Tryz.f73):=by
 exact jn pP aO Tryz.func73 (enters_of Tryz.func73 (by kernel_rfl) rfl)
def IS:Env:=En [(108,.p B9),(75,.q rM)] [(73,cI IQ cV Tryz.f73)]
theorem abv:EnvOk Tryz.prog IS:=bL ⟨X5,X6,trivial⟩ ⟨TF,trivial⟩
theorem TG:gl Tryz.prog 106 (cI IS cV Tryz.f106):=by
 exact jn abv aO Tryz.func106 (enters_of Tryz.func106 (by kernel_rfl) rfl)
def C8:Env:=En [] [(106,cI IS cV Tryz.f106)]
theorem abw:EnvOk Tryz.prog C8:=bL trivial ⟨TG,trivial⟩
theorem JJ:gl Tryz.prog 49 (cI C8 cV Tryz.f49):=by
 exact jn abw aO Tryz.func49 (enters_of Tryz.func49 (by kernel_rfl) rfl)
def Ev4:Env:=En [] [(49,cI C8 cV Tryz.f49)]
theorem abx:EnvOk Tryz.prog Ev4:=bL trivial ⟨JJ,trivial⟩
theorem JK:cZ Tryz.prog 56 fy:=by
 refine dt abx aO Tryz.func56 (enters_of Tryz.func56 (by kernel_rfl) rfl) ?_ ?_ ?_
 ·intro i b hb
  cases i with
  | none=>simp [fy,PL.ae] at hb
  | some i=>simp [fy,PL.ae] at hb; rw [hb]; rfl
 ·intro i b hb; simp [fy] at hb
 intro i hp
 have hp:i.list.length≤1099511627776∧∀ v∈i.list,v.sz 2048:=hp
 obtain ⟨hlen,bn⟩:=hp
 cases i with
 | none =>
  conv=>whnf
  refine .inr ⟨1,?_⟩
  conv=>whnf
  exact ⟨.bool true,rfl,.refl _⟩
 | some i =>
  obtain ⟨L,c⟩:=i
  have hlen:L.length≤1099511627776:=hlen
  have bn:∀ v∈L,PV.sz 2048 v:=bn
  obtain ⟨n,hn⟩:∃ n,n=L.length:=⟨_,rfl⟩
  obtain ⟨g,hg⟩:∃ g,g=bS L:=⟨_,rfl⟩
  have fin:∀ z:Bool,z=!fw L→∃ v',cP (List.range 1) 3 (fy.val (some (L,c)))=some v'∧dT (.bool z) v':=fun z h=>⟨.bool z,by rw [h]; rfl,.refl _⟩
  rw [show fy.ae (some (L,c))=[.flat false n 6 g] from by rw [hn,hg]; rfl,show fy.args (some (L,c))=[.slice (some ⟨0,0,none⟩) n c] from by rw [hn]; rfl]
  rw [← hn] at hlen
  conv=>whnf
  refine .inl ⟨fun mm tz hz=>∃ (i:Nat),bE (some (.slice (some ⟨0,0,none⟩) n c)::some (.func (.func 108) #[] #[])::aD 5 (some (.int .i64 n)::some (.int .i64 i)::aD 10 [])) tz∧hz=[some (.flat false n 6 g)]∧n - i=mm∧(i≤n∧ua L i),.inr ⟨[0],[0,1,7,8],?_⟩,?_⟩
  ·conv=>whnf
   intro _
   conv=>whnf
   refine ⟨_,0,(.aa (.aa (.sk 5 (.aa (.aa (.sk 10 .nil rfl))) rfl))),rfl,rfl,?_⟩
   exact ⟨Nat.zero_le _,J3 _⟩
  rintro mm aT _ ⟨i,ar,rfl,rfl,⟨hi,hU⟩⟩
  obtain ⟨az,rfl⟩:∃ az:Nat→Value,aT=.slice (some ⟨0,0,none⟩) n c::.func (.func 108) #[] #[]::zs az 2 5 (.int .i64 n::.int .i64 i::zs az 9 10 []):=bK ar
  clear ar
  conv=>whnf
  refine aL (fun h3=>?_) (fun h3=>?_)
  ·have h3:i < n:=by
    have:=of_decide_eq_true h3
    omega
   have e7:IntKind.i64.wrap ((i:Int)+1)=((i+1:Nat):Int):=by rw [au (by omega) (by omega)]; rfl
   obtain ⟨m,kQ,mC,a9⟩:=qU (l:=L) (i:=i) (by omega)
   rw [← hg] at a9
   conv=>whnf
   refine ⟨⟨by omega,by omega⟩,?_⟩
   simp only [toNat_cast,aq,Nat.zero_add]
   conv=>whnf
   refine ⟨by show i < n; omega,?_⟩
   conv=>whnf
   rw [a9]
   conv=>whnf
   refine ⟨m,rfl,bn m mC,?_⟩
   by_cases h4:m.canon
   ·rw [show B9.val m=.bool false from congrArg Value.bool (decide_eq_false fun e=>e h4)]
    conv=>whnf
    rw [e7]
    refine .inr ⟨[0],[0,1,7,8],?_⟩
    conv=>whnf
    intro _
    conv=>whnf
    refine ⟨_,?_,i+1,(.aa (.aa (.sk 5 (.aa (.aa (.sk 10 .nil rfl))) rfl))),rfl,rfl,?_⟩
    ·omega
    ·exact ⟨by omega,KG hU kQ h4⟩
   ·rw [show B9.val m=.bool true from congrArg Value.bool (decide_eq_true h4)]
    conv=>whnf
    rw [show decide ((i:Int) ≥ 0)=true from decide_eq_true (by omega)]
    conv=>whnf
    exact fin false (by rw [show fw L=true from List.any_eq_true.2 ⟨m,mC,decide_eq_true h4⟩]; rfl)
  ·have h3:i=n:=by
    have:=of_decide_eq_false h3
    omega
   subst h3
   conv=>whnf
   exact fin true (by rw [Ll (by rw [← hn]; exact hU)]; rfl)
end Go.Proofs.YtlapbjdhekcipaaGreat
