import Derived.Test.YtlapbjdhekcipaaGreatPH
set_option linter.unusedVariables false
set_option linter.unusedSimpArgs false
/- Contracts of rational: ratios of machine integers. -/
set_option maxRecDepth 20000
set_option maxHeartbeats 1000000
namespace Go.Proofs.YtlapbjdhekcipaaGreat
open Go Go.Ae
def Emc:Env:=En [(140,.p rK),(188,.p rK)]
theorem Oe:EnvOk Tryz.prog Emc:=bF ⟨X9,SQ,trivial⟩ trivial
theorem Vv:aZ Tryz.prog 95 nm:=by
 refine bf Oe aK Tryz.func95 (enters_of Tryz.func95 (by kernel_rfl) rfl) (fun _=>rfl) (fun _=>rfl) ?_
 intro ⟨n,d⟩ hp
 have hp:n.natAbs < 72057594037927936∧d≠0∧d < 72057594037927936:=hp
 obtain ⟨g,hg⟩:∃ g,g=Int.gcd n d:=⟨_,rfl⟩
 obtain ⟨fG,bO,nc⟩:=Ah hp.2.1 hg
 have hgd:g≤d:=by
  have h3:=Nat.div_le_self d g
  rcases Nat.lt_or_ge d g with h | h
  ·rw [Nat.div_eq_of_lt h] at bO; omega
  ·exact h
 have fin:∀ v:Value,v=bD (mkRat n d)→v=nm.val (n,d):=fun v h=>h
 conv=>whnf
 refine .inl ⟨fun mm tz hz=>∃ (a:Int) (b:Int),bu (some (.int .i64 n)::some (.int .i64 d)::aB 2 (some (.pointer (some ⟨0,0,none⟩))::some (.int .i64 a)::some (.int .i64 b)::aB 36 [])) tz∧hz=[some (.aL true 3 [[.bool false,.string ⟨#[]⟩,.string ⟨#[]⟩]])]∧b.natAbs=mm∧(((-72057594037927936 < a∧a < 72057594037927936)∧-72057594037927936 < b∧b < 72057594037927936)∧Int.gcd a b=g),.inr ⟨[0],[0,1,4,5,6],?_⟩,?_⟩
 ·conv=>whnf
  intro _
  conv=>whnf
  refine ⟨_,n,d,(.aa (.aa (.sk 2 (.aa (.aa (.aa (.sk 36 .nil rfl)))) rfl))),rfl,rfl,?_⟩
  exact ⟨⟨⟨by omega,by omega⟩,by omega,by omega⟩,hg.symm⟩
 rintro mm aQ _ ⟨a,b,aq,rfl,rfl,⟨dT,he⟩⟩
 obtain ⟨az,rfl⟩:∃ az:Nat→Value,aQ=.int .i64 n::.int .i64 d::zs az 2 2 (.pointer (some ⟨0,0,none⟩)::.int .i64 a::.int .i64 b::zs az 7 36 []):=bI aq
 clear aq
 conv=>whnf
 refine aF (fun h1=>?_) (fun h1=>?_)
 ·have h1:b≠0:=by
   intro e
   subst e
   simp at h1
  have ak:(Int.tmod a b).natAbs < b.natAbs:=by
   rw [Int.natAbs_tmod]; exact Nat.mod_lt _ (by omega)
  obtain ⟨r,hr⟩:∃ r,r=Int.tmod a b:=⟨_,rfl⟩
  rw [← hr] at ak
  conv=>whnf
  refine .inl ⟨5,[[],[],[],[1,2],[0,1],[0,1,2,3,4]],by kernel_rfl,?_⟩
  conv=>whnf
  rw [show decide (b≠0)=true from decide_eq_true h1]
  conv=>whnf
  rw [← hr]
  refine .inr ⟨[0],[0,1,4,5,6],?_⟩
  conv=>whnf
  intro _
  conv=>whnf
  refine ⟨_,?_,b,r,(.aa (.aa (.sk 2 (.aa (.aa (.aa (.sk 36 .nil rfl)))) rfl))),rfl,rfl,?_⟩
  ·exact ak
  ·exact ⟨⟨dT.2,by omega,by omega⟩,by rw [hr,UL]; exact he⟩
 ·have h1:b=0:=by simpa using h1
  subst h1
  have he:a.natAbs=g:=by rw [← he,Int.gcd_zero_right]
  have em:=MR a dT.1
  rw [he] at em
  have en:=MR n (by omega)
  obtain ⟨N,hN⟩:∃ N,N=n.natAbs:=⟨_,rfl⟩
  rw [← hN] at en
  conv=>whnf
  rw [em]
  by_cases J:n=0
  ·subst J
   conv=>whnf
   exact fin _ (xO d).symm
  ·refine aF (fun h=>absurd (by simpa using h) J) (fun _=>?_)
   have eq:=FN J hp.2.1 hg
   rw [← hN] at eq
   have ed:=AN (a:=N) (g:=g) (by omega)
   have ke:=AN (a:=d) (g:=g) hp.2.2
   obtain ⟨x,hx⟩:∃ x,x=nb (N / g):=⟨_,rfl⟩
   obtain ⟨y,hy⟩:∃ y,y=nb (d / g):=⟨_,rfl⟩
   have ex:rK.val (N / g)=.string x:=by rw [hx]; rfl
   have ey:rK.val (d / g)=.string y:=by rw [hy]; rfl
   rw [← hx] at eq
   conv=>whnf
   rw [en,show decide (((g:Nat):Int)≠0)=true from decide_eq_true (by omega)]
   conv=>whnf
   rw [ed]
   refine ⟨N / g,rfl,by show N / g < _; exact Nat.lt_of_le_of_lt (Nat.div_le_self _ _) (by omega),?_⟩
   rw [ex]
   conv=>whnf
   refine aF (fun h3=>?_) (fun h3=>?_)
   ·have h3:d≠g:=by
     intro e
     rw [e] at h3
     simp at h3
    have e4:fc (d / g)=y:=by
     rw [hy]; unfold fc; rw [if_neg (fun h=>h3 (fG.1 h))]
    rw [e4] at eq
    conv=>whnf
    rw [show decide (((g:Nat):Int)≠0)=true from decide_eq_true (by omega)]
    conv=>whnf
    rw [ke]
    refine ⟨d / g,rfl,by show d / g < _; exact Nat.lt_of_le_of_lt (Nat.div_le_self _ _) hp.2.2,?_⟩
    rw [ey]
    conv=>whnf
    exact fin _ eq.symm
   ·have h3:d=g:=by
     have:((d:Nat):Int)=g:=by simpa using h3
     omega
    have e4:fc (d / g)=⟨#[]⟩:=by unfold fc; rw [if_pos (fG.2 h3)]
    rw [e4] at eq
    conv=>whnf
    exact fin _ eq.symm
theorem Vw:aZ Tryz.prog 172 nm:=by
 refine bf Oe aK Tryz.func172 (enters_of Tryz.func172 (by kernel_rfl) rfl) (fun _=>rfl) (fun _=>rfl) ?_
 intro ⟨n,d⟩ hp
 have hp:n.natAbs < 72057594037927936∧d≠0∧d < 72057594037927936:=hp
 obtain ⟨g,hg⟩:∃ g,g=Int.gcd n d:=⟨_,rfl⟩
 obtain ⟨fG,bO,nc⟩:=Ah hp.2.1 hg
 have fin:∀ v:Value,v=bD (mkRat n d)→v=nm.val (n,d):=fun v h=>h
 obtain ⟨N,hN⟩:∃ N,N=n.natAbs:=⟨_,rfl⟩
 obtain ⟨B,hB⟩:∃ B,B=decide (n < 0):=⟨_,rfl⟩
 have ed:=AN (a:=N) (g:=g) (by omega)
 have ke:=AN (a:=d) (g:=g) hp.2.2
 obtain ⟨x,hx⟩:∃ x,x=nb (N / g):=⟨_,rfl⟩
 obtain ⟨y,hy⟩:∃ y,y=nb (d / g):=⟨_,rfl⟩
 have ex:rK.val (N / g)=.string x:=by rw [hx]; rfl
 have ey:rK.val (d / g)=.string y:=by rw [hy]; rfl
 conv=>whnf
 refine aF (fun h1=>?_) (fun h1=>?_)
 ·have eP:=of_decide_eq_true h1
  have eP:n < 0:=eP
  have e0:IntKind.i64.wrap (0 - n)=(N:Int):=by rw [aw (by omega) (by omega)]; omega
  have J:n≠0:=by omega
  have eq:=FN J hp.2.1 hg
  rw [← hN,← hx,← hB] at eq
  conv=>whnf
  rw [show decide ((n,d).fst < 0)=B from hB.symm]
  rw [show IntKind.i64.wrap (0 - (n,d).fst)=(N:Int) from e0]
  refine aF (fun h=>absurd (by simpa using h) (show N≠0 by omega)) (fun _=>?_)
  conv=>whnf
  refine .inl ⟨fun mm tz hz=>∃ (a:Nat) (b:Nat),bu (some (.int .i64 N)::some (.int .i64 d)::aB 2 (some (.pointer (some ⟨0,0,none⟩))::some (.pointer (some ⟨1,0,none⟩))::some (.int .i64 a)::some (.int .i64 b)::aB 33 [])) tz∧hz=[some (.aL true 3 [[.bool false,.string ⟨#[]⟩,.string ⟨#[]⟩]]),some (.aL true 3 [[.bool B,.string ⟨#[]⟩,.string ⟨#[]⟩]])]∧b=mm∧((a < 72057594037927936∧b < 72057594037927936)∧Nat.gcd a b=g),.inr ⟨[0,1],[0,1,4,5,6,7],?_⟩,?_⟩
  ·conv=>whnf
   intro _
   conv=>whnf
   refine ⟨_,N,d,(.aa (.aa (.sk 2 (.aa (.aa (.aa (.aa (.sk 33 .nil rfl))))) rfl))),rfl,rfl,?_⟩
   exact ⟨⟨by omega,by omega⟩,by rw [hg,hN]; rfl⟩
  rintro mm aQ _ ⟨a,b,aq,rfl,rfl,⟨dT,he⟩⟩
  obtain ⟨az,rfl⟩:∃ az:Nat→Value,aQ=.int .i64 N::.int .i64 d::zs az 2 2 (.pointer (some ⟨0,0,none⟩)::.pointer (some ⟨1,0,none⟩)::.int .i64 a::.int .i64 b::zs az 8 33 []):=bI aq
  clear aq
  conv=>whnf
  refine aF (fun h1=>?_) (fun h1=>?_)
  ·have h1:0 < b:=by
    have:=of_decide_eq_true h1
    omega
   have ak:=Nat.mod_lt a h1
   conv=>whnf
   refine .inl ⟨5,[[],[],[],[1,2],[0,1],[0,1,2,3,4]],by kernel_rfl,?_⟩
   conv=>whnf
   rw [show decide (((b:Nat):Int)≠0)=true from decide_eq_true (by omega)]
   conv=>whnf
   rw [show Int.tmod ((a:Nat):Int) ((b:Nat):Int)=((a % b:Nat):Int) from rfl]
   refine .inr ⟨[0,1],[0,1,4,5,6,7],?_⟩
   conv=>whnf
   intro _
   conv=>whnf
   refine ⟨_,?_,b,a % b,(.aa (.aa (.sk 2 (.aa (.aa (.aa (.aa (.sk 33 .nil rfl))))) rfl))),rfl,rfl,?_⟩
   ·exact ak
   ·exact ⟨⟨dT.2,by omega⟩,by rw [Nat.gcd_comm,← Nat.gcd_rec,Nat.gcd_comm]; exact he⟩
  ·have h1:b=0:=by
    have:=of_decide_eq_false h1
    omega
   subst h1
   obtain rfl:a=g:=by rw [← he,Nat.gcd_zero_right]
   conv=>whnf
   rw [show decide (((a:Nat):Int)≠0)=true from decide_eq_true (by omega)]
   conv=>whnf
   rw [ed]
   refine ⟨N / a,rfl,by show N / a < _; exact Nat.lt_of_le_of_lt (Nat.div_le_self _ _) (by omega),?_⟩
   rw [ex]
   conv=>whnf
   rw [show decide (((a:Nat):Int)≠0)=true from decide_eq_true (by omega)]
   obtain ⟨q,hq⟩:∃ q,q=d / a:=⟨_,rfl⟩
   rw [← hq] at ke ey eq fG bO hy
   conv=>whnf
   rw [ke]
   refine aF (fun h3=>?_) (fun h3=>?_)
   ·have h3:q≠1:=by
     have:=of_decide_eq_true h3
     omega
    have e4:fc q=y:=by
     rw [hy]; unfold fc; rw [if_neg h3]
    rw [e4] at eq
    conv=>whnf
    rw [show decide (((a:Nat):Int)≠0)=true from decide_eq_true (by omega)]
    conv=>whnf
    rw [ke]
    refine ⟨q,rfl,by show q < _; rw [hq]; exact Nat.lt_of_le_of_lt (Nat.div_le_self _ _) hp.2.2,?_⟩
    rw [ey]
    conv=>whnf
    exact fin _ eq.symm
   ·have h3:q=1:=by
     have:=of_decide_eq_false h3
     omega
    have e4:fc q=⟨#[]⟩:=by unfold fc; rw [if_pos h3]
    rw [e4] at eq
    conv=>whnf
    exact fin _ eq.symm
 ·have eP:=of_decide_eq_false h1
  have eP:¬ n < 0:=eP
  have e0:n=(N:Int):=by omega
  by_cases J:n=0
  ·subst J
   conv=>whnf
   exact fin _ (xO d).symm
  ·have eq:=FN J hp.2.1 hg
   rw [← hN,← hx,← hB] at eq
   conv=>whnf
   rw [show decide ((n,d).fst < 0)=B from hB.symm]
   refine aF (fun h=>absurd (by simpa using h) J) (fun _=>?_)
   conv=>whnf
   rw [show (n,d).fst=(N:Int) from e0]
   refine .inl ⟨fun mm tz hz=>∃ (a:Nat) (b:Nat),bu (some (.int .i64 N)::some (.int .i64 d)::aB 2 (some (.pointer (some ⟨0,0,none⟩))::some (.pointer (some ⟨1,0,none⟩))::some (.int .i64 a)::some (.int .i64 b)::aB 33 [])) tz∧hz=[some (.aL true 3 [[.bool false,.string ⟨#[]⟩,.string ⟨#[]⟩]]),some (.aL true 3 [[.bool B,.string ⟨#[]⟩,.string ⟨#[]⟩]])]∧b=mm∧((a < 72057594037927936∧b < 72057594037927936)∧Nat.gcd a b=g),.inr ⟨[0,1],[0,1,4,5,6,7],?_⟩,?_⟩
   ·conv=>whnf
    intro _
    conv=>whnf
    refine ⟨_,N,d,(.aa (.aa (.sk 2 (.aa (.aa (.aa (.aa (.sk 33 .nil rfl))))) rfl))),rfl,rfl,?_⟩
    exact ⟨⟨by omega,by omega⟩,by rw [hg,hN]; rfl⟩
   rintro mm aQ _ ⟨a,b,aq,rfl,rfl,⟨dT,he⟩⟩
   obtain ⟨az,rfl⟩:∃ az:Nat→Value,aQ=.int .i64 N::.int .i64 d::zs az 2 2 (.pointer (some ⟨0,0,none⟩)::.pointer (some ⟨1,0,none⟩)::.int .i64 a::.int .i64 b::zs az 8 33 []):=bI aq
   clear aq
   conv=>whnf
   refine aF (fun h1=>?_) (fun h1=>?_)
   ·have h1:0 < b:=by
     have:=of_decide_eq_true h1
     omega
    have ak:=Nat.mod_lt a h1
    conv=>whnf
    refine .inl ⟨5,[[],[],[],[1,2],[0,1],[0,1,2,3,4]],by kernel_rfl,?_⟩
    conv=>whnf
    rw [show decide (((b:Nat):Int)≠0)=true from decide_eq_true (by omega)]
    conv=>whnf
    rw [show Int.tmod ((a:Nat):Int) ((b:Nat):Int)=((a % b:Nat):Int) from rfl]
    refine .inr ⟨[0,1],[0,1,4,5,6,7],?_⟩
    conv=>whnf
    intro _
    conv=>whnf
    refine ⟨_,?_,b,a % b,(.aa (.aa (.sk 2 (.aa (.aa (.aa (.aa (.sk 33 .nil rfl))))) rfl))),rfl,rfl,?_⟩
    ·exact ak
    ·exact ⟨⟨dT.2,by omega⟩,by rw [Nat.gcd_comm,← Nat.gcd_rec,Nat.gcd_comm]; exact he⟩
   ·have h1:b=0:=by
     have:=of_decide_eq_false h1
     omega
    subst h1
    obtain rfl:a=g:=by rw [← he,Nat.gcd_zero_right]
    conv=>whnf
    rw [show decide (((a:Nat):Int)≠0)=true from decide_eq_true (by omega)]
    conv=>whnf
    rw [ed]
    refine ⟨N / a,rfl,by show N / a < _; exact Nat.lt_of_le_of_lt (Nat.div_le_self _ _) (by omega),?_⟩
    rw [ex]
    conv=>whnf
    rw [show decide (((a:Nat):Int)≠0)=true from decide_eq_true (by omega)]
    obtain ⟨q,hq⟩:∃ q,q=d / a:=⟨_,rfl⟩
    rw [← hq] at ke ey eq fG bO hy
    conv=>whnf
    rw [ke]
    refine aF (fun h3=>?_) (fun h3=>?_)
    ·have h3:q≠1:=by
      have:=of_decide_eq_true h3
      omega
     have e4:fc q=y:=by
      rw [hy]; unfold fc; rw [if_neg h3]
     rw [e4] at eq
     conv=>whnf
     rw [show decide (((a:Nat):Int)≠0)=true from decide_eq_true (by omega)]
     conv=>whnf
     rw [ke]
     refine ⟨q,rfl,by show q < _; rw [hq]; exact Nat.lt_of_le_of_lt (Nat.div_le_self _ _) hp.2.2,?_⟩
     rw [ey]
     conv=>whnf
     exact fin _ eq.symm
    ·have h3:q=1:=by
      have:=of_decide_eq_false h3
      omega
     have e4:fc q=⟨#[]⟩:=by unfold fc; rw [if_pos h3]
     rw [e4] at eq
     conv=>whnf
     exact fin _ eq.symm
end Go.Proofs.YtlapbjdhekcipaaGreat
/- Contracts of rational: fractions in lowest terms. -/
set_option maxRecDepth 20000
set_option maxHeartbeats 1000000
namespace Go.Proofs.YtlapbjdhekcipaaGreat
open Go Go.Ae
def Emd:Env:=En [(83,.p eI),(87,.p kX)]
theorem abD:EnvOk Tryz.prog Emd:=bF ⟨rJ,Gv,trivial⟩ trivial
theorem Of:aZ Tryz.prog 132 gI:=by
 refine bf abD aK Tryz.func132 (enters_of Tryz.func132 (by kernel_rfl) rfl) (fun _=>rfl) (fun _=>rfl) ?_
 intro ⟨⟨b,s⟩,n⟩ hp
 have hp:s.size≤549755813888∧-9223372036854775808≤n∧n < 9223372036854775808:=hp
 obtain ⟨V,m,hV⟩:=EI.mk' n
 have hm:m.size≤549755813888:=by
  rw [hV.size]
  have:=tA hp.2
  omega
 obtain ⟨q,hq⟩:∃ q,q=dF (IV.z (b,s)) n:=⟨_,rfl⟩
 conv=>whnf
 refine .inl ⟨3,[[],[],[1],[0,1,2],[0,1,2,3],[0,1,2,3,4]],by kernel_rfl,?_⟩
 conv=>whnf
 refine ⟨n,rfl,⟨by omega,by omega⟩,?_⟩
 rw [show eI.val n=.agg ⟨[.bool V,.string m]⟩ from hV.enc]
 conv=>whnf
 refine ⟨((b,s),(V,m)),rfl,⟨hp.1,hm⟩,?_⟩
 rw [show kX.val ((b,s),(V,m))=.int .i64 q from by show Value.int .i64 (dF (IV.z (b,s)) (IV.z (V,m)))=_; rw [hV.val,hq]]
 conv=>whnf
 show Value.bool (q == 0)=Value.bool (decide (IV.z (b,s)=n))
 congr 1
 rw [hq]
 unfold dF
 split
 ·rw [decide_eq_false (by omega)]; rfl
 ·split
  ·rw [decide_eq_false (by omega)]; rfl
  ·rw [decide_eq_true (by omega)]; rfl
theorem SR:aZ Tryz.prog 137 L8:=by
 refine bf ld aK Tryz.func137 (enters_of Tryz.func137 (by kernel_rfl) rfl) (fun _=>rfl) (fun _=>rfl) ?_
 intro ⟨b,s⟩ _
 conv=>whnf
 rfl
def Eme:Env:=En [(83,.p eI),(132,.p gI),(137,.p L8)]
theorem abE:EnvOk Tryz.prog Eme:=bF ⟨rJ,Of,SR,trivial⟩ trivial
theorem Gw:aZ Tryz.prog 88 kY:=by
 refine bf abE aK Tryz.func88 (enters_of Tryz.func88 (by kernel_rfl) rfl) (fun _=>rfl) (fun _=>rfl) ?_
 intro ⟨b,s,t⟩ hp
 have hp:t.size≤549755813888:=hp
 conv=>whnf
 refine .inl ⟨10,[[],[0],[],[2],[0,1,2,3],[],[5],[0,1,2,3,4,5,6],[0,1,2,3,4,5,6,7],[],[0,1,2,3,4,5,6,7,8,9]],by kernel_rfl,?_⟩
 conv=>whnf
 refine ⟨(b,s),rfl,trivial,?_⟩
 conv=>whnf
 refine ⟨(false,t),rfl,trivial,?_⟩
 conv=>whnf
 refine ⟨((false,t),0),rfl,⟨hp,r0⟩,?_⟩
 by_cases h:ab t=0
 ·rw [show gI.val ((false,t),0)=.bool true from by
   show Value.bool (decide (((ab t:Nat):Int)=0))=_
   rw [h]; rfl]
  obtain ⟨v,hv⟩:∃ v,v=nb 1:=⟨_,rfl⟩
  conv=>whnf
  refine ⟨(1:Int),rfl,r1,?_⟩
  rw [show eI.val (1:Int)=.agg ⟨[.bool false,.string v]⟩ from by rw [hv]; rfl]
  conv=>whnf
  show Value.agg ⟨[.bool b,.string s,.bool false,.string v]⟩=wN (b,s) (false,RV.den (b,s,t))
  unfold RV.den
  rw [if_pos h,← hv]
  rfl
 ·rw [show gI.val ((false,t),0)=.bool false from by
   show Value.bool (decide (((ab t:Nat):Int)=0))=_
   rw [decide_eq_false (by omega)]]
  conv=>whnf
  show Value.agg ⟨[.bool b,.string s,.bool false,.string t]⟩=wN (b,s) (false,RV.den (b,s,t))
  unfold RV.den
  rw [if_neg h]
  rfl
def Emf:Env:=En [(132,.p gI),(133,.p uq),(134,.p iu)]
theorem abF:EnvOk Tryz.prog Emf:=bF ⟨Of,aav,aaw,trivial⟩ trivial
theorem LG:aZ Tryz.prog 86 ob:=by
 refine bf abF aK Tryz.func86 (enters_of Tryz.func86 (by kernel_rfl) rfl) (fun _=>rfl) (fun _=>rfl) ?_
 intro ⟨⟨b,s⟩,⟨c,t⟩⟩ hp
 have hp:s.size≤549755813888∧t.size≤549755813888∧0 < IV.z (c,t):=hp
 obtain ⟨x,hx⟩:∃ x,x=IV.z (b,s):=⟨_,rfl⟩
 obtain ⟨d,hd⟩:∃ d,d=(IV.z (c,t)).natAbs:=⟨_,rfl⟩
 have bO:IV.z (c,t)=((d:Nat):Int):=by omega
 have fh:d≠0:=by omega
 obtain ⟨q,hq⟩:∃ q,q=mkRat x d:=⟨_,rfl⟩
 have fin:∀ v:Value,v=bD q→v=ob.val ((b,s),(c,t)):=fun v h=>by rw [h,hq,hx,hd]; rfl
 conv=>whnf
 refine ⟨((b,s),0),rfl,⟨hp.1,r0⟩,?_⟩
 rw [show gI.val ((b,s),0)=.bool (decide (x=0)) from by rw [hx]; rfl]
 by_cases h1:x=0
 ·rw [decide_eq_true h1]
  conv=>whnf
  exact fin _ (by rw [hq,h1]; exact (xO d).symm)
 ·rw [decide_eq_false h1]
  obtain ⟨g,hg⟩:∃ g,g=Int.gcd x d:=⟨_,rfl⟩
  obtain ⟨gs,qL⟩:=EI.iE (show 0≤((g:Nat):Int) by omega)
  obtain ⟨qb,qs,hn⟩:=EI.mk' q.num
  obtain ⟨es,he⟩:=EI.iE (show 0≤((q.den:Nat):Int) by omega)
  have nc:((g:Nat):Int)≠0:=by
   have:0 < g:=by rw [hg]; exact Int.gcd_pos_of_ne_zero_left _ h1
   omega
  have HO:g≤d:=by
   have h3:=(Ah fh hg).2.1
   rcases Nat.lt_or_ge d g with h | h
   ·rw [Nat.div_eq_of_lt h] at h3; omega
   ·exact h
  have dY:aN d≤549755813888:=by rw [hd]; exact IV.aN (i:=(c,t)) hp.2.1
  have zU:gs.size≤549755813888:=by
   rw [qL.size,Int.natAbs_natCast]
   exact Nat.le_trans (iB HO) dY
  have ae:es.size≤549755813888:=by
   rw [he.size,Int.natAbs_natCast]
   exact Nat.le_trans (iB (by rw [hq]; exact Nx x fh)) dY
  have IX:x.fdiv ((g:Nat):Int)=q.num:=by rw [hg,hq]; exact Gj x fh
  have qI:((d:Nat):Int).fdiv ((g:Nat):Int)=((q.den:Nat):Int):=by rw [hg,hq]; exact Gk x fh
  conv=>whnf
  refine ⟨((b,s),(c,t)),rfl,⟨hp.1,hp.2.1⟩,?_⟩
  rw [show uq.val ((b,s),(c,t))=.agg ⟨[.bool false,.string gs]⟩ from by
   show aD ((Int.gcd (IV.z (b,s)) (IV.z (c,t)):Nat):Int)=_
   rw [← hx,bO,← hg,qL.enc]]
  conv=>whnf
  obtain ⟨fb,fs,hf⟩:=EI.mk' (x.fmod ((g:Nat):Int))
  refine ⟨((b,s),(false,gs)),rfl,⟨hp.1,zU⟩,?_⟩
  rw [show iu.val ((b,s),(false,gs))=.tuple ⟨[.agg ⟨[.bool qb,.string qs]⟩,.agg ⟨[.bool fb,.string fs]⟩,.int .i64 0]⟩ from by
   simp only [iu,qL.val,if_neg nc]
   rw [← hx,IX,hn.enc,hf.enc]]
  conv=>whnf
  obtain ⟨kb,ks,hk⟩:=EI.mk' (((d:Nat):Int).fmod ((g:Nat):Int))
  refine ⟨((c,t),(false,gs)),rfl,⟨hp.2.1,zU⟩,?_⟩
  rw [show iu.val ((c,t),(false,gs))=.tuple ⟨[.agg ⟨[.bool false,.string es]⟩,.agg ⟨[.bool kb,.string ks]⟩,.int .i64 0]⟩ from by
   simp only [iu,qL.val,if_neg nc,bO]
   rw [qI,he.enc,hk.enc]]
  conv=>whnf
  refine ⟨((false,es),1),rfl,⟨ae,r1⟩,?_⟩
  rw [show gI.val ((false,es),1)=.bool (decide (((q.den:Nat):Int)=1)) from by
   show Value.bool (decide (IV.z (false,es)=1))=_
   rw [he.val]]
  have enc:∀ y,fc q.den=y→Value.agg ⟨[.bool qb,.string qs,.string y]⟩=bD q:=fun y hy=>by
   unfold bD
   rw [← hn.m9,← hn.sign,hy]
  by_cases J:q.den=1
  ·rw [decide_eq_true (by omega)]
   conv=>whnf
   exact fin _ (enc _ (by unfold fc; rw [if_pos J]))
  ·rw [decide_eq_false (by omega)]
   conv=>whnf
   exact fin _ (enc _ (by unfold fc; rw [if_neg J,he.m9,Int.natAbs_natCast]))
end Go.Proofs.YtlapbjdhekcipaaGreat
/- Contracts of rational: what is made of small numbers, and of large ones. -/
set_option maxRecDepth 20000
set_option maxHeartbeats 1000000
namespace Go.Proofs.YtlapbjdhekcipaaGreat
open Go Go.Ae
def Emg:Env:=En [(95,.p nm)]
theorem Og:EnvOk Tryz.prog Emg:=bF ⟨Vv,trivial⟩ trivial
theorem Ya:aZ Tryz.prog 94 B9:=by
 refine bf Og aK Tryz.func94 (enters_of Tryz.func94 (by kernel_rfl) rfl) (fun _=>rfl) (fun _=>rfl) ?_
 intro ⟨⟨n,d⟩,⟨m,e⟩⟩ hp
 obtain ⟨h1,J,h3,h4⟩:=I4.bounds hp
 simp only at h1 J h3 h4
 obtain ⟨x,hx⟩:∃ x,x=n*(e:Int):=⟨_,rfl⟩
 obtain ⟨y,hy⟩:∃ y,y=m*(d:Int):=⟨_,rfl⟩
 obtain ⟨k,hk⟩:∃ k,k=d*e:=⟨_,rfl⟩
 rw [← hx] at h1
 rw [← hy] at J
 rw [← hk] at h4
 have e1:IntKind.i64.wrap (IntKind.i64.wrap (n*(e:Int))+IntKind.i64.wrap (m*(d:Int)))=x+y:=by
  rw [← hx,← hy,aw (x:=x) (by omega) (by omega),aw (x:=y) (by omega) (by omega),aw (by omega) (by omega)]
 have e2:IntKind.i64.wrap ((d:Int)*(e:Int))=(k:Int):=by
  rw [← Int.natCast_mul,← hk,aw (by omega) (by omega)]
 conv=>whnf
 rw [show IntKind.i64.wrap (IntKind.i64.wrap (((n,d),m,e).fst.fst*(((n,d),m,e).snd.snd:Int))+IntKind.i64.wrap (((n,d),m,e).snd.fst*(((n,d),m,e).fst.snd:Int)))=x+y from e1]
 rw [show IntKind.i64.wrap ((((n,d),m,e).fst.snd:Int)*(((n,d),m,e).snd.snd:Int))=(k:Int) from e2]
 refine ⟨(x+y,k),rfl,⟨by show (x+y).natAbs < _; omega,by show k≠0; omega,by show k < _; omega⟩,?_⟩
 obtain ⟨v,hv⟩:∃ v,v=mkRat (x+y) k:=⟨_,rfl⟩
 rw [show nm.val (x+y,k)=(RV.of v).v from by rw [hv]; rfl]
 conv=>whnf
 show (RV.of v).v=bD (mkRat (n*e+m*d) (d*e))
 rw [hv,hx,hy,hk]
 rfl
theorem Yb:aZ Tryz.prog 98 Ca:=by
 refine bf Og aK Tryz.func98 (enters_of Tryz.func98 (by kernel_rfl) rfl) (fun _=>rfl) (fun _=>rfl) ?_
 intro ⟨⟨n,d⟩,⟨m,e⟩⟩ hp
 obtain ⟨h1,J,h3,h4⟩:=I4.bounds hp
 simp only at h1 J h3 h4
 obtain ⟨x,hx⟩:∃ x,x=n*m:=⟨_,rfl⟩
 obtain ⟨k,hk⟩:∃ k,k=d*e:=⟨_,rfl⟩
 rw [← hx] at h3
 rw [← hk] at h4
 have e1:IntKind.i64.wrap (n*m)=x:=by
  rw [← hx,aw (x:=x) (by omega) (by omega)]
 have e2:IntKind.i64.wrap ((d:Int)*(e:Int))=(k:Int):=by
  rw [← Int.natCast_mul,← hk,aw (by omega) (by omega)]
 conv=>whnf
 rw [show IntKind.i64.wrap (((n,d),m,e).fst.fst*((n,d),m,e).snd.fst)=x from e1]
 rw [show IntKind.i64.wrap ((((n,d),m,e).fst.snd:Int)*(((n,d),m,e).snd.snd:Int))=(k:Int) from e2]
 refine ⟨(x,k),rfl,⟨by show x.natAbs < _; omega,by show k≠0; omega,by show k < _; omega⟩,?_⟩
 obtain ⟨v,hv⟩:∃ v,v=mkRat x k:=⟨_,rfl⟩
 rw [show nm.val (x,k)=(RV.of v).v from by rw [hv]; rfl]
 conv=>whnf
 show (RV.of v).v=bD (mkRat (n*m) (d*e))
 rw [hv,hx,hk]
 rfl
theorem Yc:aZ Tryz.prog 90 yF:=by
 refine bf ld aK Tryz.func90 (enters_of Tryz.func90 (by kernel_rfl) rfl) (fun _=>rfl) (fun _=>rfl) ?_
 intro ⟨⟨n,d⟩,⟨m,e⟩⟩ hp
 obtain ⟨h1,J,h3,h4⟩:=I4.bounds hp
 simp only at h1 J h3 h4
 obtain ⟨x,hx⟩:∃ x,x=n*(e:Int):=⟨_,rfl⟩
 obtain ⟨y,hy⟩:∃ y,y=m*(d:Int):=⟨_,rfl⟩
 rw [← hx] at h1
 rw [← hy] at J
 have e1:IntKind.i64.wrap (n*(e:Int))=x:=by rw [← hx,aw (x:=x) (by omega) (by omega)]
 have e2:IntKind.i64.wrap (m*(d:Int))=y:=by rw [← hy,aw (x:=y) (by omega) (by omega)]
 have fin:∀ z:Int,z=dF x y→Value.int .i64 z=yF.val ((n,d),(m,e)):=fun z h=>by rw [h,hx,hy]; rfl
 conv=>whnf
 rw [show IntKind.i64.wrap (((n,d),m,e).fst.fst*(((n,d),m,e).snd.snd:Int))=x from e1,show IntKind.i64.wrap (((n,d),m,e).snd.fst*(((n,d),m,e).fst.snd:Int))=y from e2]
 refine aF (fun h=>?_) (fun h=>?_)
 ·have h:=of_decide_eq_true h
  conv=>whnf
  exact fin _ (tq h).symm
 ·have h:=of_decide_eq_false h
  conv=>whnf
  refine aF (fun h5=>?_) (fun h5=>?_)
  ·have h5:=of_decide_eq_true h5
   conv=>whnf
   exact fin _ (tv h5).symm
  ·have h5:=of_decide_eq_false h5
   conv=>whnf
   refine fin _ ?_
   unfold dF
   rw [if_neg h,if_neg (show ¬ y < x from h5)]
def Emh:Env:=En [(92,.p eX),(97,.p iJ),(87,.p kX),(86,.p ob)]
theorem G6:EnvOk Tryz.prog Emh:=bF ⟨NK,Gu,Gv,LG,trivial⟩ trivial
theorem Yd:aZ Tryz.prog 96 wO:=by
 refine bf G6 aK Tryz.func96 (enters_of Tryz.func96 (by kernel_rfl) rfl) (fun _=>rfl) (fun _=>rfl) ?_
 intro ⟨⟨⟨b,s⟩,⟨c,t⟩⟩,⟨⟨b',s'⟩,⟨c',t'⟩⟩⟩ hp
 have hp:((s.size≤17179869184∧t.size≤17179869184)∧0 < IV.z (c,t))∧(s'.size≤17179869184∧t'.size≤17179869184)∧0 < IV.z (c',t'):=hp
 obtain ⟨⟨⟨hs,ht⟩,hd⟩,⟨uL,jg⟩,cM⟩:=hp
 obtain ⟨B1,m1,h1⟩:=EI.mk' (IV.z (b,s)*IV.z (c',t'))
 obtain ⟨B2,m2,J⟩:=EI.mk' (IV.z (b',s')*IV.z (c,t))
 obtain ⟨B3,m3,h3⟩:=EI.mk' (IV.z (b,s)*IV.z (c',t')+IV.z (b',s')*IV.z (c,t))
 obtain ⟨B4,m4,h4⟩:=EI.mk' (IV.z (c,t)*IV.z (c',t'))
 have z1:=h1.gn (dw hs) (dw jg)
 have z2:=J.gn (dw uL) (dw ht)
 have z4:=h4.gn (dw ht) (dw jg)
 have z3:m3.size≤34359738369:=h3.Fg (by rw [← h1.size]; omega) (by rw [← J.size]; omega)
 have kU:=Int.mul_pos hd cM
 conv=>whnf
 refine .inl ⟨15,[[],[0],[],[2],[0,1,2,3],[],[5],[],[7],[0,1,2,3,4,5,6,7,8],[0,1,2,3,4,5,6,7,8,9],[],[11],[],[13],[0,1,2,3,4,5,6,7,8,9,10,11,12,13,14],[0,1,2,3,4,5,6,7,8,9,10,11,12,13,14,15],[0,1,2,3,4,5,6,7,8,9,10,11,12,13,14,15,16],[0,1,2,3,4,5,6,7,8,9,10,11,12,13,14,15,16,17]],by kernel_rfl,?_⟩
 conv=>whnf
 refine ⟨((b,s),(c',t')),rfl,⟨by show s.size≤_; omega,by show t'.size≤_; omega⟩,?_⟩
 rw [show eX.val ((b,s),(c',t'))=.agg ⟨[.bool B1,.string m1]⟩ from h1.enc]
 conv=>whnf
 refine ⟨((b',s'),(c,t)),rfl,⟨by show s'.size≤_; omega,by show t.size≤_; omega⟩,?_⟩
 rw [show eX.val ((b',s'),(c,t))=.agg ⟨[.bool B2,.string m2]⟩ from J.enc]
 conv=>whnf
 refine ⟨((B1,m1),(B2,m2)),rfl,⟨by show m1.size≤_; omega,by show m2.size≤_; omega⟩,?_⟩
 rw [show iJ.val ((B1,m1),(B2,m2))=.agg ⟨[.bool B3,.string m3]⟩ from by
  show aD (IV.z (B1,m1)+IV.z (B2,m2))=_
  rw [h1.val,J.val,h3.enc]]
 conv=>whnf
 refine ⟨((c,t),(c',t')),rfl,⟨by show t.size≤_; omega,by show t'.size≤_; omega⟩,?_⟩
 rw [show eX.val ((c,t),(c',t'))=.agg ⟨[.bool B4,.string m4]⟩ from h4.enc]
 conv=>whnf
 refine ⟨((B3,m3),(B4,m4)),rfl,⟨by show m3.size≤_; omega,by show m4.size≤_; omega,by show 0 < IV.z (B4,m4); rw [h4.val]; exact kU⟩,?_⟩
 obtain ⟨v,hv⟩:∃ v,v=mkRat (IV.z (B3,m3)) (IV.z (B4,m4)).natAbs:=⟨_,rfl⟩
 rw [show ob.val ((B3,m3),(B4,m4))=(RV.of v).v from by rw [hv]; rfl]
 rw [h3.val,h4.val] at hv
 conv=>whnf
 show (RV.of v).v=bD _
 rw [hv]
 rfl
theorem Ye:aZ Tryz.prog 99 wP:=by
 refine bf G6 aK Tryz.func99 (enters_of Tryz.func99 (by kernel_rfl) rfl) (fun _=>rfl) (fun _=>rfl) ?_
 intro ⟨⟨⟨b,s⟩,⟨c,t⟩⟩,⟨⟨b',s'⟩,⟨c',t'⟩⟩⟩ hp
 have hp:((s.size≤17179869184∧t.size≤17179869184)∧0 < IV.z (c,t))∧(s'.size≤17179869184∧t'.size≤17179869184)∧0 < IV.z (c',t'):=hp
 obtain ⟨⟨⟨hs,ht⟩,hd⟩,⟨uL,jg⟩,cM⟩:=hp
 obtain ⟨B3,m3,h3⟩:=EI.mk' (IV.z (b,s)*IV.z (b',s'))
 obtain ⟨B4,m4,h4⟩:=EI.mk' (IV.z (c,t)*IV.z (c',t'))
 have z3:=h3.gn (dw hs) (dw uL)
 have z4:=h4.gn (dw ht) (dw jg)
 have kU:=Int.mul_pos hd cM
 conv=>whnf
 refine .inl ⟨9,[[],[0],[],[2],[0,1,2,3],[],[5],[],[7],[0,1,2,3,4,5,6,7,8],[0,1,2,3,4,5,6,7,8,9],[0,1,2,3,4,5,6,7,8,9,10],[0,1,2,3,4,5,6,7,8,9,10,11]],by kernel_rfl,?_⟩
 conv=>whnf
 refine ⟨((b,s),(b',s')),rfl,⟨by show s.size≤_; omega,by show s'.size≤_; omega⟩,?_⟩
 rw [show eX.val ((b,s),(b',s'))=.agg ⟨[.bool B3,.string m3]⟩ from h3.enc]
 conv=>whnf
 refine ⟨((c,t),(c',t')),rfl,⟨by show t.size≤_; omega,by show t'.size≤_; omega⟩,?_⟩
 rw [show eX.val ((c,t),(c',t'))=.agg ⟨[.bool B4,.string m4]⟩ from h4.enc]
 conv=>whnf
 refine ⟨((B3,m3),(B4,m4)),rfl,⟨by show m3.size≤_; omega,by show m4.size≤_; omega,by show 0 < IV.z (B4,m4); rw [h4.val]; exact kU⟩,?_⟩
 obtain ⟨v,hv⟩:∃ v,v=mkRat (IV.z (B3,m3)) (IV.z (B4,m4)).natAbs:=⟨_,rfl⟩
 rw [show ob.val ((B3,m3),(B4,m4))=(RV.of v).v from by rw [hv]; rfl]
 rw [h3.val,h4.val] at hv
 conv=>whnf
 show (RV.of v).v=bD _
 rw [hv]
 rfl
theorem Yf:aZ Tryz.prog 91 wQ:=by
 refine bf G6 aK Tryz.func91 (enters_of Tryz.func91 (by kernel_rfl) rfl) (fun _=>rfl) (fun _=>rfl) ?_
 intro ⟨⟨⟨b,s⟩,⟨c,t⟩⟩,⟨⟨b',s'⟩,⟨c',t'⟩⟩⟩ hp
 have hp:((s.size≤17179869184∧t.size≤17179869184)∧0 < IV.z (c,t))∧(s'.size≤17179869184∧t'.size≤17179869184)∧0 < IV.z (c',t'):=hp
 obtain ⟨⟨⟨hs,ht⟩,hd⟩,⟨uL,jg⟩,cM⟩:=hp
 obtain ⟨B1,m1,h1⟩:=EI.mk' (IV.z (b,s)*IV.z (c',t'))
 obtain ⟨B2,m2,J⟩:=EI.mk' (IV.z (b',s')*IV.z (c,t))
 have z1:=h1.gn (dw hs) (dw jg)
 have z2:=J.gn (dw uL) (dw ht)
 obtain ⟨q,hq⟩:∃ q,q=dF (IV.z (b,s)*IV.z (c',t')) (IV.z (b',s')*IV.z (c,t)):=⟨_,rfl⟩
 conv=>whnf
 refine .inl ⟨9,[[],[0],[],[2],[0,1,2,3],[],[5],[],[7],[0,1,2,3,4,5,6,7,8],[0,1,2,3,4,5,6,7,8,9],[0,1,2,3,4,5,6,7,8,9,10]],by kernel_rfl,?_⟩
 conv=>whnf
 refine ⟨((b,s),(c',t')),rfl,⟨by show s.size≤_; omega,by show t'.size≤_; omega⟩,?_⟩
 rw [show eX.val ((b,s),(c',t'))=.agg ⟨[.bool B1,.string m1]⟩ from h1.enc]
 conv=>whnf
 refine ⟨((b',s'),(c,t)),rfl,⟨by show s'.size≤_; omega,by show t.size≤_; omega⟩,?_⟩
 rw [show eX.val ((b',s'),(c,t))=.agg ⟨[.bool B2,.string m2]⟩ from J.enc]
 conv=>whnf
 refine ⟨((B1,m1),(B2,m2)),rfl,⟨by show m1.size≤_; omega,by show m2.size≤_; omega⟩,?_⟩
 rw [show kX.val ((B1,m1),(B2,m2))=.int .i64 q from by
  show Value.int .i64 (dF (IV.z (B1,m1)) (IV.z (B2,m2)))=_
  rw [h1.val,J.val,hq]]
 conv=>whnf
 show Value.int .i64 q=_
 rw [hq]
 rfl
end Go.Proofs.YtlapbjdhekcipaaGreat
/- Contracts of rational: the operations. -/
set_option maxRecDepth 20000
set_option maxHeartbeats 1000000
namespace Go.Proofs.YtlapbjdhekcipaaGreat
open Go Go.Ae
def zV:Env:=En [(138,.p bB),(88,.p kY),(94,.p B9),(96,.p wO),(98,.p Ca),(99,.p wP),(90,.p yF),(91,.p wQ)]
theorem Oh:EnvOk Tryz.prog zV:=bF ⟨X8,Gw,Ya,Yd,Yb,Ye,Yc,Yf,trivial⟩ trivial
theorem Vx:fK Tryz.prog 93 (cc zV cF Tryz.f93):=by
 exact iV Oh aK Tryz.func93 (enters_of Tryz.func93 (by kernel_rfl) rfl)
theorem Vy:fK Tryz.prog 89 (cc zV cF Tryz.f89):=by
 exact iV Oh aK Tryz.func89 (enters_of Tryz.func89 (by kernel_rfl) rfl)
def Emk:Env:=En [] [(93,cc zV cF Tryz.f93),(89,cc zV cF Tryz.f89)]
theorem G7:EnvOk Tryz.prog Emk:=bF trivial ⟨Vx,Vy,trivial⟩
theorem Bs:aZ Tryz.prog 36 kQ:=by
 refine bf G7 aK Tryz.func36 (enters_of Tryz.func36 (by kernel_rfl) rfl) (fun _=>rfl) (fun _=>rfl) ?_
 intro ⟨⟨b,s,t⟩,⟨c,u,v⟩⟩ hp
 have hp:RV.ok (b,s,t)∧RV.ok (c,u,v):=hp
 obtain ⟨w,hw⟩:∃ w,w=RV.q (b,s,t)+RV.q (c,u,v):=⟨_,rfl⟩
 have fin:∀ x:Value,x=(RV.of w).v→x=kQ.val ((b,s,t),(c,u,v)):=fun x h=>by rw [h,hw]; rfl
 obtain ⟨x,hx⟩:∃ x,x=RV.den (b,s,t):=⟨_,rfl⟩
 obtain ⟨y,hy⟩:∃ y,y=RV.den (c,u,v):=⟨_,rfl⟩
 have ex:kY.val (b,s,t)=.agg ⟨[.bool b,.string s,.bool false,.string x]⟩:=by rw [hx]; rfl
 have ey:kY.val (c,u,v)=.agg ⟨[.bool c,.string u,.bool false,.string y]⟩:=by rw [hy]; rfl
 have f1:=RV.lO hp.1
 have f2:=RV.lO hp.2
 have e2:wO.val (((b,s),(false,x)),((c,u),(false,y)))=(RV.of w).v:=by rw [hx,hy,hw]; exact YN (b,s,t) (c,u,v)
 rw [← hx] at f1
 rw [← hy] at f2
 have e1:=YK (b,s,t) (c,u,v)
 have hn:=RV.jx (i:=(b,s,t))
 have hm:=RV.jx (i:=(c,u,v))
 rw [← hw] at e1
 obtain ⟨n,bL⟩:∃ n,n=RV.n (b,s,t):=⟨_,rfl⟩
 obtain ⟨m,eJ⟩:∃ n,n=RV.n (c,u,v):=⟨_,rfl⟩
 obtain ⟨d,bO⟩:∃ n,n=RV.d (b,s,t):=⟨_,rfl⟩
 obtain ⟨e,cA⟩:∃ n,n=RV.d (c,u,v):=⟨_,rfl⟩
 rw [← bL,← bO] at hn e1
 rw [← eJ,← cA] at hm e1
 conv=>whnf
 refine ⟨(b,s,t),rfl,trivial,?_⟩
 by_cases h1:RV.fy (b,s,t)
 ·rw [show bB.val (b,s,t)=.tuple ⟨[.int .i64 n,.int .i64 d,.bool true]⟩ from by simp only [bB,if_pos h1,decide_eq_true h1,bL,bO]]
  conv=>whnf
  refine ⟨(c,u,v),rfl,trivial,?_⟩
  by_cases J:RV.fy (c,u,v)
  ·rw [show bB.val (c,u,v)=.tuple ⟨[.int .i64 m,.int .i64 e,.bool true]⟩ from by simp only [bB,if_pos J,decide_eq_true J,eJ,cA]]
   conv=>whnf
   refine ⟨((n,d),(m,e)),rfl,⟨hn h1,hm J⟩,?_⟩
   rw [show B9.val ((n,d),(m,e))=(RV.of w).v from e1]
   conv=>whnf
   exact fin _ rfl
  ·rw [show bB.val (c,u,v)=.tuple ⟨[.int .i64 0,.int .i64 0,.bool false]⟩ from by simp only [bB,if_neg J,decide_eq_false J]]
   conv=>whnf
   refine .inl ⟨5,[[],[],[1],[],[1,2,3],[0,1,2,3,4],[0,1,2,3,4,5]],by kernel_rfl,?_⟩
   conv=>whnf
   refine ⟨(b,s,t),rfl,by have:=hp.1.2; show t.size≤_; exact Nat.le_trans this (by decide),?_⟩
   rw [ex]
   conv=>whnf
   refine ⟨(c,u,v),rfl,by have:=hp.2.2; show v.size≤_; exact Nat.le_trans this (by decide),?_⟩
   rw [ey]
   conv=>whnf
   refine ⟨(((b,s),(false,x)),((c,u),(false,y))),rfl,⟨f1,f2⟩,?_⟩
   rw [show wO.val (((b,s),(false,x)),((c,u),(false,y)))=(RV.of w).v from e2]
   conv=>whnf
   exact fin _ rfl
 ·rw [show bB.val (b,s,t)=.tuple ⟨[.int .i64 0,.int .i64 0,.bool false]⟩ from by simp only [bB,if_neg h1,decide_eq_false h1]]
  conv=>whnf
  obtain ⟨k1,k2,k3,hk⟩:∃ (k1 k2:Int) (k3:Bool),bB.val (c,u,v)=.tuple ⟨[.int .i64 k1,.int .i64 k2,.bool k3]⟩:=⟨_,_,_,rfl⟩
  refine ⟨(c,u,v),rfl,trivial,?_⟩
  rw [hk]
  conv=>whnf
  refine .inl ⟨5,[[],[],[1],[],[1,2,3],[0,1,2,3,4],[0,1,2,3,4,5]],by kernel_rfl,?_⟩
  conv=>whnf
  refine ⟨(b,s,t),rfl,by have:=hp.1.2; show t.size≤_; exact Nat.le_trans this (by decide),?_⟩
  rw [ex]
  conv=>whnf
  refine ⟨(c,u,v),rfl,by have:=hp.2.2; show v.size≤_; exact Nat.le_trans this (by decide),?_⟩
  rw [ey]
  conv=>whnf
  refine ⟨(((b,s),(false,x)),((c,u),(false,y))),rfl,⟨f1,f2⟩,?_⟩
  rw [show wO.val (((b,s),(false,x)),((c,u),(false,y)))=(RV.of w).v from e2]
  conv=>whnf
  exact fin _ rfl
theorem M8:aZ Tryz.prog 37 kt:=by
 refine bf G7 aK Tryz.func37 (enters_of Tryz.func37 (by kernel_rfl) rfl) (fun _=>rfl) (fun _=>rfl) ?_
 intro ⟨⟨b,s,t⟩,⟨c,u,v⟩⟩ hp
 have hp:RV.ok (b,s,t)∧RV.ok (c,u,v):=hp
 obtain ⟨w,hw⟩:∃ w,w=RV.q (b,s,t)*RV.q (c,u,v):=⟨_,rfl⟩
 have fin:∀ x:Value,x=(RV.of w).v→x=kt.val ((b,s,t),(c,u,v)):=fun x h=>by rw [h,hw]; rfl
 obtain ⟨x,hx⟩:∃ x,x=RV.den (b,s,t):=⟨_,rfl⟩
 obtain ⟨y,hy⟩:∃ y,y=RV.den (c,u,v):=⟨_,rfl⟩
 have ex:kY.val (b,s,t)=.agg ⟨[.bool b,.string s,.bool false,.string x]⟩:=by rw [hx]; rfl
 have ey:kY.val (c,u,v)=.agg ⟨[.bool c,.string u,.bool false,.string y]⟩:=by rw [hy]; rfl
 have f1:=RV.lO hp.1
 have f2:=RV.lO hp.2
 have e2:wP.val (((b,s),(false,x)),((c,u),(false,y)))=(RV.of w).v:=by rw [hx,hy,hw]; exact YO (b,s,t) (c,u,v)
 rw [← hx] at f1
 rw [← hy] at f2
 have e1:=YL (b,s,t) (c,u,v)
 have hn:=RV.jx (i:=(b,s,t))
 have hm:=RV.jx (i:=(c,u,v))
 rw [← hw] at e1
 obtain ⟨n,bL⟩:∃ n,n=RV.n (b,s,t):=⟨_,rfl⟩
 obtain ⟨m,eJ⟩:∃ n,n=RV.n (c,u,v):=⟨_,rfl⟩
 obtain ⟨d,bO⟩:∃ n,n=RV.d (b,s,t):=⟨_,rfl⟩
 obtain ⟨e,cA⟩:∃ n,n=RV.d (c,u,v):=⟨_,rfl⟩
 rw [← bL,← bO] at hn e1
 rw [← eJ,← cA] at hm e1
 conv=>whnf
 refine ⟨(b,s,t),rfl,trivial,?_⟩
 by_cases h1:RV.fy (b,s,t)
 ·rw [show bB.val (b,s,t)=.tuple ⟨[.int .i64 n,.int .i64 d,.bool true]⟩ from by simp only [bB,if_pos h1,decide_eq_true h1,bL,bO]]
  conv=>whnf
  refine ⟨(c,u,v),rfl,trivial,?_⟩
  by_cases J:RV.fy (c,u,v)
  ·rw [show bB.val (c,u,v)=.tuple ⟨[.int .i64 m,.int .i64 e,.bool true]⟩ from by simp only [bB,if_pos J,decide_eq_true J,eJ,cA]]
   conv=>whnf
   refine ⟨((n,d),(m,e)),rfl,⟨hn h1,hm J⟩,?_⟩
   rw [show Ca.val ((n,d),(m,e))=(RV.of w).v from e1]
   conv=>whnf
   exact fin _ rfl
  ·rw [show bB.val (c,u,v)=.tuple ⟨[.int .i64 0,.int .i64 0,.bool false]⟩ from by simp only [bB,if_neg J,decide_eq_false J]]
   conv=>whnf
   refine .inl ⟨5,[[],[],[1],[],[1,2,3],[0,1,2,3,4],[0,1,2,3,4,5]],by kernel_rfl,?_⟩
   conv=>whnf
   refine ⟨(b,s,t),rfl,by have:=hp.1.2; show t.size≤_; exact Nat.le_trans this (by decide),?_⟩
   rw [ex]
   conv=>whnf
   refine ⟨(c,u,v),rfl,by have:=hp.2.2; show v.size≤_; exact Nat.le_trans this (by decide),?_⟩
   rw [ey]
   conv=>whnf
   refine ⟨(((b,s),(false,x)),((c,u),(false,y))),rfl,⟨f1,f2⟩,?_⟩
   rw [show wP.val (((b,s),(false,x)),((c,u),(false,y)))=(RV.of w).v from e2]
   conv=>whnf
   exact fin _ rfl
 ·rw [show bB.val (b,s,t)=.tuple ⟨[.int .i64 0,.int .i64 0,.bool false]⟩ from by simp only [bB,if_neg h1,decide_eq_false h1]]
  conv=>whnf
  obtain ⟨k1,k2,k3,hk⟩:∃ (k1 k2:Int) (k3:Bool),bB.val (c,u,v)=.tuple ⟨[.int .i64 k1,.int .i64 k2,.bool k3]⟩:=⟨_,_,_,rfl⟩
  refine ⟨(c,u,v),rfl,trivial,?_⟩
  rw [hk]
  conv=>whnf
  refine .inl ⟨5,[[],[],[1],[],[1,2,3],[0,1,2,3,4],[0,1,2,3,4,5]],by kernel_rfl,?_⟩
  conv=>whnf
  refine ⟨(b,s,t),rfl,by have:=hp.1.2; show t.size≤_; exact Nat.le_trans this (by decide),?_⟩
  rw [ex]
  conv=>whnf
  refine ⟨(c,u,v),rfl,by have:=hp.2.2; show v.size≤_; exact Nat.le_trans this (by decide),?_⟩
  rw [ey]
  conv=>whnf
  refine ⟨(((b,s),(false,x)),((c,u),(false,y))),rfl,⟨f1,f2⟩,?_⟩
  rw [show wP.val (((b,s),(false,x)),((c,u),(false,y)))=(RV.of w).v from e2]
  conv=>whnf
  exact fin _ rfl
theorem M9:aZ Tryz.prog 35 gX:=by
 refine bf G7 aK Tryz.func35 (enters_of Tryz.func35 (by kernel_rfl) rfl) (fun _=>rfl) (fun _=>rfl) ?_
 intro ⟨⟨b,s,t⟩,⟨c,u,v⟩⟩ hp
 have hp:RV.ok (b,s,t)∧RV.ok (c,u,v):=hp
 obtain ⟨w,hw⟩:∃ w,w=aU (RV.q (b,s,t)) (RV.q (c,u,v)):=⟨_,rfl⟩
 have fin:∀ x:Value,x=.int .i64 w→x=gX.val ((b,s,t),(c,u,v)):=fun x h=>by rw [h,hw]; rfl
 obtain ⟨x,hx⟩:∃ x,x=RV.den (b,s,t):=⟨_,rfl⟩
 obtain ⟨y,hy⟩:∃ y,y=RV.den (c,u,v):=⟨_,rfl⟩
 have ex:kY.val (b,s,t)=.agg ⟨[.bool b,.string s,.bool false,.string x]⟩:=by rw [hx]; rfl
 have ey:kY.val (c,u,v)=.agg ⟨[.bool c,.string u,.bool false,.string y]⟩:=by rw [hy]; rfl
 have f1:=RV.lO hp.1
 have f2:=RV.lO hp.2
 have e2:wQ.val (((b,s),(false,x)),((c,u),(false,y)))=.int .i64 w:=by rw [hx,hy,hw]; exact YP (b,s,t) (c,u,v)
 rw [← hx] at f1
 rw [← hy] at f2
 have e1:=YM (b,s,t) (c,u,v)
 have hn:=RV.jx (i:=(b,s,t))
 have hm:=RV.jx (i:=(c,u,v))
 rw [← hw] at e1
 obtain ⟨n,bL⟩:∃ n,n=RV.n (b,s,t):=⟨_,rfl⟩
 obtain ⟨m,eJ⟩:∃ n,n=RV.n (c,u,v):=⟨_,rfl⟩
 obtain ⟨d,bO⟩:∃ n,n=RV.d (b,s,t):=⟨_,rfl⟩
 obtain ⟨e,cA⟩:∃ n,n=RV.d (c,u,v):=⟨_,rfl⟩
 rw [← bL,← bO] at hn e1
 rw [← eJ,← cA] at hm e1
 conv=>whnf
 refine ⟨(b,s,t),rfl,trivial,?_⟩
 by_cases h1:RV.fy (b,s,t)
 ·rw [show bB.val (b,s,t)=.tuple ⟨[.int .i64 n,.int .i64 d,.bool true]⟩ from by simp only [bB,if_pos h1,decide_eq_true h1,bL,bO]]
  conv=>whnf
  refine ⟨(c,u,v),rfl,trivial,?_⟩
  by_cases J:RV.fy (c,u,v)
  ·rw [show bB.val (c,u,v)=.tuple ⟨[.int .i64 m,.int .i64 e,.bool true]⟩ from by simp only [bB,if_pos J,decide_eq_true J,eJ,cA]]
   conv=>whnf
   refine ⟨((n,d),(m,e)),rfl,⟨hn h1,hm J⟩,?_⟩
   rw [show yF.val ((n,d),(m,e))=.int .i64 w from e1]
   conv=>whnf
   exact fin _ rfl
  ·rw [show bB.val (c,u,v)=.tuple ⟨[.int .i64 0,.int .i64 0,.bool false]⟩ from by simp only [bB,if_neg J,decide_eq_false J]]
   conv=>whnf
   refine .inl ⟨5,[[],[],[1],[],[1,2,3],[0,1,2,3,4],[0,1,2,3,4,5]],by kernel_rfl,?_⟩
   conv=>whnf
   refine ⟨(b,s,t),rfl,by have:=hp.1.2; show t.size≤_; exact Nat.le_trans this (by decide),?_⟩
   rw [ex]
   conv=>whnf
   refine ⟨(c,u,v),rfl,by have:=hp.2.2; show v.size≤_; exact Nat.le_trans this (by decide),?_⟩
   rw [ey]
   conv=>whnf
   refine ⟨(((b,s),(false,x)),((c,u),(false,y))),rfl,⟨f1,f2⟩,?_⟩
   rw [show wQ.val (((b,s),(false,x)),((c,u),(false,y)))=.int .i64 w from e2]
   conv=>whnf
   exact fin _ rfl
 ·rw [show bB.val (b,s,t)=.tuple ⟨[.int .i64 0,.int .i64 0,.bool false]⟩ from by simp only [bB,if_neg h1,decide_eq_false h1]]
  conv=>whnf
  obtain ⟨k1,k2,k3,hk⟩:∃ (k1 k2:Int) (k3:Bool),bB.val (c,u,v)=.tuple ⟨[.int .i64 k1,.int .i64 k2,.bool k3]⟩:=⟨_,_,_,rfl⟩
  refine ⟨(c,u,v),rfl,trivial,?_⟩
  rw [hk]
  conv=>whnf
  refine .inl ⟨5,[[],[],[1],[],[1,2,3],[0,1,2,3,4],[0,1,2,3,4,5]],by kernel_rfl,?_⟩
  conv=>whnf
  refine ⟨(b,s,t),rfl,by have:=hp.1.2; show t.size≤_; exact Nat.le_trans this (by decide),?_⟩
  rw [ex]
  conv=>whnf
  refine ⟨(c,u,v),rfl,by have:=hp.2.2; show v.size≤_; exact Nat.le_trans this (by decide),?_⟩
  rw [ey]
  conv=>whnf
  refine ⟨(((b,s),(false,x)),((c,u),(false,y))),rfl,⟨f1,f2⟩,?_⟩
  rw [show wQ.val (((b,s),(false,x)),((c,u),(false,y)))=.int .i64 w from e2]
  conv=>whnf
  exact fin _ rfl
end Go.Proofs.YtlapbjdhekcipaaGreat
/- Contracts of rational: differences, signs, checks. -/
set_option maxRecDepth 20000
set_option maxHeartbeats 1000000
namespace Go.Proofs.YtlapbjdhekcipaaGreat
open Go Go.Ae
def Eml:Env:=sK [(36,.p kQ),(88,.p kY),(86,.p ob),(87,.p kX),(83,.p eI),(130,.p gG)]
theorem yL:EnvOk Tryz.prog Eml:=uC ⟨Bs,Gw,LG,Gv,rJ,aat,trivial⟩ trivial
theorem wh:aZ Tryz.prog 38 gC:=by
 refine bf yL aK Tryz.func38 (enters_of Tryz.func38 (by kernel_rfl) rfl) (fun _=>rfl) (fun _=>rfl) ?_
 intro ⟨⟨b,s,t⟩,⟨c,u,v⟩⟩ hp
 have hp:RV.ok (b,s,t)∧RV.ok (c,u,v):=hp
 obtain ⟨w,hw⟩:∃ w,w=RV.q (b,s,t) - RV.q (c,u,v):=⟨_,rfl⟩
 conv=>whnf
 refine ⟨((b,s,t),(!c,u,v)),rfl,hp,?_⟩
 rw [show kQ.val ((b,s,t),(!c,u,v))=(RV.of w).v from by
  rw [hw]
  show bD (RV.q (b,s,t)+RV.q (!c,u,v))=bD _
  rw [Gn,← Rat.sub_eq_add_neg]]
 conv=>whnf
 show (RV.of w).v=bD _
 rw [hw]
 rfl
theorem Fu:aZ Tryz.prog 34 gf:=by
 refine bf yL aK Tryz.func34 (enters_of Tryz.func34 (by kernel_rfl) rfl) (fun _=>rfl) (fun _=>rfl) ?_
 intro ⟨b,s,t⟩ hp
 have hp:RV.ok (b,s,t):=hp
 obtain ⟨x,hx⟩:∃ x,x=RV.den (b,s,t):=⟨_,rfl⟩
 obtain ⟨w,hw⟩:∃ w,w=aU (RV.q (b,s,t)) 0:=⟨_,rfl⟩
 conv=>whnf
 refine ⟨(b,s,t),rfl,by have:=hp.2; show t.size≤_; exact Nat.le_trans this (by decide),?_⟩
 rw [show kY.val (b,s,t)=.agg ⟨[.bool b,.string s,.bool false,.string x]⟩ from by rw [hx]; rfl]
 conv=>whnf
 refine ⟨((b,s),(false,⟨#[]⟩)),rfl,⟨by have:=hp.1; show s.size≤_; exact Nat.le_trans this (by decide),Nat.zero_le _⟩,?_⟩
 rw [show kX.val ((b,s),(false,⟨#[]⟩))=.int .i64 w from by rw [hw,YQ]; rfl]
 conv=>whnf
 show Value.int .i64 w=_
 rw [hw]
 rfl
theorem yp:aZ Tryz.prog 33 kB:=by
 refine bf yL aK Tryz.func33 (enters_of Tryz.func33 (by kernel_rfl) rfl) (fun _=>rfl) (fun _=>rfl) ?_
 intro (n:Int) hp
 have hp:-9223372036854775808≤n∧n < 9223372036854775808:=hp
 obtain ⟨w,hw⟩:∃ w:Rat,w=(n:Rat):=⟨_,rfl⟩
 obtain ⟨B,m,hE⟩:=EI.mk' n
 obtain ⟨k,hF⟩:=EI.iE (show 0≤(1:Int) by decide)
 have hm:=hE.size
 have hk:=hF.size
 have h8:=tA hp
 have h1:=tA r1
 conv=>whnf
 refine ⟨n,rfl,hp,?_⟩
 rw [show eI.val n=.agg ⟨[.bool B,.string m]⟩ from hE.enc]
 conv=>whnf
 refine ⟨(1:Int),rfl,r1,?_⟩
 rw [show eI.val (1:Int)=.agg ⟨[.bool false,.string k]⟩ from hF.enc]
 conv=>whnf
 refine ⟨((B,m),(false,k)),rfl,⟨by show m.size≤_; omega,by show k.size≤_; omega,by show 0 < IV.z (false,k); rw [hF.val]; decide⟩,?_⟩
 rw [show ob.val ((B,m),(false,k))=(RV.of w).v from by
  rw [hw,g0 n]
  show bD (mkRat (IV.z (B,m)) (IV.z (false,k)).natAbs)=_
  rw [hE.val,hF.val]; rfl]
 conv=>whnf
 show (RV.of w).v=bD _
 rw [hw]
 rfl
theorem TY:aZ Tryz.prog 129 mz:=by
 refine bf yL aK Tryz.func129 (enters_of Tryz.func129 (by kernel_rfl) rfl) (fun _=>rfl) (fun _=>rfl) ?_
 intro ⟨b,s,t⟩ hp
 have hp:RV.ok (b,s,t):=hp
 obtain ⟨⟨c,u,v⟩,hw⟩:∃ w,w=RV.of (RV.q (b,s,t)):=⟨_,rfl⟩
 obtain ⟨x,hx⟩:∃ x,x=RV.den (b,s,t):=⟨_,rfl⟩
 have f1:=RV.lO hp
 have e1:=RV.acO (b,s,t)
 rw [show RV.den (b,s,t)=x from hx.symm] at f1 e1
 have heq:=DJ (b,s,t) (c,u,v)
 conv=>whnf
 refine .inl ⟨4,[[],[],[1],[1,2],[0,1,2,3]],by kernel_rfl,?_⟩
 conv=>whnf
 refine ⟨(b,s,t),rfl,by have:=hp.2; show t.size≤_; exact Nat.le_trans this (by decide),?_⟩
 rw [show kY.val (b,s,t)=.agg ⟨[.bool b,.string s,.bool false,.string x]⟩ from by rw [hx]; rfl]
 conv=>whnf
 refine ⟨((b,s),(false,x)),rfl,⟨Nat.le_trans f1.1.1 (by decide),Nat.le_trans f1.1.2 (by decide),f1.2⟩,?_⟩
 rw [show ob.val ((b,s),(false,x))=RV.v (c,u,v) from by
  rw [hw,e1]; rfl]
 conv=>whnf
 by_cases h:(b,s,t)=(c,u,v)
 ·rw [decide_eq_true h] at heq
  refine aF (fun J=>?_) (fun J=>?_)
  ·exfalso
   rw [show eh [Value.bool b,.string s,.string t] [.bool c,.string u,.string v]=true from heq] at J
   cases J
  ·conv=>whnf
   show _=Value.int .i64 (if (b,s,t)=RV.of (RV.q (b,s,t)) then 0 else 1)
   rw [← hw,if_pos h]
 ·rw [decide_eq_false h] at heq
  refine aF (fun J=>?_) (fun J=>?_)
  ·conv=>whnf
   show _=Value.int .i64 (if (b,s,t)=RV.of (RV.q (b,s,t)) then 0 else 1)
   rw [← hw,if_neg h]
  ·exfalso
   rw [show eh [Value.bool b,.string s,.string t] [.bool c,.string u,.string v]=false from heq] at J
   cases J
theorem Na:aZ Tryz.prog 82 ua:=by
 refine bf yL aK Tryz.func82 (enters_of Tryz.func82 (by kernel_rfl) rfl) (fun _=>rfl) (fun _=>rfl) ?_
 intro ⟨⟨b,s⟩,⟨c,t⟩⟩ hp
 have hp:s.size≤549755813888∧t.size≤549755813888:=hp
 obtain ⟨x,hx⟩:∃ x,x=IV.z (b,s):=⟨_,rfl⟩
 obtain ⟨y,hy⟩:∃ y,y=IV.z (c,t):=⟨_,rfl⟩
 obtain ⟨w,hw⟩:∃ w,w=Rat.divInt x y:=⟨_,rfl⟩
 have ec:kX.val ((c,t),(false,⟨#[]⟩))=.int .i64 (dF y 0):=by rw [hy]; rfl
 have nG:y=0→∀ v,v=bD 0→Value.tuple ⟨[v,.int .i64 10]⟩=ua.val ((b,s),(c,t)):=fun h v hv=>by
  show _=kZ (IV.z (b,s)) (IV.z (c,t))
  rw [← hy,hv]; unfold kZ; rw [if_pos h,h,Rat.divInt_zero]
 have fin:y≠0→∀ v,v=bD w→Value.tuple ⟨[v,.int .i64 0]⟩=ua.val ((b,s),(c,t)):=fun h v hv=>by
  show _=kZ (IV.z (b,s)) (IV.z (c,t))
  rw [← hx,← hy,hv]; unfold kZ; rw [if_neg h,hw]
 conv=>whnf
 refine ⟨((c,t),(false,⟨#[]⟩)),rfl,⟨hp.2,Nat.zero_le _⟩,?_⟩
 rw [ec]
 rcases Int.lt_trichotomy y 0 with h | h | h
 ·rw [tq h]
  obtain ⟨B,m,hE⟩:=EI.mk' (-x)
  obtain ⟨k,hF⟩:=EI.iE (show 0≤-y by omega)
  have hm:m.size≤549755813888:=by rw [hE.size,Int.natAbs_neg,hx]; exact dw hp.1
  have hk:k.size≤549755813888:=by rw [hF.size,Int.natAbs_neg,hy]; exact dw hp.2
  conv=>whnf
  refine .inl ⟨3,[[],[0],[],[0,1,2],[0,1,2,3],[0,1,2,3,4]],by kernel_rfl,?_⟩
  conv=>whnf
  refine ⟨(b,s),rfl,hp.1,?_⟩
  rw [show gG.val (b,s)=.agg ⟨[.bool B,.string m]⟩ from by show aD (-IV.z (b,s))=_; rw [← hx,hE.enc]]
  conv=>whnf
  refine ⟨(c,t),rfl,hp.2,?_⟩
  rw [show gG.val (c,t)=.agg ⟨[.bool false,.string k]⟩ from by show aD (-IV.z (c,t))=_; rw [← hy,hF.enc]]
  conv=>whnf
  refine ⟨((B,m),(false,k)),rfl,⟨hm,hk,by show 0 < IV.z (false,k); rw [hF.val]; omega⟩,?_⟩
  rw [show ob.val ((B,m),(false,k))=(RV.of w).v from by
   rw [hw,Ry h]
   show bD (mkRat (IV.z (B,m)) (IV.z (false,k)).natAbs)=_
   rw [hE.val,hF.val]; rfl]
  conv=>whnf
  exact fin (by omega) _ rfl
 ·rw [h]
  conv=>whnf
  exact nG h _ abf.symm
 ·rw [tv h]
  conv=>whnf
  refine ⟨((b,s),(c,t)),rfl,⟨hp.1,hp.2,by show 0 < IV.z (c,t); omega⟩,?_⟩
  rw [show ob.val ((b,s),(c,t))=(RV.of w).v from by
   rw [hw,KE h,hx,hy]; rfl]
  conv=>whnf
  exact fin (by omega) _ rfl
def Emm:Env:=En [(82,.p ua),(83,.p eI)]
theorem abG:EnvOk Tryz.prog Emm:=bF ⟨Na,rJ,trivial⟩ trivial
theorem TZ:aZ Tryz.prog 30 FO:=by
 refine bf abG aK Tryz.func30 (enters_of Tryz.func30 (by kernel_rfl) rfl) (fun _=>rfl) (fun _=>rfl) ?_
 intro ⟨n,d⟩ hp
 have hp:(-9223372036854775808≤n∧n < 9223372036854775808)∧-9223372036854775808≤d∧d < 9223372036854775808:=hp
 obtain ⟨B,m,hE⟩:=EI.mk' n
 obtain ⟨D,k,hF⟩:=EI.mk' d
 have hm:=hE.size
 have hk:=hF.size
 have h8:=tA hp.1
 have h1:=tA hp.2
 obtain ⟨q,e,P8⟩:∃ (q:Rat) (e:Int),kZ n d=.tuple ⟨[(RV.of q).v,.int .i64 e]⟩:=by
  exact ⟨_,_,rfl⟩
 conv=>whnf
 refine ⟨n,rfl,hp.1,?_⟩
 rw [show eI.val n=.agg ⟨[.bool B,.string m]⟩ from hE.enc]
 conv=>whnf
 refine ⟨d,rfl,hp.2,?_⟩
 rw [show eI.val d=.agg ⟨[.bool D,.string k]⟩ from hF.enc]
 conv=>whnf
 refine ⟨((B,m),(D,k)),rfl,⟨by show m.size≤_; omega,by show k.size≤_; omega⟩,?_⟩
 rw [show ua.val ((B,m),(D,k))=.tuple ⟨[(RV.of q).v,.int .i64 e]⟩ from by
  show kZ (IV.z (B,m)) (IV.z (D,k))=_
  rw [hE.val,hF.val,P8]]
 conv=>whnf
 show Value.tuple ⟨[(RV.of q).v,.int .i64 e]⟩=kZ n d
 rw [P8]
end Go.Proofs.YtlapbjdhekcipaaGreat
/- Contracts of the reference rationals: parts, lowest terms. -/
set_option maxRecDepth 20000
set_option maxHeartbeats 1000000
namespace Go.Proofs.YtlapbjdhekcipaaGreat
open Go Go.Ae
def Eqa:Env:=En [(173,.p iJ),(155,.p eI),(175,.p uq),(176,.p iu),(174,.p gG)]
theorem Oi:EnvOk Tryz.prog Eqa:=bF ⟨F4,yo,X6,X7,F3,trivial⟩ trivial
theorem Mv:aZ Tryz.prog 157 mE:=by
 refine bf Oi aK Tryz.func157 (enters_of Tryz.func157 (by kernel_rfl) rfl) (fun _=>rfl) (fun _=>rfl) ?_
 intro ⟨b,s,t⟩ hp
 have hp:s.size≤8589934592∧t.size≤8589934592:=hp
 obtain ⟨B,m,hE⟩:=EI.mk' (RV.n (b,s,t))
 obtain ⟨k,hF⟩:=EI.iE (show 0≤((ab t:Nat):Int) by omega)
 obtain ⟨j,hG⟩:=EI.iE (show 0≤(1:Int) by decide)
 have fin:∀ (v:Value),v=aD ((RV.d (b,s,t):Nat):Int)→Value.tuple ⟨[.agg ⟨[.bool B,.string m]⟩,v]⟩=mE.val (b,s,t):=fun v h=>by
  rw [h,← hE.enc]; rfl
 conv=>whnf
 refine ⟨((b,s),(false,⟨#[]⟩)),rfl,⟨by show s.size≤_; omega,Nat.zero_le _⟩,?_⟩
 rw [show iJ.val ((b,s),(false,⟨#[]⟩))=.agg ⟨[.bool B,.string m]⟩ from by
  show aD (IV.z (b,s)+0)=_
  rw [Int.add_zero]; exact hE.enc]
 conv=>whnf
 refine ⟨((false,t),(false,⟨#[]⟩)),rfl,⟨by show t.size≤_; omega,Nat.zero_le _⟩,?_⟩
 rw [show iJ.val ((false,t),(false,⟨#[]⟩))=.agg ⟨[.bool false,.string k]⟩ from by
  show aD (((ab t:Nat):Int)+0)=_
  rw [Int.add_zero]; exact hF.enc]
 conv=>whnf
 rw [hF.nil]
 by_cases h:ab t=0
 ·rw [decide_eq_true (by omega)]
  have fin:=fin (.agg ⟨[.bool false,.string j]⟩) (by rw [← hG.enc]; unfold RV.d; rw [if_pos h]; rfl)
  conv=>whnf
  refine ⟨(1:Int),rfl,r1,?_⟩
  rw [show eI.val (1:Int)=.agg ⟨[.bool false,.string j]⟩ from hG.enc]
  conv=>whnf
  refine .inr (.inl ⟨(.br 0 (.br 1 (.br 2 (.br 3 .leaf .leaf) .leaf) (.br 2 (.br 1 (.br 3 .leaf .leaf) .leaf) .leaf)) (.br 1 (.br 0 (.br 2 (.br 3 .leaf .leaf) .leaf) .leaf) .leaf)),by kernel_rfl,?_⟩)
  repeat' ((conv=>whnf); first | exact True.intro | refine And.intro ?_ ?_)
  all_goals conv=>whnf
  all_goals exact fin
 ·rw [decide_eq_false (by omega)]
  have fin:=fin (.agg ⟨[.bool false,.string k]⟩) (by rw [← hF.enc]; unfold RV.d; rw [if_neg h])
  conv=>whnf
  refine .inr (.inl ⟨(.br 0 (.br 1 (.br 2 (.br 3 .leaf .leaf) .leaf) (.br 2 (.br 1 (.br 3 .leaf .leaf) .leaf) .leaf)) (.br 1 (.br 0 (.br 2 (.br 3 .leaf .leaf) .leaf) .leaf) .leaf)),by kernel_rfl,?_⟩)
  repeat' ((conv=>whnf); first | exact True.intro | refine And.intro ?_ ?_)
  all_goals conv=>whnf
  all_goals exact fin
theorem T0:aZ Tryz.prog 154 pg:=by
 refine bf Oi aK Tryz.func154 (enters_of Tryz.func154 (by kernel_rfl) rfl) (fun _=>rfl) (fun _=>rfl) ?_
 intro ⟨⟨b,s⟩,⟨c,t⟩⟩ hp
 have hp:s.size≤549755813888∧t.size≤549755813888∧0 < IV.z (c,t):=hp
 obtain ⟨x,hx⟩:∃ x,x=IV.z (b,s):=⟨_,rfl⟩
 obtain ⟨d,hd⟩:∃ d,d=(IV.z (c,t)).natAbs:=⟨_,rfl⟩
 have bO:IV.z (c,t)=((d:Nat):Int):=by omega
 have fh:d≠0:=by omega
 obtain ⟨q,hq⟩:∃ q,q=mkRat x d:=⟨_,rfl⟩
 have fin:∀ v:Value,v=bD q→v=pg.val ((b,s),(c,t)):=fun v h=>by rw [h,hq,hx,hd]; rfl
 obtain ⟨B,m,hE⟩:=EI.mk' x
 obtain ⟨k,hF⟩:=EI.iE (show 0≤((d:Nat):Int) by omega)
 have dY:aN d≤549755813888:=by rw [hd]; exact IV.aN (i:=(c,t)) hp.2.1
 have qz:m.size≤549755813888:=by rw [hE.size,hx]; exact dw hp.1
 have je:k.size≤549755813888:=by rw [hF.size,Int.natAbs_natCast]; exact dY
 conv=>whnf
 refine .inl ⟨5,[[],[],[0,1],[],[],[0,1,2,3,4],[0,1,2,3,4,5],[0,1,2,3,4,5,6]],by kernel_rfl,?_⟩
 conv=>whnf
 refine ⟨((b,s),(false,⟨#[]⟩)),rfl,⟨hp.1,Nat.zero_le _⟩,?_⟩
 rw [show iJ.val ((b,s),(false,⟨#[]⟩))=.agg ⟨[.bool B,.string m]⟩ from by
  show aD (IV.z (b,s)+0)=_
  rw [Int.add_zero,← hx]; exact hE.enc]
 conv=>whnf
 refine ⟨((c,t),(false,⟨#[]⟩)),rfl,⟨hp.2.1,Nat.zero_le _⟩,?_⟩
 rw [show iJ.val ((c,t),(false,⟨#[]⟩))=.agg ⟨[.bool false,.string k]⟩ from by
  show aD (IV.z (c,t)+0)=_
  rw [Int.add_zero,bO]; exact hF.enc]
 conv=>whnf
 rw [hE.nil]
 by_cases h1:x=0
 ·rw [decide_eq_true h1]
  conv=>whnf
  exact fin _ (by rw [hq,h1]; exact (xO d).symm)
 ·rw [decide_eq_false h1]
  obtain ⟨g,hg⟩:∃ g,g=Int.gcd x d:=⟨_,rfl⟩
  obtain ⟨gs,qL⟩:=EI.iE (show 0≤((g:Nat):Int) by omega)
  obtain ⟨qb,qs,hn⟩:=EI.mk' q.num
  obtain ⟨es,he⟩:=EI.iE (show 0≤((q.den:Nat):Int) by omega)
  have nc:((g:Nat):Int)≠0:=by
   have:0 < g:=by rw [hg]; exact Int.gcd_pos_of_ne_zero_left _ h1
   omega
  have HO:g≤d:=by
   have h3:=(Ah fh hg).2.1
   rcases Nat.lt_or_ge d g with h | h
   ·rw [Nat.div_eq_of_lt h] at h3; omega
   ·exact h
  have zU:gs.size≤549755813888:=by
   rw [qL.size,Int.natAbs_natCast]
   exact Nat.le_trans (iB HO) dY
  have IX:x.fdiv ((g:Nat):Int)=q.num:=by rw [hg,hq]; exact Gj x fh
  have qI:((d:Nat):Int).fdiv ((g:Nat):Int)=((q.den:Nat):Int):=by rw [hg,hq]; exact Gk x fh
  conv=>whnf
  refine ⟨((B,m),(false,k)),rfl,⟨qz,je⟩,?_⟩
  rw [show uq.val ((B,m),(false,k))=.agg ⟨[.bool false,.string gs]⟩ from by
   show aD ((Int.gcd (IV.z (B,m)) (IV.z (false,k)):Nat):Int)=_
   rw [hE.val,hF.val,← hg,qL.enc]]
  conv=>whnf
  obtain ⟨fb,fs,hf⟩:=EI.mk' (x.fmod ((g:Nat):Int))
  refine ⟨((B,m),(false,gs)),rfl,⟨qz,zU⟩,?_⟩
  rw [show iu.val ((B,m),(false,gs))=.tuple ⟨[.agg ⟨[.bool qb,.string qs]⟩,.agg ⟨[.bool fb,.string fs]⟩,.int .i64 0]⟩ from by
   simp only [iu,qL.val,hE.val,if_neg nc]
   rw [IX,hn.enc,hf.enc]]
  conv=>whnf
  obtain ⟨kb,ks,hk⟩:=EI.mk' (((d:Nat):Int).fmod ((g:Nat):Int))
  refine ⟨((false,k),(false,gs)),rfl,⟨je,zU⟩,?_⟩
  rw [show iu.val ((false,k),(false,gs))=.tuple ⟨[.agg ⟨[.bool false,.string es]⟩,.agg ⟨[.bool kb,.string ks]⟩,.int .i64 0]⟩ from by
   simp only [iu,qL.val,hF.val,if_neg nc]
   rw [qI,he.enc,hk.enc]]
  conv=>whnf
  have enc:∀ y,fc q.den=y→Value.agg ⟨[.bool qb,.string qs,.string y]⟩=bD q:=fun y hy=>by
   unfold bD
   rw [← hn.m9,← hn.sign,hy]
  have ees:es=nb q.den:=he.m9
  have pQ:(es.toList == (⟨#[1]⟩:ByteArray).toList)=decide (q.den=1):=by
   rw [pB,ees,show (⟨#[1]⟩:ByteArray)=nb 1 from acQ.symm]
   by_cases h:q.den=1
   ·rw [h]; simp
   ·rw [decide_eq_false h,decide_eq_false (fun e=>h (Nr e))]
  rw [pQ]
  by_cases J:q.den=1
  ·rw [decide_eq_true J]
   conv=>whnf
   exact fin _ (enc _ (by unfold fc; rw [if_pos J]))
  ·rw [decide_eq_false J]
   conv=>whnf
   exact fin _ (enc _ (by unfold fc; rw [if_neg J,he.m9,Int.natAbs_natCast]))
end Go.Proofs.YtlapbjdhekcipaaGreat
/- Contracts of the reference rationals: the operations. -/
set_option maxRecDepth 20000
set_option maxHeartbeats 1000000
namespace Go.Proofs.YtlapbjdhekcipaaGreat
open Go Go.Ae
def Eqb:Env:=sK [(158,.p bB),(172,.p nm),(157,.p mE),(154,.p pg),(155,.p eI),(173,.p iJ),(160,.p eX),(159,.p kX)]
theorem yM:EnvOk Tryz.prog Eqb:=uC ⟨Vu,Vw,Mv,T0,yo,F4,X5,X3,trivial⟩ trivial
theorem Nb:aZ Tryz.prog 120 kB:=by
 refine bf yM aK Tryz.func120 (enters_of Tryz.func120 (by kernel_rfl) rfl) (fun _=>rfl) (fun _=>rfl) ?_
 intro (n:Int) hp
 have hp:-9223372036854775808≤n∧n < 9223372036854775808:=hp
 obtain ⟨w,hw⟩:∃ w:Rat,w=(n:Rat):=⟨_,rfl⟩
 obtain ⟨B,m,hE⟩:=EI.mk' n
 obtain ⟨k,hF⟩:=EI.iE (show 0≤(1:Int) by decide)
 have hm:=hE.size
 have hk:=hF.size
 have h8:=tA hp
 have h1:=tA r1
 conv=>whnf
 refine ⟨n,rfl,hp,?_⟩
 rw [show eI.val n=.agg ⟨[.bool B,.string m]⟩ from hE.enc]
 conv=>whnf
 refine ⟨(1:Int),rfl,r1,?_⟩
 rw [show eI.val (1:Int)=.agg ⟨[.bool false,.string k]⟩ from hF.enc]
 conv=>whnf
 refine ⟨((B,m),(false,k)),rfl,⟨by show m.size≤_; omega,by show k.size≤_; omega,by show 0 < IV.z (false,k); rw [hF.val]; decide⟩,?_⟩
 rw [show pg.val ((B,m),(false,k))=(RV.of w).v from by
  rw [hw,g0 n]
  show bD (mkRat (IV.z (B,m)) (IV.z (false,k)).natAbs)=_
  rw [hE.val,hF.val]; rfl]
 conv=>whnf
 show (RV.of w).v=bD _
 rw [hw]
 rfl
theorem EU:aZ Tryz.prog 153 tL:=by
 refine bf yM aK Tryz.func153 (enters_of Tryz.func153 (by kernel_rfl) rfl) (fun _=>rfl) (fun _=>rfl) ?_
 intro ⟨b,s,t⟩ hp
 have hp:s.size≤8589934592∧t.size≤8589934592:=hp
 obtain ⟨w,hw⟩:∃ w,w=RV.q (b,s,t):=⟨_,rfl⟩
 have fin:∀ x:Value,x=(RV.of w).v→x=tL.val (b,s,t):=fun x h=>by rw [h,hw]; rfl
 have hn:=RV.jx (i:=(b,s,t))
 obtain ⟨n,bL⟩:∃ n,n=RV.n (b,s,t):=⟨_,rfl⟩
 obtain ⟨d,bO⟩:∃ n,n=RV.d (b,s,t):=⟨_,rfl⟩
 have fh:d≠0:=by rw [bO]; exact RV.iX _
 have P9:w=mkRat n d:=by rw [hw,bL,bO]; rfl
 conv=>whnf
 refine ⟨(b,s,t),rfl,trivial,?_⟩
 by_cases h1:RV.fy (b,s,t)
 ·rw [show bB.val (b,s,t)=.tuple ⟨[.int .i64 n,.int .i64 d,.bool true]⟩ from by simp only [bB,if_pos h1,decide_eq_true h1,bL,bO]]
  have hn:=hn h1
  rw [← bL,← bO] at hn
  have hn:(-16777216 < n∧n < 16777216)∧0 < d∧d < 16777216:=hn
  conv=>whnf
  refine ⟨(n,d),rfl,⟨by show n.natAbs < _; omega,by show d≠0; omega,by show d < _; omega⟩,?_⟩
  rw [show nm.val (n,d)=(RV.of w).v from by rw [P9]; rfl]
  conv=>whnf
  exact fin _ rfl
 ·rw [show bB.val (b,s,t)=.tuple ⟨[.int .i64 0,.int .i64 0,.bool false]⟩ from by simp only [bB,if_neg h1,decide_eq_false h1]]
  obtain ⟨B,m,hE⟩:=EI.mk' n
  obtain ⟨k,hF⟩:=EI.iE (show 0≤((d:Nat):Int) by omega)
  have qz:m.size≤8589934592:=by rw [hE.size,bL]; exact dw (b:=b) hp.1
  have je:k.size≤8589934593:=by
   rw [hF.size,bO,← RV.jw]
   exact dw (Nat.le_trans (RV.q8 _) (Nat.succ_le_succ hp.2))
  conv=>whnf
  refine ⟨(b,s,t),rfl,hp,?_⟩
  rw [show mE.val (b,s,t)=.tuple ⟨[.agg ⟨[.bool B,.string m]⟩,.agg ⟨[.bool false,.string k]⟩]⟩ from by
   rw [← hE.enc,← hF.enc,bL,bO]; rfl]
  conv=>whnf
  refine ⟨((B,m),(false,k)),rfl,⟨by show m.size≤_; omega,by show k.size≤_; omega,by show 0 < IV.z (false,k); rw [hF.val]; omega⟩,?_⟩
  rw [show pg.val ((B,m),(false,k))=(RV.of w).v from by
   show bD (mkRat (IV.z (B,m)) (IV.z (false,k)).natAbs)=_
   rw [hE.val,hF.val,P9,Int.natAbs_natCast]; rfl]
  conv=>whnf
  exact fin _ rfl
def Eqc:Env:=sK [(153,.p tL)]
theorem abH:EnvOk Tryz.prog Eqc:=uC ⟨EU,trivial⟩ trivial
theorem SS:aZ Tryz.prog 119 mz:=by
 refine bf abH aK Tryz.func119 (enters_of Tryz.func119 (by kernel_rfl) rfl) (fun _=>rfl) (fun _=>rfl) ?_
 intro ⟨b,s,t⟩ hp
 have hp:RV.ok (b,s,t):=hp
 obtain ⟨⟨c,u,v⟩,hw⟩:∃ w,w=RV.of (RV.q (b,s,t)):=⟨_,rfl⟩
 have heq:=DJ (c,u,v) (b,s,t)
 conv=>whnf
 refine .inl ⟨3,[[],[0],[],[0,1,2]],by kernel_rfl,?_⟩
 conv=>whnf
 refine ⟨(b,s,t),rfl,hp,?_⟩
 rw [show tL.val (b,s,t)=RV.v (c,u,v) from by rw [hw]; rfl]
 conv=>whnf
 by_cases h:(c,u,v)=(b,s,t)
 ·rw [decide_eq_true h] at heq
  refine aF (fun J=>?_) (fun J=>?_)
  ·exfalso
   rw [show eh [Value.bool c,.string u,.string v] [.bool b,.string s,.string t]=true from heq] at J
   cases J
  ·conv=>whnf
   show _=Value.int .i64 (if (b,s,t)=RV.of (RV.q (b,s,t)) then 0 else 1)
   rw [← hw,if_pos h.symm]
 ·rw [decide_eq_false h] at heq
  refine aF (fun J=>?_) (fun J=>?_)
  ·conv=>whnf
   show _=Value.int .i64 (if (b,s,t)=RV.of (RV.q (b,s,t)) then 0 else 1)
   rw [← hw,if_neg (fun e=>h e.symm)]
  ·exfalso
   rw [show eh [Value.bool c,.string u,.string v] [.bool b,.string s,.string t]=false from heq] at J
   cases J
end Go.Proofs.YtlapbjdhekcipaaGreat
/- Contracts of the reference rationals: sum, product, comparison. -/
set_option maxRecDepth 20000
set_option maxHeartbeats 1000000
namespace Go.Proofs.YtlapbjdhekcipaaGreat
open Go Go.Ae
theorem Mw:aZ Tryz.prog 169 kQ:=by
 refine bf yM aK Tryz.func169 (enters_of Tryz.func169 (by kernel_rfl) rfl) (fun _=>rfl) (fun _=>rfl) ?_
 intro ⟨⟨b,s,t⟩,⟨c,u,v⟩⟩ hp
 have hp:(s.size≤8589934592∧t.size≤8589934592)∧u.size≤8589934592∧v.size≤8589934592:=hp
 have hn:=RV.jx (i:=(b,s,t))
 have hm:=RV.jx (i:=(c,u,v))
 obtain ⟨n,bL⟩:∃ n,n=RV.n (b,s,t):=⟨_,rfl⟩
 obtain ⟨m,eJ⟩:∃ n,n=RV.n (c,u,v):=⟨_,rfl⟩
 obtain ⟨d,bO⟩:∃ n,n=RV.d (b,s,t):=⟨_,rfl⟩
 obtain ⟨e,cA⟩:∃ n,n=RV.d (c,u,v):=⟨_,rfl⟩
 have fh:d≠0:=by rw [bO]; exact RV.iX _
 have Qa:e≠0:=by rw [cA]; exact RV.iX _
 rw [← bL,← bO] at hn
 rw [← eJ,← cA] at hm
 obtain ⟨B,p,hP⟩:=EI.mk' n
 obtain ⟨q,hQ⟩:=EI.iE (show 0≤((d:Nat):Int) by omega)
 obtain ⟨D,p',lE⟩:=EI.mk' m
 obtain ⟨q',kf⟩:=EI.iE (show 0≤((e:Nat):Int) by omega)
 have sn:aN n.natAbs≤8589934593:=by rw [bL]; exact dw (b:=b) (Nat.le_succ_of_le hp.1.1)
 have sm:aN m.natAbs≤8589934593:=by rw [eJ]; exact dw (b:=c) (Nat.le_succ_of_le hp.2.1)
 have sd:aN (Int.natAbs ((d:Nat):Int))≤8589934593:=by
  rw [bO,← RV.jw]
  exact dw (Nat.le_trans (RV.q8 _) (Nat.succ_le_succ hp.1.2))
 have se:aN (Int.natAbs ((e:Nat):Int))≤8589934593:=by
  rw [cA,← RV.jw]
  exact dw (Nat.le_trans (RV.q8 _) (Nat.succ_le_succ hp.2.2))
 have zp:p.size≤8589934593:=by rw [hP.size]; exact sn
 have zq:q.size≤8589934593:=by rw [hQ.size]; exact sd
 have Qb:p'.size≤8589934593:=by rw [lE.size]; exact sm
 have Qc:q'.size≤8589934593:=by rw [kf.size]; exact se
 have pa:mE.val (b,s,t)=.tuple ⟨[.agg ⟨[.bool B,.string p]⟩,.agg ⟨[.bool false,.string q]⟩]⟩:=by
  rw [← hP.enc,← hQ.enc,bL,bO]; rfl
 have pb:mE.val (c,u,v)=.tuple ⟨[.agg ⟨[.bool D,.string p']⟩,.agg ⟨[.bool false,.string q']⟩]⟩:=by
  rw [← lE.enc,← kf.enc,eJ,cA]; rfl
 obtain ⟨w,hw⟩:∃ w,w=mkRat (n*e+m*d) (d*e):=⟨_,rfl⟩
 have fin:∀ x:Value,x=(RV.of w).v→x=kQ.val ((b,s,t),(c,u,v)):=fun x h=>by
  rw [h,hw,bL,eJ,bO,cA]
  show bD _=bD (RV.q (b,s,t)+RV.q (c,u,v))
  rw [GV]
 conv=>whnf
 refine ⟨(b,s,t),rfl,trivial,?_⟩
 by_cases h1:RV.fy (b,s,t)
 ·rw [show bB.val (b,s,t)=.tuple ⟨[.int .i64 n,.int .i64 d,.bool true]⟩ from by simp only [bB,if_pos h1,decide_eq_true h1,bL,bO]]
  conv=>whnf
  refine ⟨(c,u,v),rfl,trivial,?_⟩
  by_cases J:RV.fy (c,u,v)
  ·rw [show bB.val (c,u,v)=.tuple ⟨[.int .i64 m,.int .i64 e,.bool true]⟩ from by simp only [bB,if_pos J,decide_eq_true J,eJ,cA]]
   have a9:I4.ok ((n,d),(m,e)):=⟨hn h1,hm J⟩
   obtain ⟨b1,b2,b3,b4⟩:=I4.bounds a9
   simp only at b1 b2 b3 b4
   conv=>whnf
   obtain ⟨x,hx⟩:∃ x,x=n*(e:Int):=⟨_,rfl⟩
   obtain ⟨y,hy⟩:∃ y,y=m*(d:Int):=⟨_,rfl⟩
   obtain ⟨k,hk⟩:∃ k,k=d*e:=⟨_,rfl⟩
   rw [← hx] at b1
   rw [← hy] at b2
   rw [← hk] at b4
   have e1:IntKind.i64.wrap (IntKind.i64.wrap (n*(e:Int))+IntKind.i64.wrap (m*(d:Int)))=x+y:=by
    rw [← hx,← hy,aw (x:=x) (by omega) (by omega),aw (x:=y) (by omega) (by omega),aw (by omega) (by omega)]
   have e2:IntKind.i64.wrap ((d:Int)*(e:Int))=(k:Int):=by
    rw [← Int.natCast_mul,← hk,aw (by omega) (by omega)]
   rw [e1,e2]
   refine ⟨(x+y,k),rfl,⟨by show (x+y).natAbs < _; omega,by show k≠0; omega,by show k < _; omega⟩,?_⟩
   rw [show nm.val (x+y,k)=(RV.of w).v from by rw [hw,hx,hy,hk]; rfl]
   conv=>whnf
   exact fin _ rfl
  ·rw [show bB.val (c,u,v)=.tuple ⟨[.int .i64 0,.int .i64 0,.bool false]⟩ from by simp only [bB,if_neg J,decide_eq_false J]]
   conv=>whnf
   refine ⟨(b,s,t),rfl,hp.1,?_⟩
   rw [pa]
   conv=>whnf
   refine ⟨(c,u,v),rfl,hp.2,?_⟩
   rw [pb]
   obtain ⟨B1,m1,g1⟩:=EI.mk' (n*(e:Int))
   obtain ⟨B2,m2,g2⟩:=EI.mk' (m*(d:Int))
   obtain ⟨B3,m3,g3⟩:=EI.mk' (n*(e:Int)+m*(d:Int))
   obtain ⟨B4,m4,g4⟩:=EI.mk' ((d:Int)*(e:Int))
   have z1:=g1.gn sn se
   have z2:=g2.gn sm sd
   have z4:=g4.gn sd se
   have z3:m3.size≤17179869187:=g3.Fg (by rw [← g1.size]; omega) (by rw [← g2.size]; omega)
   have kU:(0:Int) < (d:Int)*(e:Int):=Int.mul_pos (by omega) (by omega)
   conv=>whnf
   refine .inl ⟨9,[[],[],[0,1],[],[],[0,1,2,3,4],[0,1,2,3,4,5],[],[],[0,1,2,3,4,5,6,7,8],[0,1,2,3,4,5,6,7,8,9],[0,1,2,3,4,5,6,7,8,9,10]],by kernel_rfl,?_⟩
   conv=>whnf
   refine ⟨((B,p),(false,q')),rfl,⟨by show p.size≤_; omega,by show q'.size≤_; omega⟩,?_⟩
   rw [show eX.val ((B,p),(false,q'))=.agg ⟨[.bool B1,.string m1]⟩ from by show aD (IV.z (B,p)*IV.z (false,q'))=_; rw [hP.val,kf.val,g1.enc]]
   conv=>whnf
   refine ⟨((D,p'),(false,q)),rfl,⟨by show p'.size≤_; omega,by show q.size≤_; omega⟩,?_⟩
   rw [show eX.val ((D,p'),(false,q))=.agg ⟨[.bool B2,.string m2]⟩ from by show aD (IV.z (D,p')*IV.z (false,q))=_; rw [lE.val,hQ.val,g2.enc]]
   conv=>whnf
   refine ⟨((B1,m1),(B2,m2)),rfl,⟨by show m1.size≤_; omega,by show m2.size≤_; omega⟩,?_⟩
   rw [show iJ.val ((B1,m1),(B2,m2))=.agg ⟨[.bool B3,.string m3]⟩ from by show aD (IV.z (B1,m1)+IV.z (B2,m2))=_; rw [g1.val,g2.val,g3.enc]]
   conv=>whnf
   refine ⟨((false,q),(false,q')),rfl,⟨by show q.size≤_; omega,by show q'.size≤_; omega⟩,?_⟩
   rw [show eX.val ((false,q),(false,q'))=.agg ⟨[.bool B4,.string m4]⟩ from by show aD (IV.z (false,q)*IV.z (false,q'))=_; rw [hQ.val,kf.val,g4.enc]]
   conv=>whnf
   refine ⟨((B3,m3),(B4,m4)),rfl,⟨by show m3.size≤_; omega,by show m4.size≤_; omega,by show 0 < IV.z (B4,m4); rw [g4.val]; exact kU⟩,?_⟩
   rw [show pg.val ((B3,m3),(B4,m4))=(RV.of w).v from by
    show bD (mkRat (IV.z (B3,m3)) (IV.z (B4,m4)).natAbs)=_
    rw [g3.val,g4.val,hw,← Int.natCast_mul,Int.natAbs_natCast]; rfl]
   conv=>whnf
   exact fin _ rfl
 ·rw [show bB.val (b,s,t)=.tuple ⟨[.int .i64 0,.int .i64 0,.bool false]⟩ from by simp only [bB,if_neg h1,decide_eq_false h1]]
  conv=>whnf
  obtain ⟨k1,k2,k3,hk⟩:∃ (k1 k2:Int) (k3:Bool),bB.val (c,u,v)=.tuple ⟨[.int .i64 k1,.int .i64 k2,.bool k3]⟩:=⟨_,_,_,rfl⟩
  refine ⟨(c,u,v),rfl,trivial,?_⟩
  rw [hk]
  conv=>whnf
  refine ⟨(b,s,t),rfl,hp.1,?_⟩
  rw [pa]
  conv=>whnf
  refine ⟨(c,u,v),rfl,hp.2,?_⟩
  rw [pb]
  obtain ⟨B1,m1,g1⟩:=EI.mk' (n*(e:Int))
  obtain ⟨B2,m2,g2⟩:=EI.mk' (m*(d:Int))
  obtain ⟨B3,m3,g3⟩:=EI.mk' (n*(e:Int)+m*(d:Int))
  obtain ⟨B4,m4,g4⟩:=EI.mk' ((d:Int)*(e:Int))
  have z1:=g1.gn sn se
  have z2:=g2.gn sm sd
  have z4:=g4.gn sd se
  have z3:m3.size≤17179869187:=g3.Fg (by rw [← g1.size]; omega) (by rw [← g2.size]; omega)
  have kU:(0:Int) < (d:Int)*(e:Int):=Int.mul_pos (by omega) (by omega)
  conv=>whnf
  refine .inl ⟨9,[[],[],[0,1],[],[],[0,1,2,3,4],[0,1,2,3,4,5],[],[],[0,1,2,3,4,5,6,7,8],[0,1,2,3,4,5,6,7,8,9],[0,1,2,3,4,5,6,7,8,9,10]],by kernel_rfl,?_⟩
  conv=>whnf
  refine ⟨((B,p),(false,q')),rfl,⟨by show p.size≤_; omega,by show q'.size≤_; omega⟩,?_⟩
  rw [show eX.val ((B,p),(false,q'))=.agg ⟨[.bool B1,.string m1]⟩ from by show aD (IV.z (B,p)*IV.z (false,q'))=_; rw [hP.val,kf.val,g1.enc]]
  conv=>whnf
  refine ⟨((D,p'),(false,q)),rfl,⟨by show p'.size≤_; omega,by show q.size≤_; omega⟩,?_⟩
  rw [show eX.val ((D,p'),(false,q))=.agg ⟨[.bool B2,.string m2]⟩ from by show aD (IV.z (D,p')*IV.z (false,q))=_; rw [lE.val,hQ.val,g2.enc]]
  conv=>whnf
  refine ⟨((B1,m1),(B2,m2)),rfl,⟨by show m1.size≤_; omega,by show m2.size≤_; omega⟩,?_⟩
  rw [show iJ.val ((B1,m1),(B2,m2))=.agg ⟨[.bool B3,.string m3]⟩ from by show aD (IV.z (B1,m1)+IV.z (B2,m2))=_; rw [g1.val,g2.val,g3.enc]]
  conv=>whnf
  refine ⟨((false,q),(false,q')),rfl,⟨by show q.size≤_; omega,by show q'.size≤_; omega⟩,?_⟩
  rw [show eX.val ((false,q),(false,q'))=.agg ⟨[.bool B4,.string m4]⟩ from by show aD (IV.z (false,q)*IV.z (false,q'))=_; rw [hQ.val,kf.val,g4.enc]]
  conv=>whnf
  refine ⟨((B3,m3),(B4,m4)),rfl,⟨by show m3.size≤_; omega,by show m4.size≤_; omega,by show 0 < IV.z (B4,m4); rw [g4.val]; exact kU⟩,?_⟩
  rw [show pg.val ((B3,m3),(B4,m4))=(RV.of w).v from by
   show bD (mkRat (IV.z (B3,m3)) (IV.z (B4,m4)).natAbs)=_
   rw [g3.val,g4.val,hw,← Int.natCast_mul,Int.natAbs_natCast]; rfl]
  conv=>whnf
  exact fin _ rfl
theorem Mx:aZ Tryz.prog 156 kt:=by
 refine bf yM aK Tryz.func156 (enters_of Tryz.func156 (by kernel_rfl) rfl) (fun _=>rfl) (fun _=>rfl) ?_
 intro ⟨⟨b,s,t⟩,⟨c,u,v⟩⟩ hp
 have hp:(s.size≤8589934592∧t.size≤8589934592)∧u.size≤8589934592∧v.size≤8589934592:=hp
 have hn:=RV.jx (i:=(b,s,t))
 have hm:=RV.jx (i:=(c,u,v))
 obtain ⟨n,bL⟩:∃ n,n=RV.n (b,s,t):=⟨_,rfl⟩
 obtain ⟨m,eJ⟩:∃ n,n=RV.n (c,u,v):=⟨_,rfl⟩
 obtain ⟨d,bO⟩:∃ n,n=RV.d (b,s,t):=⟨_,rfl⟩
 obtain ⟨e,cA⟩:∃ n,n=RV.d (c,u,v):=⟨_,rfl⟩
 have fh:d≠0:=by rw [bO]; exact RV.iX _
 have Qa:e≠0:=by rw [cA]; exact RV.iX _
 rw [← bL,← bO] at hn
 rw [← eJ,← cA] at hm
 obtain ⟨B,p,hP⟩:=EI.mk' n
 obtain ⟨q,hQ⟩:=EI.iE (show 0≤((d:Nat):Int) by omega)
 obtain ⟨D,p',lE⟩:=EI.mk' m
 obtain ⟨q',kf⟩:=EI.iE (show 0≤((e:Nat):Int) by omega)
 have sn:aN n.natAbs≤8589934593:=by rw [bL]; exact dw (b:=b) (Nat.le_succ_of_le hp.1.1)
 have sm:aN m.natAbs≤8589934593:=by rw [eJ]; exact dw (b:=c) (Nat.le_succ_of_le hp.2.1)
 have sd:aN (Int.natAbs ((d:Nat):Int))≤8589934593:=by
  rw [bO,← RV.jw]
  exact dw (Nat.le_trans (RV.q8 _) (Nat.succ_le_succ hp.1.2))
 have se:aN (Int.natAbs ((e:Nat):Int))≤8589934593:=by
  rw [cA,← RV.jw]
  exact dw (Nat.le_trans (RV.q8 _) (Nat.succ_le_succ hp.2.2))
 have zp:p.size≤8589934593:=by rw [hP.size]; exact sn
 have zq:q.size≤8589934593:=by rw [hQ.size]; exact sd
 have Qb:p'.size≤8589934593:=by rw [lE.size]; exact sm
 have Qc:q'.size≤8589934593:=by rw [kf.size]; exact se
 have pa:mE.val (b,s,t)=.tuple ⟨[.agg ⟨[.bool B,.string p]⟩,.agg ⟨[.bool false,.string q]⟩]⟩:=by
  rw [← hP.enc,← hQ.enc,bL,bO]; rfl
 have pb:mE.val (c,u,v)=.tuple ⟨[.agg ⟨[.bool D,.string p']⟩,.agg ⟨[.bool false,.string q']⟩]⟩:=by
  rw [← lE.enc,← kf.enc,eJ,cA]; rfl
 obtain ⟨w,hw⟩:∃ w,w=mkRat (n*m) (d*e):=⟨_,rfl⟩
 have fin:∀ x:Value,x=(RV.of w).v→x=kt.val ((b,s,t),(c,u,v)):=fun x h=>by
  rw [h,hw,bL,eJ,bO,cA]
  show bD _=bD (RV.q (b,s,t)*RV.q (c,u,v))
  rw [GW]
 conv=>whnf
 refine ⟨(b,s,t),rfl,trivial,?_⟩
 by_cases h1:RV.fy (b,s,t)
 ·rw [show bB.val (b,s,t)=.tuple ⟨[.int .i64 n,.int .i64 d,.bool true]⟩ from by simp only [bB,if_pos h1,decide_eq_true h1,bL,bO]]
  conv=>whnf
  refine ⟨(c,u,v),rfl,trivial,?_⟩
  by_cases J:RV.fy (c,u,v)
  ·rw [show bB.val (c,u,v)=.tuple ⟨[.int .i64 m,.int .i64 e,.bool true]⟩ from by simp only [bB,if_pos J,decide_eq_true J,eJ,cA]]
   have a9:I4.ok ((n,d),(m,e)):=⟨hn h1,hm J⟩
   obtain ⟨b1,b2,b3,b4⟩:=I4.bounds a9
   simp only at b1 b2 b3 b4
   conv=>whnf
   obtain ⟨x,hx⟩:∃ x,x=n*m:=⟨_,rfl⟩
   obtain ⟨k,hk⟩:∃ k,k=d*e:=⟨_,rfl⟩
   rw [← hx] at b3
   rw [← hk] at b4
   have e1:IntKind.i64.wrap (n*m)=x:=by
    rw [← hx,aw (x:=x) (by omega) (by omega)]
   have e2:IntKind.i64.wrap ((d:Int)*(e:Int))=(k:Int):=by
    rw [← Int.natCast_mul,← hk,aw (by omega) (by omega)]
   rw [e1,e2]
   refine ⟨(x,k),rfl,⟨by show x.natAbs < _; omega,by show k≠0; omega,by show k < _; omega⟩,?_⟩
   rw [show nm.val (x,k)=(RV.of w).v from by rw [hw,hx,hk]; rfl]
   conv=>whnf
   exact fin _ rfl
  ·rw [show bB.val (c,u,v)=.tuple ⟨[.int .i64 0,.int .i64 0,.bool false]⟩ from by simp only [bB,if_neg J,decide_eq_false J]]
   conv=>whnf
   refine ⟨(b,s,t),rfl,hp.1,?_⟩
   rw [pa]
   conv=>whnf
   refine ⟨(c,u,v),rfl,hp.2,?_⟩
   rw [pb]
   obtain ⟨B1,m1,g1⟩:=EI.mk' (n*m)
   obtain ⟨B4,m4,g4⟩:=EI.mk' ((d:Int)*(e:Int))
   have z1:=g1.gn sn sm
   have z4:=g4.gn sd se
   have kU:(0:Int) < (d:Int)*(e:Int):=Int.mul_pos (by omega) (by omega)
   conv=>whnf
   refine .inl ⟨5,[[],[],[0,1],[],[],[0,1,2,3,4],[0,1,2,3,4,5],[0,1,2,3,4,5,6]],by kernel_rfl,?_⟩
   conv=>whnf
   refine ⟨((B,p),(D,p')),rfl,⟨by show p.size≤_; omega,by show p'.size≤_; omega⟩,?_⟩
   rw [show eX.val ((B,p),(D,p'))=.agg ⟨[.bool B1,.string m1]⟩ from by show aD (IV.z (B,p)*IV.z (D,p'))=_; rw [hP.val,lE.val,g1.enc]]
   conv=>whnf
   refine ⟨((false,q),(false,q')),rfl,⟨by show q.size≤_; omega,by show q'.size≤_; omega⟩,?_⟩
   rw [show eX.val ((false,q),(false,q'))=.agg ⟨[.bool B4,.string m4]⟩ from by show aD (IV.z (false,q)*IV.z (false,q'))=_; rw [hQ.val,kf.val,g4.enc]]
   conv=>whnf
   refine ⟨((B1,m1),(B4,m4)),rfl,⟨by show m1.size≤_; omega,by show m4.size≤_; omega,by show 0 < IV.z (B4,m4); rw [g4.val]; exact kU⟩,?_⟩
   rw [show pg.val ((B1,m1),(B4,m4))=(RV.of w).v from by
    show bD (mkRat (IV.z (B1,m1)) (IV.z (B4,m4)).natAbs)=_
    rw [g1.val,g4.val,hw,← Int.natCast_mul,Int.natAbs_natCast]; rfl]
   conv=>whnf
   exact fin _ rfl
 ·rw [show bB.val (b,s,t)=.tuple ⟨[.int .i64 0,.int .i64 0,.bool false]⟩ from by simp only [bB,if_neg h1,decide_eq_false h1]]
  conv=>whnf
  obtain ⟨k1,k2,k3,hk⟩:∃ (k1 k2:Int) (k3:Bool),bB.val (c,u,v)=.tuple ⟨[.int .i64 k1,.int .i64 k2,.bool k3]⟩:=⟨_,_,_,rfl⟩
  refine ⟨(c,u,v),rfl,trivial,?_⟩
  rw [hk]
  conv=>whnf
  refine ⟨(b,s,t),rfl,hp.1,?_⟩
  rw [pa]
  conv=>whnf
  refine ⟨(c,u,v),rfl,hp.2,?_⟩
  rw [pb]
  obtain ⟨B1,m1,g1⟩:=EI.mk' (n*m)
  obtain ⟨B4,m4,g4⟩:=EI.mk' ((d:Int)*(e:Int))
  have z1:=g1.gn sn sm
  have z4:=g4.gn sd se
  have kU:(0:Int) < (d:Int)*(e:Int):=Int.mul_pos (by omega) (by omega)
  conv=>whnf
  refine .inl ⟨5,[[],[],[0,1],[],[],[0,1,2,3,4],[0,1,2,3,4,5],[0,1,2,3,4,5,6]],by kernel_rfl,?_⟩
  conv=>whnf
  refine ⟨((B,p),(D,p')),rfl,⟨by show p.size≤_; omega,by show p'.size≤_; omega⟩,?_⟩
  rw [show eX.val ((B,p),(D,p'))=.agg ⟨[.bool B1,.string m1]⟩ from by show aD (IV.z (B,p)*IV.z (D,p'))=_; rw [hP.val,lE.val,g1.enc]]
  conv=>whnf
  refine ⟨((false,q),(false,q')),rfl,⟨by show q.size≤_; omega,by show q'.size≤_; omega⟩,?_⟩
  rw [show eX.val ((false,q),(false,q'))=.agg ⟨[.bool B4,.string m4]⟩ from by show aD (IV.z (false,q)*IV.z (false,q'))=_; rw [hQ.val,kf.val,g4.enc]]
  conv=>whnf
  refine ⟨((B1,m1),(B4,m4)),rfl,⟨by show m1.size≤_; omega,by show m4.size≤_; omega,by show 0 < IV.z (B4,m4); rw [g4.val]; exact kU⟩,?_⟩
  rw [show pg.val ((B1,m1),(B4,m4))=(RV.of w).v from by
   show bD (mkRat (IV.z (B1,m1)) (IV.z (B4,m4)).natAbs)=_
   rw [g1.val,g4.val,hw,← Int.natCast_mul,Int.natAbs_natCast]; rfl]
  conv=>whnf
  exact fin _ rfl
theorem A9:aZ Tryz.prog 128 gX:=by
 refine bf yM aK Tryz.func128 (enters_of Tryz.func128 (by kernel_rfl) rfl) (fun _=>rfl) (fun _=>rfl) ?_
 intro ⟨⟨b,s,t⟩,⟨c,u,v⟩⟩ hp
 have hp:(s.size≤8589934592∧t.size≤8589934592)∧u.size≤8589934592∧v.size≤8589934592:=hp
 have hn:=RV.jx (i:=(b,s,t))
 have hm:=RV.jx (i:=(c,u,v))
 obtain ⟨n,bL⟩:∃ n,n=RV.n (b,s,t):=⟨_,rfl⟩
 obtain ⟨m,eJ⟩:∃ n,n=RV.n (c,u,v):=⟨_,rfl⟩
 obtain ⟨d,bO⟩:∃ n,n=RV.d (b,s,t):=⟨_,rfl⟩
 obtain ⟨e,cA⟩:∃ n,n=RV.d (c,u,v):=⟨_,rfl⟩
 have fh:d≠0:=by rw [bO]; exact RV.iX _
 have Qa:e≠0:=by rw [cA]; exact RV.iX _
 rw [← bL,← bO] at hn
 rw [← eJ,← cA] at hm
 obtain ⟨B,p,hP⟩:=EI.mk' n
 obtain ⟨q,hQ⟩:=EI.iE (show 0≤((d:Nat):Int) by omega)
 obtain ⟨D,p',lE⟩:=EI.mk' m
 obtain ⟨q',kf⟩:=EI.iE (show 0≤((e:Nat):Int) by omega)
 have sn:aN n.natAbs≤8589934593:=by rw [bL]; exact dw (b:=b) (Nat.le_succ_of_le hp.1.1)
 have sm:aN m.natAbs≤8589934593:=by rw [eJ]; exact dw (b:=c) (Nat.le_succ_of_le hp.2.1)
 have sd:aN (Int.natAbs ((d:Nat):Int))≤8589934593:=by
  rw [bO,← RV.jw]
  exact dw (Nat.le_trans (RV.q8 _) (Nat.succ_le_succ hp.1.2))
 have se:aN (Int.natAbs ((e:Nat):Int))≤8589934593:=by
  rw [cA,← RV.jw]
  exact dw (Nat.le_trans (RV.q8 _) (Nat.succ_le_succ hp.2.2))
 have zp:p.size≤8589934593:=by rw [hP.size]; exact sn
 have zq:q.size≤8589934593:=by rw [hQ.size]; exact sd
 have Qb:p'.size≤8589934593:=by rw [lE.size]; exact sm
 have Qc:q'.size≤8589934593:=by rw [kf.size]; exact se
 have pa:mE.val (b,s,t)=.tuple ⟨[.agg ⟨[.bool B,.string p]⟩,.agg ⟨[.bool false,.string q]⟩]⟩:=by
  rw [← hP.enc,← hQ.enc,bL,bO]; rfl
 have pb:mE.val (c,u,v)=.tuple ⟨[.agg ⟨[.bool D,.string p']⟩,.agg ⟨[.bool false,.string q']⟩]⟩:=by
  rw [← lE.enc,← kf.enc,eJ,cA]; rfl
 obtain ⟨w,hw⟩:∃ w,w=dF (n*e) (m*d):=⟨_,rfl⟩
 have fin:∀ x:Int,x=w→Value.int .i64 x=gX.val ((b,s,t),(c,u,v)):=fun x h=>by
  rw [h,hw,bL,eJ,bO,cA]
  show Value.int .i64 _=.int .i64 (aU (RV.q (b,s,t)) (RV.q (c,u,v)))
  rw [B8]
 conv=>whnf
 refine ⟨(b,s,t),rfl,trivial,?_⟩
 by_cases h1:RV.fy (b,s,t)
 ·rw [show bB.val (b,s,t)=.tuple ⟨[.int .i64 n,.int .i64 d,.bool true]⟩ from by simp only [bB,if_pos h1,decide_eq_true h1,bL,bO]]
  conv=>whnf
  refine ⟨(c,u,v),rfl,trivial,?_⟩
  by_cases J:RV.fy (c,u,v)
  ·rw [show bB.val (c,u,v)=.tuple ⟨[.int .i64 m,.int .i64 e,.bool true]⟩ from by simp only [bB,if_pos J,decide_eq_true J,eJ,cA]]
   have a9:I4.ok ((n,d),(m,e)):=⟨hn h1,hm J⟩
   obtain ⟨b1,b2,b3,b4⟩:=I4.bounds a9
   simp only at b1 b2 b3 b4
   conv=>whnf
   obtain ⟨x,hx⟩:∃ x,x=n*(e:Int):=⟨_,rfl⟩
   obtain ⟨y,hy⟩:∃ y,y=m*(d:Int):=⟨_,rfl⟩
   rw [← hx] at b1
   rw [← hy] at b2
   have e1:IntKind.i64.wrap (n*(e:Int))=x:=by rw [← hx,aw (x:=x) (by omega) (by omega)]
   have e2:IntKind.i64.wrap (m*(d:Int))=y:=by rw [← hy,aw (x:=y) (by omega) (by omega)]
   rw [← hx,← hy] at hw
   rw [e1,e2]
   refine aF (fun h=>?_) (fun h=>?_)
   ·have h:=of_decide_eq_true h
    conv=>whnf
    exact fin _ (hw.trans (tq h)).symm
   ·have h:=of_decide_eq_false h
    conv=>whnf
    rw [e1,e2]
    refine aF (fun h5=>?_) (fun h5=>?_)
    ·have h5:=of_decide_eq_true h5
     conv=>whnf
     exact fin _ (hw.trans (tv h5)).symm
    ·have h5:=of_decide_eq_false h5
     conv=>whnf
     refine fin _ ?_
     rw [hw]
     unfold dF
     rw [if_neg h,if_neg (show ¬ y < x from h5)]
  ·rw [show bB.val (c,u,v)=.tuple ⟨[.int .i64 0,.int .i64 0,.bool false]⟩ from by simp only [bB,if_neg J,decide_eq_false J]]
   conv=>whnf
   refine ⟨(b,s,t),rfl,hp.1,?_⟩
   rw [pa]
   conv=>whnf
   refine ⟨(c,u,v),rfl,hp.2,?_⟩
   rw [pb]
   obtain ⟨B1,m1,g1⟩:=EI.mk' (n*(e:Int))
   obtain ⟨B2,m2,g2⟩:=EI.mk' (m*(d:Int))
   have z1:=g1.gn sn se
   have z2:=g2.gn sm sd
   conv=>whnf
   refine .inl ⟨5,[[],[],[0,1],[],[],[0,1,2,3,4],[0,1,2,3,4,5],[0,1,2,3,4,5,6]],by kernel_rfl,?_⟩
   conv=>whnf
   refine ⟨((B,p),(false,q')),rfl,⟨by show p.size≤_; omega,by show q'.size≤_; omega⟩,?_⟩
   rw [show eX.val ((B,p),(false,q'))=.agg ⟨[.bool B1,.string m1]⟩ from by show aD (IV.z (B,p)*IV.z (false,q'))=_; rw [hP.val,kf.val,g1.enc]]
   conv=>whnf
   refine ⟨((D,p'),(false,q)),rfl,⟨by show p'.size≤_; omega,by show q.size≤_; omega⟩,?_⟩
   rw [show eX.val ((D,p'),(false,q))=.agg ⟨[.bool B2,.string m2]⟩ from by show aD (IV.z (D,p')*IV.z (false,q))=_; rw [lE.val,hQ.val,g2.enc]]
   conv=>whnf
   refine ⟨((B1,m1),(B2,m2)),rfl,⟨by show m1.size≤_; omega,by show m2.size≤_; omega⟩,?_⟩
   rw [show kX.val ((B1,m1),(B2,m2))=.int .i64 w from by show Value.int .i64 (dF (IV.z (B1,m1)) (IV.z (B2,m2)))=_; rw [g1.val,g2.val,hw]]
   conv=>whnf
   exact fin _ rfl
 ·rw [show bB.val (b,s,t)=.tuple ⟨[.int .i64 0,.int .i64 0,.bool false]⟩ from by simp only [bB,if_neg h1,decide_eq_false h1]]
  conv=>whnf
  obtain ⟨k1,k2,k3,hk⟩:∃ (k1 k2:Int) (k3:Bool),bB.val (c,u,v)=.tuple ⟨[.int .i64 k1,.int .i64 k2,.bool k3]⟩:=⟨_,_,_,rfl⟩
  refine ⟨(c,u,v),rfl,trivial,?_⟩
  rw [hk]
  conv=>whnf
  refine ⟨(b,s,t),rfl,hp.1,?_⟩
  rw [pa]
  conv=>whnf
  refine ⟨(c,u,v),rfl,hp.2,?_⟩
  rw [pb]
  obtain ⟨B1,m1,g1⟩:=EI.mk' (n*(e:Int))
  obtain ⟨B2,m2,g2⟩:=EI.mk' (m*(d:Int))
  have z1:=g1.gn sn se
  have z2:=g2.gn sm sd
  conv=>whnf
  refine .inl ⟨5,[[],[],[0,1],[],[],[0,1,2,3,4],[0,1,2,3,4,5],[0,1,2,3,4,5,6]],by kernel_rfl,?_⟩
  conv=>whnf
  refine ⟨((B,p),(false,q')),rfl,⟨by show p.size≤_; omega,by show q'.size≤_; omega⟩,?_⟩
  rw [show eX.val ((B,p),(false,q'))=.agg ⟨[.bool B1,.string m1]⟩ from by show aD (IV.z (B,p)*IV.z (false,q'))=_; rw [hP.val,kf.val,g1.enc]]
  conv=>whnf
  refine ⟨((D,p'),(false,q)),rfl,⟨by show p'.size≤_; omega,by show q.size≤_; omega⟩,?_⟩
  rw [show eX.val ((D,p'),(false,q))=.agg ⟨[.bool B2,.string m2]⟩ from by show aD (IV.z (D,p')*IV.z (false,q))=_; rw [lE.val,hQ.val,g2.enc]]
  conv=>whnf
  refine ⟨((B1,m1),(B2,m2)),rfl,⟨by show m1.size≤_; omega,by show m2.size≤_; omega⟩,?_⟩
  rw [show kX.val ((B1,m1),(B2,m2))=.int .i64 w from by show Value.int .i64 (dF (IV.z (B1,m1)) (IV.z (B2,m2)))=_; rw [g1.val,g2.val,hw]]
  conv=>whnf
  exact fin _ rfl
def Eqd:Env:=En [(169,.p kQ),(128,.p gX)]
theorem G8:EnvOk Tryz.prog Eqd:=bF ⟨Mw,A9,trivial⟩ trivial
theorem Vz:aZ Tryz.prog 146 gC:=by
 refine bf G8 aK Tryz.func146 (enters_of Tryz.func146 (by kernel_rfl) rfl) (fun _=>rfl) (fun _=>rfl) ?_
 intro ⟨⟨b,s,t⟩,⟨c,u,v⟩⟩ hp
 have hp:RV.ok (b,s,t)∧RV.ok (c,u,v):=hp
 obtain ⟨w,hw⟩:∃ w,w=RV.q (b,s,t) - RV.q (c,u,v):=⟨_,rfl⟩
 conv=>whnf
 refine ⟨((b,s,t),(!c,u,v)),rfl,hp,?_⟩
 rw [show kQ.val ((b,s,t),(!c,u,v))=(RV.of w).v from by
  rw [hw]
  show bD (RV.q (b,s,t)+RV.q (!c,u,v))=bD _
  rw [Gn,← Rat.sub_eq_add_neg]]
 conv=>whnf
 show (RV.of w).v=bD _
 rw [hw]
 rfl
theorem VA:aZ Tryz.prog 126 GX:=by
 refine bf G8 aK Tryz.func126 (enters_of Tryz.func126 (by kernel_rfl) rfl) (fun _=>rfl) (fun _=>rfl) ?_
 intro ⟨⟨b,s,t⟩,⟨c,u,v⟩⟩ hp
 have hp:RV.ok (b,s,t)∧RV.ok (c,u,v):=hp
 obtain ⟨w,hw⟩:∃ w,w=aU (RV.q (c,u,v)) (RV.q (b,s,t)):=⟨_,rfl⟩
 conv=>whnf
 refine ⟨((c,u,v),(b,s,t)),rfl,⟨hp.2,hp.1⟩,?_⟩
 rw [show gX.val ((c,u,v),(b,s,t))=.int .i64 w from by rw [hw]; rfl]
 conv=>whnf
 refine aF (fun h=>?_) (fun h=>?_)
 ·have h:=of_decide_eq_true h
  rw [hw,n8] at h
  conv=>whnf
  show RV.v (c,u,v)=RV.v _
  exact congrArg RV.v (if_pos h).symm
 ·have h:=of_decide_eq_false h
  rw [hw,n8] at h
  conv=>whnf
  show RV.v (b,s,t)=RV.v _
  exact congrArg RV.v (if_neg h).symm
theorem VB:aZ Tryz.prog 127 GY:=by
 refine bf G8 aK Tryz.func127 (enters_of Tryz.func127 (by kernel_rfl) rfl) (fun _=>rfl) (fun _=>rfl) ?_
 intro ⟨⟨b,s,t⟩,⟨c,u,v⟩⟩ hp
 have hp:RV.ok (b,s,t)∧RV.ok (c,u,v):=hp
 obtain ⟨w,hw⟩:∃ w,w=aU (RV.q (c,u,v)) (RV.q (b,s,t)):=⟨_,rfl⟩
 conv=>whnf
 refine ⟨((c,u,v),(b,s,t)),rfl,⟨hp.2,hp.1⟩,?_⟩
 rw [show gX.val ((c,u,v),(b,s,t))=.int .i64 w from by rw [hw]; rfl]
 conv=>whnf
 refine aF (fun h=>?_) (fun h=>?_)
 ·have h:=of_decide_eq_true h
  rw [hw,xT] at h
  conv=>whnf
  show RV.v (c,u,v)=RV.v _
  exact congrArg RV.v (if_pos h).symm
 ·have h:=of_decide_eq_false h
  rw [hw,xT] at h
  conv=>whnf
  show RV.v (b,s,t)=RV.v _
  exact congrArg RV.v (if_neg h).symm
end Go.Proofs.YtlapbjdhekcipaaGreat
/- Contracts of vector and of the reference vectors: sums, products. -/
set_option maxRecDepth 20000
set_option maxHeartbeats 1000000
namespace Go.Proofs.YtlapbjdhekcipaaGreat
open Go Go.Ae
def IY:Env:=En [(36,.p kQ),(38,.p gC),(37,.p kt)]
theorem abI:EnvOk Tryz.prog IY:=bF ⟨Bs,wh,M8,trivial⟩ trivial
theorem Yg:fK Tryz.prog 81 (cc IY cF Tryz.f81):=by
 exact iV abI aK Tryz.func81 (enters_of Tryz.func81 (by kernel_rfl) rfl)
def Evb:Env:=En [(33,.p kB),(36,.p kQ),(38,.p gC),(35,.p gX),(129,.p mz)] [(81,cc IY cF Tryz.f81)]
theorem uf:EnvOk Tryz.prog Evb:=bF ⟨yp,Bs,wh,M9,TY,trivial⟩ ⟨Yg,trivial⟩
def Evr:Env:=En [(120,.p kB),(169,.p kQ),(146,.p gC),(156,.p kt),(128,.p gX),(119,.p mz),(153,.p tL)]
theorem Ci:EnvOk Tryz.prog Evr:=bF ⟨Nb,Mw,Vz,Mx,A9,SS,EU,trivial⟩ trivial
theorem NL:aZ Tryz.prog 55 pU:=by
 refine bf uf aK Tryz.func55 (enters_of Tryz.func55 (by kernel_rfl) rfl) (fun _=>rfl) (fun _=>rfl) ?_
 intro ⟨n,m⟩ hp
 have hp:uW n∧uW m:=hp
 obtain ⟨x,hx⟩:∃ x:Rat,x=(n:Rat):=⟨_,rfl⟩
 obtain ⟨y,hy⟩:∃ x:Rat,x=(m:Rat):=⟨_,rfl⟩
 conv=>whnf
 refine ⟨n,rfl,hp.1,?_⟩
 rw [show kB.val n=(RV.of x).v from by rw [hx]; rfl]
 conv=>whnf
 refine ⟨m,rfl,hp.2,?_⟩
 rw [show kB.val m=(RV.of y).v from by rw [hy]; rfl]
 conv=>whnf
 show PV.v (RV.of x,RV.of y)=l6 _ _
 rw [hx,hy]
 rfl
theorem Yh:aZ Tryz.prog 29 GZ:=by
 refine bf uf aK Tryz.func29 (enters_of Tryz.func29 (by kernel_rfl) rfl) (fun _=>rfl) (fun _=>rfl) ?_
 intro ⟨p,q⟩ hp
 have hp:p.sz 8589934592∧q.sz 8589934592:=hp
 obtain ⟨x,hx⟩:∃ x,x=p.1.q+q.1.q:=⟨_,rfl⟩
 obtain ⟨y,hy⟩:∃ x,x=p.2.q+q.2.q:=⟨_,rfl⟩
 conv=>whnf
 refine .inl ⟨11,[[],[],[1],[],[3],[0,1,2,3,4],[],[],[7],[],[9],[0,1,2,3,4,5,6,7,8,9,10],[0,1,2,3,4,5,6,7,8,9,10,11],[0,1,2,3,4,5,6,7,8,9,10,11,12]],by kernel_rfl,?_⟩
 conv=>whnf
 refine ⟨(p.1,q.1),rfl,⟨hp.1.1,hp.2.1⟩,?_⟩
 rw [show kQ.val (p.1,q.1)=(RV.of x).v from by rw [hx]; rfl]
 conv=>whnf
 refine ⟨(p.2,q.2),rfl,⟨hp.1.2,hp.2.2⟩,?_⟩
 rw [show kQ.val (p.2,q.2)=(RV.of y).v from by rw [hy]; rfl]
 conv=>whnf
 show PV.v (RV.of x,RV.of y)=l6 _ _
 rw [hx,hy]
 rfl
theorem Bt:aZ Tryz.prog 85 iI:=by
 refine bf uf aK Tryz.func85 (enters_of Tryz.func85 (by kernel_rfl) rfl) (fun _=>rfl) (fun _=>rfl) ?_
 intro ⟨p,q⟩ hp
 have hp:p.sz 8589934592∧q.sz 8589934592:=hp
 obtain ⟨x,hx⟩:∃ x,x=p.1.q - q.1.q:=⟨_,rfl⟩
 obtain ⟨y,hy⟩:∃ x,x=p.2.q - q.2.q:=⟨_,rfl⟩
 conv=>whnf
 refine .inl ⟨11,[[],[],[1],[],[3],[0,1,2,3,4],[],[],[7],[],[9],[0,1,2,3,4,5,6,7,8,9,10],[0,1,2,3,4,5,6,7,8,9,10,11],[0,1,2,3,4,5,6,7,8,9,10,11,12]],by kernel_rfl,?_⟩
 conv=>whnf
 refine ⟨(p.1,q.1),rfl,⟨hp.1.1,hp.2.1⟩,?_⟩
 rw [show gC.val (p.1,q.1)=(RV.of x).v from by rw [hx]; rfl]
 conv=>whnf
 refine ⟨(p.2,q.2),rfl,⟨hp.1.2,hp.2.2⟩,?_⟩
 rw [show gC.val (p.2,q.2)=(RV.of y).v from by rw [hy]; rfl]
 conv=>whnf
 show PV.v (RV.of x,RV.of y)=l6 _ _
 rw [hx,hy]
 rfl
theorem My:aZ Tryz.prog 121 iI:=by
 refine bf Ci aK Tryz.func121 (enters_of Tryz.func121 (by kernel_rfl) rfl) (fun _=>rfl) (fun _=>rfl) ?_
 intro ⟨p,q⟩ hp
 have hp:p.sz 8589934592∧q.sz 8589934592:=hp
 obtain ⟨x,hx⟩:∃ x,x=p.1.q - q.1.q:=⟨_,rfl⟩
 obtain ⟨y,hy⟩:∃ x,x=p.2.q - q.2.q:=⟨_,rfl⟩
 conv=>whnf
 refine .inl ⟨9,[[],[0],[],[2],[0,1,2,3],[],[5],[],[7],[0,1,2,3,4,5,6,7,8],[0,1,2,3,4,5,6,7,8,9],[0,1,2,3,4,5,6,7,8,9,10]],by kernel_rfl,?_⟩
 conv=>whnf
 refine ⟨(p.1,q.1),rfl,⟨hp.1.1,hp.2.1⟩,?_⟩
 rw [show gC.val (p.1,q.1)=(RV.of x).v from by rw [hx]; rfl]
 conv=>whnf
 refine ⟨(p.2,q.2),rfl,⟨hp.1.2,hp.2.2⟩,?_⟩
 rw [show gC.val (p.2,q.2)=(RV.of y).v from by rw [hy]; rfl]
 conv=>whnf
 show PV.v (RV.of x,RV.of y)=l6 _ _
 rw [hx,hy]
 rfl
theorem T1:aZ Tryz.prog 31 FP:=by
 refine bf uf aK Tryz.func31 (enters_of Tryz.func31 (by kernel_rfl) rfl) (fun _=>rfl) (fun _=>rfl) ?_
 intro ⟨p,q⟩ hp
 have hp:p.sz 8589934592∧q.sz 8589934592:=hp
 obtain ⟨x,hx⟩:∃ x,x=p.1.q*q.q:=⟨_,rfl⟩
 obtain ⟨y,hy⟩:∃ x,x=p.2.q*q.q:=⟨_,rfl⟩
 conv=>whnf
 refine .inl ⟨11,[[],[],[1],[],[3],[0,1,2,3,4],[],[],[7],[],[9],[0,1,2,3,4,5,6,7,8,9,10],[0,1,2,3,4,5,6,7,8,9,10,11],[0,1,2,3,4,5,6,7,8,9,10,11,12]],by kernel_rfl,?_⟩
 conv=>whnf
 refine ⟨(p.1,q),rfl,⟨hp.1.1,hp.2⟩,?_⟩
 rw [show kt.val (p.1,q)=(RV.of x).v from by rw [hx]; rfl]
 conv=>whnf
 refine ⟨(p.2,q),rfl,⟨hp.1.2,hp.2⟩,?_⟩
 rw [show kt.val (p.2,q)=(RV.of y).v from by rw [hy]; rfl]
 conv=>whnf
 show PV.v (RV.of x,RV.of y)=l6 _ _
 rw [hx,hy]
 rfl
theorem LH:aZ Tryz.prog 84 mA:=by
 refine bf uf aK Tryz.func84 (enters_of Tryz.func84 (by kernel_rfl) rfl) (fun _=>rfl) (fun _=>rfl) ?_
 intro ⟨p,q⟩ hp
 have hp:p.sz 1073741824∧q.sz 1073741824:=hp
 obtain ⟨x,hx⟩:∃ x,x=p.1.q*q.2.q:=⟨_,rfl⟩
 obtain ⟨y,hy⟩:∃ x,x=p.2.q*q.1.q:=⟨_,rfl⟩
 obtain ⟨z,hz⟩:∃ z,z=x - y:=⟨_,rfl⟩
 have sx:(RV.of x).ok:=RV.bC (RV.mM (by rw [hx]; exact (RV.jJ hp.1.1 (by decide)).mul (RV.jJ hp.2.2 (by decide)))) (by decide)
 have sy:(RV.of y).ok:=RV.bC (RV.mM (by rw [hy]; exact (RV.jJ hp.1.2 (by decide)).mul (RV.jJ hp.2.1 (by decide)))) (by decide)
 conv=>whnf
 refine .inl ⟨11,[[],[],[1],[],[3],[0,1,2,3,4],[],[],[7],[],[9],[0,1,2,3,4,5,6,7,8,9,10],[0,1,2,3,4,5,6,7,8,9,10,11],[0,1,2,3,4,5,6,7,8,9,10,11,12]],by kernel_rfl,?_⟩
 conv=>whnf
 refine ⟨(p.1,q.2),rfl,⟨RV.bC hp.1.1 (by decide),RV.bC hp.2.2 (by decide)⟩,?_⟩
 rw [show kt.val (p.1,q.2)=(RV.of x).v from by rw [hx]; rfl]
 conv=>whnf
 refine ⟨(p.2,q.1),rfl,⟨RV.bC hp.1.2 (by decide),RV.bC hp.2.1 (by decide)⟩,?_⟩
 rw [show kt.val (p.2,q.1)=(RV.of y).v from by rw [hy]; rfl]
 conv=>whnf
 refine ⟨(RV.of x,RV.of y),rfl,⟨sx,sy⟩,?_⟩
 rw [show gC.val (RV.of x,RV.of y)=(RV.of z).v from by
  show bD ((RV.of x).q - (RV.of y).q)=_
  rw [RV.g0,RV.g0,hz]; rfl]
 conv=>whnf
 show (RV.of z).v=bD _
 rw [hz,hx,hy]
 rfl
theorem KV:aZ Tryz.prog 122 mA:=by
 refine bf Ci aK Tryz.func122 (enters_of Tryz.func122 (by kernel_rfl) rfl) (fun _=>rfl) (fun _=>rfl) ?_
 intro ⟨p,q⟩ hp
 have hp:p.sz 1073741824∧q.sz 1073741824:=hp
 obtain ⟨x,hx⟩:∃ x,x=p.1.q*q.2.q:=⟨_,rfl⟩
 obtain ⟨y,hy⟩:∃ x,x=p.2.q*q.1.q:=⟨_,rfl⟩
 obtain ⟨z,hz⟩:∃ z,z=x - y:=⟨_,rfl⟩
 have sx:(RV.of x).ok:=RV.bC (RV.mM (by rw [hx]; exact (RV.jJ hp.1.1 (by decide)).mul (RV.jJ hp.2.2 (by decide)))) (by decide)
 have sy:(RV.of y).ok:=RV.bC (RV.mM (by rw [hy]; exact (RV.jJ hp.1.2 (by decide)).mul (RV.jJ hp.2.1 (by decide)))) (by decide)
 conv=>whnf
 refine .inl ⟨9,[[],[0],[],[2],[0,1,2,3],[],[5],[],[7],[0,1,2,3,4,5,6,7,8],[0,1,2,3,4,5,6,7,8,9],[0,1,2,3,4,5,6,7,8,9,10]],by kernel_rfl,?_⟩
 conv=>whnf
 refine ⟨(p.1,q.2),rfl,⟨RV.bC hp.1.1 (by decide),RV.bC hp.2.2 (by decide)⟩,?_⟩
 rw [show kt.val (p.1,q.2)=(RV.of x).v from by rw [hx]; rfl]
 conv=>whnf
 refine ⟨(p.2,q.1),rfl,⟨RV.bC hp.1.2 (by decide),RV.bC hp.2.1 (by decide)⟩,?_⟩
 rw [show kt.val (p.2,q.1)=(RV.of y).v from by rw [hy]; rfl]
 conv=>whnf
 refine ⟨(RV.of x,RV.of y),rfl,⟨sx,sy⟩,?_⟩
 rw [show gC.val (RV.of x,RV.of y)=(RV.of z).v from by
  show bD ((RV.of x).q - (RV.of y).q)=_
  rw [RV.g0,RV.g0,hz]; rfl]
 conv=>whnf
 show (RV.of z).v=bD _
 rw [hz,hx,hy]
 rfl
theorem Nc:aZ Tryz.prog 74 ox:=by
 refine bf uf aK Tryz.func74 (enters_of Tryz.func74 (by kernel_rfl) rfl) (fun _=>rfl) (fun _=>rfl) ?_
 intro ⟨p,q⟩ hp
 have hp:p.sz 8589934592∧q.sz 8589934592:=hp
 obtain ⟨x,hx⟩:∃ x,x=aU p.1.q q.1.q:=⟨_,rfl⟩
 obtain ⟨y,hy⟩:∃ x,x=aU p.2.q q.2.q:=⟨_,rfl⟩
 have fin:∀ z:Int,z=(if x≠0 then x else y)→Value.int .i64 z=ox.val (p,q):=fun z h=>by rw [h,hx,hy]; rfl
 conv=>whnf
 refine ⟨(p.1,q.1),rfl,⟨hp.1.1,hp.2.1⟩,?_⟩
 rw [show gX.val (p.1,q.1)=.int .i64 x from by rw [hx]; rfl]
 conv=>whnf
 refine aF (fun h=>?_) (fun h=>?_)
 ·have h:x≠0:=by
   intro e
   subst e
   simp at h
  conv=>whnf
  exact fin _ (if_pos h).symm
 ·have h:x=0:=by simpa using h
  conv=>whnf
  refine ⟨(p.2,q.2),rfl,⟨hp.1.2,hp.2.2⟩,?_⟩
  rw [show gX.val (p.2,q.2)=.int .i64 y from by rw [hy]; rfl]
  conv=>whnf
  exact fin _ (if_neg (fun e=>e h)).symm
theorem VC:aZ Tryz.prog 76 ox:=by
 refine bf Ci aK Tryz.func76 (enters_of Tryz.func76 (by kernel_rfl) rfl) (fun _=>rfl) (fun _=>rfl) ?_
 intro ⟨p,q⟩ hp
 have hp:p.sz 8589934592∧q.sz 8589934592:=hp
 obtain ⟨x,hx⟩:∃ x,x=aU p.1.q q.1.q:=⟨_,rfl⟩
 obtain ⟨y,hy⟩:∃ x,x=aU p.2.q q.2.q:=⟨_,rfl⟩
 have fin:∀ z:Int,z=(if x≠0 then x else y)→Value.int .i64 z=ox.val (p,q):=fun z h=>by rw [h,hx,hy]; rfl
 conv=>whnf
 refine ⟨(p.1,q.1),rfl,⟨hp.1.1,hp.2.1⟩,?_⟩
 rw [show gX.val (p.1,q.1)=.int .i64 x from by rw [hx]; rfl]
 conv=>whnf
 refine aF (fun h=>?_) (fun h=>?_)
 ·have h:x≠0:=by
   intro e
   subst e
   simp at h
  conv=>whnf
  exact fin _ (if_pos h).symm
 ·have h:x=0:=by simpa using h
  conv=>whnf
  refine ⟨(p.2,q.2),rfl,⟨hp.1.2,hp.2.2⟩,?_⟩
  rw [show gX.val (p.2,q.2)=.int .i64 y from by rw [hy]; rfl]
  conv=>whnf
  exact fin _ (if_neg (fun e=>e h)).symm
end Go.Proofs.YtlapbjdhekcipaaGreat
/- Contracts of vector and of the reference vectors: checks, extremes. -/
set_option maxRecDepth 20000
set_option maxHeartbeats 1000000
namespace Go.Proofs.YtlapbjdhekcipaaGreat
open Go Go.Ae
theorem T2:aZ Tryz.prog 80 jr:=by
 refine bf uf aK Tryz.func80 (enters_of Tryz.func80 (by kernel_rfl) rfl) (fun _=>rfl) (fun _=>rfl) ?_
 intro (p:PV) hp
 have hp:p.sz 8589934592:=hp
 have nG:p.1=RV.of p.1.q→p.2=RV.of p.2.q→Value.int .i64 0=jr.val p:=fun h1 J=>by
  show _=Value.int .i64 (if p.canon then 0 else 1)
  rw [if_pos ⟨h1,J⟩]
 have me:¬ p.canon→Value.int .i64 1=jr.val p:=fun h=>by
  show _=Value.int .i64 (if p.canon then 0 else 1)
  rw [if_neg h]
 conv=>whnf
 refine .inr ⟨3,?_⟩
 conv=>whnf
 refine ⟨⟨by decide,by decide⟩,?_⟩
 conv=>whnf
 refine ⟨p.1,rfl,hp.1,?_⟩
 by_cases h1:p.1=RV.of p.1.q
 ·rw [show mz.val p.1=.int .i64 0 from by show Value.int .i64 (if p.1=RV.of p.1.q then 0 else 1)=_; rw [if_pos h1]]
  conv=>whnf
  refine ⟨⟨by decide,by decide⟩,?_⟩
  conv=>whnf
  refine ⟨p.2,rfl,hp.2,?_⟩
  by_cases J:p.2=RV.of p.2.q
  ·rw [show mz.val p.2=.int .i64 0 from by show Value.int .i64 (if p.2=RV.of p.2.q then 0 else 1)=_; rw [if_pos J]]
   conv=>whnf
   exact nG h1 J
  ·rw [show mz.val p.2=.int .i64 1 from by show Value.int .i64 (if p.2=RV.of p.2.q then 0 else 1)=_; rw [if_neg J]]
   conv=>whnf
   exact me (fun h=>J h.2)
 ·rw [show mz.val p.1=.int .i64 1 from by show Value.int .i64 (if p.1=RV.of p.1.q then 0 else 1)=_; rw [if_neg h1]]
  conv=>whnf
  exact me (fun h=>h1 h.1)
theorem KW:aZ Tryz.prog 68 jr:=by
 refine bf Ci aK Tryz.func68 (enters_of Tryz.func68 (by kernel_rfl) rfl) (fun _=>rfl) (fun _=>rfl) ?_
 intro (p:PV) hp
 have hp:p.sz 8589934592:=hp
 have nG:p.1=RV.of p.1.q→p.2=RV.of p.2.q→Value.int .i64 0=jr.val p:=fun h1 J=>by
  show _=Value.int .i64 (if p.canon then 0 else 1)
  rw [if_pos ⟨h1,J⟩]
 have me:¬ p.canon→Value.int .i64 1=jr.val p:=fun h=>by
  show _=Value.int .i64 (if p.canon then 0 else 1)
  rw [if_neg h]
 conv=>whnf
 refine ⟨p.1,rfl,hp.1,?_⟩
 by_cases h1:p.1=RV.of p.1.q
 ·rw [show mz.val p.1=.int .i64 0 from by show Value.int .i64 (if p.1=RV.of p.1.q then 0 else 1)=_; rw [if_pos h1]]
  conv=>whnf
  refine ⟨p.2,rfl,hp.2,?_⟩
  by_cases J:p.2=RV.of p.2.q
  ·rw [show mz.val p.2=.int .i64 0 from by show Value.int .i64 (if p.2=RV.of p.2.q then 0 else 1)=_; rw [if_pos J]]
   conv=>whnf
   exact nG h1 J
  ·rw [show mz.val p.2=.int .i64 1 from by show Value.int .i64 (if p.2=RV.of p.2.q then 0 else 1)=_; rw [if_neg J]]
   conv=>whnf
   exact me (fun h=>J h.2)
 ·rw [show mz.val p.1=.int .i64 1 from by show Value.int .i64 (if p.1=RV.of p.1.q then 0 else 1)=_; rw [if_neg h1]]
  conv=>whnf
  exact me (fun h=>h1 h.1)
def Evf:Env:=En [(85,.p iI),(31,.p FP),(29,.p GZ)]
theorem abJ:EnvOk Tryz.prog Evf:=bF ⟨Bt,T1,Yh,trivial⟩ trivial
theorem aay:aZ Tryz.prog 39 w8:=by
 refine bf abJ aK Tryz.func39 (enters_of Tryz.func39 (by kernel_rfl) rfl) (fun _=>rfl) (fun _=>rfl) ?_
 intro ⟨⟨p,q⟩,t⟩ hp
 have hp:(p.sz 268435456∧q.sz 268435456)∧t.sz 268435456:=hp
 obtain ⟨⟨hp,hq⟩,ht⟩:=hp
 obtain ⟨x,hx⟩:∃ x,x=q.1.q - p.1.q:=⟨_,rfl⟩
 obtain ⟨y,hy⟩:∃ x,x=q.2.q - p.2.q:=⟨_,rfl⟩
 obtain ⟨x2,p7⟩:∃ z,z=x*t.q:=⟨_,rfl⟩
 obtain ⟨y2,p8⟩:∃ z,z=y*t.q:=⟨_,rfl⟩
 obtain ⟨x3,Qd⟩:∃ z,z=p.1.q+x2:=⟨_,rfl⟩
 obtain ⟨y3,Qe⟩:∃ z,z=p.2.q+y2:=⟨_,rfl⟩
 have bx:QB x 536870913:=by rw [hx]; exact (RV.jJ hq.1 (by decide)).sub (RV.jJ hp.1 (by decide))
 have Qf:QB y 536870913:=by rw [hy]; exact (RV.jJ hq.2 (by decide)).sub (RV.jJ hp.2 (by decide))
 have bx2:QB x2 805306369:=by rw [p7]; exact bx.mul (RV.jJ ht (by decide))
 have by2:QB y2 805306369:=by rw [p8]; exact Qf.mul (RV.jJ ht (by decide))
 conv=>whnf
 refine .inl ⟨6,[[],[],[],[1,2],[],[1,2,3,4],[0,1,2,3,4,5],[0,1,2,3,4,5,6]],by kernel_rfl,?_⟩
 conv=>whnf
 refine ⟨(q,p),rfl,⟨PV.aR hq (by decide),PV.aR hp (by decide)⟩,?_⟩
 rw [show iI.val (q,p)=PV.v (RV.of x,RV.of y) from by rw [hx,hy]; rfl]
 conv=>whnf
 refine ⟨((RV.of x,RV.of y),t),rfl,⟨⟨RV.mM (bx.mono (by decide)),RV.mM (Qf.mono (by decide))⟩,RV.aR ht (by decide)⟩,?_⟩
 rw [show FP.val ((RV.of x,RV.of y),t)=PV.v (RV.of x2,RV.of y2) from by
  show l6 ((RV.of x).q*t.q) ((RV.of y).q*t.q)=_
  rw [RV.g0,RV.g0,← p7,← p8]; rfl]
 conv=>whnf
 refine ⟨(p,(RV.of x2,RV.of y2)),rfl,⟨PV.aR hp (by decide),RV.mM (bx2.mono (by decide)),RV.mM (by2.mono (by decide))⟩,?_⟩
 rw [show GZ.val (p,(RV.of x2,RV.of y2))=PV.v (RV.of x3,RV.of y3) from by
  show l6 (p.1.q+(RV.of x2).q) (p.2.q+(RV.of y2).q)=_
  rw [RV.g0,RV.g0,← Qd,← Qe]; rfl]
 conv=>whnf
 show PV.v (RV.of x3,RV.of y3)=l6 _ _
 rw [Qd,Qe,p7,p8,hx,hy]
 rfl
end Go.Proofs.YtlapbjdhekcipaaGreat
/- Contracts of vector and of the reference vectors: lists. -/
set_option maxRecDepth 20000
set_option maxHeartbeats 1000000
namespace Go.Proofs.YtlapbjdhekcipaaGreat
open Go Go.Ae
end Go.Proofs.YtlapbjdhekcipaaGreat
/- Contracts of vector and of the reference vectors: square distance, boxes. -/
set_option maxRecDepth 20000
set_option maxHeartbeats 1000000
namespace Go.Proofs.YtlapbjdhekcipaaGreat
open Go Go.Ae
end Go.Proofs.YtlapbjdhekcipaaGreat
/- Contracts of rational: quotients of rationals. -/
set_option maxRecDepth 20000
set_option maxHeartbeats 1000000
namespace Go.Proofs.YtlapbjdhekcipaaGreat
open Go Go.Ae
def Emn:Env:=En [(88,.p kY),(92,.p eX),(82,.p ua)]
theorem abK:EnvOk Tryz.prog Emn:=bF ⟨Gw,NK,Na,trivial⟩ trivial
theorem Nd:aZ Tryz.prog 71 lR:=by
 refine bf abK aK Tryz.func71 (enters_of Tryz.func71 (by kernel_rfl) rfl) (fun _=>rfl) (fun _=>rfl) ?_
 intro ⟨⟨b,s,t⟩,⟨b',s',t'⟩⟩ hp
 have hp:RV.ok (b,s,t)∧RV.ok (b',s',t'):=hp
 obtain ⟨x,hx⟩:∃ x,x=RV.den (b,s,t):=⟨_,rfl⟩
 obtain ⟨y,hy⟩:∃ x,x=RV.den (b',s',t'):=⟨_,rfl⟩
 have f1:=RV.lO hp.1
 have f2:=RV.lO hp.2
 have g1:=RV.jw (b,s,t)
 have g2:=RV.jw (b',s',t')
 rw [← hx] at f1 g1
 rw [← hy] at f2 g2
 have hq:=abg (b,s,t) (b',s',t')
 obtain ⟨B1,m1,h1⟩:=EI.mk' (IV.z (b,s)*IV.z (false,y))
 obtain ⟨B2,m2,J⟩:=EI.mk' (IV.z (false,x)*IV.z (b',s'))
 have z1:=h1.gn (dw f1.1.1) (dw f2.1.2)
 have z2:=J.gn (dw f1.1.2) (dw f2.1.1)
 obtain ⟨w,hw⟩:∃ w,w=RV.q (b,s,t) / RV.q (b',s',t'):=⟨_,rfl⟩
 obtain ⟨e,he⟩:∃ e:Int,e=if RV.q (b',s',t')=0 then 10 else 0:=⟨_,rfl⟩
 have hN:ua.val ((B1,m1),(B2,m2))=.tuple ⟨[(RV.of w).v,.int .i64 e]⟩:=by
  show kZ (IV.z (B1,m1)) (IV.z (B2,m2))=_
  rw [h1.val,J.val,g1,g2,hw,he]
  exact hq
 conv=>whnf
 refine .inl ⟨6,[[],[0],[],[0,1,2],[],[],[0,1,2,3,4,5],[0,1,2,3,4,5,6]],by kernel_rfl,?_⟩
 conv=>whnf
 refine ⟨(b,s,t),rfl,by have:=hp.1.2; show t.size≤_; exact Nat.le_trans this (by decide),?_⟩
 rw [show kY.val (b,s,t)=.agg ⟨[.bool b,.string s,.bool false,.string x]⟩ from by rw [hx]; rfl]
 conv=>whnf
 refine ⟨(b',s',t'),rfl,by have:=hp.2.2; show t'.size≤_; exact Nat.le_trans this (by decide),?_⟩
 rw [show kY.val (b',s',t')=.agg ⟨[.bool b',.string s',.bool false,.string y]⟩ from by rw [hy]; rfl]
 conv=>whnf
 refine .inl ⟨13,[[],[0],[],[2],[0,1,2,3],[],[5],[],[7],[0,1,2,3,4,5,6,7,8],[0,1,2,3,4,5,6,7,8,9],[0,1,2,3,4,5,6,7,8,9,10],[0,1,2,3,4,5,6,7,8,9,10],[0,1,2,3,4,5,6,7,8,9,10,11,12],[0,1,2,3,4,5,6,7,8,9,10,11,12,13]],by kernel_rfl,?_⟩
 conv=>whnf
 refine ⟨((b,s),(false,y)),rfl,⟨Nat.le_trans f1.1.1 (by decide),Nat.le_trans f2.1.2 (by decide)⟩,?_⟩
 rw [show eX.val ((b,s),(false,y))=.agg ⟨[.bool B1,.string m1]⟩ from h1.enc]
 conv=>whnf
 refine ⟨((false,x),(b',s')),rfl,⟨Nat.le_trans f1.1.2 (by decide),Nat.le_trans f2.1.1 (by decide)⟩,?_⟩
 rw [show eX.val ((false,x),(b',s'))=.agg ⟨[.bool B2,.string m2]⟩ from J.enc]
 conv=>whnf
 refine ⟨((B1,m1),(B2,m2)),rfl,⟨by show m1.size≤_; omega,by show m2.size≤_; omega⟩,?_⟩
 rw [hN]
 conv=>whnf
 show Value.tuple ⟨[(RV.of w).v,.int .i64 e]⟩=Value.tuple ⟨[bD _,.int .i64 _]⟩
 rw [hw,he]
 rfl
end Go.Proofs.YtlapbjdhekcipaaGreat
/- Contracts of predicate: orientations. -/
set_option maxRecDepth 20000
set_option maxHeartbeats 1000000
namespace Go.Proofs.YtlapbjdhekcipaaGreat
open Go Go.Ae
def Epa:Env:=En [(85,.p iI),(84,.p mA),(34,.p gf),(37,.p kt),(38,.p gC),(36,.p kQ)]
theorem abL:EnvOk Tryz.prog Epa:=bF ⟨Bt,LH,Fu,M8,wh,Bs,trivial⟩ trivial
theorem EV:aZ Tryz.prog 32 kK:=by
 refine bf abL aK Tryz.func32 (enters_of Tryz.func32 (by kernel_rfl) rfl) (fun _=>rfl) (fun _=>rfl) ?_
 intro ⟨a,b,c⟩ hp
 obtain ⟨sa,sb,sc⟩:a.sz 1048576∧b.sz 1048576∧c.sz 1048576:=hp
 have pa:Q2.sz 1048576 a.p:=PV.cN sa (by decide)
 have pb:Q2.sz 1048576 b.p:=PV.cN sb (by decide)
 have pc:Q2.sz 1048576 c.p:=PV.cN sc (by decide)
 obtain ⟨w,hw⟩:∃ w,w=au a.p b.p c.p:=⟨_,rfl⟩
 obtain ⟨u,hu⟩:∃ u,u=ck (oD b.p a.p):=⟨_,rfl⟩
 obtain ⟨v,hv⟩:∃ v,v=ck (oD c.p a.p):=⟨_,rfl⟩
 have su:u.sz 1073741824:=by rw [hu]; exact wx (lP pb pa) (by decide)
 have sv:v.sz 1073741824:=by rw [hv]; exact wx (lP pc pa) (by decide)
 have sw:(RV.of w).ok:=by rw [hw]; exact YU (tg (lP pb pa) (lP pc pa)) (by decide)
 conv=>whnf
 refine .inl ⟨5,[[],[],[0,1],[],[],[0,1,2,3,4],[0,1,2,3,4,5],[0,1,2,3,4,5,6],[0,1,2,3,4,5,6,7]],by kernel_rfl,?_⟩
 conv=>whnf
 refine ⟨(b,a),rfl,⟨PV.aR sb (by decide),PV.aR sa (by decide)⟩,?_⟩
 rw [show iI.val (b,a)=u.v from by rw [MS,hu]]
 conv=>whnf
 refine ⟨(c,a),rfl,⟨PV.aR sc (by decide),PV.aR sa (by decide)⟩,?_⟩
 rw [show iI.val (c,a)=v.v from by rw [MS,hv]]
 conv=>whnf
 refine ⟨(u,v),rfl,⟨su,sv⟩,?_⟩
 rw [show mA.val (u,v)=(RV.of w).v from by rw [Ty,hu,hv,gY,gY,hw]; rfl]
 conv=>whnf
 refine ⟨RV.of w,rfl,sw,?_⟩
 rw [UO,RV.g0]
 conv=>whnf
 show Value.int .i64 _=Value.int .i64 _
 rw [hw]
end Go.Proofs.YtlapbjdhekcipaaGreat
/- Contracts of convex: what is asked of a point. -/
set_option maxRecDepth 20000
set_option maxHeartbeats 4000000
namespace Go.Proofs.YtlapbjdhekcipaaGreat
open Go Go.Ae
def IZ:Env:=sK [(80,.p jr),(74,.p ox),(32,.p kK),(85,.p iI),(84,.p mA)]
theorem pM:EnvOk Tryz.prog IZ:=uC ⟨T2,Nc,EV,Bt,LH,trivial⟩ trivial
theorem Yi:aZ Tryz.prog 108 Ch:=by
 refine bf pM aK Tryz.func108 (enters_of Tryz.func108 (by kernel_rfl) rfl) (fun _=>rfl) (fun _=>rfl) ?_
 intro (p:PV) hp
 have sp:p.sz 2048:=hp
 conv=>whnf
 refine ⟨p,rfl,PV.aR sp (by decide),?_⟩
 by_cases h:p.canon
 ·rw [show jr.val p=.int .i64 0 from congrArg (Value.int .i64) (if_pos h)]
  conv=>whnf
  show Value.bool false=.bool (decide (¬ p.canon))
  rw [decide_eq_false (fun e=>e h)]
 ·rw [show jr.val p=.int .i64 1 from congrArg (Value.int .i64) (if_neg h)]
  conv=>whnf
  show Value.bool true=.bool (decide (¬ p.canon))
  rw [decide_eq_true h]
theorem Yj:c4 Tryz.prog 75 rM:=by
 refine dC pM aK Tryz.func75 (enters_of Tryz.func75 (by kernel_rfl) rfl) ?_ ?_ ?_
 ·intro i b hb; simp [rM] at hb; rcases hb with rfl | rfl <;> rfl
 ·intro i b hb; simp [rM] at hb
 intro ⟨a,b,p⟩ hp
 have hp:a.sz 2048∧b.sz 2048∧p.sz 2048:=hp
 obtain ⟨sa,sb,sp⟩:=hp
 have qa:=PV.cN sa (by decide)
 have qb:=PV.cN sb (by decide)
 have qp:=PV.cN sp (by decide)
 have fin:∀ z:Bool,z=rY a b p→∃ v',cL (List.range 2) 3 (rM.val (a,b,p))=some v'∧eZ (.bool z) v':=fun z h=>⟨.bool z,by rw [h]; rfl,.refl _⟩
 conv=>whnf
 refine ⟨by decide,?_⟩
 conv=>whnf
 rw [CC p a]
 by_cases h1:p=a
 ·rw [decide_eq_true h1]
  conv=>whnf
  exact fin false (decide_eq_false fun e=>e.1 h1).symm
 rw [decide_eq_false h1]
 conv=>whnf
 refine ⟨by decide,?_⟩
 conv=>whnf
 rw [CC p b]
 by_cases J:p=b
 ·rw [decide_eq_true J]
  conv=>whnf
  exact fin false (decide_eq_false fun e=>e.2.1 J).symm
 rw [decide_eq_false J]
 conv=>whnf
 refine ⟨by decide,?_⟩
 conv=>whnf
 refine ⟨by decide,?_⟩
 conv=>whnf
 obtain ⟨z,ez,pz⟩:=c9 (aU (au a.p b.p p.p) 0)
 refine ⟨(a,b,p),rfl,⟨PV.aR sa (by decide),PV.aR sb (by decide),PV.aR sp (by decide)⟩,?_⟩
 rw [show kK.val (a,b,p)=.int .i64 z from ez]
 conv=>whnf
 refine fin _ ?_
 unfold rY
 rw [← pz]
 by_cases h3:z≤0
 ·rw [decide_eq_true h3,decide_eq_true ⟨h1,J,h3⟩]; rfl
 ·rw [decide_eq_false h3,decide_eq_false fun e=>h3 e.2.2]; rfl
theorem LI:aZ Tryz.prog 70 pj:=by
 refine bf pM aK Tryz.func70 (enters_of Tryz.func70 (by kernel_rfl) rfl) (fun _=>rfl) (fun _=>rfl) ?_
 intro ⟨a,b,p⟩ hp
 have hp:a.sz 1048576∧b.sz 1048576∧p.sz 1048576:=hp
 obtain ⟨sa,sb,sp⟩:=hp
 have qa:=PV.cN sa (by decide)
 have qb:=PV.cN sb (by decide)
 have qp:=PV.cN sp (by decide)
 conv=>whnf
 refine .inl ⟨5,[[],[],[0,1],[],[],[0,1,2,3,4],[0,1,2,3,4,5],[0,1,2,3,4,5,6]],by kernel_rfl,?_⟩
 conv=>whnf
 obtain ⟨u,eu,pu,su,qu⟩:=nv (lP qb qa)
 refine ⟨(b,a),rfl,⟨PV.aR sb (by decide),PV.aR sa (by decide)⟩,?_⟩
 rw [show iI.val (b,a)=u.v from eu]
 conv=>whnf
 obtain ⟨v,ev,pv,sv,qv⟩:=nv (lP qp qa)
 refine ⟨(p,a),rfl,⟨PV.aR sp (by decide),PV.aR sa (by decide)⟩,?_⟩
 rw [show iI.val (p,a)=v.v from ev]
 conv=>whnf
 obtain ⟨w,ew,pw,sw,qw⟩:=fk (tg qu qv)
 refine ⟨(u,v),rfl,⟨PV.aR su (by decide),PV.aR sv (by decide)⟩,?_⟩
 rw [show mA.val (u,v)=w.v from ew]
 conv=>whnf
 show w.v=(RV.of (au a.p b.p p.p)).v
 rw [(RV.k9 ew).symm,pu,pv]
 rfl
end Go.Proofs.YtlapbjdhekcipaaGreat
/- Contracts of convex: whether a list is a convex ring. -/
set_option maxRecDepth 20000
set_option maxHeartbeats 4000000
namespace Go.Proofs.YtlapbjdhekcipaaGreat
open Go Go.Ae
theorem T3:fK Tryz.prog 73 (cc IZ cF Tryz.f73):=by
 exact iV pM aK Tryz.func73 (enters_of Tryz.func73 (by kernel_rfl) rfl)
def I0:Env:=En [(108,.p Ch),(75,.q rM)] [(73,cc IZ cF Tryz.f73)]
theorem abM:EnvOk Tryz.prog I0:=bF ⟨Yi,Yj,trivial⟩ ⟨T3,trivial⟩
theorem T4:fK Tryz.prog 106 (cc I0 cF Tryz.f106):=by
 exact iV abM aK Tryz.func106 (enters_of Tryz.func106 (by kernel_rfl) rfl)
def Df:Env:=En [] [(106,cc I0 cF Tryz.f106)]
theorem abN:EnvOk Tryz.prog Df:=bF trivial ⟨T4,trivial⟩
theorem JQ:fK Tryz.prog 49 (cc Df cF Tryz.f49):=by
 exact iV abN aK Tryz.func49 (enters_of Tryz.func49 (by kernel_rfl) rfl)
def Ev4:Env:=En [] [(49,cc Df cF Tryz.f49)]
theorem abO:EnvOk Tryz.prog Ev4:=bF trivial ⟨JQ,trivial⟩
theorem DD:c4 Tryz.prog 56 dp:=by
 refine dC abO aK Tryz.func56 (enters_of Tryz.func56 (by kernel_rfl) rfl) ?_ ?_ ?_
 ·intro i b hb
  cases i with
  | none=>simp [dp,PL.ai] at hb
  | some i=>simp [dp,PL.ai] at hb; rw [hb]; rfl
 ·intro i b hb; simp [dp] at hb
 intro i hp
 have hp:i.list.length≤1099511627776∧∀ v∈i.list,v.sz 2048:=hp
 obtain ⟨hlen,aT⟩:=hp
 cases i with
 | none =>
  conv=>whnf
  refine .inr ⟨1,?_⟩
  conv=>whnf
  exact ⟨.bool true,rfl,.refl _⟩
 | some i =>
  obtain ⟨L,c⟩:=i
  have hlen:L.length≤1099511627776:=hlen
  have aT:∀ v∈L,PV.sz 2048 v:=aT
  obtain ⟨n,hn⟩:∃ n,n=L.length:=⟨_,rfl⟩
  obtain ⟨g,hg⟩:∃ g,g=cO L:=⟨_,rfl⟩
  have fin:∀ z:Bool,z=!dm L→∃ v',cL (List.range 1) 3 (dp.val (some (L,c)))=some v'∧eZ (.bool z) v':=fun z h=>⟨.bool z,by rw [h]; rfl,.refl _⟩
  rw [show dp.ai (some (L,c))=[.flat false n 6 g] from by rw [hn,hg]; rfl,show dp.args (some (L,c))=[.slice (some ⟨0,0,none⟩) n c] from by rw [hn]; rfl]
  rw [← hn] at hlen
  conv=>whnf
  refine .inl ⟨fun mm tz hz=>∃ (i:Nat),bu (some (.slice (some ⟨0,0,none⟩) n c)::some (.func (.func 108) #[] #[])::aB 5 (some (.int .i64 n)::some (.int .i64 i)::aB 10 [])) tz∧hz=[some (.flat false n 6 g)]∧n - i=mm∧(i≤n∧ub L i),.inr ⟨[0],[0,1,7,8],?_⟩,?_⟩
  ·conv=>whnf
   intro _
   conv=>whnf
   refine ⟨_,0,(.aa (.aa (.sk 5 (.aa (.aa (.sk 10 .nil rfl))) rfl))),rfl,rfl,?_⟩
   exact ⟨Nat.zero_le _,J9 _⟩
  rintro mm aQ _ ⟨i,aq,rfl,rfl,⟨hi,hU⟩⟩
  obtain ⟨az,rfl⟩:∃ az:Nat→Value,aQ=.slice (some ⟨0,0,none⟩) n c::.func (.func 108) #[] #[]::zs az 2 5 (.int .i64 n::.int .i64 i::zs az 9 10 []):=bI aq
  clear aq
  conv=>whnf
  refine aF (fun h3=>?_) (fun h3=>?_)
  ·have h3:i < n:=by
    have:=of_decide_eq_true h3
    omega
   have e7:IntKind.i64.wrap ((i:Int)+1)=((i+1:Nat):Int):=by rw [aw (by omega) (by omega)]; rfl
   obtain ⟨m,kH,mi,aX⟩:=qV (l:=L) (i:=i) (by omega)
   rw [← hg] at aX
   conv=>whnf
   refine ⟨⟨by omega,by omega⟩,?_⟩
   simp only [toNat_cast,ar,Nat.zero_add]
   conv=>whnf
   refine ⟨by show i < n; omega,?_⟩
   conv=>whnf
   rw [aX]
   conv=>whnf
   refine ⟨m,rfl,aT m mi,?_⟩
   by_cases h4:m.canon
   ·rw [show Ch.val m=.bool false from congrArg Value.bool (decide_eq_false fun e=>e h4)]
    conv=>whnf
    rw [e7]
    refine .inr ⟨[0],[0,1,7,8],?_⟩
    conv=>whnf
    intro _
    conv=>whnf
    refine ⟨_,?_,i+1,(.aa (.aa (.sk 5 (.aa (.aa (.sk 10 .nil rfl))) rfl))),rfl,rfl,?_⟩
    ·omega
    ·exact ⟨by omega,KO hU kH h4⟩
   ·rw [show Ch.val m=.bool true from congrArg Value.bool (decide_eq_true h4)]
    conv=>whnf
    rw [show decide ((i:Int) ≥ 0)=true from decide_eq_true (by omega)]
    conv=>whnf
    exact fin false (by rw [show dm L=true from List.any_eq_true.2 ⟨m,mi,decide_eq_true h4⟩]; rfl)
  ·have h3:i=n:=by
    have:=of_decide_eq_false h3
    omega
   subst h3
   conv=>whnf
   exact fin true (by rw [Lx (by rw [← hn]; exact hU)]; rfl)
end Go.Proofs.YtlapbjdhekcipaaGreat
