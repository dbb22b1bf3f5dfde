import Derived.Test.YtppeponndkfbkaaGreatSH
set_option linter.unusedVariables false
set_option linter.unusedSimpArgs false
/- Contracts of rational: ratios of machine integers. -/
set_option maxRecDepth 20000
set_option maxHeartbeats 1000000
namespace Go.Proofs.YtppeponndkfbkaaGreat
open Go Go.Ae
def Emc:Env:=En [(156,.p textS),(138,.p textS)]
theorem Emcok:EnvOk Tryz.prog Emc:=Enk ⟨text_ok,rdigits_ok,trivial⟩ trivial
theorem ratio_ok:Snd Tryz.prog 128 ratioS:=by
 refine snd_of Emcok Dok Tryz.func128 (enters_of Tryz.func128 (by kernel_rfl) rfl) (fun _=>rfl) (fun _=>rfl) ?_
 intro ⟨n,d⟩ hp
 have hp:n.natAbs < 72057594037927936∧d≠0∧d < 72057594037927936:=hp
 obtain ⟨g,hg⟩:∃ g,g=Int.gcd n d:=⟨_,rfl⟩
 obtain ⟨hd1,hd2,hg0⟩:=div_self_gcd hp.2.1 hg
 have hgd:g≤d:=by
  have h3:=Nat.div_le_self d g
  rcases Nat.lt_or_ge d g with h | h
  ·rw [Nat.div_eq_of_lt h] at hd2; omega
  ·exact h
 have fin:∀ v:Value,v=encQ (mkRat n d)→v=ratioS.val (n,d):=fun v h=>h
 conv=>whnf
 refine .inl ⟨fun mm tz hz=>∃ (a:Int) (b:Int),Pat (some (.int .i64 n)::some (.int .i64 d)::nos 2 (some (.pointer (some ⟨0,0,none⟩))::some (.int .i64 a)::some (.int .i64 b)::nos 36 [])) tz∧hz=[some (.expl true 3 [[.bool false,.string ⟨#[]⟩,.string ⟨#[]⟩]])]∧b.natAbs=mm∧(((-72057594037927936 < a∧a < 72057594037927936)∧-72057594037927936 < b∧b < 72057594037927936)∧Int.gcd a b=g),.inr ⟨[0],[0,1,4,5,6],?_⟩,?_⟩
 ·conv=>whnf
  intro _
  conv=>whnf
  refine ⟨_,n,d,(.keep (.keep (.sk 2 (.keep (.keep (.keep (.sk 36 .nil rfl)))) rfl))),rfl,rfl,?_⟩
  exact ⟨⟨⟨by omega,by omega⟩,by omega,by omega⟩,hg.symm⟩
 rintro mm tms _ ⟨a,b,hpat,rfl,rfl,⟨hab,he⟩⟩
 obtain ⟨az,rfl⟩:∃ az:Nat→Value,tms=.int .i64 n::.int .i64 d::zs az 2 2 (.pointer (some ⟨0,0,none⟩)::.int .i64 a::.int .i64 b::zs az 7 36 []):=pat_fill hpat
 clear hpat
 conv=>whnf
 refine br_intro (fun h1=>?_) (fun h1=>?_)
 ·have h1:b≠0:=by
   intro e
   subst e
   simp at h1
  have hlt:(Int.tmod a b).natAbs < b.natAbs:=by
   rw [Int.natAbs_tmod]; exact Nat.mod_lt _ (by omega)
  obtain ⟨r,hr⟩:∃ r,r=Int.tmod a b:=⟨_,rfl⟩
  rw [← hr] at hlt
  conv=>whnf
  refine .inl ⟨5,[[],[],[],[1,2],[0,1],[0,1,2,3,4]],by kernel_rfl,?_⟩
  conv=>whnf
  rw [show decide (b≠0)=true from decide_eq_true h1]
  conv=>whnf
  rw [← hr]
  refine .inr ⟨[0],[0,1,4,5,6],?_⟩
  conv=>whnf
  intro _
  conv=>whnf
  refine ⟨_,?_,b,r,(.keep (.keep (.sk 2 (.keep (.keep (.keep (.sk 36 .nil rfl)))) rfl))),rfl,rfl,?_⟩
  ·exact hlt
  ·exact ⟨⟨hab.2,by omega,by omega⟩,by rw [hr,gcd_step]; exact he⟩
 ·have h1:b=0:=by simpa using h1
  subst h1
  have he:a.natAbs=g:=by rw [← he,Int.gcd_zero_right]
  have em:=max_neg a hab.1
  rw [he] at em
  have en:=max_neg n (by omega)
  obtain ⟨N,hN⟩:∃ N,N=n.natAbs:=⟨_,rfl⟩
  rw [← hN] at en
  conv=>whnf
  rw [em]
  by_cases h2:n=0
  ·subst h2
   conv=>whnf
   exact fin _ (encQ_zero d).symm
  ·refine br_intro (fun h=>absurd (by simpa using h) h2) (fun _=>?_)
   have eq:=encQ_mk h2 hp.2.1 hg
   rw [← hN] at eq
   have ed:=tdiv_wrap (a:=N) (g:=g) (by omega)
   have ed2:=tdiv_wrap (a:=d) (g:=g) hp.2.2
   obtain ⟨x,hx⟩:∃ x,x=nb (N / g):=⟨_,rfl⟩
   obtain ⟨y,hy⟩:∃ y,y=nb (d / g):=⟨_,rfl⟩
   have ex:textS.val (N / g)=.string x:=by rw [hx]; rfl
   have ey:textS.val (d / g)=.string y:=by rw [hy]; rfl
   rw [← hx] at eq
   conv=>whnf
   rw [en,show decide (((g:Nat):Int)≠0)=true from decide_eq_true (by omega)]
   conv=>whnf
   rw [ed]
   refine ⟨N / g,rfl,by show N / g < _; exact Nat.lt_of_le_of_lt (Nat.div_le_self _ _) (by omega),?_⟩
   rw [ex]
   conv=>whnf
   refine br_intro (fun h3=>?_) (fun h3=>?_)
   ·have h3:d≠g:=by
     intro e
     rw [e] at h3
     simp at h3
    have e4:denS (d / g)=y:=by
     rw [hy]; unfold denS; rw [if_neg (fun h=>h3 (hd1.1 h))]
    rw [e4] at eq
    conv=>whnf
    rw [show decide (((g:Nat):Int)≠0)=true from decide_eq_true (by omega)]
    conv=>whnf
    rw [ed2]
    refine ⟨d / g,rfl,by show d / g < _; exact Nat.lt_of_le_of_lt (Nat.div_le_self _ _) hp.2.2,?_⟩
    rw [ey]
    conv=>whnf
    exact fin _ eq.symm
   ·have h3:d=g:=by
     have:((d:Nat):Int)=g:=by simpa using h3
     omega
    have e4:denS (d / g)=⟨#[]⟩:=by unfold denS; rw [if_pos (hd1.2 h3)]
    rw [e4] at eq
    conv=>whnf
    exact fin _ eq.symm
theorem pack_ok2:Snd Tryz.prog 95 ratioS:=by
 refine snd_of Emcok Dok Tryz.func95 (enters_of Tryz.func95 (by kernel_rfl) rfl) (fun _=>rfl) (fun _=>rfl) ?_
 intro ⟨n,d⟩ hp
 have hp:n.natAbs < 72057594037927936∧d≠0∧d < 72057594037927936:=hp
 obtain ⟨g,hg⟩:∃ g,g=Int.gcd n d:=⟨_,rfl⟩
 obtain ⟨hd1,hd2,hg0⟩:=div_self_gcd hp.2.1 hg
 have fin:∀ v:Value,v=encQ (mkRat n d)→v=ratioS.val (n,d):=fun v h=>h
 obtain ⟨N,hN⟩:∃ N,N=n.natAbs:=⟨_,rfl⟩
 obtain ⟨B,hB⟩:∃ B,B=decide (n < 0):=⟨_,rfl⟩
 have ed:=tdiv_wrap (a:=N) (g:=g) (by omega)
 have ed2:=tdiv_wrap (a:=d) (g:=g) hp.2.2
 obtain ⟨x,hx⟩:∃ x,x=nb (N / g):=⟨_,rfl⟩
 obtain ⟨y,hy⟩:∃ y,y=nb (d / g):=⟨_,rfl⟩
 have ex:textS.val (N / g)=.string x:=by rw [hx]; rfl
 have ey:textS.val (d / g)=.string y:=by rw [hy]; rfl
 conv=>whnf
 refine br_intro (fun h1=>?_) (fun h1=>?_)
 ·have h1':=of_decide_eq_true h1
  have h1':n < 0:=h1'
  have e0:IntKind.i64.wrap (0 - n)=(N:Int):=by rw [wrapi64 (by omega) (by omega)]; omega
  have h2:n≠0:=by omega
  have eq:=encQ_mk h2 hp.2.1 hg
  rw [← hN,← hx,← hB] at eq
  conv=>whnf
  rw [show decide ((n,d).fst < 0)=B from hB.symm]
  rw [show IntKind.i64.wrap (0 - (n,d).fst)=(N:Int) from e0]
  refine br_intro (fun h=>absurd (by simpa using h) (show N≠0 by omega)) (fun _=>?_)
  conv=>whnf
  refine .inl ⟨fun mm tz hz=>∃ (a:Nat) (b:Nat),Pat (some (.int .i64 N)::some (.int .i64 d)::nos 2 (some (.pointer (some ⟨0,0,none⟩))::some (.pointer (some ⟨1,0,none⟩))::some (.int .i64 a)::some (.int .i64 b)::nos 33 [])) tz∧hz=[some (.expl true 3 [[.bool false,.string ⟨#[]⟩,.string ⟨#[]⟩]]),some (.expl true 3 [[.bool B,.string ⟨#[]⟩,.string ⟨#[]⟩]])]∧b=mm∧((a < 72057594037927936∧b < 72057594037927936)∧Nat.gcd a b=g),.inr ⟨[0,1],[0,1,4,5,6,7],?_⟩,?_⟩
  ·conv=>whnf
   intro _
   conv=>whnf
   refine ⟨_,N,d,(.keep (.keep (.sk 2 (.keep (.keep (.keep (.keep (.sk 33 .nil rfl))))) rfl))),rfl,rfl,?_⟩
   exact ⟨⟨by omega,by omega⟩,by rw [hg,hN]; rfl⟩
  rintro mm tms _ ⟨a,b,hpat,rfl,rfl,⟨hab,he⟩⟩
  obtain ⟨az,rfl⟩:∃ az:Nat→Value,tms=.int .i64 N::.int .i64 d::zs az 2 2 (.pointer (some ⟨0,0,none⟩)::.pointer (some ⟨1,0,none⟩)::.int .i64 a::.int .i64 b::zs az 8 33 []):=pat_fill hpat
  clear hpat
  conv=>whnf
  refine br_intro (fun h1=>?_) (fun h1=>?_)
  ·have h1:0 < b:=by
    have:=of_decide_eq_true h1
    omega
   have hlt:=Nat.mod_lt a h1
   conv=>whnf
   refine .inl ⟨5,[[],[],[],[1,2],[0,1],[0,1,2,3,4]],by kernel_rfl,?_⟩
   conv=>whnf
   rw [show decide (((b:Nat):Int)≠0)=true from decide_eq_true (by omega)]
   conv=>whnf
   rw [show Int.tmod ((a:Nat):Int) ((b:Nat):Int)=((a % b:Nat):Int) from rfl]
   refine .inr ⟨[0,1],[0,1,4,5,6,7],?_⟩
   conv=>whnf
   intro _
   conv=>whnf
   refine ⟨_,?_,b,a % b,(.keep (.keep (.sk 2 (.keep (.keep (.keep (.keep (.sk 33 .nil rfl))))) rfl))),rfl,rfl,?_⟩
   ·exact hlt
   ·exact ⟨⟨hab.2,by omega⟩,by rw [Nat.gcd_comm,← Nat.gcd_rec,Nat.gcd_comm]; exact he⟩
  ·have h1:b=0:=by
    have:=of_decide_eq_false h1
    omega
   subst h1
   obtain rfl:a=g:=by rw [← he,Nat.gcd_zero_right]
   conv=>whnf
   rw [show decide (((a:Nat):Int)≠0)=true from decide_eq_true (by omega)]
   conv=>whnf
   rw [ed]
   refine ⟨N / a,rfl,by show N / a < _; exact Nat.lt_of_le_of_lt (Nat.div_le_self _ _) (by omega),?_⟩
   rw [ex]
   conv=>whnf
   rw [show decide (((a:Nat):Int)≠0)=true from decide_eq_true (by omega)]
   obtain ⟨q,hq⟩:∃ q,q=d / a:=⟨_,rfl⟩
   rw [← hq] at ed2 ey eq hd1 hd2 hy
   conv=>whnf
   rw [ed2]
   refine br_intro (fun h3=>?_) (fun h3=>?_)
   ·have h3:q≠1:=by
     have:=of_decide_eq_true h3
     omega
    have e4:denS q=y:=by
     rw [hy]; unfold denS; rw [if_neg h3]
    rw [e4] at eq
    conv=>whnf
    rw [show decide (((a:Nat):Int)≠0)=true from decide_eq_true (by omega)]
    conv=>whnf
    rw [ed2]
    refine ⟨q,rfl,by show q < _; rw [hq]; exact Nat.lt_of_le_of_lt (Nat.div_le_self _ _) hp.2.2,?_⟩
    rw [ey]
    conv=>whnf
    exact fin _ eq.symm
   ·have h3:q=1:=by
     have:=of_decide_eq_false h3
     omega
    have e4:denS q=⟨#[]⟩:=by unfold denS; rw [if_pos h3]
    rw [e4] at eq
    conv=>whnf
    exact fin _ eq.symm
 ·have h1':=of_decide_eq_false h1
  have h1':¬ n < 0:=h1'
  have e0:n=(N:Int):=by omega
  by_cases h2:n=0
  ·subst h2
   conv=>whnf
   exact fin _ (encQ_zero d).symm
  ·have eq:=encQ_mk h2 hp.2.1 hg
   rw [← hN,← hx,← hB] at eq
   conv=>whnf
   rw [show decide ((n,d).fst < 0)=B from hB.symm]
   refine br_intro (fun h=>absurd (by simpa using h) h2) (fun _=>?_)
   conv=>whnf
   rw [show (n,d).fst=(N:Int) from e0]
   refine .inl ⟨fun mm tz hz=>∃ (a:Nat) (b:Nat),Pat (some (.int .i64 N)::some (.int .i64 d)::nos 2 (some (.pointer (some ⟨0,0,none⟩))::some (.pointer (some ⟨1,0,none⟩))::some (.int .i64 a)::some (.int .i64 b)::nos 33 [])) tz∧hz=[some (.expl true 3 [[.bool false,.string ⟨#[]⟩,.string ⟨#[]⟩]]),some (.expl true 3 [[.bool B,.string ⟨#[]⟩,.string ⟨#[]⟩]])]∧b=mm∧((a < 72057594037927936∧b < 72057594037927936)∧Nat.gcd a b=g),.inr ⟨[0,1],[0,1,4,5,6,7],?_⟩,?_⟩
   ·conv=>whnf
    intro _
    conv=>whnf
    refine ⟨_,N,d,(.keep (.keep (.sk 2 (.keep (.keep (.keep (.keep (.sk 33 .nil rfl))))) rfl))),rfl,rfl,?_⟩
    exact ⟨⟨by omega,by omega⟩,by rw [hg,hN]; rfl⟩
   rintro mm tms _ ⟨a,b,hpat,rfl,rfl,⟨hab,he⟩⟩
   obtain ⟨az,rfl⟩:∃ az:Nat→Value,tms=.int .i64 N::.int .i64 d::zs az 2 2 (.pointer (some ⟨0,0,none⟩)::.pointer (some ⟨1,0,none⟩)::.int .i64 a::.int .i64 b::zs az 8 33 []):=pat_fill hpat
   clear hpat
   conv=>whnf
   refine br_intro (fun h1=>?_) (fun h1=>?_)
   ·have h1:0 < b:=by
     have:=of_decide_eq_true h1
     omega
    have hlt:=Nat.mod_lt a h1
    conv=>whnf
    refine .inl ⟨5,[[],[],[],[1,2],[0,1],[0,1,2,3,4]],by kernel_rfl,?_⟩
    conv=>whnf
    rw [show decide (((b:Nat):Int)≠0)=true from decide_eq_true (by omega)]
    conv=>whnf
    rw [show Int.tmod ((a:Nat):Int) ((b:Nat):Int)=((a % b:Nat):Int) from rfl]
    refine .inr ⟨[0,1],[0,1,4,5,6,7],?_⟩
    conv=>whnf
    intro _
    conv=>whnf
    refine ⟨_,?_,b,a % b,(.keep (.keep (.sk 2 (.keep (.keep (.keep (.keep (.sk 33 .nil rfl))))) rfl))),rfl,rfl,?_⟩
    ·exact hlt
    ·exact ⟨⟨hab.2,by omega⟩,by rw [Nat.gcd_comm,← Nat.gcd_rec,Nat.gcd_comm]; exact he⟩
   ·have h1:b=0:=by
     have:=of_decide_eq_false h1
     omega
    subst h1
    obtain rfl:a=g:=by rw [← he,Nat.gcd_zero_right]
    conv=>whnf
    rw [show decide (((a:Nat):Int)≠0)=true from decide_eq_true (by omega)]
    conv=>whnf
    rw [ed]
    refine ⟨N / a,rfl,by show N / a < _; exact Nat.lt_of_le_of_lt (Nat.div_le_self _ _) (by omega),?_⟩
    rw [ex]
    conv=>whnf
    rw [show decide (((a:Nat):Int)≠0)=true from decide_eq_true (by omega)]
    obtain ⟨q,hq⟩:∃ q,q=d / a:=⟨_,rfl⟩
    rw [← hq] at ed2 ey eq hd1 hd2 hy
    conv=>whnf
    rw [ed2]
    refine br_intro (fun h3=>?_) (fun h3=>?_)
    ·have h3:q≠1:=by
      have:=of_decide_eq_true h3
      omega
     have e4:denS q=y:=by
      rw [hy]; unfold denS; rw [if_neg h3]
     rw [e4] at eq
     conv=>whnf
     rw [show decide (((a:Nat):Int)≠0)=true from decide_eq_true (by omega)]
     conv=>whnf
     rw [ed2]
     refine ⟨q,rfl,by show q < _; rw [hq]; exact Nat.lt_of_le_of_lt (Nat.div_le_self _ _) hp.2.2,?_⟩
     rw [ey]
     conv=>whnf
     exact fin _ eq.symm
    ·have h3:q=1:=by
      have:=of_decide_eq_false h3
      omega
     have e4:denS q=⟨#[]⟩:=by unfold denS; rw [if_pos h3]
     rw [e4] at eq
     conv=>whnf
     exact fin _ eq.symm
end Go.Proofs.YtppeponndkfbkaaGreat
/- Contracts of rational: fractions in lowest terms. -/
set_option maxRecDepth 20000
set_option maxHeartbeats 1000000
namespace Go.Proofs.YtppeponndkfbkaaGreat
open Go Go.Ae
def Emd:Env:=En [(81,.p ofS),(88,.p cmpS)]
theorem Emdok:EnvOk Tryz.prog Emd:=Enk ⟨of_ok,cmp_ok,trivial⟩ trivial
theorem is_ok:Snd Tryz.prog 117 isS:=by
 refine snd_of Emdok Dok Tryz.func117 (enters_of Tryz.func117 (by kernel_rfl) rfl) (fun _=>rfl) (fun _=>rfl) ?_
 intro ⟨⟨b,s⟩,n⟩ hp
 have hp:s.size≤549755813888∧-9223372036854775808≤n∧n < 9223372036854775808:=hp
 obtain ⟨V,m,hV⟩:=EI.mk' n
 have hm:m.size≤549755813888:=by
  rw [hV.size]
  have:=nby_i64 hp.2
  omega
 obtain ⟨q,hq⟩:∃ q,q=cmpZ (IV.z (b,s)) n:=⟨_,rfl⟩
 conv=>whnf
 refine .inl ⟨3,[[],[],[1],[0,1,2],[0,1,2,3],[0,1,2,3,4]],by kernel_rfl,?_⟩
 conv=>whnf
 refine ⟨n,rfl,⟨by omega,by omega⟩,?_⟩
 rw [show ofS.val n=.agg ⟨[.bool V,.string m]⟩ from hV.enc]
 conv=>whnf
 refine ⟨((b,s),(V,m)),rfl,⟨hp.1,hm⟩,?_⟩
 rw [show cmpS.val ((b,s),(V,m))=.int .i64 q from by show Value.int .i64 (cmpZ (IV.z (b,s)) (IV.z (V,m)))=_; rw [hV.val,hq]]
 conv=>whnf
 show Value.bool (q == 0)=Value.bool (decide (IV.z (b,s)=n))
 congr 1
 rw [hq]
 unfold cmpZ
 split
 ·rw [decide_eq_false (by omega)]; rfl
 ·split
  ·rw [decide_eq_false (by omega)]; rfl
  ·rw [decide_eq_true (by omega)]; rfl
theorem integer_ok:Snd Tryz.prog 120 integerS:=by
 refine snd_of E0ok Dok Tryz.func120 (enters_of Tryz.func120 (by kernel_rfl) rfl) (fun _=>rfl) (fun _=>rfl) ?_
 intro ⟨b,s⟩ _
 conv=>whnf
 rfl
def Eme:Env:=En [(81,.p ofS),(117,.p isS),(120,.p integerS)]
theorem Emeok:EnvOk Tryz.prog Eme:=Enk ⟨of_ok,is_ok,integer_ok,trivial⟩ trivial
theorem ofR_ok:Snd Tryz.prog 84 ofRS:=by
 refine snd_of Emeok Dok Tryz.func84 (enters_of Tryz.func84 (by kernel_rfl) rfl) (fun _=>rfl) (fun _=>rfl) ?_
 intro ⟨b,s,t⟩ hp
 have hp:t.size≤549755813888:=hp
 conv=>whnf
 refine .inl ⟨10,[[],[0],[],[2],[0,1,2,3],[],[5],[0,1,2,3,4,5,6],[0,1,2,3,4,5,6,7],[],[0,1,2,3,4,5,6,7,8,9]],by kernel_rfl,?_⟩
 conv=>whnf
 refine ⟨(b,s),rfl,trivial,?_⟩
 conv=>whnf
 refine ⟨(false,t),rfl,trivial,?_⟩
 conv=>whnf
 refine ⟨((false,t),0),rfl,⟨hp,r0⟩,?_⟩
 by_cases h:bnat t=0
 ·rw [show isS.val ((false,t),0)=.bool true from by
   show Value.bool (decide (((bnat t:Nat):Int)=0))=_
   rw [h]; rfl]
  obtain ⟨v,hv⟩:∃ v,v=nb 1:=⟨_,rfl⟩
  conv=>whnf
  refine ⟨(1:Int),rfl,r1,?_⟩
  rw [show ofS.val (1:Int)=.agg ⟨[.bool false,.string v]⟩ from by rw [hv]; rfl]
  conv=>whnf
  show Value.agg ⟨[.bool b,.string s,.bool false,.string v]⟩=fracV (b,s) (false,RV.den (b,s,t))
  unfold RV.den
  rw [if_pos h,← hv]
  rfl
 ·rw [show isS.val ((false,t),0)=.bool false from by
   show Value.bool (decide (((bnat t:Nat):Int)=0))=_
   rw [decide_eq_false (by omega)]]
  conv=>whnf
  show Value.agg ⟨[.bool b,.string s,.bool false,.string t]⟩=fracV (b,s) (false,RV.den (b,s,t))
  unfold RV.den
  rw [if_neg h]
  rfl
def Emf:Env:=En [(117,.p isS),(118,.p gcdS),(119,.p divS)]
theorem Emfok:EnvOk Tryz.prog Emf:=Enk ⟨is_ok,gcd_ok,div_ok,trivial⟩ trivial
theorem number_ok:Snd Tryz.prog 82 numberS:=by
 refine snd_of Emfok Dok Tryz.func82 (enters_of Tryz.func82 (by kernel_rfl) rfl) (fun _=>rfl) (fun _=>rfl) ?_
 intro ⟨⟨b,s⟩,⟨c,t⟩⟩ hp
 have hp:s.size≤549755813888∧t.size≤549755813888∧0 < IV.z (c,t):=hp
 obtain ⟨x,hx⟩:∃ x,x=IV.z (b,s):=⟨_,rfl⟩
 obtain ⟨d,hd⟩:∃ d,d=(IV.z (c,t)).natAbs:=⟨_,rfl⟩
 have hd2:IV.z (c,t)=((d:Nat):Int):=by omega
 have hd0:d≠0:=by omega
 obtain ⟨q,hq⟩:∃ q,q=mkRat x d:=⟨_,rfl⟩
 have fin:∀ v:Value,v=encQ q→v=numberS.val ((b,s),(c,t)):=fun v h=>by rw [h,hq,hx,hd]; rfl
 conv=>whnf
 refine ⟨((b,s),0),rfl,⟨hp.1,r0⟩,?_⟩
 rw [show isS.val ((b,s),0)=.bool (decide (x=0)) from by rw [hx]; rfl]
 by_cases h1:x=0
 ·rw [decide_eq_true h1]
  conv=>whnf
  exact fin _ (by rw [hq,h1]; exact (encQ_zero d).symm)
 ·rw [decide_eq_false h1]
  obtain ⟨g,hg⟩:∃ g,g=Int.gcd x d:=⟨_,rfl⟩
  obtain ⟨gs,hgs⟩:=EI.nonneg (show 0≤((g:Nat):Int) by omega)
  obtain ⟨qb,qs,hn⟩:=EI.mk' q.num
  obtain ⟨es,he⟩:=EI.nonneg (show 0≤((q.den:Nat):Int) by omega)
  have hg0:((g:Nat):Int)≠0:=by
   have:0 < g:=by rw [hg]; exact Int.gcd_pos_of_ne_zero_left _ h1
   omega
  have hgle:g≤d:=by
   have h3:=(div_self_gcd hd0 hg).2.1
   rcases Nat.lt_or_ge d g with h | h
   ·rw [Nat.div_eq_of_lt h] at h3; omega
   ·exact h
  have hds:nby d≤549755813888:=by rw [hd]; exact IV.nby (i:=(c,t)) hp.2.1
  have gsz:gs.size≤549755813888:=by
   rw [hgs.size,Int.natAbs_natCast]
   exact Nat.le_trans (nby_mono hgle) hds
  have esz:es.size≤549755813888:=by
   rw [he.size,Int.natAbs_natCast]
   exact Nat.le_trans (nby_mono (by rw [hq]; exact den_le x hd0)) hds
  have hqn:x.fdiv ((g:Nat):Int)=q.num:=by rw [hg,hq]; exact mk_num x hd0
  have hqd:((d:Nat):Int).fdiv ((g:Nat):Int)=((q.den:Nat):Int):=by rw [hg,hq]; exact mk_den x hd0
  conv=>whnf
  refine ⟨((b,s),(c,t)),rfl,⟨hp.1,hp.2.1⟩,?_⟩
  rw [show gcdS.val ((b,s),(c,t))=.agg ⟨[.bool false,.string gs]⟩ from by
   show encI ((Int.gcd (IV.z (b,s)) (IV.z (c,t)):Nat):Int)=_
   rw [← hx,hd2,← hg,hgs.enc]]
  conv=>whnf
  obtain ⟨fb,fs,hf⟩:=EI.mk' (x.fmod ((g:Nat):Int))
  refine ⟨((b,s),(false,gs)),rfl,⟨hp.1,gsz⟩,?_⟩
  rw [show divS.val ((b,s),(false,gs))=.tuple ⟨[.agg ⟨[.bool qb,.string qs]⟩,.agg ⟨[.bool fb,.string fs]⟩,.int .i64 0]⟩ from by
   simp only [divS,hgs.val,if_neg hg0]
   rw [← hx,hqn,hn.enc,hf.enc]]
  conv=>whnf
  obtain ⟨kb,ks,hk⟩:=EI.mk' (((d:Nat):Int).fmod ((g:Nat):Int))
  refine ⟨((c,t),(false,gs)),rfl,⟨hp.2.1,gsz⟩,?_⟩
  rw [show divS.val ((c,t),(false,gs))=.tuple ⟨[.agg ⟨[.bool false,.string es]⟩,.agg ⟨[.bool kb,.string ks]⟩,.int .i64 0]⟩ from by
   simp only [divS,hgs.val,if_neg hg0,hd2]
   rw [hqd,he.enc,hk.enc]]
  conv=>whnf
  refine ⟨((false,es),1),rfl,⟨esz,r1⟩,?_⟩
  rw [show isS.val ((false,es),1)=.bool (decide (((q.den:Nat):Int)=1)) from by
   show Value.bool (decide (IV.z (false,es)=1))=_
   rw [he.val]]
  have enc:∀ y,denS q.den=y→Value.agg ⟨[.bool qb,.string qs,.string y]⟩=encQ q:=fun y hy=>by
   unfold encQ
   rw [← hn.mag,← hn.sign,hy]
  by_cases h2:q.den=1
  ·rw [decide_eq_true (by omega)]
   conv=>whnf
   exact fin _ (enc _ (by unfold denS; rw [if_pos h2]))
  ·rw [decide_eq_false (by omega)]
   conv=>whnf
   exact fin _ (enc _ (by unfold denS; rw [if_neg h2,he.mag,Int.natAbs_natCast]))
end Go.Proofs.YtppeponndkfbkaaGreat
/- Contracts of rational: what is made of small numbers, and of large ones. -/
set_option maxRecDepth 20000
set_option maxHeartbeats 1000000
namespace Go.Proofs.YtppeponndkfbkaaGreat
open Go Go.Ae
def Emg:Env:=En [(128,.p ratioS)]
theorem Emgok:EnvOk Tryz.prog Emg:=Enk ⟨ratio_ok,trivial⟩ trivial
theorem add1_ok:Snd Tryz.prog 130 add1S:=by
 refine snd_of Emgok Dok Tryz.func130 (enters_of Tryz.func130 (by kernel_rfl) rfl) (fun _=>rfl) (fun _=>rfl) ?_
 intro ⟨⟨n,d⟩,⟨m,e⟩⟩ hp
 obtain ⟨h1,h2,h3,h4⟩:=I4.bounds hp
 simp only at h1 h2 h3 h4
 obtain ⟨x,hx⟩:∃ x,x=n*(e:Int):=⟨_,rfl⟩
 obtain ⟨y,hy⟩:∃ y,y=m*(d:Int):=⟨_,rfl⟩
 obtain ⟨k,hk⟩:∃ k,k=d*e:=⟨_,rfl⟩
 rw [← hx] at h1
 rw [← hy] at h2
 rw [← hk] at h4
 have e1:IntKind.i64.wrap (IntKind.i64.wrap (n*(e:Int))+IntKind.i64.wrap (m*(d:Int)))=x+y:=by
  rw [← hx,← hy,wrapi64 (x:=x) (by omega) (by omega),wrapi64 (x:=y) (by omega) (by omega),wrapi64 (by omega) (by omega)]
 have e2:IntKind.i64.wrap ((d:Int)*(e:Int))=(k:Int):=by
  rw [← Int.natCast_mul,← hk,wrapi64 (by omega) (by omega)]
 conv=>whnf
 rw [show IntKind.i64.wrap (IntKind.i64.wrap (((n,d),m,e).fst.fst*(((n,d),m,e).snd.snd:Int))+IntKind.i64.wrap (((n,d),m,e).snd.fst*(((n,d),m,e).fst.snd:Int)))=x+y from e1]
 rw [show IntKind.i64.wrap ((((n,d),m,e).fst.snd:Int)*(((n,d),m,e).snd.snd:Int))=(k:Int) from e2]
 refine ⟨(x+y,k),rfl,⟨by show (x+y).natAbs < _; omega,by show k≠0; omega,by show k < _; omega⟩,?_⟩
 obtain ⟨v,hv⟩:∃ v,v=mkRat (x+y) k:=⟨_,rfl⟩
 rw [show ratioS.val (x+y,k)=(RV.of v).v from by rw [hv]; rfl]
 conv=>whnf
 show (RV.of v).v=encQ (mkRat (n*e+m*d) (d*e))
 rw [hv,hx,hy,hk]
 rfl
theorem mul1_ok:Snd Tryz.prog 127 mul1S:=by
 refine snd_of Emgok Dok Tryz.func127 (enters_of Tryz.func127 (by kernel_rfl) rfl) (fun _=>rfl) (fun _=>rfl) ?_
 intro ⟨⟨n,d⟩,⟨m,e⟩⟩ hp
 obtain ⟨h1,h2,h3,h4⟩:=I4.bounds hp
 simp only at h1 h2 h3 h4
 obtain ⟨x,hx⟩:∃ x,x=n*m:=⟨_,rfl⟩
 obtain ⟨k,hk⟩:∃ k,k=d*e:=⟨_,rfl⟩
 rw [← hx] at h3
 rw [← hk] at h4
 have e1:IntKind.i64.wrap (n*m)=x:=by
  rw [← hx,wrapi64 (x:=x) (by omega) (by omega)]
 have e2:IntKind.i64.wrap ((d:Int)*(e:Int))=(k:Int):=by
  rw [← Int.natCast_mul,← hk,wrapi64 (by omega) (by omega)]
 conv=>whnf
 rw [show IntKind.i64.wrap (((n,d),m,e).fst.fst*((n,d),m,e).snd.fst)=x from e1]
 rw [show IntKind.i64.wrap ((((n,d),m,e).fst.snd:Int)*(((n,d),m,e).snd.snd:Int))=(k:Int) from e2]
 refine ⟨(x,k),rfl,⟨by show x.natAbs < _; omega,by show k≠0; omega,by show k < _; omega⟩,?_⟩
 obtain ⟨v,hv⟩:∃ v,v=mkRat x k:=⟨_,rfl⟩
 rw [show ratioS.val (x,k)=(RV.of v).v from by rw [hv]; rfl]
 conv=>whnf
 show (RV.of v).v=encQ (mkRat (n*m) (d*e))
 rw [hv,hx,hk]
 rfl
theorem cmp1_ok:Snd Tryz.prog 101 cmp1S:=by
 refine snd_of E0ok Dok Tryz.func101 (enters_of Tryz.func101 (by kernel_rfl) rfl) (fun _=>rfl) (fun _=>rfl) ?_
 intro ⟨⟨n,d⟩,⟨m,e⟩⟩ hp
 obtain ⟨h1,h2,h3,h4⟩:=I4.bounds hp
 simp only at h1 h2 h3 h4
 obtain ⟨x,hx⟩:∃ x,x=n*(e:Int):=⟨_,rfl⟩
 obtain ⟨y,hy⟩:∃ y,y=m*(d:Int):=⟨_,rfl⟩
 rw [← hx] at h1
 rw [← hy] at h2
 have e1:IntKind.i64.wrap (n*(e:Int))=x:=by rw [← hx,wrapi64 (x:=x) (by omega) (by omega)]
 have e2:IntKind.i64.wrap (m*(d:Int))=y:=by rw [← hy,wrapi64 (x:=y) (by omega) (by omega)]
 have fin:∀ z:Int,z=cmpZ x y→Value.int .i64 z=cmp1S.val ((n,d),(m,e)):=fun z h=>by rw [h,hx,hy]; rfl
 conv=>whnf
 rw [show IntKind.i64.wrap (((n,d),m,e).fst.fst*(((n,d),m,e).snd.snd:Int))=x from e1,show IntKind.i64.wrap (((n,d),m,e).snd.fst*(((n,d),m,e).fst.snd:Int))=y from e2]
 refine br_intro (fun h=>?_) (fun h=>?_)
 ·have h:=of_decide_eq_true h
  conv=>whnf
  exact fin _ (cmpZ_lt h).symm
 ·have h:=of_decide_eq_false h
  conv=>whnf
  refine br_intro (fun h5=>?_) (fun h5=>?_)
  ·have h5:=of_decide_eq_true h5
   conv=>whnf
   exact fin _ (cmpZ_gt h5).symm
  ·have h5:=of_decide_eq_false h5
   conv=>whnf
   refine fin _ ?_
   unfold cmpZ
   rw [if_neg h,if_neg (show ¬ y < x from h5)]
def Emh:Env:=En [(98,.p mulS),(132,.p addS),(88,.p cmpS),(82,.p numberS)]
theorem Emhok:EnvOk Tryz.prog Emh:=Enk ⟨mul_ok,add_ok,cmp_ok,number_ok,trivial⟩ trivial
theorem add2_ok:Snd Tryz.prog 131 add2S:=by
 refine snd_of Emhok Dok Tryz.func131 (enters_of Tryz.func131 (by kernel_rfl) rfl) (fun _=>rfl) (fun _=>rfl) ?_
 intro ⟨⟨⟨b,s⟩,⟨c,t⟩⟩,⟨⟨b',s'⟩,⟨c',t'⟩⟩⟩ hp
 have hp:((s.size≤17179869184∧t.size≤17179869184)∧0 < IV.z (c,t))∧(s'.size≤17179869184∧t'.size≤17179869184)∧0 < IV.z (c',t'):=hp
 obtain ⟨⟨⟨hs,ht⟩,hd⟩,⟨hs',ht'⟩,hd'⟩:=hp
 obtain ⟨B1,m1,h1⟩:=EI.mk' (IV.z (b,s)*IV.z (c',t'))
 obtain ⟨B2,m2,h2⟩:=EI.mk' (IV.z (b',s')*IV.z (c,t))
 obtain ⟨B3,m3,h3⟩:=EI.mk' (IV.z (b,s)*IV.z (c',t')+IV.z (b',s')*IV.z (c,t))
 obtain ⟨B4,m4,h4⟩:=EI.mk' (IV.z (c,t)*IV.z (c',t'))
 have z1:=h1.mul_size (nby_z hs) (nby_z ht')
 have z2:=h2.mul_size (nby_z hs') (nby_z ht)
 have z4:=h4.mul_size (nby_z ht) (nby_z ht')
 have z3:m3.size≤34359738369:=h3.add_size (by rw [← h1.size]; omega) (by rw [← h2.size]; omega)
 have hpos:=Int.mul_pos hd hd'
 conv=>whnf
 refine .inl ⟨15,[[],[0],[],[2],[0,1,2,3],[],[5],[],[7],[0,1,2,3,4,5,6,7,8],[0,1,2,3,4,5,6,7,8,9],[],[11],[],[13],[0,1,2,3,4,5,6,7,8,9,10,11,12,13,14],[0,1,2,3,4,5,6,7,8,9,10,11,12,13,14,15],[0,1,2,3,4,5,6,7,8,9,10,11,12,13,14,15,16],[0,1,2,3,4,5,6,7,8,9,10,11,12,13,14,15,16,17]],by kernel_rfl,?_⟩
 conv=>whnf
 refine ⟨((b,s),(c',t')),rfl,⟨by show s.size≤_; omega,by show t'.size≤_; omega⟩,?_⟩
 rw [show mulS.val ((b,s),(c',t'))=.agg ⟨[.bool B1,.string m1]⟩ from h1.enc]
 conv=>whnf
 refine ⟨((b',s'),(c,t)),rfl,⟨by show s'.size≤_; omega,by show t.size≤_; omega⟩,?_⟩
 rw [show mulS.val ((b',s'),(c,t))=.agg ⟨[.bool B2,.string m2]⟩ from h2.enc]
 conv=>whnf
 refine ⟨((B1,m1),(B2,m2)),rfl,⟨by show m1.size≤_; omega,by show m2.size≤_; omega⟩,?_⟩
 rw [show addS.val ((B1,m1),(B2,m2))=.agg ⟨[.bool B3,.string m3]⟩ from by
  show encI (IV.z (B1,m1)+IV.z (B2,m2))=_
  rw [h1.val,h2.val,h3.enc]]
 conv=>whnf
 refine ⟨((c,t),(c',t')),rfl,⟨by show t.size≤_; omega,by show t'.size≤_; omega⟩,?_⟩
 rw [show mulS.val ((c,t),(c',t'))=.agg ⟨[.bool B4,.string m4]⟩ from h4.enc]
 conv=>whnf
 refine ⟨((B3,m3),(B4,m4)),rfl,⟨by show m3.size≤_; omega,by show m4.size≤_; omega,by show 0 < IV.z (B4,m4); rw [h4.val]; exact hpos⟩,?_⟩
 obtain ⟨v,hv⟩:∃ v,v=mkRat (IV.z (B3,m3)) (IV.z (B4,m4)).natAbs:=⟨_,rfl⟩
 rw [show numberS.val ((B3,m3),(B4,m4))=(RV.of v).v from by rw [hv]; rfl]
 rw [h3.val,h4.val] at hv
 conv=>whnf
 show (RV.of v).v=encQ _
 rw [hv]
 rfl
theorem mul2_ok:Snd Tryz.prog 129 mul2S:=by
 refine snd_of Emhok Dok Tryz.func129 (enters_of Tryz.func129 (by kernel_rfl) rfl) (fun _=>rfl) (fun _=>rfl) ?_
 intro ⟨⟨⟨b,s⟩,⟨c,t⟩⟩,⟨⟨b',s'⟩,⟨c',t'⟩⟩⟩ hp
 have hp:((s.size≤17179869184∧t.size≤17179869184)∧0 < IV.z (c,t))∧(s'.size≤17179869184∧t'.size≤17179869184)∧0 < IV.z (c',t'):=hp
 obtain ⟨⟨⟨hs,ht⟩,hd⟩,⟨hs',ht'⟩,hd'⟩:=hp
 obtain ⟨B3,m3,h3⟩:=EI.mk' (IV.z (b,s)*IV.z (b',s'))
 obtain ⟨B4,m4,h4⟩:=EI.mk' (IV.z (c,t)*IV.z (c',t'))
 have z3:=h3.mul_size (nby_z hs) (nby_z hs')
 have z4:=h4.mul_size (nby_z ht) (nby_z ht')
 have hpos:=Int.mul_pos hd hd'
 conv=>whnf
 refine .inl ⟨9,[[],[0],[],[2],[0,1,2,3],[],[5],[],[7],[0,1,2,3,4,5,6,7,8],[0,1,2,3,4,5,6,7,8,9],[0,1,2,3,4,5,6,7,8,9,10],[0,1,2,3,4,5,6,7,8,9,10,11]],by kernel_rfl,?_⟩
 conv=>whnf
 refine ⟨((b,s),(b',s')),rfl,⟨by show s.size≤_; omega,by show s'.size≤_; omega⟩,?_⟩
 rw [show mulS.val ((b,s),(b',s'))=.agg ⟨[.bool B3,.string m3]⟩ from h3.enc]
 conv=>whnf
 refine ⟨((c,t),(c',t')),rfl,⟨by show t.size≤_; omega,by show t'.size≤_; omega⟩,?_⟩
 rw [show mulS.val ((c,t),(c',t'))=.agg ⟨[.bool B4,.string m4]⟩ from h4.enc]
 conv=>whnf
 refine ⟨((B3,m3),(B4,m4)),rfl,⟨by show m3.size≤_; omega,by show m4.size≤_; omega,by show 0 < IV.z (B4,m4); rw [h4.val]; exact hpos⟩,?_⟩
 obtain ⟨v,hv⟩:∃ v,v=mkRat (IV.z (B3,m3)) (IV.z (B4,m4)).natAbs:=⟨_,rfl⟩
 rw [show numberS.val ((B3,m3),(B4,m4))=(RV.of v).v from by rw [hv]; rfl]
 rw [h3.val,h4.val] at hv
 conv=>whnf
 show (RV.of v).v=encQ _
 rw [hv]
 rfl
theorem cmp2_ok:Snd Tryz.prog 102 cmp2S:=by
 refine snd_of Emhok Dok Tryz.func102 (enters_of Tryz.func102 (by kernel_rfl) rfl) (fun _=>rfl) (fun _=>rfl) ?_
 intro ⟨⟨⟨b,s⟩,⟨c,t⟩⟩,⟨⟨b',s'⟩,⟨c',t'⟩⟩⟩ hp
 have hp:((s.size≤17179869184∧t.size≤17179869184)∧0 < IV.z (c,t))∧(s'.size≤17179869184∧t'.size≤17179869184)∧0 < IV.z (c',t'):=hp
 obtain ⟨⟨⟨hs,ht⟩,hd⟩,⟨hs',ht'⟩,hd'⟩:=hp
 obtain ⟨B1,m1,h1⟩:=EI.mk' (IV.z (b,s)*IV.z (c',t'))
 obtain ⟨B2,m2,h2⟩:=EI.mk' (IV.z (b',s')*IV.z (c,t))
 have z1:=h1.mul_size (nby_z hs) (nby_z ht')
 have z2:=h2.mul_size (nby_z hs') (nby_z ht)
 obtain ⟨q,hq⟩:∃ q,q=cmpZ (IV.z (b,s)*IV.z (c',t')) (IV.z (b',s')*IV.z (c,t)):=⟨_,rfl⟩
 conv=>whnf
 refine .inl ⟨9,[[],[0],[],[2],[0,1,2,3],[],[5],[],[7],[0,1,2,3,4,5,6,7,8],[0,1,2,3,4,5,6,7,8,9],[0,1,2,3,4,5,6,7,8,9,10]],by kernel_rfl,?_⟩
 conv=>whnf
 refine ⟨((b,s),(c',t')),rfl,⟨by show s.size≤_; omega,by show t'.size≤_; omega⟩,?_⟩
 rw [show mulS.val ((b,s),(c',t'))=.agg ⟨[.bool B1,.string m1]⟩ from h1.enc]
 conv=>whnf
 refine ⟨((b',s'),(c,t)),rfl,⟨by show s'.size≤_; omega,by show t.size≤_; omega⟩,?_⟩
 rw [show mulS.val ((b',s'),(c,t))=.agg ⟨[.bool B2,.string m2]⟩ from h2.enc]
 conv=>whnf
 refine ⟨((B1,m1),(B2,m2)),rfl,⟨by show m1.size≤_; omega,by show m2.size≤_; omega⟩,?_⟩
 rw [show cmpS.val ((B1,m1),(B2,m2))=.int .i64 q from by
  show Value.int .i64 (cmpZ (IV.z (B1,m1)) (IV.z (B2,m2)))=_
  rw [h1.val,h2.val,hq]]
 conv=>whnf
 show Value.int .i64 q=_
 rw [hq]
 rfl
end Go.Proofs.YtppeponndkfbkaaGreat
/- Contracts of rational: the operations. -/
set_option maxRecDepth 20000
set_option maxHeartbeats 1000000
namespace Go.Proofs.YtppeponndkfbkaaGreat
open Go Go.Ae
def Emj:Env:=En [(141,.p machS),(84,.p ofRS),(130,.p add1S),(131,.p add2S),(127,.p mul1S),(129,.p mul2S),(101,.p cmp1S),(102,.p cmp2S)]
theorem Emjok:EnvOk Tryz.prog Emj:=Enk ⟨mach_ok,ofR_ok,add1_ok,add2_ok,mul1_ok,mul2_ok,cmp1_ok,cmp2_ok,trivial⟩ trivial
theorem bothR_ft:FTOk Tryz.prog 126 (fnK Emj drawT Tryz.f126):=by
 exact ft_of Emjok Dok Tryz.func126 (enters_of Tryz.func126 (by kernel_rfl) rfl)
theorem bothI_ft:FTOk Tryz.prog 100 (fnK Emj drawT Tryz.f100):=by
 exact ft_of Emjok Dok Tryz.func100 (enters_of Tryz.func100 (by kernel_rfl) rfl)
def Emk:Env:=En [] [(126,fnK Emj drawT Tryz.f126),(100,fnK Emj drawT Tryz.f100)]
theorem Emkok:EnvOk Tryz.prog Emk:=Enk trivial ⟨bothR_ft,bothI_ft,trivial⟩
theorem qadd_ok:Snd Tryz.prog 91 qaddS:=by
 refine snd_of Emkok Dok Tryz.func91 (enters_of Tryz.func91 (by kernel_rfl) rfl) (fun _=>rfl) (fun _=>rfl) ?_
 intro ⟨⟨b,s,t⟩,⟨c,u,v⟩⟩ hp
 have hp:RV.ok (b,s,t)∧RV.ok (c,u,v):=hp
 obtain ⟨w,hw⟩:∃ w,w=RV.q (b,s,t)+RV.q (c,u,v):=⟨_,rfl⟩
 have fin:∀ x:Value,x=(RV.of w).v→x=qaddS.val ((b,s,t),(c,u,v)):=fun x h=>by rw [h,hw]; rfl
 obtain ⟨x,hx⟩:∃ x,x=RV.den (b,s,t):=⟨_,rfl⟩
 obtain ⟨y,hy⟩:∃ y,y=RV.den (c,u,v):=⟨_,rfl⟩
 have ex:ofRS.val (b,s,t)=.agg ⟨[.bool b,.string s,.bool false,.string x]⟩:=by rw [hx]; rfl
 have ey:ofRS.val (c,u,v)=.agg ⟨[.bool c,.string u,.bool false,.string y]⟩:=by rw [hy]; rfl
 have f1:=RV.fracOk hp.1
 have f2:=RV.fracOk hp.2
 have e2:add2S.val (((b,s),(false,x)),((c,u),(false,y)))=(RV.of w).v:=by rw [hx,hy,hw]; exact add2_q (b,s,t) (c,u,v)
 rw [← hx] at f1
 rw [← hy] at f2
 have e1:=add1_q (b,s,t) (c,u,v)
 have hn:=RV.tinyR (i:=(b,s,t))
 have hm:=RV.tinyR (i:=(c,u,v))
 rw [← hw] at e1
 obtain ⟨n,hn2⟩:∃ n,n=RV.n (b,s,t):=⟨_,rfl⟩
 obtain ⟨m,hm2⟩:∃ n,n=RV.n (c,u,v):=⟨_,rfl⟩
 obtain ⟨d,hd2⟩:∃ n,n=RV.d (b,s,t):=⟨_,rfl⟩
 obtain ⟨e,he2⟩:∃ n,n=RV.d (c,u,v):=⟨_,rfl⟩
 rw [← hn2,← hd2] at hn e1
 rw [← hm2,← he2] at hm e1
 conv=>whnf
 refine ⟨(b,s,t),rfl,trivial,?_⟩
 by_cases h1:RV.tiny (b,s,t)
 ·rw [show machS.val (b,s,t)=.tuple ⟨[.int .i64 n,.int .i64 d,.bool true]⟩ from by simp only [machS,if_pos h1,decide_eq_true h1,hn2,hd2]]
  conv=>whnf
  refine ⟨(c,u,v),rfl,trivial,?_⟩
  by_cases h2:RV.tiny (c,u,v)
  ·rw [show machS.val (c,u,v)=.tuple ⟨[.int .i64 m,.int .i64 e,.bool true]⟩ from by simp only [machS,if_pos h2,decide_eq_true h2,hm2,he2]]
   conv=>whnf
   refine ⟨((n,d),(m,e)),rfl,⟨hn h1,hm h2⟩,?_⟩
   rw [show add1S.val ((n,d),(m,e))=(RV.of w).v from e1]
   conv=>whnf
   exact fin _ rfl
  ·rw [show machS.val (c,u,v)=.tuple ⟨[.int .i64 0,.int .i64 0,.bool false]⟩ from by simp only [machS,if_neg h2,decide_eq_false h2]]
   conv=>whnf
   refine .inl ⟨5,[[],[],[1],[],[1,2,3],[0,1,2,3,4],[0,1,2,3,4,5]],by kernel_rfl,?_⟩
   conv=>whnf
   refine ⟨(b,s,t),rfl,by have:=hp.1.2; show t.size≤_; exact Nat.le_trans this (by decide),?_⟩
   rw [ex]
   conv=>whnf
   refine ⟨(c,u,v),rfl,by have:=hp.2.2; show v.size≤_; exact Nat.le_trans this (by decide),?_⟩
   rw [ey]
   conv=>whnf
   refine ⟨(((b,s),(false,x)),((c,u),(false,y))),rfl,⟨f1,f2⟩,?_⟩
   rw [show add2S.val (((b,s),(false,x)),((c,u),(false,y)))=(RV.of w).v from e2]
   conv=>whnf
   exact fin _ rfl
 ·rw [show machS.val (b,s,t)=.tuple ⟨[.int .i64 0,.int .i64 0,.bool false]⟩ from by simp only [machS,if_neg h1,decide_eq_false h1]]
  conv=>whnf
  obtain ⟨k1,k2,k3,hk⟩:∃ (k1 k2:Int) (k3:Bool),machS.val (c,u,v)=.tuple ⟨[.int .i64 k1,.int .i64 k2,.bool k3]⟩:=⟨_,_,_,rfl⟩
  refine ⟨(c,u,v),rfl,trivial,?_⟩
  rw [hk]
  conv=>whnf
  refine .inl ⟨5,[[],[],[1],[],[1,2,3],[0,1,2,3,4],[0,1,2,3,4,5]],by kernel_rfl,?_⟩
  conv=>whnf
  refine ⟨(b,s,t),rfl,by have:=hp.1.2; show t.size≤_; exact Nat.le_trans this (by decide),?_⟩
  rw [ex]
  conv=>whnf
  refine ⟨(c,u,v),rfl,by have:=hp.2.2; show v.size≤_; exact Nat.le_trans this (by decide),?_⟩
  rw [ey]
  conv=>whnf
  refine ⟨(((b,s),(false,x)),((c,u),(false,y))),rfl,⟨f1,f2⟩,?_⟩
  rw [show add2S.val (((b,s),(false,x)),((c,u),(false,y)))=(RV.of w).v from e2]
  conv=>whnf
  exact fin _ rfl
theorem qmul_ok:Snd Tryz.prog 90 qmulS:=by
 refine snd_of Emkok Dok Tryz.func90 (enters_of Tryz.func90 (by kernel_rfl) rfl) (fun _=>rfl) (fun _=>rfl) ?_
 intro ⟨⟨b,s,t⟩,⟨c,u,v⟩⟩ hp
 have hp:RV.ok (b,s,t)∧RV.ok (c,u,v):=hp
 obtain ⟨w,hw⟩:∃ w,w=RV.q (b,s,t)*RV.q (c,u,v):=⟨_,rfl⟩
 have fin:∀ x:Value,x=(RV.of w).v→x=qmulS.val ((b,s,t),(c,u,v)):=fun x h=>by rw [h,hw]; rfl
 obtain ⟨x,hx⟩:∃ x,x=RV.den (b,s,t):=⟨_,rfl⟩
 obtain ⟨y,hy⟩:∃ y,y=RV.den (c,u,v):=⟨_,rfl⟩
 have ex:ofRS.val (b,s,t)=.agg ⟨[.bool b,.string s,.bool false,.string x]⟩:=by rw [hx]; rfl
 have ey:ofRS.val (c,u,v)=.agg ⟨[.bool c,.string u,.bool false,.string y]⟩:=by rw [hy]; rfl
 have f1:=RV.fracOk hp.1
 have f2:=RV.fracOk hp.2
 have e2:mul2S.val (((b,s),(false,x)),((c,u),(false,y)))=(RV.of w).v:=by rw [hx,hy,hw]; exact mul2_q (b,s,t) (c,u,v)
 rw [← hx] at f1
 rw [← hy] at f2
 have e1:=mul1_q (b,s,t) (c,u,v)
 have hn:=RV.tinyR (i:=(b,s,t))
 have hm:=RV.tinyR (i:=(c,u,v))
 rw [← hw] at e1
 obtain ⟨n,hn2⟩:∃ n,n=RV.n (b,s,t):=⟨_,rfl⟩
 obtain ⟨m,hm2⟩:∃ n,n=RV.n (c,u,v):=⟨_,rfl⟩
 obtain ⟨d,hd2⟩:∃ n,n=RV.d (b,s,t):=⟨_,rfl⟩
 obtain ⟨e,he2⟩:∃ n,n=RV.d (c,u,v):=⟨_,rfl⟩
 rw [← hn2,← hd2] at hn e1
 rw [← hm2,← he2] at hm e1
 conv=>whnf
 refine ⟨(b,s,t),rfl,trivial,?_⟩
 by_cases h1:RV.tiny (b,s,t)
 ·rw [show machS.val (b,s,t)=.tuple ⟨[.int .i64 n,.int .i64 d,.bool true]⟩ from by simp only [machS,if_pos h1,decide_eq_true h1,hn2,hd2]]
  conv=>whnf
  refine ⟨(c,u,v),rfl,trivial,?_⟩
  by_cases h2:RV.tiny (c,u,v)
  ·rw [show machS.val (c,u,v)=.tuple ⟨[.int .i64 m,.int .i64 e,.bool true]⟩ from by simp only [machS,if_pos h2,decide_eq_true h2,hm2,he2]]
   conv=>whnf
   refine ⟨((n,d),(m,e)),rfl,⟨hn h1,hm h2⟩,?_⟩
   rw [show mul1S.val ((n,d),(m,e))=(RV.of w).v from e1]
   conv=>whnf
   exact fin _ rfl
  ·rw [show machS.val (c,u,v)=.tuple ⟨[.int .i64 0,.int .i64 0,.bool false]⟩ from by simp only [machS,if_neg h2,decide_eq_false h2]]
   conv=>whnf
   refine .inl ⟨5,[[],[],[1],[],[1,2,3],[0,1,2,3,4],[0,1,2,3,4,5]],by kernel_rfl,?_⟩
   conv=>whnf
   refine ⟨(b,s,t),rfl,by have:=hp.1.2; show t.size≤_; exact Nat.le_trans this (by decide),?_⟩
   rw [ex]
   conv=>whnf
   refine ⟨(c,u,v),rfl,by have:=hp.2.2; show v.size≤_; exact Nat.le_trans this (by decide),?_⟩
   rw [ey]
   conv=>whnf
   refine ⟨(((b,s),(false,x)),((c,u),(false,y))),rfl,⟨f1,f2⟩,?_⟩
   rw [show mul2S.val (((b,s),(false,x)),((c,u),(false,y)))=(RV.of w).v from e2]
   conv=>whnf
   exact fin _ rfl
 ·rw [show machS.val (b,s,t)=.tuple ⟨[.int .i64 0,.int .i64 0,.bool false]⟩ from by simp only [machS,if_neg h1,decide_eq_false h1]]
  conv=>whnf
  obtain ⟨k1,k2,k3,hk⟩:∃ (k1 k2:Int) (k3:Bool),machS.val (c,u,v)=.tuple ⟨[.int .i64 k1,.int .i64 k2,.bool k3]⟩:=⟨_,_,_,rfl⟩
  refine ⟨(c,u,v),rfl,trivial,?_⟩
  rw [hk]
  conv=>whnf
  refine .inl ⟨5,[[],[],[1],[],[1,2,3],[0,1,2,3,4],[0,1,2,3,4,5]],by kernel_rfl,?_⟩
  conv=>whnf
  refine ⟨(b,s,t),rfl,by have:=hp.1.2; show t.size≤_; exact Nat.le_trans this (by decide),?_⟩
  rw [ex]
  conv=>whnf
  refine ⟨(c,u,v),rfl,by have:=hp.2.2; show v.size≤_; exact Nat.le_trans this (by decide),?_⟩
  rw [ey]
  conv=>whnf
  refine ⟨(((b,s),(false,x)),((c,u),(false,y))),rfl,⟨f1,f2⟩,?_⟩
  rw [show mul2S.val (((b,s),(false,x)),((c,u),(false,y)))=(RV.of w).v from e2]
  conv=>whnf
  exact fin _ rfl
theorem qcmp_ok:Snd Tryz.prog 67 qcmpS:=by
 refine snd_of Emkok Dok Tryz.func67 (enters_of Tryz.func67 (by kernel_rfl) rfl) (fun _=>rfl) (fun _=>rfl) ?_
 intro ⟨⟨b,s,t⟩,⟨c,u,v⟩⟩ hp
 have hp:RV.ok (b,s,t)∧RV.ok (c,u,v):=hp
 obtain ⟨w,hw⟩:∃ w,w=cmpQ (RV.q (b,s,t)) (RV.q (c,u,v)):=⟨_,rfl⟩
 have fin:∀ x:Value,x=.int .i64 w→x=qcmpS.val ((b,s,t),(c,u,v)):=fun x h=>by rw [h,hw]; rfl
 obtain ⟨x,hx⟩:∃ x,x=RV.den (b,s,t):=⟨_,rfl⟩
 obtain ⟨y,hy⟩:∃ y,y=RV.den (c,u,v):=⟨_,rfl⟩
 have ex:ofRS.val (b,s,t)=.agg ⟨[.bool b,.string s,.bool false,.string x]⟩:=by rw [hx]; rfl
 have ey:ofRS.val (c,u,v)=.agg ⟨[.bool c,.string u,.bool false,.string y]⟩:=by rw [hy]; rfl
 have f1:=RV.fracOk hp.1
 have f2:=RV.fracOk hp.2
 have e2:cmp2S.val (((b,s),(false,x)),((c,u),(false,y)))=.int .i64 w:=by rw [hx,hy,hw]; exact cmp2_q (b,s,t) (c,u,v)
 rw [← hx] at f1
 rw [← hy] at f2
 have e1:=cmp1_q (b,s,t) (c,u,v)
 have hn:=RV.tinyR (i:=(b,s,t))
 have hm:=RV.tinyR (i:=(c,u,v))
 rw [← hw] at e1
 obtain ⟨n,hn2⟩:∃ n,n=RV.n (b,s,t):=⟨_,rfl⟩
 obtain ⟨m,hm2⟩:∃ n,n=RV.n (c,u,v):=⟨_,rfl⟩
 obtain ⟨d,hd2⟩:∃ n,n=RV.d (b,s,t):=⟨_,rfl⟩
 obtain ⟨e,he2⟩:∃ n,n=RV.d (c,u,v):=⟨_,rfl⟩
 rw [← hn2,← hd2] at hn e1
 rw [← hm2,← he2] at hm e1
 conv=>whnf
 refine ⟨(b,s,t),rfl,trivial,?_⟩
 by_cases h1:RV.tiny (b,s,t)
 ·rw [show machS.val (b,s,t)=.tuple ⟨[.int .i64 n,.int .i64 d,.bool true]⟩ from by simp only [machS,if_pos h1,decide_eq_true h1,hn2,hd2]]
  conv=>whnf
  refine ⟨(c,u,v),rfl,trivial,?_⟩
  by_cases h2:RV.tiny (c,u,v)
  ·rw [show machS.val (c,u,v)=.tuple ⟨[.int .i64 m,.int .i64 e,.bool true]⟩ from by simp only [machS,if_pos h2,decide_eq_true h2,hm2,he2]]
   conv=>whnf
   refine ⟨((n,d),(m,e)),rfl,⟨hn h1,hm h2⟩,?_⟩
   rw [show cmp1S.val ((n,d),(m,e))=.int .i64 w from e1]
   conv=>whnf
   exact fin _ rfl
  ·rw [show machS.val (c,u,v)=.tuple ⟨[.int .i64 0,.int .i64 0,.bool false]⟩ from by simp only [machS,if_neg h2,decide_eq_false h2]]
   conv=>whnf
   refine .inl ⟨5,[[],[],[1],[],[1,2,3],[0,1,2,3,4],[0,1,2,3,4,5]],by kernel_rfl,?_⟩
   conv=>whnf
   refine ⟨(b,s,t),rfl,by have:=hp.1.2; show t.size≤_; exact Nat.le_trans this (by decide),?_⟩
   rw [ex]
   conv=>whnf
   refine ⟨(c,u,v),rfl,by have:=hp.2.2; show v.size≤_; exact Nat.le_trans this (by decide),?_⟩
   rw [ey]
   conv=>whnf
   refine ⟨(((b,s),(false,x)),((c,u),(false,y))),rfl,⟨f1,f2⟩,?_⟩
   rw [show cmp2S.val (((b,s),(false,x)),((c,u),(false,y)))=.int .i64 w from e2]
   conv=>whnf
   exact fin _ rfl
 ·rw [show machS.val (b,s,t)=.tuple ⟨[.int .i64 0,.int .i64 0,.bool false]⟩ from by simp only [machS,if_neg h1,decide_eq_false h1]]
  conv=>whnf
  obtain ⟨k1,k2,k3,hk⟩:∃ (k1 k2:Int) (k3:Bool),machS.val (c,u,v)=.tuple ⟨[.int .i64 k1,.int .i64 k2,.bool k3]⟩:=⟨_,_,_,rfl⟩
  refine ⟨(c,u,v),rfl,trivial,?_⟩
  rw [hk]
  conv=>whnf
  refine .inl ⟨5,[[],[],[1],[],[1,2,3],[0,1,2,3,4],[0,1,2,3,4,5]],by kernel_rfl,?_⟩
  conv=>whnf
  refine ⟨(b,s,t),rfl,by have:=hp.1.2; show t.size≤_; exact Nat.le_trans this (by decide),?_⟩
  rw [ex]
  conv=>whnf
  refine ⟨(c,u,v),rfl,by have:=hp.2.2; show v.size≤_; exact Nat.le_trans this (by decide),?_⟩
  rw [ey]
  conv=>whnf
  refine ⟨(((b,s),(false,x)),((c,u),(false,y))),rfl,⟨f1,f2⟩,?_⟩
  rw [show cmp2S.val (((b,s),(false,x)),((c,u),(false,y)))=.int .i64 w from e2]
  conv=>whnf
  exact fin _ rfl
end Go.Proofs.YtppeponndkfbkaaGreat
/- Contracts of rational: differences, signs, checks. -/
set_option maxRecDepth 20000
set_option maxHeartbeats 1000000
namespace Go.Proofs.YtppeponndkfbkaaGreat
open Go Go.Ae
def Eml:Env:=EnE [(91,.p qaddS),(84,.p ofRS),(82,.p numberS),(88,.p cmpS),(81,.p ofS),(139,.p negS)]
theorem Emlok:EnvOk Tryz.prog Eml:=EnEk ⟨qadd_ok,ofR_ok,number_ok,cmp_ok,of_ok,neg_ok,trivial⟩ trivial
theorem qsub_ok:Snd Tryz.prog 52 qsubS:=by
 refine snd_of Emlok Dok Tryz.func52 (enters_of Tryz.func52 (by kernel_rfl) rfl) (fun _=>rfl) (fun _=>rfl) ?_
 intro ⟨⟨b,s,t⟩,⟨c,u,v⟩⟩ hp
 have hp:RV.ok (b,s,t)∧RV.ok (c,u,v):=hp
 obtain ⟨w,hw⟩:∃ w,w=RV.q (b,s,t) - RV.q (c,u,v):=⟨_,rfl⟩
 conv=>whnf
 refine ⟨((b,s,t),(!c,u,v)),rfl,hp,?_⟩
 rw [show qaddS.val ((b,s,t),(!c,u,v))=(RV.of w).v from by
  rw [hw]
  show encQ (RV.q (b,s,t)+RV.q (!c,u,v))=encQ _
  rw [neg_q',← Rat.sub_eq_add_neg]]
 conv=>whnf
 show (RV.of w).v=encQ _
 rw [hw]
 rfl
theorem qneg_ok:Snd Tryz.prog 43 qnegS:=by
 refine snd_of Emlok Dok Tryz.func43 (enters_of Tryz.func43 (by kernel_rfl) rfl) (fun _=>rfl) (fun _=>rfl) ?_
 intro ⟨b,s,t⟩ hp
 have hp:RV.ok (b,s,t):=hp
 obtain ⟨w,hw⟩:∃ w,w=-RV.q (b,s,t):=⟨_,rfl⟩
 obtain ⟨x,hx⟩:∃ x,x=RV.den (b,s,t):=⟨_,rfl⟩
 have f1:=RV.fracOk (i:=(!b,s,t)) hp
 have e1:=RV.q_of (!b,s,t)
 rw [show RV.den (!b,s,t)=x from hx.symm] at f1 e1
 conv=>whnf
 refine ⟨(!b,s,t),rfl,by have:=hp.2; show t.size≤_; exact Nat.le_trans this (by decide),?_⟩
 rw [show ofRS.val (!b,s,t)=.agg ⟨[.bool (!b),.string s,.bool false,.string x]⟩ from by rw [hx]; rfl]
 conv=>whnf
 refine ⟨((!b,s),(false,x)),rfl,⟨Nat.le_trans f1.1.1 (by decide),Nat.le_trans f1.1.2 (by decide),f1.2⟩,?_⟩
 rw [show numberS.val ((!b,s),(false,x))=(RV.of w).v from by
  rw [hw,← neg_q',e1]; rfl]
 conv=>whnf
 show (RV.of w).v=encQ _
 rw [hw]
 rfl
theorem qsign_ok:Snd Tryz.prog 47 qsignS:=by
 refine snd_of Emlok Dok Tryz.func47 (enters_of Tryz.func47 (by kernel_rfl) rfl) (fun _=>rfl) (fun _=>rfl) ?_
 intro ⟨b,s,t⟩ hp
 have hp:RV.ok (b,s,t):=hp
 obtain ⟨x,hx⟩:∃ x,x=RV.den (b,s,t):=⟨_,rfl⟩
 obtain ⟨w,hw⟩:∃ w,w=cmpQ (RV.q (b,s,t)) 0:=⟨_,rfl⟩
 conv=>whnf
 refine ⟨(b,s,t),rfl,by have:=hp.2; show t.size≤_; exact Nat.le_trans this (by decide),?_⟩
 rw [show ofRS.val (b,s,t)=.agg ⟨[.bool b,.string s,.bool false,.string x]⟩ from by rw [hx]; rfl]
 conv=>whnf
 refine ⟨((b,s),(false,⟨#[]⟩)),rfl,⟨by have:=hp.1; show s.size≤_; exact Nat.le_trans this (by decide),Nat.zero_le _⟩,?_⟩
 rw [show cmpS.val ((b,s),(false,⟨#[]⟩))=.int .i64 w from by rw [hw,sign_q]; rfl]
 conv=>whnf
 show Value.int .i64 w=_
 rw [hw]
 rfl
theorem qof_ok:Snd Tryz.prog 40 qofS:=by
 refine snd_of Emlok Dok Tryz.func40 (enters_of Tryz.func40 (by kernel_rfl) rfl) (fun _=>rfl) (fun _=>rfl) ?_
 intro (n:Int) hp
 have hp:-9223372036854775808≤n∧n < 9223372036854775808:=hp
 obtain ⟨w,hw⟩:∃ w:Rat,w=(n:Rat):=⟨_,rfl⟩
 obtain ⟨B,m,hE⟩:=EI.mk' n
 obtain ⟨k,hF⟩:=EI.nonneg (show 0≤(1:Int) by decide)
 have hm:=hE.size
 have hk:=hF.size
 have h8:=nby_i64 hp
 have h1:=nby_i64 r1
 conv=>whnf
 refine ⟨n,rfl,hp,?_⟩
 rw [show ofS.val n=.agg ⟨[.bool B,.string m]⟩ from hE.enc]
 conv=>whnf
 refine ⟨(1:Int),rfl,r1,?_⟩
 rw [show ofS.val (1:Int)=.agg ⟨[.bool false,.string k]⟩ from hF.enc]
 conv=>whnf
 refine ⟨((B,m),(false,k)),rfl,⟨by show m.size≤_; omega,by show k.size≤_; omega,by show 0 < IV.z (false,k); rw [hF.val]; decide⟩,?_⟩
 rw [show numberS.val ((B,m),(false,k))=(RV.of w).v from by
  rw [hw,of_q n]
  show encQ (mkRat (IV.z (B,m)) (IV.z (false,k)).natAbs)=_
  rw [hE.val,hF.val]; rfl]
 conv=>whnf
 show (RV.of w).v=encQ _
 rw [hw]
 rfl
theorem qnew_ok:Snd Tryz.prog 97 qnewS:=by
 refine snd_of Emlok Dok Tryz.func97 (enters_of Tryz.func97 (by kernel_rfl) rfl) (fun _=>rfl) (fun _=>rfl) ?_
 intro ⟨⟨b,s⟩,⟨c,t⟩⟩ hp
 have hp:s.size≤549755813888∧t.size≤549755813888:=hp
 obtain ⟨x,hx⟩:∃ x,x=IV.z (b,s):=⟨_,rfl⟩
 obtain ⟨y,hy⟩:∃ y,y=IV.z (c,t):=⟨_,rfl⟩
 obtain ⟨w,hw⟩:∃ w,w=Rat.divInt x y:=⟨_,rfl⟩
 have ec:cmpS.val ((c,t),(false,⟨#[]⟩))=.int .i64 (cmpZ y 0):=by rw [hy]; rfl
 have fin0:y=0→∀ v,v=encQ 0→Value.tuple ⟨[v,.int .i64 10]⟩=qnewS.val ((b,s),(c,t)):=fun h v hv=>by
  show _=quoV (IV.z (b,s)) (IV.z (c,t))
  rw [← hy,hv]; unfold quoV; rw [if_pos h,h,Rat.divInt_zero]
 have fin:y≠0→∀ v,v=encQ w→Value.tuple ⟨[v,.int .i64 0]⟩=qnewS.val ((b,s),(c,t)):=fun h v hv=>by
  show _=quoV (IV.z (b,s)) (IV.z (c,t))
  rw [← hx,← hy,hv]; unfold quoV; rw [if_neg h,hw]
 conv=>whnf
 refine ⟨((c,t),(false,⟨#[]⟩)),rfl,⟨hp.2,Nat.zero_le _⟩,?_⟩
 rw [ec]
 rcases Int.lt_trichotomy y 0 with h | h | h
 ·rw [cmpZ_lt h]
  obtain ⟨B,m,hE⟩:=EI.mk' (-x)
  obtain ⟨k,hF⟩:=EI.nonneg (show 0≤-y by omega)
  have hm:m.size≤549755813888:=by rw [hE.size,Int.natAbs_neg,hx]; exact nby_z hp.1
  have hk:k.size≤549755813888:=by rw [hF.size,Int.natAbs_neg,hy]; exact nby_z hp.2
  conv=>whnf
  refine .inl ⟨3,[[],[0],[],[0,1,2],[0,1,2,3],[0,1,2,3,4]],by kernel_rfl,?_⟩
  conv=>whnf
  refine ⟨(b,s),rfl,hp.1,?_⟩
  rw [show negS.val (b,s)=.agg ⟨[.bool B,.string m]⟩ from by show encI (-IV.z (b,s))=_; rw [← hx,hE.enc]]
  conv=>whnf
  refine ⟨(c,t),rfl,hp.2,?_⟩
  rw [show negS.val (c,t)=.agg ⟨[.bool false,.string k]⟩ from by show encI (-IV.z (c,t))=_; rw [← hy,hF.enc]]
  conv=>whnf
  refine ⟨((B,m),(false,k)),rfl,⟨hm,hk,by show 0 < IV.z (false,k); rw [hF.val]; omega⟩,?_⟩
  rw [show numberS.val ((B,m),(false,k))=(RV.of w).v from by
   rw [hw,divInt_negs h]
   show encQ (mkRat (IV.z (B,m)) (IV.z (false,k)).natAbs)=_
   rw [hE.val,hF.val]; rfl]
  conv=>whnf
  exact fin (by omega) _ rfl
 ·rw [h]
  conv=>whnf
  exact fin0 h _ encQ0.symm
 ·rw [cmpZ_gt h]
  conv=>whnf
  refine ⟨((b,s),(c,t)),rfl,⟨hp.1,hp.2,by show 0 < IV.z (c,t); omega⟩,?_⟩
  rw [show numberS.val ((b,s),(c,t))=(RV.of w).v from by
   rw [hw,divInt_pos h,hx,hy]; rfl]
  conv=>whnf
  exact fin (by omega) _ rfl
end Go.Proofs.YtppeponndkfbkaaGreat
/- Contracts of the reference rationals: parts, lowest terms. -/
set_option maxRecDepth 20000
set_option maxHeartbeats 1000000
namespace Go.Proofs.YtppeponndkfbkaaGreat
open Go Go.Ae
def Eqa:Env:=En [(123,.p addS),(93,.p ofS),(134,.p gcdS),(135,.p divS),(133,.p negS)]
theorem Eqaok:EnvOk Tryz.prog Eqa:=Enk ⟨radd_ok,rof_ok,rgcd_ok,rdiv_ok,rneg_ok,trivial⟩ trivial
theorem parts_ok:Snd Tryz.prog 96 partsS:=by
 refine snd_of Eqaok Dok Tryz.func96 (enters_of Tryz.func96 (by kernel_rfl) rfl) (fun _=>rfl) (fun _=>rfl) ?_
 intro ⟨b,s,t⟩ hp
 have hp:s.size≤8589934592∧t.size≤8589934592:=hp
 obtain ⟨B,m,hE⟩:=EI.mk' (RV.n (b,s,t))
 obtain ⟨k,hF⟩:=EI.nonneg (show 0≤((bnat t:Nat):Int) by omega)
 obtain ⟨j,hG⟩:=EI.nonneg (show 0≤(1:Int) by decide)
 have fin:∀ (v:Value),v=encI ((RV.d (b,s,t):Nat):Int)→Value.tuple ⟨[.agg ⟨[.bool B,.string m]⟩,v]⟩=partsS.val (b,s,t):=fun v h=>by
  rw [h,← hE.enc]; rfl
 conv=>whnf
 refine ⟨((b,s),(false,⟨#[]⟩)),rfl,⟨by show s.size≤_; omega,Nat.zero_le _⟩,?_⟩
 rw [show addS.val ((b,s),(false,⟨#[]⟩))=.agg ⟨[.bool B,.string m]⟩ from by
  show encI (IV.z (b,s)+0)=_
  rw [Int.add_zero]; exact hE.enc]
 conv=>whnf
 refine ⟨((false,t),(false,⟨#[]⟩)),rfl,⟨by show t.size≤_; omega,Nat.zero_le _⟩,?_⟩
 rw [show addS.val ((false,t),(false,⟨#[]⟩))=.agg ⟨[.bool false,.string k]⟩ from by
  show encI (((bnat t:Nat):Int)+0)=_
  rw [Int.add_zero]; exact hF.enc]
 conv=>whnf
 rw [hF.nil]
 by_cases h:bnat t=0
 ·rw [decide_eq_true (by omega)]
  have fin:=fin (.agg ⟨[.bool false,.string j]⟩) (by rw [← hG.enc]; unfold RV.d; rw [if_pos h]; rfl)
  conv=>whnf
  refine ⟨(1:Int),rfl,r1,?_⟩
  rw [show ofS.val (1:Int)=.agg ⟨[.bool false,.string j]⟩ from hG.enc]
  conv=>whnf
  refine .inr (.inl ⟨(.br 0 (.br 1 (.br 2 (.br 3 .leaf .leaf) .leaf) (.br 2 (.br 1 (.br 3 .leaf .leaf) .leaf) .leaf)) (.br 1 (.br 0 (.br 2 (.br 3 .leaf .leaf) .leaf) .leaf) .leaf)),by kernel_rfl,?_⟩)
  repeat' ((conv=>whnf); first | exact True.intro | refine And.intro ?_ ?_)
  all_goals conv=>whnf
  all_goals exact fin
 ·rw [decide_eq_false (by omega)]
  have fin:=fin (.agg ⟨[.bool false,.string k]⟩) (by rw [← hF.enc]; unfold RV.d; rw [if_neg h])
  conv=>whnf
  refine .inr (.inl ⟨(.br 0 (.br 1 (.br 2 (.br 3 .leaf .leaf) .leaf) (.br 2 (.br 1 (.br 3 .leaf .leaf) .leaf) .leaf)) (.br 1 (.br 0 (.br 2 (.br 3 .leaf .leaf) .leaf) .leaf) .leaf)),by kernel_rfl,?_⟩)
  repeat' ((conv=>whnf); first | exact True.intro | refine And.intro ?_ ?_)
  all_goals conv=>whnf
  all_goals exact fin
theorem reduce_ok:Snd Tryz.prog 92 reduceS:=by
 refine snd_of Eqaok Dok Tryz.func92 (enters_of Tryz.func92 (by kernel_rfl) rfl) (fun _=>rfl) (fun _=>rfl) ?_
 intro ⟨⟨b,s⟩,⟨c,t⟩⟩ hp
 have hp:s.size≤549755813888∧t.size≤549755813888∧0 < IV.z (c,t):=hp
 obtain ⟨x,hx⟩:∃ x,x=IV.z (b,s):=⟨_,rfl⟩
 obtain ⟨d,hd⟩:∃ d,d=(IV.z (c,t)).natAbs:=⟨_,rfl⟩
 have hd2:IV.z (c,t)=((d:Nat):Int):=by omega
 have hd0:d≠0:=by omega
 obtain ⟨q,hq⟩:∃ q,q=mkRat x d:=⟨_,rfl⟩
 have fin:∀ v:Value,v=encQ q→v=reduceS.val ((b,s),(c,t)):=fun v h=>by rw [h,hq,hx,hd]; rfl
 obtain ⟨B,m,hE⟩:=EI.mk' x
 obtain ⟨k,hF⟩:=EI.nonneg (show 0≤((d:Nat):Int) by omega)
 have hds:nby d≤549755813888:=by rw [hd]; exact IV.nby (i:=(c,t)) hp.2.1
 have hms:m.size≤549755813888:=by rw [hE.size,hx]; exact nby_z hp.1
 have hks:k.size≤549755813888:=by rw [hF.size,Int.natAbs_natCast]; exact hds
 conv=>whnf
 refine .inl ⟨5,[[],[],[0,1],[],[],[0,1,2,3,4],[0,1,2,3,4,5],[0,1,2,3,4,5,6]],by kernel_rfl,?_⟩
 conv=>whnf
 refine ⟨((b,s),(false,⟨#[]⟩)),rfl,⟨hp.1,Nat.zero_le _⟩,?_⟩
 rw [show addS.val ((b,s),(false,⟨#[]⟩))=.agg ⟨[.bool B,.string m]⟩ from by
  show encI (IV.z (b,s)+0)=_
  rw [Int.add_zero,← hx]; exact hE.enc]
 conv=>whnf
 refine ⟨((c,t),(false,⟨#[]⟩)),rfl,⟨hp.2.1,Nat.zero_le _⟩,?_⟩
 rw [show addS.val ((c,t),(false,⟨#[]⟩))=.agg ⟨[.bool false,.string k]⟩ from by
  show encI (IV.z (c,t)+0)=_
  rw [Int.add_zero,hd2]; exact hF.enc]
 conv=>whnf
 rw [hE.nil]
 by_cases h1:x=0
 ·rw [decide_eq_true h1]
  conv=>whnf
  exact fin _ (by rw [hq,h1]; exact (encQ_zero d).symm)
 ·rw [decide_eq_false h1]
  obtain ⟨g,hg⟩:∃ g,g=Int.gcd x d:=⟨_,rfl⟩
  obtain ⟨gs,hgs⟩:=EI.nonneg (show 0≤((g:Nat):Int) by omega)
  obtain ⟨qb,qs,hn⟩:=EI.mk' q.num
  obtain ⟨es,he⟩:=EI.nonneg (show 0≤((q.den:Nat):Int) by omega)
  have hg0:((g:Nat):Int)≠0:=by
   have:0 < g:=by rw [hg]; exact Int.gcd_pos_of_ne_zero_left _ h1
   omega
  have hgle:g≤d:=by
   have h3:=(div_self_gcd hd0 hg).2.1
   rcases Nat.lt_or_ge d g with h | h
   ·rw [Nat.div_eq_of_lt h] at h3; omega
   ·exact h
  have gsz:gs.size≤549755813888:=by
   rw [hgs.size,Int.natAbs_natCast]
   exact Nat.le_trans (nby_mono hgle) hds
  have hqn:x.fdiv ((g:Nat):Int)=q.num:=by rw [hg,hq]; exact mk_num x hd0
  have hqd:((d:Nat):Int).fdiv ((g:Nat):Int)=((q.den:Nat):Int):=by rw [hg,hq]; exact mk_den x hd0
  conv=>whnf
  refine ⟨((B,m),(false,k)),rfl,⟨hms,hks⟩,?_⟩
  rw [show gcdS.val ((B,m),(false,k))=.agg ⟨[.bool false,.string gs]⟩ from by
   show encI ((Int.gcd (IV.z (B,m)) (IV.z (false,k)):Nat):Int)=_
   rw [hE.val,hF.val,← hg,hgs.enc]]
  conv=>whnf
  obtain ⟨fb,fs,hf⟩:=EI.mk' (x.fmod ((g:Nat):Int))
  refine ⟨((B,m),(false,gs)),rfl,⟨hms,gsz⟩,?_⟩
  rw [show divS.val ((B,m),(false,gs))=.tuple ⟨[.agg ⟨[.bool qb,.string qs]⟩,.agg ⟨[.bool fb,.string fs]⟩,.int .i64 0]⟩ from by
   simp only [divS,hgs.val,hE.val,if_neg hg0]
   rw [hqn,hn.enc,hf.enc]]
  conv=>whnf
  obtain ⟨kb,ks,hk⟩:=EI.mk' (((d:Nat):Int).fmod ((g:Nat):Int))
  refine ⟨((false,k),(false,gs)),rfl,⟨hks,gsz⟩,?_⟩
  rw [show divS.val ((false,k),(false,gs))=.tuple ⟨[.agg ⟨[.bool false,.string es]⟩,.agg ⟨[.bool kb,.string ks]⟩,.int .i64 0]⟩ from by
   simp only [divS,hgs.val,hF.val,if_neg hg0]
   rw [hqd,he.enc,hk.enc]]
  conv=>whnf
  have enc:∀ y,denS q.den=y→Value.agg ⟨[.bool qb,.string qs,.string y]⟩=encQ q:=fun y hy=>by
   unfold encQ
   rw [← hn.mag,← hn.sign,hy]
  have ees:es=nb q.den:=he.mag
  have hone:(es.toList == (⟨#[1]⟩:ByteArray).toList)=decide (q.den=1):=by
   rw [str_eq,ees,show (⟨#[1]⟩:ByteArray)=nb 1 from nb_1.symm]
   by_cases h:q.den=1
   ·rw [h]; simp
   ·rw [decide_eq_false h,decide_eq_false (fun e=>h (nb_inj e))]
  rw [hone]
  by_cases h2:q.den=1
  ·rw [decide_eq_true h2]
   conv=>whnf
   exact fin _ (enc _ (by unfold denS; rw [if_pos h2]))
  ·rw [decide_eq_false h2]
   conv=>whnf
   exact fin _ (enc _ (by unfold denS; rw [if_neg h2,he.mag,Int.natAbs_natCast]))
end Go.Proofs.YtppeponndkfbkaaGreat
/- Contracts of the reference rationals: the operations. -/
set_option maxRecDepth 20000
set_option maxHeartbeats 1000000
namespace Go.Proofs.YtppeponndkfbkaaGreat
open Go Go.Ae
def Eqb:Env:=EnE [(94,.p machS),(95,.p ratioS),(96,.p partsS),(92,.p reduceS),(93,.p ofS),(123,.p addS),(122,.p mulS),(121,.p cmpS)]
theorem Eqbok:EnvOk Tryz.prog Eqb:=EnEk ⟨small_ok,pack_ok2,parts_ok,reduce_ok,rof_ok,radd_ok,rmul_ok,rcmp_ok,trivial⟩ trivial
theorem rqof_ok:Snd Tryz.prog 56 qofS:=by
 refine snd_of Eqbok Dok Tryz.func56 (enters_of Tryz.func56 (by kernel_rfl) rfl) (fun _=>rfl) (fun _=>rfl) ?_
 intro (n:Int) hp
 have hp:-9223372036854775808≤n∧n < 9223372036854775808:=hp
 obtain ⟨w,hw⟩:∃ w:Rat,w=(n:Rat):=⟨_,rfl⟩
 obtain ⟨B,m,hE⟩:=EI.mk' n
 obtain ⟨k,hF⟩:=EI.nonneg (show 0≤(1:Int) by decide)
 have hm:=hE.size
 have hk:=hF.size
 have h8:=nby_i64 hp
 have h1:=nby_i64 r1
 conv=>whnf
 refine ⟨n,rfl,hp,?_⟩
 rw [show ofS.val n=.agg ⟨[.bool B,.string m]⟩ from hE.enc]
 conv=>whnf
 refine ⟨(1:Int),rfl,r1,?_⟩
 rw [show ofS.val (1:Int)=.agg ⟨[.bool false,.string k]⟩ from hF.enc]
 conv=>whnf
 refine ⟨((B,m),(false,k)),rfl,⟨by show m.size≤_; omega,by show k.size≤_; omega,by show 0 < IV.z (false,k); rw [hF.val]; decide⟩,?_⟩
 rw [show reduceS.val ((B,m),(false,k))=(RV.of w).v from by
  rw [hw,of_q n]
  show encQ (mkRat (IV.z (B,m)) (IV.z (false,k)).natAbs)=_
  rw [hE.val,hF.val]; rfl]
 conv=>whnf
 show (RV.of w).v=encQ _
 rw [hw]
 rfl
theorem rqnorm_ok:Snd Tryz.prog 59 qnormS:=by
 refine snd_of Eqbok Dok Tryz.func59 (enters_of Tryz.func59 (by kernel_rfl) rfl) (fun _=>rfl) (fun _=>rfl) ?_
 intro ⟨b,s,t⟩ hp
 have hp:s.size≤8589934592∧t.size≤8589934592:=hp
 obtain ⟨w,hw⟩:∃ w,w=RV.q (b,s,t):=⟨_,rfl⟩
 have fin:∀ x:Value,x=(RV.of w).v→x=qnormS.val (b,s,t):=fun x h=>by rw [h,hw]; rfl
 have hn:=RV.tinyR (i:=(b,s,t))
 obtain ⟨n,hn2⟩:∃ n,n=RV.n (b,s,t):=⟨_,rfl⟩
 obtain ⟨d,hd2⟩:∃ n,n=RV.d (b,s,t):=⟨_,rfl⟩
 have hd0:d≠0:=by rw [hd2]; exact RV.d_pos _
 have hwn:w=mkRat n d:=by rw [hw,hn2,hd2]; rfl
 conv=>whnf
 refine ⟨(b,s,t),rfl,trivial,?_⟩
 by_cases h1:RV.tiny (b,s,t)
 ·rw [show machS.val (b,s,t)=.tuple ⟨[.int .i64 n,.int .i64 d,.bool true]⟩ from by simp only [machS,if_pos h1,decide_eq_true h1,hn2,hd2]]
  have hn:=hn h1
  rw [← hn2,← hd2] at hn
  have hn:(-16777216 < n∧n < 16777216)∧0 < d∧d < 16777216:=hn
  conv=>whnf
  refine ⟨(n,d),rfl,⟨by show n.natAbs < _; omega,by show d≠0; omega,by show d < _; omega⟩,?_⟩
  rw [show ratioS.val (n,d)=(RV.of w).v from by rw [hwn]; rfl]
  conv=>whnf
  exact fin _ rfl
 ·rw [show machS.val (b,s,t)=.tuple ⟨[.int .i64 0,.int .i64 0,.bool false]⟩ from by simp only [machS,if_neg h1,decide_eq_false h1]]
  obtain ⟨B,m,hE⟩:=EI.mk' n
  obtain ⟨k,hF⟩:=EI.nonneg (show 0≤((d:Nat):Int) by omega)
  have hms:m.size≤8589934592:=by rw [hE.size,hn2]; exact nby_z (b:=b) hp.1
  have hks:k.size≤8589934593:=by
   rw [hF.size,hd2,← RV.den_z]
   exact nby_z (Nat.le_trans (RV.den_size _) (Nat.succ_le_succ hp.2))
  conv=>whnf
  refine ⟨(b,s,t),rfl,hp,?_⟩
  rw [show partsS.val (b,s,t)=.tuple ⟨[.agg ⟨[.bool B,.string m]⟩,.agg ⟨[.bool false,.string k]⟩]⟩ from by
   rw [← hE.enc,← hF.enc,hn2,hd2]; rfl]
  conv=>whnf
  refine ⟨((B,m),(false,k)),rfl,⟨by show m.size≤_; omega,by show k.size≤_; omega,by show 0 < IV.z (false,k); rw [hF.val]; omega⟩,?_⟩
  rw [show reduceS.val ((B,m),(false,k))=(RV.of w).v from by
   show encQ (mkRat (IV.z (B,m)) (IV.z (false,k)).natAbs)=_
   rw [hE.val,hF.val,hwn,Int.natAbs_natCast]; rfl]
  conv=>whnf
  exact fin _ rfl
end Go.Proofs.YtppeponndkfbkaaGreat
/- Contracts of the reference rationals: sum, product, comparison. -/
set_option maxRecDepth 20000
set_option maxHeartbeats 1000000
namespace Go.Proofs.YtppeponndkfbkaaGreat
open Go Go.Ae
theorem rqadd_ok:Snd Tryz.prog 86 qaddS:=by
 refine snd_of Eqbok Dok Tryz.func86 (enters_of Tryz.func86 (by kernel_rfl) rfl) (fun _=>rfl) (fun _=>rfl) ?_
 intro ⟨⟨b,s,t⟩,⟨c,u,v⟩⟩ hp
 have hp:(s.size≤8589934592∧t.size≤8589934592)∧u.size≤8589934592∧v.size≤8589934592:=hp
 have hn:=RV.tinyR (i:=(b,s,t))
 have hm:=RV.tinyR (i:=(c,u,v))
 obtain ⟨n,hn2⟩:∃ n,n=RV.n (b,s,t):=⟨_,rfl⟩
 obtain ⟨m,hm2⟩:∃ n,n=RV.n (c,u,v):=⟨_,rfl⟩
 obtain ⟨d,hd2⟩:∃ n,n=RV.d (b,s,t):=⟨_,rfl⟩
 obtain ⟨e,he2⟩:∃ n,n=RV.d (c,u,v):=⟨_,rfl⟩
 have hd0:d≠0:=by rw [hd2]; exact RV.d_pos _
 have he0:e≠0:=by rw [he2]; exact RV.d_pos _
 rw [← hn2,← hd2] at hn
 rw [← hm2,← he2] at hm
 obtain ⟨B,p,hP⟩:=EI.mk' n
 obtain ⟨q,hQ⟩:=EI.nonneg (show 0≤((d:Nat):Int) by omega)
 obtain ⟨D,p',hP'⟩:=EI.mk' m
 obtain ⟨q',hQ'⟩:=EI.nonneg (show 0≤((e:Nat):Int) by omega)
 have sn:nby n.natAbs≤8589934593:=by rw [hn2]; exact nby_z (b:=b) (Nat.le_succ_of_le hp.1.1)
 have sm:nby m.natAbs≤8589934593:=by rw [hm2]; exact nby_z (b:=c) (Nat.le_succ_of_le hp.2.1)
 have sd:nby (Int.natAbs ((d:Nat):Int))≤8589934593:=by
  rw [hd2,← RV.den_z]
  exact nby_z (Nat.le_trans (RV.den_size _) (Nat.succ_le_succ hp.1.2))
 have se:nby (Int.natAbs ((e:Nat):Int))≤8589934593:=by
  rw [he2,← RV.den_z]
  exact nby_z (Nat.le_trans (RV.den_size _) (Nat.succ_le_succ hp.2.2))
 have zp:p.size≤8589934593:=by rw [hP.size]; exact sn
 have zq:q.size≤8589934593:=by rw [hQ.size]; exact sd
 have zp':p'.size≤8589934593:=by rw [hP'.size]; exact sm
 have zq':q'.size≤8589934593:=by rw [hQ'.size]; exact se
 have pa:partsS.val (b,s,t)=.tuple ⟨[.agg ⟨[.bool B,.string p]⟩,.agg ⟨[.bool false,.string q]⟩]⟩:=by
  rw [← hP.enc,← hQ.enc,hn2,hd2]; rfl
 have pb:partsS.val (c,u,v)=.tuple ⟨[.agg ⟨[.bool D,.string p']⟩,.agg ⟨[.bool false,.string q']⟩]⟩:=by
  rw [← hP'.enc,← hQ'.enc,hm2,he2]; rfl
 obtain ⟨w,hw⟩:∃ w,w=mkRat (n*e+m*d) (d*e):=⟨_,rfl⟩
 have fin:∀ x:Value,x=(RV.of w).v→x=qaddS.val ((b,s,t),(c,u,v)):=fun x h=>by
  rw [h,hw,hn2,hm2,hd2,he2]
  show encQ _=encQ (RV.q (b,s,t)+RV.q (c,u,v))
  rw [add_q]
 conv=>whnf
 refine ⟨(b,s,t),rfl,trivial,?_⟩
 by_cases h1:RV.tiny (b,s,t)
 ·rw [show machS.val (b,s,t)=.tuple ⟨[.int .i64 n,.int .i64 d,.bool true]⟩ from by simp only [machS,if_pos h1,decide_eq_true h1,hn2,hd2]]
  conv=>whnf
  refine ⟨(c,u,v),rfl,trivial,?_⟩
  by_cases h2:RV.tiny (c,u,v)
  ·rw [show machS.val (c,u,v)=.tuple ⟨[.int .i64 m,.int .i64 e,.bool true]⟩ from by simp only [machS,if_pos h2,decide_eq_true h2,hm2,he2]]
   have hok:I4.ok ((n,d),(m,e)):=⟨hn h1,hm h2⟩
   obtain ⟨b1,b2,b3,b4⟩:=I4.bounds hok
   simp only at b1 b2 b3 b4
   conv=>whnf
   obtain ⟨x,hx⟩:∃ x,x=n*(e:Int):=⟨_,rfl⟩
   obtain ⟨y,hy⟩:∃ y,y=m*(d:Int):=⟨_,rfl⟩
   obtain ⟨k,hk⟩:∃ k,k=d*e:=⟨_,rfl⟩
   rw [← hx] at b1
   rw [← hy] at b2
   rw [← hk] at b4
   have e1:IntKind.i64.wrap (IntKind.i64.wrap (n*(e:Int))+IntKind.i64.wrap (m*(d:Int)))=x+y:=by
    rw [← hx,← hy,wrapi64 (x:=x) (by omega) (by omega),wrapi64 (x:=y) (by omega) (by omega),wrapi64 (by omega) (by omega)]
   have e2:IntKind.i64.wrap ((d:Int)*(e:Int))=(k:Int):=by
    rw [← Int.natCast_mul,← hk,wrapi64 (by omega) (by omega)]
   rw [e1,e2]
   refine ⟨(x+y,k),rfl,⟨by show (x+y).natAbs < _; omega,by show k≠0; omega,by show k < _; omega⟩,?_⟩
   rw [show ratioS.val (x+y,k)=(RV.of w).v from by rw [hw,hx,hy,hk]; rfl]
   conv=>whnf
   exact fin _ rfl
  ·rw [show machS.val (c,u,v)=.tuple ⟨[.int .i64 0,.int .i64 0,.bool false]⟩ from by simp only [machS,if_neg h2,decide_eq_false h2]]
   conv=>whnf
   refine ⟨(b,s,t),rfl,hp.1,?_⟩
   rw [pa]
   conv=>whnf
   refine ⟨(c,u,v),rfl,hp.2,?_⟩
   rw [pb]
   obtain ⟨B1,m1,g1⟩:=EI.mk' (n*(e:Int))
   obtain ⟨B2,m2,g2⟩:=EI.mk' (m*(d:Int))
   obtain ⟨B3,m3,g3⟩:=EI.mk' (n*(e:Int)+m*(d:Int))
   obtain ⟨B4,m4,g4⟩:=EI.mk' ((d:Int)*(e:Int))
   have z1:=g1.mul_size sn se
   have z2:=g2.mul_size sm sd
   have z4:=g4.mul_size sd se
   have z3:m3.size≤17179869187:=g3.add_size (by rw [← g1.size]; omega) (by rw [← g2.size]; omega)
   have hpos:(0:Int) < (d:Int)*(e:Int):=Int.mul_pos (by omega) (by omega)
   conv=>whnf
   refine .inl ⟨9,[[],[],[0,1],[],[],[0,1,2,3,4],[0,1,2,3,4,5],[],[],[0,1,2,3,4,5,6,7,8],[0,1,2,3,4,5,6,7,8,9],[0,1,2,3,4,5,6,7,8,9,10]],by kernel_rfl,?_⟩
   conv=>whnf
   refine ⟨((B,p),(false,q')),rfl,⟨by show p.size≤_; omega,by show q'.size≤_; omega⟩,?_⟩
   rw [show mulS.val ((B,p),(false,q'))=.agg ⟨[.bool B1,.string m1]⟩ from by show encI (IV.z (B,p)*IV.z (false,q'))=_; rw [hP.val,hQ'.val,g1.enc]]
   conv=>whnf
   refine ⟨((D,p'),(false,q)),rfl,⟨by show p'.size≤_; omega,by show q.size≤_; omega⟩,?_⟩
   rw [show mulS.val ((D,p'),(false,q))=.agg ⟨[.bool B2,.string m2]⟩ from by show encI (IV.z (D,p')*IV.z (false,q))=_; rw [hP'.val,hQ.val,g2.enc]]
   conv=>whnf
   refine ⟨((B1,m1),(B2,m2)),rfl,⟨by show m1.size≤_; omega,by show m2.size≤_; omega⟩,?_⟩
   rw [show addS.val ((B1,m1),(B2,m2))=.agg ⟨[.bool B3,.string m3]⟩ from by show encI (IV.z (B1,m1)+IV.z (B2,m2))=_; rw [g1.val,g2.val,g3.enc]]
   conv=>whnf
   refine ⟨((false,q),(false,q')),rfl,⟨by show q.size≤_; omega,by show q'.size≤_; omega⟩,?_⟩
   rw [show mulS.val ((false,q),(false,q'))=.agg ⟨[.bool B4,.string m4]⟩ from by show encI (IV.z (false,q)*IV.z (false,q'))=_; rw [hQ.val,hQ'.val,g4.enc]]
   conv=>whnf
   refine ⟨((B3,m3),(B4,m4)),rfl,⟨by show m3.size≤_; omega,by show m4.size≤_; omega,by show 0 < IV.z (B4,m4); rw [g4.val]; exact hpos⟩,?_⟩
   rw [show reduceS.val ((B3,m3),(B4,m4))=(RV.of w).v from by
    show encQ (mkRat (IV.z (B3,m3)) (IV.z (B4,m4)).natAbs)=_
    rw [g3.val,g4.val,hw,← Int.natCast_mul,Int.natAbs_natCast]; rfl]
   conv=>whnf
   exact fin _ rfl
 ·rw [show machS.val (b,s,t)=.tuple ⟨[.int .i64 0,.int .i64 0,.bool false]⟩ from by simp only [machS,if_neg h1,decide_eq_false h1]]
  conv=>whnf
  obtain ⟨k1,k2,k3,hk⟩:∃ (k1 k2:Int) (k3:Bool),machS.val (c,u,v)=.tuple ⟨[.int .i64 k1,.int .i64 k2,.bool k3]⟩:=⟨_,_,_,rfl⟩
  refine ⟨(c,u,v),rfl,trivial,?_⟩
  rw [hk]
  conv=>whnf
  refine ⟨(b,s,t),rfl,hp.1,?_⟩
  rw [pa]
  conv=>whnf
  refine ⟨(c,u,v),rfl,hp.2,?_⟩
  rw [pb]
  obtain ⟨B1,m1,g1⟩:=EI.mk' (n*(e:Int))
  obtain ⟨B2,m2,g2⟩:=EI.mk' (m*(d:Int))
  obtain ⟨B3,m3,g3⟩:=EI.mk' (n*(e:Int)+m*(d:Int))
  obtain ⟨B4,m4,g4⟩:=EI.mk' ((d:Int)*(e:Int))
  have z1:=g1.mul_size sn se
  have z2:=g2.mul_size sm sd
  have z4:=g4.mul_size sd se
  have z3:m3.size≤17179869187:=g3.add_size (by rw [← g1.size]; omega) (by rw [← g2.size]; omega)
  have hpos:(0:Int) < (d:Int)*(e:Int):=Int.mul_pos (by omega) (by omega)
  conv=>whnf
  refine .inl ⟨9,[[],[],[0,1],[],[],[0,1,2,3,4],[0,1,2,3,4,5],[],[],[0,1,2,3,4,5,6,7,8],[0,1,2,3,4,5,6,7,8,9],[0,1,2,3,4,5,6,7,8,9,10]],by kernel_rfl,?_⟩
  conv=>whnf
  refine ⟨((B,p),(false,q')),rfl,⟨by show p.size≤_; omega,by show q'.size≤_; omega⟩,?_⟩
  rw [show mulS.val ((B,p),(false,q'))=.agg ⟨[.bool B1,.string m1]⟩ from by show encI (IV.z (B,p)*IV.z (false,q'))=_; rw [hP.val,hQ'.val,g1.enc]]
  conv=>whnf
  refine ⟨((D,p'),(false,q)),rfl,⟨by show p'.size≤_; omega,by show q.size≤_; omega⟩,?_⟩
  rw [show mulS.val ((D,p'),(false,q))=.agg ⟨[.bool B2,.string m2]⟩ from by show encI (IV.z (D,p')*IV.z (false,q))=_; rw [hP'.val,hQ.val,g2.enc]]
  conv=>whnf
  refine ⟨((B1,m1),(B2,m2)),rfl,⟨by show m1.size≤_; omega,by show m2.size≤_; omega⟩,?_⟩
  rw [show addS.val ((B1,m1),(B2,m2))=.agg ⟨[.bool B3,.string m3]⟩ from by show encI (IV.z (B1,m1)+IV.z (B2,m2))=_; rw [g1.val,g2.val,g3.enc]]
  conv=>whnf
  refine ⟨((false,q),(false,q')),rfl,⟨by show q.size≤_; omega,by show q'.size≤_; omega⟩,?_⟩
  rw [show mulS.val ((false,q),(false,q'))=.agg ⟨[.bool B4,.string m4]⟩ from by show encI (IV.z (false,q)*IV.z (false,q'))=_; rw [hQ.val,hQ'.val,g4.enc]]
  conv=>whnf
  refine ⟨((B3,m3),(B4,m4)),rfl,⟨by show m3.size≤_; omega,by show m4.size≤_; omega,by show 0 < IV.z (B4,m4); rw [g4.val]; exact hpos⟩,?_⟩
  rw [show reduceS.val ((B3,m3),(B4,m4))=(RV.of w).v from by
   show encQ (mkRat (IV.z (B3,m3)) (IV.z (B4,m4)).natAbs)=_
   rw [g3.val,g4.val,hw,← Int.natCast_mul,Int.natAbs_natCast]; rfl]
  conv=>whnf
  exact fin _ rfl
theorem rqmul_ok:Snd Tryz.prog 87 qmulS:=by
 refine snd_of Eqbok Dok Tryz.func87 (enters_of Tryz.func87 (by kernel_rfl) rfl) (fun _=>rfl) (fun _=>rfl) ?_
 intro ⟨⟨b,s,t⟩,⟨c,u,v⟩⟩ hp
 have hp:(s.size≤8589934592∧t.size≤8589934592)∧u.size≤8589934592∧v.size≤8589934592:=hp
 have hn:=RV.tinyR (i:=(b,s,t))
 have hm:=RV.tinyR (i:=(c,u,v))
 obtain ⟨n,hn2⟩:∃ n,n=RV.n (b,s,t):=⟨_,rfl⟩
 obtain ⟨m,hm2⟩:∃ n,n=RV.n (c,u,v):=⟨_,rfl⟩
 obtain ⟨d,hd2⟩:∃ n,n=RV.d (b,s,t):=⟨_,rfl⟩
 obtain ⟨e,he2⟩:∃ n,n=RV.d (c,u,v):=⟨_,rfl⟩
 have hd0:d≠0:=by rw [hd2]; exact RV.d_pos _
 have he0:e≠0:=by rw [he2]; exact RV.d_pos _
 rw [← hn2,← hd2] at hn
 rw [← hm2,← he2] at hm
 obtain ⟨B,p,hP⟩:=EI.mk' n
 obtain ⟨q,hQ⟩:=EI.nonneg (show 0≤((d:Nat):Int) by omega)
 obtain ⟨D,p',hP'⟩:=EI.mk' m
 obtain ⟨q',hQ'⟩:=EI.nonneg (show 0≤((e:Nat):Int) by omega)
 have sn:nby n.natAbs≤8589934593:=by rw [hn2]; exact nby_z (b:=b) (Nat.le_succ_of_le hp.1.1)
 have sm:nby m.natAbs≤8589934593:=by rw [hm2]; exact nby_z (b:=c) (Nat.le_succ_of_le hp.2.1)
 have sd:nby (Int.natAbs ((d:Nat):Int))≤8589934593:=by
  rw [hd2,← RV.den_z]
  exact nby_z (Nat.le_trans (RV.den_size _) (Nat.succ_le_succ hp.1.2))
 have se:nby (Int.natAbs ((e:Nat):Int))≤8589934593:=by
  rw [he2,← RV.den_z]
  exact nby_z (Nat.le_trans (RV.den_size _) (Nat.succ_le_succ hp.2.2))
 have zp:p.size≤8589934593:=by rw [hP.size]; exact sn
 have zq:q.size≤8589934593:=by rw [hQ.size]; exact sd
 have zp':p'.size≤8589934593:=by rw [hP'.size]; exact sm
 have zq':q'.size≤8589934593:=by rw [hQ'.size]; exact se
 have pa:partsS.val (b,s,t)=.tuple ⟨[.agg ⟨[.bool B,.string p]⟩,.agg ⟨[.bool false,.string q]⟩]⟩:=by
  rw [← hP.enc,← hQ.enc,hn2,hd2]; rfl
 have pb:partsS.val (c,u,v)=.tuple ⟨[.agg ⟨[.bool D,.string p']⟩,.agg ⟨[.bool false,.string q']⟩]⟩:=by
  rw [← hP'.enc,← hQ'.enc,hm2,he2]; rfl
 obtain ⟨w,hw⟩:∃ w,w=mkRat (n*m) (d*e):=⟨_,rfl⟩
 have fin:∀ x:Value,x=(RV.of w).v→x=qmulS.val ((b,s,t),(c,u,v)):=fun x h=>by
  rw [h,hw,hn2,hm2,hd2,he2]
  show encQ _=encQ (RV.q (b,s,t)*RV.q (c,u,v))
  rw [mul_q]
 conv=>whnf
 refine ⟨(b,s,t),rfl,trivial,?_⟩
 by_cases h1:RV.tiny (b,s,t)
 ·rw [show machS.val (b,s,t)=.tuple ⟨[.int .i64 n,.int .i64 d,.bool true]⟩ from by simp only [machS,if_pos h1,decide_eq_true h1,hn2,hd2]]
  conv=>whnf
  refine ⟨(c,u,v),rfl,trivial,?_⟩
  by_cases h2:RV.tiny (c,u,v)
  ·rw [show machS.val (c,u,v)=.tuple ⟨[.int .i64 m,.int .i64 e,.bool true]⟩ from by simp only [machS,if_pos h2,decide_eq_true h2,hm2,he2]]
   have hok:I4.ok ((n,d),(m,e)):=⟨hn h1,hm h2⟩
   obtain ⟨b1,b2,b3,b4⟩:=I4.bounds hok
   simp only at b1 b2 b3 b4
   conv=>whnf
   obtain ⟨x,hx⟩:∃ x,x=n*m:=⟨_,rfl⟩
   obtain ⟨k,hk⟩:∃ k,k=d*e:=⟨_,rfl⟩
   rw [← hx] at b3
   rw [← hk] at b4
   have e1:IntKind.i64.wrap (n*m)=x:=by
    rw [← hx,wrapi64 (x:=x) (by omega) (by omega)]
   have e2:IntKind.i64.wrap ((d:Int)*(e:Int))=(k:Int):=by
    rw [← Int.natCast_mul,← hk,wrapi64 (by omega) (by omega)]
   rw [e1,e2]
   refine ⟨(x,k),rfl,⟨by show x.natAbs < _; omega,by show k≠0; omega,by show k < _; omega⟩,?_⟩
   rw [show ratioS.val (x,k)=(RV.of w).v from by rw [hw,hx,hk]; rfl]
   conv=>whnf
   exact fin _ rfl
  ·rw [show machS.val (c,u,v)=.tuple ⟨[.int .i64 0,.int .i64 0,.bool false]⟩ from by simp only [machS,if_neg h2,decide_eq_false h2]]
   conv=>whnf
   refine ⟨(b,s,t),rfl,hp.1,?_⟩
   rw [pa]
   conv=>whnf
   refine ⟨(c,u,v),rfl,hp.2,?_⟩
   rw [pb]
   obtain ⟨B1,m1,g1⟩:=EI.mk' (n*m)
   obtain ⟨B4,m4,g4⟩:=EI.mk' ((d:Int)*(e:Int))
   have z1:=g1.mul_size sn sm
   have z4:=g4.mul_size sd se
   have hpos:(0:Int) < (d:Int)*(e:Int):=Int.mul_pos (by omega) (by omega)
   conv=>whnf
   refine .inl ⟨5,[[],[],[0,1],[],[],[0,1,2,3,4],[0,1,2,3,4,5],[0,1,2,3,4,5,6]],by kernel_rfl,?_⟩
   conv=>whnf
   refine ⟨((B,p),(D,p')),rfl,⟨by show p.size≤_; omega,by show p'.size≤_; omega⟩,?_⟩
   rw [show mulS.val ((B,p),(D,p'))=.agg ⟨[.bool B1,.string m1]⟩ from by show encI (IV.z (B,p)*IV.z (D,p'))=_; rw [hP.val,hP'.val,g1.enc]]
   conv=>whnf
   refine ⟨((false,q),(false,q')),rfl,⟨by show q.size≤_; omega,by show q'.size≤_; omega⟩,?_⟩
   rw [show mulS.val ((false,q),(false,q'))=.agg ⟨[.bool B4,.string m4]⟩ from by show encI (IV.z (false,q)*IV.z (false,q'))=_; rw [hQ.val,hQ'.val,g4.enc]]
   conv=>whnf
   refine ⟨((B1,m1),(B4,m4)),rfl,⟨by show m1.size≤_; omega,by show m4.size≤_; omega,by show 0 < IV.z (B4,m4); rw [g4.val]; exact hpos⟩,?_⟩
   rw [show reduceS.val ((B1,m1),(B4,m4))=(RV.of w).v from by
    show encQ (mkRat (IV.z (B1,m1)) (IV.z (B4,m4)).natAbs)=_
    rw [g1.val,g4.val,hw,← Int.natCast_mul,Int.natAbs_natCast]; rfl]
   conv=>whnf
   exact fin _ rfl
 ·rw [show machS.val (b,s,t)=.tuple ⟨[.int .i64 0,.int .i64 0,.bool false]⟩ from by simp only [machS,if_neg h1,decide_eq_false h1]]
  conv=>whnf
  obtain ⟨k1,k2,k3,hk⟩:∃ (k1 k2:Int) (k3:Bool),machS.val (c,u,v)=.tuple ⟨[.int .i64 k1,.int .i64 k2,.bool k3]⟩:=⟨_,_,_,rfl⟩
  refine ⟨(c,u,v),rfl,trivial,?_⟩
  rw [hk]
  conv=>whnf
  refine ⟨(b,s,t),rfl,hp.1,?_⟩
  rw [pa]
  conv=>whnf
  refine ⟨(c,u,v),rfl,hp.2,?_⟩
  rw [pb]
  obtain ⟨B1,m1,g1⟩:=EI.mk' (n*m)
  obtain ⟨B4,m4,g4⟩:=EI.mk' ((d:Int)*(e:Int))
  have z1:=g1.mul_size sn sm
  have z4:=g4.mul_size sd se
  have hpos:(0:Int) < (d:Int)*(e:Int):=Int.mul_pos (by omega) (by omega)
  conv=>whnf
  refine .inl ⟨5,[[],[],[0,1],[],[],[0,1,2,3,4],[0,1,2,3,4,5],[0,1,2,3,4,5,6]],by kernel_rfl,?_⟩
  conv=>whnf
  refine ⟨((B,p),(D,p')),rfl,⟨by show p.size≤_; omega,by show p'.size≤_; omega⟩,?_⟩
  rw [show mulS.val ((B,p),(D,p'))=.agg ⟨[.bool B1,.string m1]⟩ from by show encI (IV.z (B,p)*IV.z (D,p'))=_; rw [hP.val,hP'.val,g1.enc]]
  conv=>whnf
  refine ⟨((false,q),(false,q')),rfl,⟨by show q.size≤_; omega,by show q'.size≤_; omega⟩,?_⟩
  rw [show mulS.val ((false,q),(false,q'))=.agg ⟨[.bool B4,.string m4]⟩ from by show encI (IV.z (false,q)*IV.z (false,q'))=_; rw [hQ.val,hQ'.val,g4.enc]]
  conv=>whnf
  refine ⟨((B1,m1),(B4,m4)),rfl,⟨by show m1.size≤_; omega,by show m4.size≤_; omega,by show 0 < IV.z (B4,m4); rw [g4.val]; exact hpos⟩,?_⟩
  rw [show reduceS.val ((B1,m1),(B4,m4))=(RV.of w).v from by
   show encQ (mkRat (IV.z (B1,m1)) (IV.z (B4,m4)).natAbs)=_
   rw [g1.val,g4.val,hw,← Int.natCast_mul,Int.natAbs_natCast]; rfl]
  conv=>whnf
  exact fin _ rfl
theorem rqcmp_ok:Snd Tryz.prog 85 qcmpS:=by
 refine snd_of Eqbok Dok Tryz.func85 (enters_of Tryz.func85 (by kernel_rfl) rfl) (fun _=>rfl) (fun _=>rfl) ?_
 intro ⟨⟨b,s,t⟩,⟨c,u,v⟩⟩ hp
 have hp:(s.size≤8589934592∧t.size≤8589934592)∧u.size≤8589934592∧v.size≤8589934592:=hp
 have hn:=RV.tinyR (i:=(b,s,t))
 have hm:=RV.tinyR (i:=(c,u,v))
 obtain ⟨n,hn2⟩:∃ n,n=RV.n (b,s,t):=⟨_,rfl⟩
 obtain ⟨m,hm2⟩:∃ n,n=RV.n (c,u,v):=⟨_,rfl⟩
 obtain ⟨d,hd2⟩:∃ n,n=RV.d (b,s,t):=⟨_,rfl⟩
 obtain ⟨e,he2⟩:∃ n,n=RV.d (c,u,v):=⟨_,rfl⟩
 have hd0:d≠0:=by rw [hd2]; exact RV.d_pos _
 have he0:e≠0:=by rw [he2]; exact RV.d_pos _
 rw [← hn2,← hd2] at hn
 rw [← hm2,← he2] at hm
 obtain ⟨B,p,hP⟩:=EI.mk' n
 obtain ⟨q,hQ⟩:=EI.nonneg (show 0≤((d:Nat):Int) by omega)
 obtain ⟨D,p',hP'⟩:=EI.mk' m
 obtain ⟨q',hQ'⟩:=EI.nonneg (show 0≤((e:Nat):Int) by omega)
 have sn:nby n.natAbs≤8589934593:=by rw [hn2]; exact nby_z (b:=b) (Nat.le_succ_of_le hp.1.1)
 have sm:nby m.natAbs≤8589934593:=by rw [hm2]; exact nby_z (b:=c) (Nat.le_succ_of_le hp.2.1)
 have sd:nby (Int.natAbs ((d:Nat):Int))≤8589934593:=by
  rw [hd2,← RV.den_z]
  exact nby_z (Nat.le_trans (RV.den_size _) (Nat.succ_le_succ hp.1.2))
 have se:nby (Int.natAbs ((e:Nat):Int))≤8589934593:=by
  rw [he2,← RV.den_z]
  exact nby_z (Nat.le_trans (RV.den_size _) (Nat.succ_le_succ hp.2.2))
 have zp:p.size≤8589934593:=by rw [hP.size]; exact sn
 have zq:q.size≤8589934593:=by rw [hQ.size]; exact sd
 have zp':p'.size≤8589934593:=by rw [hP'.size]; exact sm
 have zq':q'.size≤8589934593:=by rw [hQ'.size]; exact se
 have pa:partsS.val (b,s,t)=.tuple ⟨[.agg ⟨[.bool B,.string p]⟩,.agg ⟨[.bool false,.string q]⟩]⟩:=by
  rw [← hP.enc,← hQ.enc,hn2,hd2]; rfl
 have pb:partsS.val (c,u,v)=.tuple ⟨[.agg ⟨[.bool D,.string p']⟩,.agg ⟨[.bool false,.string q']⟩]⟩:=by
  rw [← hP'.enc,← hQ'.enc,hm2,he2]; rfl
 obtain ⟨w,hw⟩:∃ w,w=cmpZ (n*e) (m*d):=⟨_,rfl⟩
 have fin:∀ x:Int,x=w→Value.int .i64 x=qcmpS.val ((b,s,t),(c,u,v)):=fun x h=>by
  rw [h,hw,hn2,hm2,hd2,he2]
  show Value.int .i64 _=.int .i64 (cmpQ (RV.q (b,s,t)) (RV.q (c,u,v)))
  rw [cmp_q]
 conv=>whnf
 refine ⟨(b,s,t),rfl,trivial,?_⟩
 by_cases h1:RV.tiny (b,s,t)
 ·rw [show machS.val (b,s,t)=.tuple ⟨[.int .i64 n,.int .i64 d,.bool true]⟩ from by simp only [machS,if_pos h1,decide_eq_true h1,hn2,hd2]]
  conv=>whnf
  refine ⟨(c,u,v),rfl,trivial,?_⟩
  by_cases h2:RV.tiny (c,u,v)
  ·rw [show machS.val (c,u,v)=.tuple ⟨[.int .i64 m,.int .i64 e,.bool true]⟩ from by simp only [machS,if_pos h2,decide_eq_true h2,hm2,he2]]
   have hok:I4.ok ((n,d),(m,e)):=⟨hn h1,hm h2⟩
   obtain ⟨b1,b2,b3,b4⟩:=I4.bounds hok
   simp only at b1 b2 b3 b4
   conv=>whnf
   obtain ⟨x,hx⟩:∃ x,x=n*(e:Int):=⟨_,rfl⟩
   obtain ⟨y,hy⟩:∃ y,y=m*(d:Int):=⟨_,rfl⟩
   rw [← hx] at b1
   rw [← hy] at b2
   have e1:IntKind.i64.wrap (n*(e:Int))=x:=by rw [← hx,wrapi64 (x:=x) (by omega) (by omega)]
   have e2:IntKind.i64.wrap (m*(d:Int))=y:=by rw [← hy,wrapi64 (x:=y) (by omega) (by omega)]
   rw [← hx,← hy] at hw
   rw [e1,e2]
   refine br_intro (fun h=>?_) (fun h=>?_)
   ·have h:=of_decide_eq_true h
    conv=>whnf
    exact fin _ (hw.trans (cmpZ_lt h)).symm
   ·have h:=of_decide_eq_false h
    conv=>whnf
    rw [e1,e2]
    refine br_intro (fun h5=>?_) (fun h5=>?_)
    ·have h5:=of_decide_eq_true h5
     conv=>whnf
     exact fin _ (hw.trans (cmpZ_gt h5)).symm
    ·have h5:=of_decide_eq_false h5
     conv=>whnf
     refine fin _ ?_
     rw [hw]
     unfold cmpZ
     rw [if_neg h,if_neg (show ¬ y < x from h5)]
  ·rw [show machS.val (c,u,v)=.tuple ⟨[.int .i64 0,.int .i64 0,.bool false]⟩ from by simp only [machS,if_neg h2,decide_eq_false h2]]
   conv=>whnf
   refine ⟨(b,s,t),rfl,hp.1,?_⟩
   rw [pa]
   conv=>whnf
   refine ⟨(c,u,v),rfl,hp.2,?_⟩
   rw [pb]
   obtain ⟨B1,m1,g1⟩:=EI.mk' (n*(e:Int))
   obtain ⟨B2,m2,g2⟩:=EI.mk' (m*(d:Int))
   have z1:=g1.mul_size sn se
   have z2:=g2.mul_size sm sd
   conv=>whnf
   refine .inl ⟨5,[[],[],[0,1],[],[],[0,1,2,3,4],[0,1,2,3,4,5],[0,1,2,3,4,5,6]],by kernel_rfl,?_⟩
   conv=>whnf
   refine ⟨((B,p),(false,q')),rfl,⟨by show p.size≤_; omega,by show q'.size≤_; omega⟩,?_⟩
   rw [show mulS.val ((B,p),(false,q'))=.agg ⟨[.bool B1,.string m1]⟩ from by show encI (IV.z (B,p)*IV.z (false,q'))=_; rw [hP.val,hQ'.val,g1.enc]]
   conv=>whnf
   refine ⟨((D,p'),(false,q)),rfl,⟨by show p'.size≤_; omega,by show q.size≤_; omega⟩,?_⟩
   rw [show mulS.val ((D,p'),(false,q))=.agg ⟨[.bool B2,.string m2]⟩ from by show encI (IV.z (D,p')*IV.z (false,q))=_; rw [hP'.val,hQ.val,g2.enc]]
   conv=>whnf
   refine ⟨((B1,m1),(B2,m2)),rfl,⟨by show m1.size≤_; omega,by show m2.size≤_; omega⟩,?_⟩
   rw [show cmpS.val ((B1,m1),(B2,m2))=.int .i64 w from by show Value.int .i64 (cmpZ (IV.z (B1,m1)) (IV.z (B2,m2)))=_; rw [g1.val,g2.val,hw]]
   conv=>whnf
   exact fin _ rfl
 ·rw [show machS.val (b,s,t)=.tuple ⟨[.int .i64 0,.int .i64 0,.bool false]⟩ from by simp only [machS,if_neg h1,decide_eq_false h1]]
  conv=>whnf
  obtain ⟨k1,k2,k3,hk⟩:∃ (k1 k2:Int) (k3:Bool),machS.val (c,u,v)=.tuple ⟨[.int .i64 k1,.int .i64 k2,.bool k3]⟩:=⟨_,_,_,rfl⟩
  refine ⟨(c,u,v),rfl,trivial,?_⟩
  rw [hk]
  conv=>whnf
  refine ⟨(b,s,t),rfl,hp.1,?_⟩
  rw [pa]
  conv=>whnf
  refine ⟨(c,u,v),rfl,hp.2,?_⟩
  rw [pb]
  obtain ⟨B1,m1,g1⟩:=EI.mk' (n*(e:Int))
  obtain ⟨B2,m2,g2⟩:=EI.mk' (m*(d:Int))
  have z1:=g1.mul_size sn se
  have z2:=g2.mul_size sm sd
  conv=>whnf
  refine .inl ⟨5,[[],[],[0,1],[],[],[0,1,2,3,4],[0,1,2,3,4,5],[0,1,2,3,4,5,6]],by kernel_rfl,?_⟩
  conv=>whnf
  refine ⟨((B,p),(false,q')),rfl,⟨by show p.size≤_; omega,by show q'.size≤_; omega⟩,?_⟩
  rw [show mulS.val ((B,p),(false,q'))=.agg ⟨[.bool B1,.string m1]⟩ from by show encI (IV.z (B,p)*IV.z (false,q'))=_; rw [hP.val,hQ'.val,g1.enc]]
  conv=>whnf
  refine ⟨((D,p'),(false,q)),rfl,⟨by show p'.size≤_; omega,by show q.size≤_; omega⟩,?_⟩
  rw [show mulS.val ((D,p'),(false,q))=.agg ⟨[.bool B2,.string m2]⟩ from by show encI (IV.z (D,p')*IV.z (false,q))=_; rw [hP'.val,hQ.val,g2.enc]]
  conv=>whnf
  refine ⟨((B1,m1),(B2,m2)),rfl,⟨by show m1.size≤_; omega,by show m2.size≤_; omega⟩,?_⟩
  rw [show cmpS.val ((B1,m1),(B2,m2))=.int .i64 w from by show Value.int .i64 (cmpZ (IV.z (B1,m1)) (IV.z (B2,m2)))=_; rw [g1.val,g2.val,hw]]
  conv=>whnf
  exact fin _ rfl
def Eqd:Env:=En [(86,.p qaddS),(85,.p qcmpS)]
theorem Eqdok:EnvOk Tryz.prog Eqd:=Enk ⟨rqadd_ok,rqcmp_ok,trivial⟩ trivial
theorem rqsub_ok:Snd Tryz.prog 45 qsubS:=by
 refine snd_of Eqdok Dok Tryz.func45 (enters_of Tryz.func45 (by kernel_rfl) rfl) (fun _=>rfl) (fun _=>rfl) ?_
 intro ⟨⟨b,s,t⟩,⟨c,u,v⟩⟩ hp
 have hp:RV.ok (b,s,t)∧RV.ok (c,u,v):=hp
 obtain ⟨w,hw⟩:∃ w,w=RV.q (b,s,t) - RV.q (c,u,v):=⟨_,rfl⟩
 conv=>whnf
 refine ⟨((b,s,t),(!c,u,v)),rfl,hp,?_⟩
 rw [show qaddS.val ((b,s,t),(!c,u,v))=(RV.of w).v from by
  rw [hw]
  show encQ (RV.q (b,s,t)+RV.q (!c,u,v))=encQ _
  rw [neg_q',← Rat.sub_eq_add_neg]]
 conv=>whnf
 show (RV.of w).v=encQ _
 rw [hw]
 rfl
end Go.Proofs.YtppeponndkfbkaaGreat
/- Contracts of vector and of the reference vectors: sums, products. -/
set_option maxRecDepth 20000
set_option maxHeartbeats 1000000
namespace Go.Proofs.YtppeponndkfbkaaGreat
open Go Go.Ae
def Eva:Env:=En [(91,.p qaddS),(52,.p qsubS),(90,.p qmulS)]
theorem Evaok:EnvOk Tryz.prog Eva:=Enk ⟨qadd_ok,qsub_ok,qmul_ok,trivial⟩ trivial
theorem each_ft:FTOk Tryz.prog 83 (fnK Eva drawT Tryz.f83):=by
 exact ft_of Evaok Dok Tryz.func83 (enters_of Tryz.func83 (by kernel_rfl) rfl)
def Evb:Env:=En [(40,.p qofS),(91,.p qaddS),(52,.p qsubS),(67,.p qcmpS)] [(83,fnK Eva drawT Tryz.f83)]
theorem Evbok:EnvOk Tryz.prog Evb:=Enk ⟨qof_ok,qadd_ok,qsub_ok,qcmp_ok,trivial⟩ ⟨each_ft,trivial⟩
def Evr:Env:=En [(56,.p qofS),(86,.p qaddS),(45,.p qsubS),(87,.p qmulS),(85,.p qcmpS),(59,.p qnormS)]
theorem Evrok:EnvOk Tryz.prog Evr:=Enk ⟨rqof_ok,rqadd_ok,rqsub_ok,rqmul_ok,rqcmp_ok,rqnorm_ok,trivial⟩ trivial
theorem vof_ok:Snd Tryz.prog 39 vofS:=by
 refine snd_of Evbok Dok Tryz.func39 (enters_of Tryz.func39 (by kernel_rfl) rfl) (fun _=>rfl) (fun _=>rfl) ?_
 intro ⟨n,m⟩ hp
 have hp:ok1 n∧ok1 m:=hp
 obtain ⟨x,hx⟩:∃ x:Rat,x=(n:Rat):=⟨_,rfl⟩
 obtain ⟨y,hy⟩:∃ x:Rat,x=(m:Rat):=⟨_,rfl⟩
 conv=>whnf
 refine ⟨n,rfl,hp.1,?_⟩
 rw [show qofS.val n=(RV.of x).v from by rw [hx]; rfl]
 conv=>whnf
 refine ⟨m,rfl,hp.2,?_⟩
 rw [show qofS.val m=(RV.of y).v from by rw [hy]; rfl]
 conv=>whnf
 show PV.v (RV.of x,RV.of y)=encP _ _
 rw [hx,hy]
 rfl
theorem vadd_ok:Snd Tryz.prog 64 vaddS:=by
 refine snd_of Evbok Dok Tryz.func64 (enters_of Tryz.func64 (by kernel_rfl) rfl) (fun _=>rfl) (fun _=>rfl) ?_
 intro ⟨p,q⟩ hp
 have hp:p.sz 8589934592∧q.sz 8589934592:=hp
 obtain ⟨x,hx⟩:∃ x,x=p.1.q+q.1.q:=⟨_,rfl⟩
 obtain ⟨y,hy⟩:∃ x,x=p.2.q+q.2.q:=⟨_,rfl⟩
 conv=>whnf
 refine .inl ⟨11,[[],[],[1],[],[3],[0,1,2,3,4],[],[],[7],[],[9],[0,1,2,3,4,5,6,7,8,9,10],[0,1,2,3,4,5,6,7,8,9,10,11],[0,1,2,3,4,5,6,7,8,9,10,11,12]],by kernel_rfl,?_⟩
 conv=>whnf
 refine ⟨(p.1,q.1),rfl,⟨hp.1.1,hp.2.1⟩,?_⟩
 rw [show qaddS.val (p.1,q.1)=(RV.of x).v from by rw [hx]; rfl]
 conv=>whnf
 refine ⟨(p.2,q.2),rfl,⟨hp.1.2,hp.2.2⟩,?_⟩
 rw [show qaddS.val (p.2,q.2)=(RV.of y).v from by rw [hy]; rfl]
 conv=>whnf
 show PV.v (RV.of x,RV.of y)=encP _ _
 rw [hx,hy]
 rfl
theorem vsub_ok:Snd Tryz.prog 41 vsubS:=by
 refine snd_of Evbok Dok Tryz.func41 (enters_of Tryz.func41 (by kernel_rfl) rfl) (fun _=>rfl) (fun _=>rfl) ?_
 intro ⟨p,q⟩ hp
 have hp:p.sz 8589934592∧q.sz 8589934592:=hp
 obtain ⟨x,hx⟩:∃ x,x=p.1.q - q.1.q:=⟨_,rfl⟩
 obtain ⟨y,hy⟩:∃ x,x=p.2.q - q.2.q:=⟨_,rfl⟩
 conv=>whnf
 refine .inl ⟨11,[[],[],[1],[],[3],[0,1,2,3,4],[],[],[7],[],[9],[0,1,2,3,4,5,6,7,8,9,10],[0,1,2,3,4,5,6,7,8,9,10,11],[0,1,2,3,4,5,6,7,8,9,10,11,12]],by kernel_rfl,?_⟩
 conv=>whnf
 refine ⟨(p.1,q.1),rfl,⟨hp.1.1,hp.2.1⟩,?_⟩
 rw [show qsubS.val (p.1,q.1)=(RV.of x).v from by rw [hx]; rfl]
 conv=>whnf
 refine ⟨(p.2,q.2),rfl,⟨hp.1.2,hp.2.2⟩,?_⟩
 rw [show qsubS.val (p.2,q.2)=(RV.of y).v from by rw [hy]; rfl]
 conv=>whnf
 show PV.v (RV.of x,RV.of y)=encP _ _
 rw [hx,hy]
 rfl
theorem rvadd_ok:Snd Tryz.prog 143 vaddS:=by
 refine snd_of Evrok Dok Tryz.func143 (enters_of Tryz.func143 (by kernel_rfl) rfl) (fun _=>rfl) (fun _=>rfl) ?_
 intro ⟨p,q⟩ hp
 have hp:p.sz 8589934592∧q.sz 8589934592:=hp
 obtain ⟨x,hx⟩:∃ x,x=p.1.q+q.1.q:=⟨_,rfl⟩
 obtain ⟨y,hy⟩:∃ x,x=p.2.q+q.2.q:=⟨_,rfl⟩
 conv=>whnf
 refine .inl ⟨9,[[],[0],[],[2],[0,1,2,3],[],[5],[],[7],[0,1,2,3,4,5,6,7,8],[0,1,2,3,4,5,6,7,8,9],[0,1,2,3,4,5,6,7,8,9,10]],by kernel_rfl,?_⟩
 conv=>whnf
 refine ⟨(p.1,q.1),rfl,⟨hp.1.1,hp.2.1⟩,?_⟩
 rw [show qaddS.val (p.1,q.1)=(RV.of x).v from by rw [hx]; rfl]
 conv=>whnf
 refine ⟨(p.2,q.2),rfl,⟨hp.1.2,hp.2.2⟩,?_⟩
 rw [show qaddS.val (p.2,q.2)=(RV.of y).v from by rw [hy]; rfl]
 conv=>whnf
 show PV.v (RV.of x,RV.of y)=encP _ _
 rw [hx,hy]
 rfl
theorem rvsub_ok:Snd Tryz.prog 55 vsubS:=by
 refine snd_of Evrok Dok Tryz.func55 (enters_of Tryz.func55 (by kernel_rfl) rfl) (fun _=>rfl) (fun _=>rfl) ?_
 intro ⟨p,q⟩ hp
 have hp:p.sz 8589934592∧q.sz 8589934592:=hp
 obtain ⟨x,hx⟩:∃ x,x=p.1.q - q.1.q:=⟨_,rfl⟩
 obtain ⟨y,hy⟩:∃ x,x=p.2.q - q.2.q:=⟨_,rfl⟩
 conv=>whnf
 refine .inl ⟨9,[[],[0],[],[2],[0,1,2,3],[],[5],[],[7],[0,1,2,3,4,5,6,7,8],[0,1,2,3,4,5,6,7,8,9],[0,1,2,3,4,5,6,7,8,9,10]],by kernel_rfl,?_⟩
 conv=>whnf
 refine ⟨(p.1,q.1),rfl,⟨hp.1.1,hp.2.1⟩,?_⟩
 rw [show qsubS.val (p.1,q.1)=(RV.of x).v from by rw [hx]; rfl]
 conv=>whnf
 refine ⟨(p.2,q.2),rfl,⟨hp.1.2,hp.2.2⟩,?_⟩
 rw [show qsubS.val (p.2,q.2)=(RV.of y).v from by rw [hy]; rfl]
 conv=>whnf
 show PV.v (RV.of x,RV.of y)=encP _ _
 rw [hx,hy]
 rfl
theorem vscale_ok:Snd Tryz.prog 51 vscaleS:=by
 refine snd_of Evbok Dok Tryz.func51 (enters_of Tryz.func51 (by kernel_rfl) rfl) (fun _=>rfl) (fun _=>rfl) ?_
 intro ⟨p,q⟩ hp
 have hp:p.sz 8589934592∧q.sz 8589934592:=hp
 obtain ⟨x,hx⟩:∃ x,x=p.1.q*q.q:=⟨_,rfl⟩
 obtain ⟨y,hy⟩:∃ x,x=p.2.q*q.q:=⟨_,rfl⟩
 conv=>whnf
 refine .inl ⟨11,[[],[],[1],[],[3],[0,1,2,3,4],[],[],[7],[],[9],[0,1,2,3,4,5,6,7,8,9,10],[0,1,2,3,4,5,6,7,8,9,10,11],[0,1,2,3,4,5,6,7,8,9,10,11,12]],by kernel_rfl,?_⟩
 conv=>whnf
 refine ⟨(p.1,q),rfl,⟨hp.1.1,hp.2⟩,?_⟩
 rw [show qmulS.val (p.1,q)=(RV.of x).v from by rw [hx]; rfl]
 conv=>whnf
 refine ⟨(p.2,q),rfl,⟨hp.1.2,hp.2⟩,?_⟩
 rw [show qmulS.val (p.2,q)=(RV.of y).v from by rw [hy]; rfl]
 conv=>whnf
 show PV.v (RV.of x,RV.of y)=encP _ _
 rw [hx,hy]
 rfl
theorem rvscale_ok:Snd Tryz.prog 54 vscaleS:=by
 refine snd_of Evrok Dok Tryz.func54 (enters_of Tryz.func54 (by kernel_rfl) rfl) (fun _=>rfl) (fun _=>rfl) ?_
 intro ⟨p,q⟩ hp
 have hp:p.sz 8589934592∧q.sz 8589934592:=hp
 obtain ⟨x,hx⟩:∃ x,x=p.1.q*q.q:=⟨_,rfl⟩
 obtain ⟨y,hy⟩:∃ x,x=p.2.q*q.q:=⟨_,rfl⟩
 conv=>whnf
 refine .inl ⟨7,[[],[0],[],[0,1,2],[],[4],[],[0,1,2,3,4,5,6],[0,1,2,3,4,5,6,7],[0,1,2,3,4,5,6,7,8]],by kernel_rfl,?_⟩
 conv=>whnf
 refine ⟨(p.1,q),rfl,⟨hp.1.1,hp.2⟩,?_⟩
 rw [show qmulS.val (p.1,q)=(RV.of x).v from by rw [hx]; rfl]
 conv=>whnf
 refine ⟨(p.2,q),rfl,⟨hp.1.2,hp.2⟩,?_⟩
 rw [show qmulS.val (p.2,q)=(RV.of y).v from by rw [hy]; rfl]
 conv=>whnf
 show PV.v (RV.of x,RV.of y)=encP _ _
 rw [hx,hy]
 rfl
theorem vdot_ok:Snd Tryz.prog 53 vdotS:=by
 refine snd_of Evbok Dok Tryz.func53 (enters_of Tryz.func53 (by kernel_rfl) rfl) (fun _=>rfl) (fun _=>rfl) ?_
 intro ⟨p,q⟩ hp
 have hp:p.sz 1073741824∧q.sz 1073741824:=hp
 obtain ⟨x,hx⟩:∃ x,x=p.1.q*q.1.q:=⟨_,rfl⟩
 obtain ⟨y,hy⟩:∃ x,x=p.2.q*q.2.q:=⟨_,rfl⟩
 obtain ⟨z,hz⟩:∃ z,z=x+y:=⟨_,rfl⟩
 have sx:(RV.of x).ok:=RV.sz_ok (RV.of_sz (by rw [hx]; exact (RV.qb' hp.1.1 (by decide)).mul (RV.qb' hp.2.1 (by decide)))) (by decide)
 have sy:(RV.of y).ok:=RV.sz_ok (RV.of_sz (by rw [hy]; exact (RV.qb' hp.1.2 (by decide)).mul (RV.qb' hp.2.2 (by decide)))) (by decide)
 conv=>whnf
 refine .inl ⟨11,[[],[],[1],[],[3],[0,1,2,3,4],[],[],[7],[],[9],[0,1,2,3,4,5,6,7,8,9,10],[0,1,2,3,4,5,6,7,8,9,10,11],[0,1,2,3,4,5,6,7,8,9,10,11,12]],by kernel_rfl,?_⟩
 conv=>whnf
 refine ⟨(p.1,q.1),rfl,⟨RV.sz_ok hp.1.1 (by decide),RV.sz_ok hp.2.1 (by decide)⟩,?_⟩
 rw [show qmulS.val (p.1,q.1)=(RV.of x).v from by rw [hx]; rfl]
 conv=>whnf
 refine ⟨(p.2,q.2),rfl,⟨RV.sz_ok hp.1.2 (by decide),RV.sz_ok hp.2.2 (by decide)⟩,?_⟩
 rw [show qmulS.val (p.2,q.2)=(RV.of y).v from by rw [hy]; rfl]
 conv=>whnf
 refine ⟨(RV.of x,RV.of y),rfl,⟨sx,sy⟩,?_⟩
 rw [show qaddS.val (RV.of x,RV.of y)=(RV.of z).v from by
  show encQ ((RV.of x).q+(RV.of y).q)=_
  rw [RV.of_q,RV.of_q,hz]; rfl]
 conv=>whnf
 show (RV.of z).v=encQ _
 rw [hz,hx,hy]
 rfl
theorem vcross_ok:Snd Tryz.prog 60 vcrossS:=by
 refine snd_of Evbok Dok Tryz.func60 (enters_of Tryz.func60 (by kernel_rfl) rfl) (fun _=>rfl) (fun _=>rfl) ?_
 intro ⟨p,q⟩ hp
 have hp:p.sz 1073741824∧q.sz 1073741824:=hp
 obtain ⟨x,hx⟩:∃ x,x=p.1.q*q.2.q:=⟨_,rfl⟩
 obtain ⟨y,hy⟩:∃ x,x=p.2.q*q.1.q:=⟨_,rfl⟩
 obtain ⟨z,hz⟩:∃ z,z=x - y:=⟨_,rfl⟩
 have sx:(RV.of x).ok:=RV.sz_ok (RV.of_sz (by rw [hx]; exact (RV.qb' hp.1.1 (by decide)).mul (RV.qb' hp.2.2 (by decide)))) (by decide)
 have sy:(RV.of y).ok:=RV.sz_ok (RV.of_sz (by rw [hy]; exact (RV.qb' hp.1.2 (by decide)).mul (RV.qb' hp.2.1 (by decide)))) (by decide)
 conv=>whnf
 refine .inl ⟨11,[[],[],[1],[],[3],[0,1,2,3,4],[],[],[7],[],[9],[0,1,2,3,4,5,6,7,8,9,10],[0,1,2,3,4,5,6,7,8,9,10,11],[0,1,2,3,4,5,6,7,8,9,10,11,12]],by kernel_rfl,?_⟩
 conv=>whnf
 refine ⟨(p.1,q.2),rfl,⟨RV.sz_ok hp.1.1 (by decide),RV.sz_ok hp.2.2 (by decide)⟩,?_⟩
 rw [show qmulS.val (p.1,q.2)=(RV.of x).v from by rw [hx]; rfl]
 conv=>whnf
 refine ⟨(p.2,q.1),rfl,⟨RV.sz_ok hp.1.2 (by decide),RV.sz_ok hp.2.1 (by decide)⟩,?_⟩
 rw [show qmulS.val (p.2,q.1)=(RV.of y).v from by rw [hy]; rfl]
 conv=>whnf
 refine ⟨(RV.of x,RV.of y),rfl,⟨sx,sy⟩,?_⟩
 rw [show qsubS.val (RV.of x,RV.of y)=(RV.of z).v from by
  show encQ ((RV.of x).q - (RV.of y).q)=_
  rw [RV.of_q,RV.of_q,hz]; rfl]
 conv=>whnf
 show (RV.of z).v=encQ _
 rw [hz,hx,hy]
 rfl
theorem rvdot_ok:Snd Tryz.prog 57 vdotS:=by
 refine snd_of Evrok Dok Tryz.func57 (enters_of Tryz.func57 (by kernel_rfl) rfl) (fun _=>rfl) (fun _=>rfl) ?_
 intro ⟨p,q⟩ hp
 have hp:p.sz 1073741824∧q.sz 1073741824:=hp
 obtain ⟨x,hx⟩:∃ x,x=p.1.q*q.1.q:=⟨_,rfl⟩
 obtain ⟨y,hy⟩:∃ x,x=p.2.q*q.2.q:=⟨_,rfl⟩
 obtain ⟨z,hz⟩:∃ z,z=x+y:=⟨_,rfl⟩
 have sx:(RV.of x).ok:=RV.sz_ok (RV.of_sz (by rw [hx]; exact (RV.qb' hp.1.1 (by decide)).mul (RV.qb' hp.2.1 (by decide)))) (by decide)
 have sy:(RV.of y).ok:=RV.sz_ok (RV.of_sz (by rw [hy]; exact (RV.qb' hp.1.2 (by decide)).mul (RV.qb' hp.2.2 (by decide)))) (by decide)
 conv=>whnf
 refine .inl ⟨9,[[],[0],[],[2],[0,1,2,3],[],[5],[],[7],[0,1,2,3,4,5,6,7,8],[0,1,2,3,4,5,6,7,8,9],[0,1,2,3,4,5,6,7,8,9,10]],by kernel_rfl,?_⟩
 conv=>whnf
 refine ⟨(p.1,q.1),rfl,⟨RV.sz_ok hp.1.1 (by decide),RV.sz_ok hp.2.1 (by decide)⟩,?_⟩
 rw [show qmulS.val (p.1,q.1)=(RV.of x).v from by rw [hx]; rfl]
 conv=>whnf
 refine ⟨(p.2,q.2),rfl,⟨RV.sz_ok hp.1.2 (by decide),RV.sz_ok hp.2.2 (by decide)⟩,?_⟩
 rw [show qmulS.val (p.2,q.2)=(RV.of y).v from by rw [hy]; rfl]
 conv=>whnf
 refine ⟨(RV.of x,RV.of y),rfl,⟨sx,sy⟩,?_⟩
 rw [show qaddS.val (RV.of x,RV.of y)=(RV.of z).v from by
  show encQ ((RV.of x).q+(RV.of y).q)=_
  rw [RV.of_q,RV.of_q,hz]; rfl]
 conv=>whnf
 show (RV.of z).v=encQ _
 rw [hz,hx,hy]
 rfl
theorem rvcross_ok:Snd Tryz.prog 144 vcrossS:=by
 refine snd_of Evrok Dok Tryz.func144 (enters_of Tryz.func144 (by kernel_rfl) rfl) (fun _=>rfl) (fun _=>rfl) ?_
 intro ⟨p,q⟩ hp
 have hp:p.sz 1073741824∧q.sz 1073741824:=hp
 obtain ⟨x,hx⟩:∃ x,x=p.1.q*q.2.q:=⟨_,rfl⟩
 obtain ⟨y,hy⟩:∃ x,x=p.2.q*q.1.q:=⟨_,rfl⟩
 obtain ⟨z,hz⟩:∃ z,z=x - y:=⟨_,rfl⟩
 have sx:(RV.of x).ok:=RV.sz_ok (RV.of_sz (by rw [hx]; exact (RV.qb' hp.1.1 (by decide)).mul (RV.qb' hp.2.2 (by decide)))) (by decide)
 have sy:(RV.of y).ok:=RV.sz_ok (RV.of_sz (by rw [hy]; exact (RV.qb' hp.1.2 (by decide)).mul (RV.qb' hp.2.1 (by decide)))) (by decide)
 conv=>whnf
 refine .inl ⟨9,[[],[0],[],[2],[0,1,2,3],[],[5],[],[7],[0,1,2,3,4,5,6,7,8],[0,1,2,3,4,5,6,7,8,9],[0,1,2,3,4,5,6,7,8,9,10]],by kernel_rfl,?_⟩
 conv=>whnf
 refine ⟨(p.1,q.2),rfl,⟨RV.sz_ok hp.1.1 (by decide),RV.sz_ok hp.2.2 (by decide)⟩,?_⟩
 rw [show qmulS.val (p.1,q.2)=(RV.of x).v from by rw [hx]; rfl]
 conv=>whnf
 refine ⟨(p.2,q.1),rfl,⟨RV.sz_ok hp.1.2 (by decide),RV.sz_ok hp.2.1 (by decide)⟩,?_⟩
 rw [show qmulS.val (p.2,q.1)=(RV.of y).v from by rw [hy]; rfl]
 conv=>whnf
 refine ⟨(RV.of x,RV.of y),rfl,⟨sx,sy⟩,?_⟩
 rw [show qsubS.val (RV.of x,RV.of y)=(RV.of z).v from by
  show encQ ((RV.of x).q - (RV.of y).q)=_
  rw [RV.of_q,RV.of_q,hz]; rfl]
 conv=>whnf
 show (RV.of z).v=encQ _
 rw [hz,hx,hy]
 rfl
theorem vcmp_ok:Snd Tryz.prog 31 vcmpS:=by
 refine snd_of Evbok Dok Tryz.func31 (enters_of Tryz.func31 (by kernel_rfl) rfl) (fun _=>rfl) (fun _=>rfl) ?_
 intro ⟨p,q⟩ hp
 have hp:p.sz 8589934592∧q.sz 8589934592:=hp
 obtain ⟨x,hx⟩:∃ x,x=cmpQ p.1.q q.1.q:=⟨_,rfl⟩
 obtain ⟨y,hy⟩:∃ x,x=cmpQ p.2.q q.2.q:=⟨_,rfl⟩
 have fin:∀ z:Int,z=(if x≠0 then x else y)→Value.int .i64 z=vcmpS.val (p,q):=fun z h=>by rw [h,hx,hy]; rfl
 conv=>whnf
 refine ⟨(p.1,q.1),rfl,⟨hp.1.1,hp.2.1⟩,?_⟩
 rw [show qcmpS.val (p.1,q.1)=.int .i64 x from by rw [hx]; rfl]
 conv=>whnf
 refine br_intro (fun h=>?_) (fun h=>?_)
 ·have h:x≠0:=by
   intro e
   subst e
   simp at h
  conv=>whnf
  exact fin _ (if_pos h).symm
 ·have h:x=0:=by simpa using h
  conv=>whnf
  refine ⟨(p.2,q.2),rfl,⟨hp.1.2,hp.2.2⟩,?_⟩
  rw [show qcmpS.val (p.2,q.2)=.int .i64 y from by rw [hy]; rfl]
  conv=>whnf
  exact fin _ (if_neg (fun e=>e h)).symm
theorem rvcmp_ok:Snd Tryz.prog 44 vcmpS:=by
 refine snd_of Evrok Dok Tryz.func44 (enters_of Tryz.func44 (by kernel_rfl) rfl) (fun _=>rfl) (fun _=>rfl) ?_
 intro ⟨p,q⟩ hp
 have hp:p.sz 8589934592∧q.sz 8589934592:=hp
 obtain ⟨x,hx⟩:∃ x,x=cmpQ p.1.q q.1.q:=⟨_,rfl⟩
 obtain ⟨y,hy⟩:∃ x,x=cmpQ p.2.q q.2.q:=⟨_,rfl⟩
 have fin:∀ z:Int,z=(if x≠0 then x else y)→Value.int .i64 z=vcmpS.val (p,q):=fun z h=>by rw [h,hx,hy]; rfl
 conv=>whnf
 refine ⟨(p.1,q.1),rfl,⟨hp.1.1,hp.2.1⟩,?_⟩
 rw [show qcmpS.val (p.1,q.1)=.int .i64 x from by rw [hx]; rfl]
 conv=>whnf
 refine br_intro (fun h=>?_) (fun h=>?_)
 ·have h:x≠0:=by
   intro e
   subst e
   simp at h
  conv=>whnf
  exact fin _ (if_pos h).symm
 ·have h:x=0:=by simpa using h
  conv=>whnf
  refine ⟨(p.2,q.2),rfl,⟨hp.1.2,hp.2.2⟩,?_⟩
  rw [show qcmpS.val (p.2,q.2)=.int .i64 y from by rw [hy]; rfl]
  conv=>whnf
  exact fin _ (if_neg (fun e=>e h)).symm
theorem rvnorm_ok:Snd Tryz.prog 114 vnormS:=by
 refine snd_of Evrok Dok Tryz.func114 (enters_of Tryz.func114 (by kernel_rfl) rfl) (fun _=>rfl) (fun _=>rfl) ?_
 intro (p:PV) hp
 have hp:p.sz 8589934592:=hp
 obtain ⟨x,hx⟩:∃ x,x=p.1.q:=⟨_,rfl⟩
 obtain ⟨y,hy⟩:∃ x,x=p.2.q:=⟨_,rfl⟩
 conv=>whnf
 refine .inl ⟨5,[[],[0],[0,1],[],[3],[0,1,2,3,4],[0,1,2,3,4,5],[0,1,2,3,4,5,6]],by kernel_rfl,?_⟩
 conv=>whnf
 refine ⟨p.1,rfl,hp.1,?_⟩
 rw [show qnormS.val p.1=(RV.of x).v from by rw [hx]; rfl]
 conv=>whnf
 refine ⟨p.2,rfl,hp.2,?_⟩
 rw [show qnormS.val p.2=(RV.of y).v from by rw [hy]; rfl]
 conv=>whnf
 show PV.v (RV.of x,RV.of y)=encP _ _
 rw [hx,hy]
 rfl
end Go.Proofs.YtppeponndkfbkaaGreat
/- Contracts of vector and of the reference vectors: checks, extremes. -/
set_option maxRecDepth 20000
set_option maxHeartbeats 1000000
namespace Go.Proofs.YtppeponndkfbkaaGreat
open Go Go.Ae
def Evf:Env:=En [(41,.p vsubS),(51,.p vscaleS),(64,.p vaddS),(53,.p vdotS)]
theorem Evfok:EnvOk Tryz.prog Evf:=Enk ⟨vsub_ok,vscale_ok,vadd_ok,vdot_ok,trivial⟩ trivial
def Evg:Env:=En [(55,.p vsubS),(54,.p vscaleS),(143,.p vaddS),(57,.p vdotS)]
theorem Evgok:EnvOk Tryz.prog Evg:=Enk ⟨rvsub_ok,rvscale_ok,rvadd_ok,rvdot_ok,trivial⟩ trivial
theorem vat_ok:Snd Tryz.prog 105 vatS:=by
 refine snd_of Evfok Dok Tryz.func105 (enters_of Tryz.func105 (by kernel_rfl) rfl) (fun _=>rfl) (fun _=>rfl) ?_
 intro ⟨⟨p,q⟩,t⟩ hp
 have hp:(p.sz 268435456∧q.sz 268435456)∧t.sz 268435456:=hp
 obtain ⟨⟨hp,hq⟩,ht⟩:=hp
 obtain ⟨x,hx⟩:∃ x,x=q.1.q - p.1.q:=⟨_,rfl⟩
 obtain ⟨y,hy⟩:∃ x,x=q.2.q - p.2.q:=⟨_,rfl⟩
 obtain ⟨x2,hx2⟩:∃ z,z=x*t.q:=⟨_,rfl⟩
 obtain ⟨y2,hy2⟩:∃ z,z=y*t.q:=⟨_,rfl⟩
 obtain ⟨x3,hx3⟩:∃ z,z=p.1.q+x2:=⟨_,rfl⟩
 obtain ⟨y3,hy3⟩:∃ z,z=p.2.q+y2:=⟨_,rfl⟩
 have bx:QB x 536870913:=by rw [hx]; exact (RV.qb' hq.1 (by decide)).sub (RV.qb' hp.1 (by decide))
 have byy:QB y 536870913:=by rw [hy]; exact (RV.qb' hq.2 (by decide)).sub (RV.qb' hp.2 (by decide))
 have bx2:QB x2 805306369:=by rw [hx2]; exact bx.mul (RV.qb' ht (by decide))
 have by2:QB y2 805306369:=by rw [hy2]; exact byy.mul (RV.qb' ht (by decide))
 conv=>whnf
 refine .inl ⟨6,[[],[],[],[1,2],[],[1,2,3,4],[0,1,2,3,4,5],[0,1,2,3,4,5,6]],by kernel_rfl,?_⟩
 conv=>whnf
 refine ⟨(q,p),rfl,⟨PV.sz_mono hq (by decide),PV.sz_mono hp (by decide)⟩,?_⟩
 rw [show vsubS.val (q,p)=PV.v (RV.of x,RV.of y) from by rw [hx,hy]; rfl]
 conv=>whnf
 refine ⟨((RV.of x,RV.of y),t),rfl,⟨⟨RV.of_sz (bx.mono (by decide)),RV.of_sz (byy.mono (by decide))⟩,RV.sz_mono ht (by decide)⟩,?_⟩
 rw [show vscaleS.val ((RV.of x,RV.of y),t)=PV.v (RV.of x2,RV.of y2) from by
  show encP ((RV.of x).q*t.q) ((RV.of y).q*t.q)=_
  rw [RV.of_q,RV.of_q,← hx2,← hy2]; rfl]
 conv=>whnf
 refine ⟨(p,(RV.of x2,RV.of y2)),rfl,⟨PV.sz_mono hp (by decide),RV.of_sz (bx2.mono (by decide)),RV.of_sz (by2.mono (by decide))⟩,?_⟩
 rw [show vaddS.val (p,(RV.of x2,RV.of y2))=PV.v (RV.of x3,RV.of y3) from by
  show encP (p.1.q+(RV.of x2).q) (p.2.q+(RV.of y2).q)=_
  rw [RV.of_q,RV.of_q,← hx3,← hy3]; rfl]
 conv=>whnf
 show PV.v (RV.of x3,RV.of y3)=encP _ _
 rw [hx3,hy3,hx2,hy2,hx,hy]
 rfl
theorem rvat_ok:Snd Tryz.prog 113 vatS:=by
 refine snd_of Evgok Dok Tryz.func113 (enters_of Tryz.func113 (by kernel_rfl) rfl) (fun _=>rfl) (fun _=>rfl) ?_
 intro ⟨⟨p,q⟩,t⟩ hp
 have hp:(p.sz 268435456∧q.sz 268435456)∧t.sz 268435456:=hp
 obtain ⟨⟨hp,hq⟩,ht⟩:=hp
 obtain ⟨x,hx⟩:∃ x,x=q.1.q - p.1.q:=⟨_,rfl⟩
 obtain ⟨y,hy⟩:∃ x,x=q.2.q - p.2.q:=⟨_,rfl⟩
 obtain ⟨x2,hx2⟩:∃ z,z=x*t.q:=⟨_,rfl⟩
 obtain ⟨y2,hy2⟩:∃ z,z=y*t.q:=⟨_,rfl⟩
 obtain ⟨x3,hx3⟩:∃ z,z=p.1.q+x2:=⟨_,rfl⟩
 obtain ⟨y3,hy3⟩:∃ z,z=p.2.q+y2:=⟨_,rfl⟩
 have bx:QB x 536870913:=by rw [hx]; exact (RV.qb' hq.1 (by decide)).sub (RV.qb' hp.1 (by decide))
 have byy:QB y 536870913:=by rw [hy]; exact (RV.qb' hq.2 (by decide)).sub (RV.qb' hp.2 (by decide))
 have bx2:QB x2 805306369:=by rw [hx2]; exact bx.mul (RV.qb' ht (by decide))
 have by2:QB y2 805306369:=by rw [hy2]; exact byy.mul (RV.qb' ht (by decide))
 conv=>whnf
 refine .inl ⟨6,[[],[],[],[1,2],[],[1,2,3,4],[0,1,2,3,4,5],[0,1,2,3,4,5,6]],by kernel_rfl,?_⟩
 conv=>whnf
 refine ⟨(q,p),rfl,⟨PV.sz_mono hq (by decide),PV.sz_mono hp (by decide)⟩,?_⟩
 rw [show vsubS.val (q,p)=PV.v (RV.of x,RV.of y) from by rw [hx,hy]; rfl]
 conv=>whnf
 refine ⟨((RV.of x,RV.of y),t),rfl,⟨⟨RV.of_sz (bx.mono (by decide)),RV.of_sz (byy.mono (by decide))⟩,RV.sz_mono ht (by decide)⟩,?_⟩
 rw [show vscaleS.val ((RV.of x,RV.of y),t)=PV.v (RV.of x2,RV.of y2) from by
  show encP ((RV.of x).q*t.q) ((RV.of y).q*t.q)=_
  rw [RV.of_q,RV.of_q,← hx2,← hy2]; rfl]
 conv=>whnf
 refine ⟨(p,(RV.of x2,RV.of y2)),rfl,⟨PV.sz_mono hp (by decide),RV.of_sz (bx2.mono (by decide)),RV.of_sz (by2.mono (by decide))⟩,?_⟩
 rw [show vaddS.val (p,(RV.of x2,RV.of y2))=PV.v (RV.of x3,RV.of y3) from by
  show encP (p.1.q+(RV.of x2).q) (p.2.q+(RV.of y2).q)=_
  rw [RV.of_q,RV.of_q,← hx3,← hy3]; rfl]
 conv=>whnf
 show PV.v (RV.of x3,RV.of y3)=encP _ _
 rw [hx3,hy3,hx2,hy2,hx,hy]
 rfl
end Go.Proofs.YtppeponndkfbkaaGreat
/- Contracts of rational: quotients of rationals. -/
set_option maxRecDepth 20000
set_option maxHeartbeats 1000000
namespace Go.Proofs.YtppeponndkfbkaaGreat
open Go Go.Ae
def Emn:Env:=En [(84,.p ofRS),(98,.p mulS),(97,.p qnewS)]
theorem Emnok:EnvOk Tryz.prog Emn:=Enk ⟨ofR_ok,mul_ok,qnew_ok,trivial⟩ trivial
theorem qquo_ok:Snd Tryz.prog 61 qquoS:=by
 refine snd_of Emnok Dok Tryz.func61 (enters_of Tryz.func61 (by kernel_rfl) rfl) (fun _=>rfl) (fun _=>rfl) ?_
 intro ⟨⟨b,s,t⟩,⟨b',s',t'⟩⟩ hp
 have hp:RV.ok (b,s,t)∧RV.ok (b',s',t'):=hp
 obtain ⟨x,hx⟩:∃ x,x=RV.den (b,s,t):=⟨_,rfl⟩
 obtain ⟨y,hy⟩:∃ x,x=RV.den (b',s',t'):=⟨_,rfl⟩
 have f1:=RV.fracOk hp.1
 have f2:=RV.fracOk hp.2
 have g1:=RV.den_z (b,s,t)
 have g2:=RV.den_z (b',s',t')
 rw [← hx] at f1 g1
 rw [← hy] at f2 g2
 have hq:=quo_q (b,s,t) (b',s',t')
 obtain ⟨B1,m1,h1⟩:=EI.mk' (IV.z (b,s)*IV.z (false,y))
 obtain ⟨B2,m2,h2⟩:=EI.mk' (IV.z (false,x)*IV.z (b',s'))
 have z1:=h1.mul_size (nby_z f1.1.1) (nby_z f2.1.2)
 have z2:=h2.mul_size (nby_z f1.1.2) (nby_z f2.1.1)
 obtain ⟨w,hw⟩:∃ w,w=RV.q (b,s,t) / RV.q (b',s',t'):=⟨_,rfl⟩
 obtain ⟨e,he⟩:∃ e:Int,e=if RV.q (b',s',t')=0 then 10 else 0:=⟨_,rfl⟩
 have hN:qnewS.val ((B1,m1),(B2,m2))=.tuple ⟨[(RV.of w).v,.int .i64 e]⟩:=by
  show quoV (IV.z (B1,m1)) (IV.z (B2,m2))=_
  rw [h1.val,h2.val,g1,g2,hw,he]
  exact hq
 conv=>whnf
 refine .inl ⟨6,[[],[0],[],[0,1,2],[],[],[0,1,2,3,4,5],[0,1,2,3,4,5,6]],by kernel_rfl,?_⟩
 conv=>whnf
 refine ⟨(b,s,t),rfl,by have:=hp.1.2; show t.size≤_; exact Nat.le_trans this (by decide),?_⟩
 rw [show ofRS.val (b,s,t)=.agg ⟨[.bool b,.string s,.bool false,.string x]⟩ from by rw [hx]; rfl]
 conv=>whnf
 refine ⟨(b',s',t'),rfl,by have:=hp.2.2; show t'.size≤_; exact Nat.le_trans this (by decide),?_⟩
 rw [show ofRS.val (b',s',t')=.agg ⟨[.bool b',.string s',.bool false,.string y]⟩ from by rw [hy]; rfl]
 conv=>whnf
 refine .inl ⟨13,[[],[0],[],[2],[0,1,2,3],[],[5],[],[7],[0,1,2,3,4,5,6,7,8],[0,1,2,3,4,5,6,7,8,9],[0,1,2,3,4,5,6,7,8,9,10],[0,1,2,3,4,5,6,7,8,9,10],[0,1,2,3,4,5,6,7,8,9,10,11,12],[0,1,2,3,4,5,6,7,8,9,10,11,12,13]],by kernel_rfl,?_⟩
 conv=>whnf
 refine ⟨((b,s),(false,y)),rfl,⟨Nat.le_trans f1.1.1 (by decide),Nat.le_trans f2.1.2 (by decide)⟩,?_⟩
 rw [show mulS.val ((b,s),(false,y))=.agg ⟨[.bool B1,.string m1]⟩ from h1.enc]
 conv=>whnf
 refine ⟨((false,x),(b',s')),rfl,⟨Nat.le_trans f1.1.2 (by decide),Nat.le_trans f2.1.1 (by decide)⟩,?_⟩
 rw [show mulS.val ((false,x),(b',s'))=.agg ⟨[.bool B2,.string m2]⟩ from h2.enc]
 conv=>whnf
 refine ⟨((B1,m1),(B2,m2)),rfl,⟨by show m1.size≤_; omega,by show m2.size≤_; omega⟩,?_⟩
 rw [hN]
 conv=>whnf
 show Value.tuple ⟨[(RV.of w).v,.int .i64 e]⟩=Value.tuple ⟨[encQ _,.int .i64 _]⟩
 rw [hw,he]
 rfl
end Go.Proofs.YtppeponndkfbkaaGreat
/- Contracts of line. -/
set_option maxRecDepth 20000
set_option maxHeartbeats 1000000
namespace Go.Proofs.YtppeponndkfbkaaGreat
open Go Go.Ae
def Ela:Env:=En [(64,.p vaddS),(41,.p vsubS),(39,.p vofS),(53,.p vdotS),(60,.p vcrossS),(31,.p vcmpS),(51,.p vscaleS),(43,.p qnegS),(52,.p qsubS),(61,.p qquoS),(47,.p qsignS),(40,.p qofS)]
theorem Elaok:EnvOk Tryz.prog Ela:=Enk ⟨vadd_ok,vsub_ok,vof_ok,vdot_ok,vcross_ok,vcmp_ok,vscale_ok,qneg_ok,qsub_ok,qquo_ok,qsign_ok,qof_ok,trivial⟩ trivial
theorem normal_ok:Snd Tryz.prog 58 normalS:=by
 refine snd_of Elaok Dok Tryz.func58 (enters_of Tryz.func58 (by kernel_rfl) rfl) (fun _=>rfl) (fun _=>rfl) ?_
 intro l hp
 conv=>whnf
 rfl
theorem along_ok:Snd Tryz.prog 42 alongS:=by
 refine snd_of Elaok Dok Tryz.func42 (enters_of Tryz.func42 (by kernel_rfl) rfl) (fun _=>rfl) (fun _=>rfl) ?_
 intro ⟨n,p⟩ hp
 have hp:n.sz 67108864∧p.sz 67108864:=hp
 obtain ⟨sn,sp⟩:=hp
 have qn:=PV.psz sn (by decide)
 have qp:=PV.psz sp (by decide)
 conv=>whnf
 refine .inl ⟨2,[[],[],[0,1],[0,1,2]],by kernel_rfl,?_⟩
 conv=>whnf
 obtain ⟨z,cz,ez,pz,sz,qz⟩:=hidePc (ofsz (0) (0) (by decide) (by decide))
 refine ⟨(((0:Int),(0:Int)):Int × Int),rfl,⟨⟨by decide,by decide⟩,⟨by decide,by decide⟩⟩,?_⟩
 rw [show vofS.val (((0:Int),(0:Int)):Int × Int)=z.v from ez]
 conv=>whnf
 obtain ⟨a,ea,pa,sa,qa⟩:=hideP (add_sz qn qz)
 refine ⟨(n,z),rfl,⟨PV.sz_mono sn (by decide),PV.sz_mono sz (by decide)⟩,?_⟩
 rw [show vaddS.val (n,z)=a.v from ea]
 conv=>whnf
 refine .inl ⟨7,[[],[0],[],[2],[],[],[4,5],[0,1,2,3,4,5,6],[0,1,2,3,4,5,6,7]],by kernel_rfl,?_⟩
 conv=>whnf
 obtain ⟨d,ed,pd,sd,qd⟩:=hideR (dot_sz qa qp)
 refine ⟨(a,p),rfl,⟨PV.sz_mono sa (by decide),PV.sz_mono sp (by decide)⟩,?_⟩
 rw [show vdotS.val (a,p)=d.v from ed]
 conv=>whnf
 have ha:=(PV.v_eq ea).symm
 have hd:=(RV.v_eq ed).symm
 rw [addz _ _ pz] at ha pa
 rw [pa] at hd
 show R3.v (a.1,a.2,d)=(linV (n.p.1,n.p.2,dotR n.p p.p)).v
 rw [ha,hd]
 rfl
def Elb:Env:=En [(42,.p alongS),(58,.p normalS),(64,.p vaddS),(41,.p vsubS),(53,.p vdotS),(60,.p vcrossS),(31,.p vcmpS),(51,.p vscaleS),(43,.p qnegS),(52,.p qsubS),(61,.p qquoS),(47,.p qsignS),(40,.p qofS)]
theorem Elbok:EnvOk Tryz.prog Elb:=Enk ⟨along_ok,normal_ok,vadd_ok,vsub_ok,vdot_ok,vcross_ok,vcmp_ok,vscale_ok,qneg_ok,qsub_ok,qquo_ok,qsign_ok,qof_ok,trivial⟩ trivial
theorem lcheck_ok:Snd Tryz.prog 17 lcheckS:=by
 refine snd_of Elbok Dok Tryz.func17 (enters_of Tryz.func17 (by kernel_rfl) rfl) (fun _=>rfl) (fun _=>rfl) ?_
 intro ⟨a,b,c⟩ hp
 have hp:RV.sz 1048576 a∧RV.sz 1048576 b∧RV.sz 1048576 c:=hp
 obtain ⟨sa,sb,sc⟩:=hp
 have fin:∀ z:Int,z=chkV (R3.q (a,b,c))→Value.int .i64 z=lcheckS.val (a,b,c):=fun z h=>by rw [h]; rfl
 conv=>whnf
 obtain ⟨m,em,pm⟩:=hideZ (cmpQ a.q 0)
 refine ⟨a,rfl,RV.sz_ok sa (by decide),?_⟩
 rw [show qsignS.val a=.int .i64 m from em]
 conv=>whnf
 by_cases h:m=0
 ·have h1:a.q=0:=cmpQ_zero.1 (by rw [← pm]; exact h)
  subst h
  conv=>whnf
  obtain ⟨n,en,pn⟩:=hideZ (cmpQ b.q 0)
  refine ⟨b,rfl,RV.sz_ok sb (by decide),?_⟩
  rw [show qsignS.val b=.int .i64 n from en]
  conv=>whnf
  by_cases h2:n=0
  ·have h3:b.q=0:=cmpQ_zero.1 (by rw [← pn]; exact h2)
   subst h2
   conv=>whnf
   exact fin _ (if_pos ⟨h1,h3⟩).symm
  ·rw [show (n == 0)=false from by simp [h2]]
   conv=>whnf
   exact fin _ (if_neg (fun e=>h2 (by rw [pn]; exact cmpQ_eq e.2))).symm
 ·rw [show (m == 0)=false from by simp [h]]
  conv=>whnf
  exact fin _ (if_neg (fun e=>h (by rw [pm]; exact cmpQ_eq e.1))).symm
theorem through_ok:Snd Tryz.prog 9 throughS:=by
 refine snd_of Elbok Dok Tryz.func9 (enters_of Tryz.func9 (by kernel_rfl) rfl) (fun _=>rfl) (fun _=>rfl) ?_
 intro ⟨p,q⟩ hp
 have hp:p.sz 1048576∧q.sz 1048576:=hp
 obtain ⟨sp,sq⟩:=hp
 have qp:=PV.psz sp (by decide)
 have qq:=PV.psz sq (by decide)
 have fin:∀ (x:R3) (z:Int),thrV p.p q.p=(x,z)→Value.tuple ⟨[x.v,.int .i64 z]⟩=throughS.val (p,q):=fun x z h=>by
  show _=LE.v (thrV p.p q.p)
  rw [h]; rfl
 conv=>whnf
 obtain ⟨m,em,pm⟩:=hideZ (cmpR p.p q.p)
 refine ⟨(p,q),rfl,⟨PV.sz_mono sp (by decide),PV.sz_mono sq (by decide)⟩,?_⟩
 rw [show vcmpS.val (p,q)=.int .i64 m from em]
 conv=>whnf
 refine br_intro (fun h=>?_) (fun h=>?_)
 ·have h:m=0:=by simpa using h
  conv=>whnf
  exact fin zeroL 12 (if_pos (by rw [← pm]; exact h))
 ·have h:m≠0:=by intro e; subst e; simp at h
  conv=>whnf
  obtain ⟨d,ed,pd,sd,qd⟩:=hideP (sub_sz qq qp)
  refine ⟨(q,p),rfl,⟨PV.sz_mono sq (by decide),PV.sz_mono sp (by decide)⟩,?_⟩
  rw [show vsubS.val (q,p)=d.v from ed]
  conv=>whnf
  obtain ⟨x,y⟩:=d
  have sx:=sd.1
  have sy:=sd.2
  have qx:QB x.q _:=qd.1
  have qy:QB y.q _:=qd.2
  refine .inl ⟨7,[[],[0],[0,1],[],[3],[0,1,2,3,4],[],[0,1,2,3,4,5,6],[0,1,2,3,4,5,6,7],[0,1,2,3,4,5,6,7,8]],by kernel_rfl,?_⟩
  conv=>whnf
  obtain ⟨w,ew,pw,sw,qw⟩:=hideR (QB.neg qy)
  refine ⟨y,rfl,RV.sz_ok sy (by decide),?_⟩
  rw [show qnegS.val y=w.v from ew]
  conv=>whnf
  obtain ⟨l,el,pl,sl,ql⟩:=hideL (along_sz (mkQ qw qx) qp)
  refine ⟨((w,x),p),rfl,⟨PV.sz_mono (mkP sw sx) (by decide),PV.sz_mono sp (by decide)⟩,?_⟩
  rw [show alongS.val ((w,x),p)=l.v from el]
  conv=>whnf
  have hw:=(RV.v_eq ew).symm
  refine fin l 0 ?_
  have hl:l=linV (w.q,x.q,dotR (w.q,x.q) p.p):=(R3.v_eq el).symm
  unfold thrV
  rw [if_neg (by rw [← pm]; exact h),hl]
  congr 2
  have h1:x.q=q.p.1 - p.p.1:=congrArg Prod.fst pd
  have h2:y.q=q.p.2 - p.p.2:=congrArg Prod.snd pd
  rw [pw,h1,h2]
  unfold thrR dotR
  ext <;> dsimp only <;> grind
def Elc:Env:=En [(17,.p lcheckS),(42,.p alongS),(58,.p normalS),(64,.p vaddS),(41,.p vsubS),(53,.p vdotS),(60,.p vcrossS),(31,.p vcmpS),(51,.p vscaleS),(43,.p qnegS),(52,.p qsubS),(61,.p qquoS),(47,.p qsignS),(40,.p qofS)]
theorem Elcok:EnvOk Tryz.prog Elc:=Enk ⟨lcheck_ok,along_ok,normal_ok,vadd_ok,vsub_ok,vdot_ok,vcross_ok,vcmp_ok,vscale_ok,qneg_ok,qsub_ok,qquo_ok,qsign_ok,qof_ok,trivial⟩ trivial
theorem value_ok:QSnd Tryz.prog 89 lvalS:=by
 refine qsnd_of Elcok Dok Tryz.func89 (enters_of Tryz.func89 (by kernel_rfl) rfl) ?_ ?_ ?_
 ·intro i b hb; simp [lvalS] at hb; rw [hb]; rfl
 ·intro i b hb; simp [lvalS] at hb
 intro ⟨l,p⟩ hp
 have hp:l.sz 1048576∧p.sz 1048576:=hp
 obtain ⟨sl,sp⟩:=hp
 have ql:=R3.qsz sl (by decide)
 have qp:=PV.psz sp (by decide)
 unfold qRes
 rw [show lvalS.blks (l,p)=[.flat false 1 9 (fun _=>l.cells)] from rfl,show lvalS.args (l,p)=[p.v,.pointer (some ⟨0,0,none⟩)] from rfl,show lvalS.new (l,p)=none from rfl]
 conv=>whnf
 refine .inl ⟨6,[[],[0],[],[0,1,2],[],[4],[0,1,2,3,4,5],[0,1,2,3,4,5,6]],by kernel_rfl,?_⟩
 conv=>whnf
 refine ⟨by decide,?_⟩
 conv=>whnf
 obtain ⟨n,en,pn,sn,qn⟩:=hideN sl ql
 refine ⟨l,rfl,trivial,?_⟩
 rw [show normalS.val l=n.v from en]
 conv=>whnf
 obtain ⟨d,ed,pd,sd,qd⟩:=hideR (dot_sz qn qp)
 refine ⟨(n,p),rfl,⟨PV.sz_mono sn (by decide),PV.sz_mono sp (by decide)⟩,?_⟩
 rw [show vdotS.val (n,p)=d.v from ed]
 conv=>whnf
 refine ⟨by decide,?_⟩
 obtain ⟨a,b,r⟩:=l
 have sr:=sl.2.2
 have qr:QB r.q _:=ql.2.2
 conv=>whnf
 obtain ⟨v,ev,pv,sv,qv⟩:=hideR (QB.sub qd qr)
 refine ⟨(d,r),rfl,⟨RV.sz_ok sd (by decide),RV.sz_ok sr (by decide)⟩,?_⟩
 rw [show qsubS.val (d,r)=v.v from ev]
 conv=>whnf
 refine ⟨v.v,?_,.refl _⟩
 rw [show lvalS.val ((a,b,r),p)=v.v from by
  show (RV.of (valR (R3.q (a,b,r)) p.p)).v=_
  rw [← ev,pd,pn]; rfl]
 rfl
def Eld0:Env:=En [(40,.p qofS)]
theorem Eld0ok:EnvOk Tryz.prog Eld0:=Enk ⟨qof_ok,trivial⟩ trivial
theorem lvalue_ok:QSnd Tryz.prog 48 (lvalueS 89):=by
 refine qsnd_of Eld0ok Dok Tryz.func48 (enters_of Tryz.func48 (by kernel_rfl) rfl) ?_ ?_ ?_
 ·intro i b hb; simp [lvalueS] at hb
 ·intro i b hb; simp [lvalueS] at hb; rw [← hb]; rfl
 intro l hp
 unfold qRes
 rw [show (lvalueS 89).new l=some (.flat true 1 9 (fun _=>l.cells)) from rfl]
 conv=>whnf
 refine ⟨0,?_⟩
 conv=>whnf
 exact ⟨⟨rfl,line_blk l⟩,_,rfl,.refl _⟩
def Elv:Env:=En [(48,.q (lvalueS 89)),(89,.q lvalS),(17,.p lcheckS),(42,.p alongS),(58,.p normalS),(64,.p vaddS),(53,.p vdotS),(51,.p vscaleS),(43,.p qnegS),(61,.p qquoS),(47,.p qsignS),(40,.p qofS)]
theorem Elvok:EnvOk Tryz.prog Elv:=Enk ⟨lvalue_ok,value_ok,lcheck_ok,along_ok,normal_ok,vadd_ok,vdot_ok,vscale_ok,qneg_ok,qquo_ok,qsign_ok,qof_ok,trivial⟩ trivial
theorem side_ok:Snd Tryz.prog 11 sideS:=by
 refine snd_of Elvok Dok Tryz.func11 (enters_of Tryz.func11 (by kernel_rfl) rfl) (fun _=>rfl) (fun _=>rfl) ?_
 intro ⟨l,p⟩ hp
 have hp:l.sz 1048576∧p.sz 1048576:=hp
 obtain ⟨sl,sp⟩:=hp
 have ql:=R3.qsz sl (by decide)
 have qp:=PV.psz sp (by decide)
 have fin:∀ (x z:Int),sidV l.q p.p=(x,z)→Value.tuple ⟨[.int .i64 x,.int .i64 z]⟩=sideS.val (l,p):=fun x z h=>by
  show _=ZE.v (sidV l.q p.p)
  rw [h]; rfl
 conv=>whnf
 obtain ⟨c,ec,pc⟩:=hideZ (chkV l.q)
 refine ⟨l,rfl,R3.sz_mono sl (by decide),?_⟩
 rw [show lcheckS.val l=.int .i64 c from ec]
 conv=>whnf
 by_cases h:c=0
 ·have h1:isL l.q:=fun e=>by rw [pc] at h; exact absurd ((if_pos e).symm.trans h) (by decide)
  subst h
  conv=>whnf
  refine .inl ⟨3,[[],[0],[],[0,1,2],[0,1,2,3],[0,1,2,3,4],[0,1,2,3,4,5]],by kernel_rfl,?_⟩
  conv=>whnf
  refine ⟨l,[],rfl,trivial,?_⟩
  rw [show (lvalueS 89).new l=some (.flat true 1 9 (fun _=>R3.cells l)) from rfl]
  conv=>whnf
  refine ⟨_,rfl,?_⟩
  conv=>whnf
  obtain ⟨v,ev,pv,sv,qv⟩:=hideR (val_sz ql qp)
  refine ⟨(l,p),[3],rfl,⟨R3.sz_mono sl (by decide),PV.sz_mono sp (by decide)⟩,?_⟩
  rw [show lvalS.blks (l,p)=[.flat false 1 9 (fun _=>R3.cells l)] from rfl,show lvalS.val (l,p)=v.v from ev,show lvalS.new (l,p)=none from rfl]
  conv=>whnf
  refine ⟨line_blk2 l,?_⟩
  conv=>whnf
  refine ⟨_,rfl,?_⟩
  conv=>whnf
  obtain ⟨z,ez,pz⟩:=hideZ (cmpQ v.q 0)
  refine ⟨v,rfl,RV.sz_ok sv (by decide),?_⟩
  rw [show qsignS.val v=.int .i64 z from ez]
  conv=>whnf
  refine fin z 0 ?_
  unfold sidV
  rw [if_pos h1,pz,pv]
 ·rw [show (c != 0)=true from by simp [h]]
  conv=>whnf
  exact fin 0 1 (if_neg (fun e=>h (by rw [pc]; exact if_neg e)))
theorem step_ok:Snd Tryz.prog 65 stepS:=by
 refine snd_of Elvok Dok Tryz.func65 (enters_of Tryz.func65 (by kernel_rfl) rfl) (fun _=>rfl) (fun _=>rfl) ?_
 intro ⟨l,p⟩ hp
 have hp:l.sz 1048576∧p.sz 1048576∧isL l.q:=hp
 obtain ⟨sl,sp,h1⟩:=hp
 have ql:=R3.qsz sl (by decide)
 have qp:=PV.psz sp (by decide)
 conv=>whnf
 obtain ⟨n,en,pn,sn,qn⟩:=hideN sl ql
 refine ⟨l,rfl,trivial,?_⟩
 rw [show normalS.val l=n.v from en]
 conv=>whnf
 refine .inr (.inr (.inl ⟨12,1,[[],[0],[],[0,1,2],[],[],[0,1,2,3,4,5],[0,1,2,3,4,5,6],[0,1,2,3,4,5,6,7],[0,1,2,3,4,5,6,7,8],[0,1,2,3,4,5,6,7,8],[],[0,1,2,3,4,5,6,7,8,9,11],[0,1,2,3,4,5,6,7,8,9,10,11,12]],[10],by kernel_rfl,?_⟩))
 conv=>whnf
 refine ⟨l,[],rfl,trivial,?_⟩
 rw [show (lvalueS 89).new l=some (.flat true 1 9 (fun _=>R3.cells l)) from rfl]
 conv=>whnf
 refine ⟨_,rfl,?_⟩
 conv=>whnf
 obtain ⟨v,ev,pv,sv,qv⟩:=hideR (val_sz ql qp)
 refine ⟨(l,p),[5],rfl,⟨R3.sz_mono sl (by decide),PV.sz_mono sp (by decide)⟩,?_⟩
 rw [show lvalS.blks (l,p)=[.flat false 1 9 (fun _=>R3.cells l)] from rfl,show lvalS.val (l,p)=v.v from ev,show lvalS.new (l,p)=none from rfl]
 conv=>whnf
 refine ⟨line_blk2 l,?_⟩
 conv=>whnf
 refine ⟨_,rfl,?_⟩
 conv=>whnf
 obtain ⟨d,ed,pd,sd,qd⟩:=hideR (dot_sz qn qn)
 refine ⟨(n,n),rfl,⟨PV.sz_mono sn (by decide),PV.sz_mono sn (by decide)⟩,?_⟩
 rw [show vdotS.val (n,n)=d.v from ed]
 conv=>whnf
 obtain ⟨k,ek,pk,sk,qk⟩:=hideR (QB.div qv qd (by decide))
 obtain ⟨e,ee,pe⟩:=hideZ (if d.q=0 then 10 else 0)
 refine ⟨(v,d),rfl,⟨RV.sz_ok sv (by decide),RV.sz_ok sd (by decide)⟩,?_⟩
 rw [show qquoS.val (v,d)=.tuple ⟨[k.v,.int .i64 e]⟩ from by rw [← ek,← ee]; rfl]
 conv=>whnf
 refine .inl ⟨3,[[],[],[1],[0,1,2],[0,1,2,3]],by kernel_rfl,?_⟩
 conv=>whnf
 obtain ⟨j,ej,pj,sj,qj⟩:=hideR (QB.neg qk)
 refine ⟨k,rfl,RV.sz_ok sk (by decide),?_⟩
 rw [show qnegS.val k=j.v from ej]
 conv=>whnf
 obtain ⟨w,ew,pw,sw,qw⟩:=hideP (scale_sz qn qj)
 refine ⟨(n,j),rfl,⟨PV.sz_mono sn (by decide),RV.sz_mono sj (by decide)⟩,?_⟩
 rw [show vscaleS.val (n,j)=w.v from ew]
 conv=>whnf
 have hw:=(PV.v_eq ew).symm
 show w.v=(ptV (scR (-(valR l.q p.p / dotR (nrm l.q) (nrm l.q))) (nrm l.q))).v
 rw [hw,pj,pk,pv,pd,pn]
def Els:Env:=En [(65,.p stepS),(17,.p lcheckS),(64,.p vaddS),(51,.p vscaleS),(40,.p qofS)]
theorem Elsok:EnvOk Tryz.prog Els:=Enk ⟨step_ok,lcheck_ok,vadd_ok,vscale_ok,qof_ok,trivial⟩ trivial
theorem foot_ok:Snd Tryz.prog 21 (footS 1):=by
 refine snd_of Elsok Dok Tryz.func21 (enters_of Tryz.func21 (by kernel_rfl) rfl) (fun _=>rfl) (fun _=>rfl) ?_
 intro ⟨l,p⟩ hp
 have hp:l.sz 1048576∧p.sz 1048576:=hp
 obtain ⟨sl,sp⟩:=hp
 have ql:=R3.qsz sl (by decide)
 have qp:=PV.psz sp (by decide)
 have fin:∀ (x:PV) (z:Int),footV 1 l.q p.p=(x,z)→Value.tuple ⟨[x.v,.int .i64 z]⟩=(footS 1).val (l,p):=fun x z h=>by
  show _=PE.v (footV 1 l.q p.p)
  rw [h]; rfl
 conv=>whnf
 obtain ⟨c,ec,pc⟩:=hideZ (chkV l.q)
 refine ⟨l,rfl,R3.sz_mono sl (by decide),?_⟩
 rw [show lcheckS.val l=.int .i64 c from ec]
 conv=>whnf
 by_cases h:c=0
 ·have h1:isL l.q:=fun e=>by rw [pc] at h; exact absurd ((if_pos e).symm.trans h) (by decide)
  subst h
  conv=>whnf
  refine .inl ⟨4,[[],[],[],[1,2],[0,1,2,3],[0,1,2,3,4],[0,1,2,3,4,5]],by kernel_rfl,?_⟩
  conv=>whnf
  obtain ⟨s,es,ps,ss,qs⟩:=hideP (step_sz ql qp)
  refine ⟨(l,p),rfl,⟨R3.sz_mono sl (by decide),PV.sz_mono sp (by decide),h1⟩,?_⟩
  rw [show stepS.val (l,p)=s.v from es]
  conv=>whnf
  obtain ⟨x,ex,px,sx,qx⟩:=hideP (add_sz qp qs)
  refine ⟨(p,s),rfl,⟨PV.sz_mono sp (by decide),PV.sz_mono ss (by decide)⟩,?_⟩
  rw [show vaddS.val (p,s)=x.v from ex]
  conv=>whnf
  refine fin x 0 ?_
  have hx:=(PV.v_eq ex).symm
  unfold footV
  rw [if_pos h1,hx,ps,foot_step]
 ·rw [show (c != 0)=true from by simp [h]]
  conv=>whnf
  exact fin zeroP 1 (if_neg (fun e=>h (by rw [pc]; exact if_neg e)))
end Go.Proofs.YtppeponndkfbkaaGreat
/- Contracts of vector and of the reference vectors: lists. -/
set_option maxRecDepth 20000
set_option maxHeartbeats 1000000
namespace Go.Proofs.YtppeponndkfbkaaGreat
open Go Go.Ae
end Go.Proofs.YtppeponndkfbkaaGreat
/- Contracts of vector and of the reference vectors: square distance, boxes. -/
set_option maxRecDepth 20000
set_option maxHeartbeats 1000000
namespace Go.Proofs.YtppeponndkfbkaaGreat
open Go Go.Ae
end Go.Proofs.YtppeponndkfbkaaGreat
/- Contracts of predicate: orientations. -/
set_option maxRecDepth 20000
set_option maxHeartbeats 1000000
namespace Go.Proofs.YtppeponndkfbkaaGreat
open Go Go.Ae
def Epa:Env:=En [(41,.p vsubS),(60,.p vcrossS),(53,.p vdotS),(47,.p qsignS),(90,.p qmulS),(52,.p qsubS),(91,.p qaddS)]
theorem Epaok:EnvOk Tryz.prog Epa:=Enk ⟨vsub_ok,vcross_ok,vdot_ok,qsign_ok,qmul_ok,qsub_ok,qadd_ok,trivial⟩ trivial
theorem orient_ok:Snd Tryz.prog 30 orientS:=by
 refine snd_of Epaok Dok Tryz.func30 (enters_of Tryz.func30 (by kernel_rfl) rfl) (fun _=>rfl) (fun _=>rfl) ?_
 intro ⟨a,b,c⟩ hp
 obtain ⟨sa,sb,sc⟩:a.sz 1048576∧b.sz 1048576∧c.sz 1048576:=hp
 have pa:Q2.sz 1048576 a.p:=PV.psz sa (by decide)
 have pb:Q2.sz 1048576 b.p:=PV.psz sb (by decide)
 have pc:Q2.sz 1048576 c.p:=PV.psz sc (by decide)
 obtain ⟨w,hw⟩:∃ w,w=orR a.p b.p c.p:=⟨_,rfl⟩
 obtain ⟨u,hu⟩:∃ u,u=ptV (subR b.p a.p):=⟨_,rfl⟩
 obtain ⟨v,hv⟩:∃ v,v=ptV (subR c.p a.p):=⟨_,rfl⟩
 have su:u.sz 1073741824:=by rw [hu]; exact ptV_sz (sub_sz pb pa) (by decide)
 have sv:v.sz 1073741824:=by rw [hv]; exact ptV_sz (sub_sz pc pa) (by decide)
 have sw:(RV.of w).ok:=by rw [hw]; exact of_okL (cross_sz (sub_sz pb pa) (sub_sz pc pa)) (by decide)
 conv=>whnf
 refine .inl ⟨5,[[],[],[0,1],[],[],[0,1,2,3,4],[0,1,2,3,4,5],[0,1,2,3,4,5,6],[0,1,2,3,4,5,6,7]],by kernel_rfl,?_⟩
 conv=>whnf
 refine ⟨(b,a),rfl,⟨PV.sz_mono sb (by decide),PV.sz_mono sa (by decide)⟩,?_⟩
 rw [show vsubS.val (b,a)=u.v from by rw [sub_val,hu]]
 conv=>whnf
 refine ⟨(c,a),rfl,⟨PV.sz_mono sc (by decide),PV.sz_mono sa (by decide)⟩,?_⟩
 rw [show vsubS.val (c,a)=v.v from by rw [sub_val,hv]]
 conv=>whnf
 refine ⟨(u,v),rfl,⟨su,sv⟩,?_⟩
 rw [show vcrossS.val (u,v)=(RV.of w).v from by rw [cross_val,hu,hv,ptV_p,ptV_p,hw]; rfl]
 conv=>whnf
 refine ⟨RV.of w,rfl,sw,?_⟩
 rw [sign_val,RV.of_q]
 conv=>whnf
 show Value.int .i64 _=Value.int .i64 _
 rw [hw]
end Go.Proofs.YtppeponndkfbkaaGreat
/- slices.Clone of points. -/
set_option maxRecDepth 20000
set_option maxHeartbeats 4000000
namespace Go.Proofs.YtppeponndkfbkaaGreat
open Go Go.Ae
def Eld:Env:=En []
theorem Eldok:EnvOk Tryz.prog Eld:=Enk trivial trivial
theorem clone_ok:QSnd Tryz.prog 106 cloneS:=by
 refine qsnd_of Eldok Dok Tryz.func106 (enters_of Tryz.func106 (by kernel_rfl) rfl) ?_ ?_ ?_
 ·intro i b hb
  cases i with
  | none=>simp [cloneS,PL.blks] at hb
  | some i=>simp [cloneS,PL.blks] at hb; rw [hb]; rfl
 ·intro i b hb
  cases i with
  | none=>simp [cloneS] at hb
  | some i=>simp [cloneS] at hb; rw [← hb]; rfl
 intro i hp
 cases i with
 | none =>
  conv=>whnf
  exact ⟨_,rfl,.refl _⟩
 | some i =>
  obtain ⟨l,c⟩:=i
  have hp:l.length≤1099511627776:=hp
  obtain ⟨n,hn⟩:∃ n,n=l.length:=⟨_,rfl⟩
  obtain ⟨g,hg⟩:∃ g,g=rowsP l:=⟨_,rfl⟩
  have hs:∀ r,r < n→allS (g r)=true:=fun r hr=>by rw [hg]; rfl
  rw [← hn] at hp
  unfold qRes
  rw [show cloneS.new (some (l,c))=some (.flat true n 6 g) from by rw [hn,hg]; rfl,show cloneS.val (some (l,c))=.slice (some ⟨1,0,none⟩) n capU from by rw [hn]; rfl,show cloneS.blks (some (l,c))=[.flat false n 6 g] from by rw [hn,hg]; rfl,show cloneS.args (some (l,c))=[.slice (some ⟨0,0,none⟩) n c] from by rw [hn]; rfl]
  clear hg hn
  conv=>whnf
  refine ⟨by omega,?_⟩
  conv=>whnf
  refine br_intro (fun h=>?_) (fun h=>?_)
  ·have h:n≤0:=by
    have:=Nat.le_of_ble_eq_true h
    have:0+n≤0:=this
    omega
   obtain rfl:n=0:=by omega
   refine ⟨rfl,?_⟩
   conv=>whnf
   refine ⟨1,?_⟩
   conv=>whnf
   exact ⟨⟨rfl,BlkLe.flat_rows (fun h=>h) (fun r hr=>absurd hr (Nat.not_lt_zero r)) (fun r hr=>absurd hr (Nat.not_lt_zero r))⟩,.slice (some ⟨2 - 1,0,none⟩) 0 capU,rfl,.cap _ _ _ rfl⟩
  ·refine ⟨⟨Nat.le_refl _,Nat.le_trans (Nat.mul_le_mul_right _ (show 0+n≤1099511627776 by omega)) (by decide)⟩,?_⟩
   conv=>whnf
   rw [show (0+(Src.fl n fun j=>g (rowAdd 0 j)).m)=n from Nat.zero_add n,show 0+n=n from Nat.zero_add n]
   refine ⟨2,?_⟩
   conv=>whnf
   exact ⟨⟨rfl,BlkLe.flat_rows (fun h=>h) (fun r hr=>by rw [appGet_hi (Nat.zero_le _)]; simp [rowAdd_eq]) hs⟩,_,rfl,.refl _⟩
end Go.Proofs.YtppeponndkfbkaaGreat
