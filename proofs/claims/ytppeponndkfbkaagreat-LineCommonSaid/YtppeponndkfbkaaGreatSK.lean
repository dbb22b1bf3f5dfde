import Derived.Test.YtppeponndkfbkaaGreatRows
import Derived.Test.YtppeponndkfbkaaGreatSJ
set_option linter.unusedVariables false
set_option linter.unusedSimpArgs false
/- The reference's cutting of a polygon. -/
set_option maxRecDepth 20000
set_option maxHeartbeats 4000000
namespace Go.Proofs.YtppeponndkfbkaaGreat
open Go Go.Ae
def Erd9:Env:=En [(50,.p excessS),(63,.p rquotS),(45,.p qsubS),(49,.p qsignS),(113,.p vatS)]
theorem Erd9ok:EnvOk Tryz.prog Erd9:=Enk ⟨excess_ok,rquot_ok,rqsub_ok,rqsign_ok,rvat_ok,trivial⟩ trivial
theorem rcut_ok:QSnd Tryz.prog 76 rcutS:=by
 refine qsnd_of Erd9ok Dok Tryz.func76 (enters_of Tryz.func76 (by kernel_rfl) rfl) ?_ ?_ ?_
 ·intro i B hb; simp [rcutS] at hb; rw [hb]; rfl
 ·intro i B hb; simp [rcutS] at hb; rw [← hb]; rfl
 intro ⟨⟨L,c⟩,m⟩ hp
 have hp:L.length≤274877906944∧(∀ v∈L,v.sz 262144)∧m.sz 1048576:=hp
 obtain ⟨hlen,hsz,sm⟩:=hp
 have qm:=R3.qsz sm (by decide)
 obtain ⟨n,hn⟩:∃ n,n=L.length:=⟨_,rfl⟩
 obtain ⟨g,hg⟩:∃ g,g=rowsP L:=⟨_,rfl⟩
 rw [show rcutS.blks ((L,c),m)=[.flat false n 6 g] from by rw [hn,hg]; rfl,show rcutS.args ((L,c),m)=[.slice (some ⟨0,0,none⟩) n c,m.v] from by rw [hn]; rfl]
 rw [← hn] at hlen
 conv=>whnf
 refine .inl ⟨fun mm tz hz=>∃ (j:Nat) (O:List PV) (q:Nat) (F:Nat→List Value),Pat (some (.slice (some ⟨0,0,none⟩) n c)::nos 2 (some (.pointer (some ⟨1,0,none⟩))::nos 1 (some (.slice (some ⟨2,0,none⟩) q (capOf q))::some (.int .i64 j)::nos 54 []))) tz∧hz=[some (.flat false n 6 g),some (.expl true 9 [m.cells]),some (.flat true q 6 F)]∧n - j=mm∧((j≤n∧q=O.length)∧O=((edges L).take j).flatMap (cutFV m.q)∧(∀ r,r < q→F r=rowsP O r)),.inr ⟨[0,1,2],[0,3,5,6],?_⟩,?_⟩
 ·conv=>whnf
  intro _
  conv=>whnf
  refine ⟨_,0,[],0,fun _=>[],(.keep (.sk 2 (.keep (.sk 1 (.keep (.keep (.sk 54 .nil rfl))) rfl)) rfl)),rfl,rfl,?_⟩
  exact ⟨⟨Nat.zero_le _,rfl⟩,rfl,fun r hr=>absurd hr (Nat.not_lt_zero r)⟩
 rintro mm tms _ ⟨j,O,q,F,hpat,rfl,rfl,⟨⟨hj,hq⟩,hO,hF⟩⟩
 obtain ⟨az,rfl⟩:∃ az:Nat→Value,tms=.slice (some ⟨0,0,none⟩) n c::zs az 1 2 (.pointer (some ⟨1,0,none⟩)::zs az 4 1 (.slice (some ⟨2,0,none⟩) q (capOf q)::.int .i64 j::zs az 7 54 [])):=pat_fill hpat
 clear hpat
 conv=>whnf
 refine br_intro (fun h1=>?_) (fun h1=>?_)
 ·have h1:j < n:=by
   have:=of_decide_eq_true h1
   omega
  have e7:IntKind.i64.wrap ((j:Int)+1)=((j+1:Nat):Int):=by rw [wrapi64 (by omega) (by omega)]; rfl
  have hup:=cutV_up m.q L j
  rw [← hO,← hq,← hn] at hup
  have ra:=rowsP_atV (L:=L) (k:=j) (by omega)
  have rb:=rowsP_atV (L:=L) (k:=nxt n j) (by rw [hn]; exact nxt_lt (by omega))
  have hed:(edges L)[j]?=some (atV L j,atV L (nxt n j)):=edges_get (atV_some (by omega)) (by rw [← hn]; exact atV_some (by rw [← hn]; exact nxt_lt h1))
  have sa:=hsz _ (atV_mem (L:=L) (k:=j) (by omega))
  have sb:=hsz _ (atV_mem (L:=L) (k:=nxt n j) (by rw [← hn]; exact nxt_lt h1))
  obtain ⟨a,ha⟩:∃ a,a=atV L j:=⟨_,rfl⟩
  obtain ⟨b,hb⟩:∃ a,a=atV L (nxt n j):=⟨_,rfl⟩
  have hnx:=nxt_i h1 (by omega)
  have hnl:=nxt_lt h1
  rw [← ha] at hed sa ra
  rw [← hb] at hed sb rb
  clear ha hb
  have qa:=PV.psz sa (by decide)
  have qb:=PV.psz sb (by decide)
  obtain ⟨u,hu⟩:∃ u,u=nxt n j:=⟨_,rfl⟩
  rw [← hu] at hnx hnl rb
  rw [← hg] at ra rb
  conv=>whnf
  refine .inr (.inr (.inl ⟨14,1,[[],[],[0,1],[0,1,2],[],[],[5],[],[7],[5,6,7,8],[4,5,6,7,8,9],[4,5,6,7,8,9,10],[],[],[0,1,2,3,12,13],[0,1,2,3,4,5,6,7,8,9,10,11,12,13,14]],[4,5,6,7,8,9,10,11],by kernel_rfl,?_⟩))
  conv=>whnf
  refine ⟨⟨by omega,by omega⟩,?_⟩
  simp only [toNat_cast,rowAdd_eq,Nat.zero_add]
  conv=>whnf
  refine ⟨by show j < n; omega,?_⟩
  conv=>whnf
  rw [ra]
  conv=>whnf
  rw [show decide ((n:Int)≠0)=true from decide_eq_true (by omega)]
  conv=>whnf
  rw [hnx]
  refine ⟨⟨by omega,by omega⟩,?_⟩
  simp only [toNat_cast,rowAdd_eq,Nat.zero_add]
  conv=>whnf
  refine ⟨by show u < n; omega,?_⟩
  conv=>whnf
  rw [rb]
  conv=>whnf
  refine ⟨rfl,?_⟩
  conv=>whnf
  refine .inl ⟨8,[[],[],[0,1],[],[],[0,1,2,3,4],[],[],[0,1,2,3,4,5,6,7],[0,1,2,3,4,5,6,7,8]],by kernel_rfl,?_⟩
  conv=>whnf
  obtain ⟨x,ex,px,sx,qx⟩:=hideR (val_sz qm qa)
  refine ⟨(m,a),rfl,⟨R3.sz_mono sm (by decide),PV.sz_mono sa (by decide)⟩,?_⟩
  rw [show excessS.val (m,a)=x.v from ex]
  conv=>whnf
  obtain ⟨y,ey,py,sy,qy⟩:=hideR (val_sz qm qb)
  refine ⟨(m,b),rfl,⟨R3.sz_mono sm (by decide),PV.sz_mono sb (by decide)⟩,?_⟩
  rw [show excessS.val (m,b)=y.v from ey]
  conv=>whnf
  obtain ⟨z,ez,pz⟩:=hideZ (cmpQ x.q 0)
  refine ⟨x,rfl,RV.sz_ok sx (by decide),?_⟩
  rw [show qsignS.val x=.int .i64 z from ez]
  conv=>whnf
  have hz:=cmpQ_range x.q 0
  rw [← pz] at hz
  have hst:=(flat_step (f:=cutFV m.q) hed).trans (congrArg (_++·) (cutV_rows px py rfl))
  rw [← hO,← pz] at hst
  cases q with
  | zero =>
   obtain rfl:O=[]:=List.eq_nil_of_length_eq_zero hq.symm
   by_cases h8:z ≥ 0
   ·rw [show decide (z ≥ 0)=true from decide_eq_true h8]
    rw [if_pos h8] at hst
    conv=>whnf
    refine ⟨⟨Nat.le_refl _,by show (0+1)*80≤140737488355328; decide⟩,?_⟩
    conv=>whnf
    refine .inl ⟨3,[[],[0],[],[0,1,2],[0,1,2,3],[0,1,2,3,4]],by kernel_rfl,?_⟩
    conv=>whnf
    obtain ⟨z3,ez3,pz3⟩:=hideZ (cmpQ x.q 0)
    refine ⟨x,rfl,RV.sz_ok sx (by decide),?_⟩
    rw [show qsignS.val x=.int .i64 z3 from ez3]
    conv=>whnf
    obtain ⟨z2,ez2,pz2⟩:=hideZ (cmpQ y.q 0)
    refine ⟨y,rfl,RV.sz_ok sy (by decide),?_⟩
    rw [show qsignS.val y=.int .i64 z2 from ez2]
    conv=>whnf
    have hz2:=cmpQ_range y.q 0
    rw [← pz2] at hz2
    obtain rfl:z3=z:=pz3.trans pz.symm
    rw [show IntKind.i64.wrap (z3*z2)=z3*z2 from by rcases hz with rfl | rfl | rfl <;> rcases hz2 with rfl | rfl | rfl <;> rfl]
    rw [← pz2] at hst
    by_cases h9:z3*z2 < 0
    ·rw [show decide (z3*z2 < 0)=true from decide_eq_true h9]
     rw [if_pos h9] at hst
     conv=>whnf
     refine .inl ⟨10,[[],[],[],[],[],[],[4,5],[3,4,5,6],[1,2,3,4,5,6,7],[1,2,3,4,5,6,7,8],[0,1,2,3,4,5,6,7,8,9],[0,1,2,3,4,5,6,7,8,9,10]],by kernel_rfl,?_⟩
     conv=>whnf
     obtain ⟨d2,ed2,pd2,sd2,qd2⟩:=hideR (QB.sub qx qy)
     refine ⟨(x,y),rfl,⟨RV.sz_ok sx (by decide),RV.sz_ok sy (by decide)⟩,?_⟩
     rw [show qsubS.val (x,y)=d2.v from ed2]
     conv=>whnf
     obtain ⟨t,et,pt,st,qt⟩:=hideR (QB.div qx qd2 (by decide))
     refine ⟨(x,d2),rfl,⟨RV.sz_ok sx (by decide),RV.sz_ok sd2 (by decide)⟩,?_⟩
     rw [show rquotS.val (x,d2)=t.v from et]
     conv=>whnf
     obtain ⟨w,ew,pw,sw,qw⟩:=hideP (at_sz qa qb qt)
     refine ⟨((a,b),t),rfl,⟨⟨PV.sz_mono sa (by decide),PV.sz_mono sb (by decide)⟩,RV.sz_mono st (by decide)⟩,?_⟩
     rw [show vatS.val ((a,b),t)=w.v from ew]
     conv=>whnf
     have pw:=(PV.v_eq ew).symm
     rw [pt,pd2] at pw
     refine ⟨⟨by show 1≤26; decide,rfl,by show (1+1)*80≤140737488355328; decide⟩,?_⟩
     conv=>whnf
     refine ⟨[0,3,6],?_⟩
     conv=>whnf
     intro _
     conv=>whnf
     rw [e7]
     refine .inr ⟨[0,1,26],[0,3,5,6],?_⟩
     conv=>whnf
     intro _
     conv=>whnf
     refine ⟨_,?_,j+1,[a]++[w],1+1,_,(.keep (.sk 2 (.keep (.sk 1 (.keep (.keep (.sk 54 .nil rfl))) rfl)) rfl)),rfl,rfl,?_⟩
     ·omega
     ·exact ⟨⟨by omega,rfl⟩,by rw [hst,pw]; rfl,appP_row (O:=[a]) rfl (oneP_row rfl) rfl⟩
    ·rw [show decide (z3*z2 < 0)=false from decide_eq_false h9]
     rw [if_neg h9] at hst
     conv=>whnf
     rw [e7]
     refine .inr ⟨[0,1,26],[0,3,5,6],?_⟩
     conv=>whnf
     intro _
     conv=>whnf
     refine ⟨_,?_,j+1,[a],1,_,(.keep (.sk 2 (.keep (.sk 1 (.keep (.keep (.sk 54 .nil rfl))) rfl)) rfl)),rfl,rfl,?_⟩
     ·omega
     ·exact ⟨⟨by omega,rfl⟩,by rw [hst]; rfl,oneP_row rfl⟩
   ·rw [show decide (z ≥ 0)=false from decide_eq_false h8]
    rw [if_neg h8] at hst
    conv=>whnf
    refine .inl ⟨3,[[],[0],[],[0,1,2],[0,1,2,3],[0,1,2,3,4]],by kernel_rfl,?_⟩
    conv=>whnf
    obtain ⟨z3,ez3,pz3⟩:=hideZ (cmpQ x.q 0)
    refine ⟨x,rfl,RV.sz_ok sx (by decide),?_⟩
    rw [show qsignS.val x=.int .i64 z3 from ez3]
    conv=>whnf
    obtain ⟨z2,ez2,pz2⟩:=hideZ (cmpQ y.q 0)
    refine ⟨y,rfl,RV.sz_ok sy (by decide),?_⟩
    rw [show qsignS.val y=.int .i64 z2 from ez2]
    conv=>whnf
    have hz2:=cmpQ_range y.q 0
    rw [← pz2] at hz2
    obtain rfl:z3=z:=pz3.trans pz.symm
    rw [show IntKind.i64.wrap (z3*z2)=z3*z2 from by rcases hz with rfl | rfl | rfl <;> rcases hz2 with rfl | rfl | rfl <;> rfl]
    rw [← pz2] at hst
    by_cases h9:z3*z2 < 0
    ·rw [show decide (z3*z2 < 0)=true from decide_eq_true h9]
     rw [if_pos h9] at hst
     conv=>whnf
     refine .inl ⟨10,[[],[],[],[],[],[],[4,5],[3,4,5,6],[1,2,3,4,5,6,7],[1,2,3,4,5,6,7,8],[0,1,2,3,4,5,6,7,8,9],[0,1,2,3,4,5,6,7,8,9,10]],by kernel_rfl,?_⟩
     conv=>whnf
     obtain ⟨d2,ed2,pd2,sd2,qd2⟩:=hideR (QB.sub qx qy)
     refine ⟨(x,y),rfl,⟨RV.sz_ok sx (by decide),RV.sz_ok sy (by decide)⟩,?_⟩
     rw [show qsubS.val (x,y)=d2.v from ed2]
     conv=>whnf
     obtain ⟨t,et,pt,st,qt⟩:=hideR (QB.div qx qd2 (by decide))
     refine ⟨(x,d2),rfl,⟨RV.sz_ok sx (by decide),RV.sz_ok sd2 (by decide)⟩,?_⟩
     rw [show rquotS.val (x,d2)=t.v from et]
     conv=>whnf
     obtain ⟨w,ew,pw,sw,qw⟩:=hideP (at_sz qa qb qt)
     refine ⟨((a,b),t),rfl,⟨⟨PV.sz_mono sa (by decide),PV.sz_mono sb (by decide)⟩,RV.sz_mono st (by decide)⟩,?_⟩
     rw [show vatS.val ((a,b),t)=w.v from ew]
     conv=>whnf
     have pw:=(PV.v_eq ew).symm
     rw [pt,pd2] at pw
     refine ⟨⟨Nat.le_refl _,by show (0+1)*80≤140737488355328; decide⟩,?_⟩
     conv=>whnf
     rw [e7]
     refine .inr ⟨[0,1,38],[0,3,5,6],?_⟩
     conv=>whnf
     intro _
     conv=>whnf
     refine ⟨_,?_,j+1,[w],1,_,(.keep (.sk 2 (.keep (.sk 1 (.keep (.keep (.sk 54 .nil rfl))) rfl)) rfl)),rfl,rfl,?_⟩
     ·omega
     ·exact ⟨⟨by omega,rfl⟩,by rw [hst,pw]; rfl,oneP_row rfl⟩
    ·rw [show decide (z3*z2 < 0)=false from decide_eq_false h9]
     rw [if_neg h9] at hst
     conv=>whnf
     rw [e7]
     refine .inr ⟨[0,1,2],[0,3,5,6],?_⟩
     conv=>whnf
     intro _
     conv=>whnf
     refine ⟨_,?_,j+1,[],0,F,(.keep (.sk 2 (.keep (.sk 1 (.keep (.keep (.sk 54 .nil rfl))) rfl)) rfl)),rfl,rfl,?_⟩
     ·omega
     ·exact ⟨⟨by omega,rfl⟩,by rw [hst]; rfl,hF⟩
  | succ q =>
   by_cases h8:z ≥ 0
   ·rw [show decide (z ≥ 0)=true from decide_eq_true h8]
    rw [if_pos h8] at hst
    conv=>whnf
    refine ⟨⟨by show 1≤2; decide,rfl,by show (q+1+1)*80≤140737488355328; omega⟩,?_⟩
    conv=>whnf
    refine ⟨[0,3,6,7,8,9,10],?_⟩
    conv=>whnf
    intro _
    conv=>whnf
    refine .inl ⟨3,[[],[0],[],[0,1,2],[0,1,2,3],[0,1,2,3,4]],by kernel_rfl,?_⟩
    conv=>whnf
    obtain ⟨z3,ez3,pz3⟩:=hideZ (cmpQ x.q 0)
    refine ⟨x,rfl,RV.sz_ok sx (by decide),?_⟩
    rw [show qsignS.val x=.int .i64 z3 from ez3]
    conv=>whnf
    obtain ⟨z2,ez2,pz2⟩:=hideZ (cmpQ y.q 0)
    refine ⟨y,rfl,RV.sz_ok sy (by decide),?_⟩
    rw [show qsignS.val y=.int .i64 z2 from ez2]
    conv=>whnf
    have hz2:=cmpQ_range y.q 0
    rw [← pz2] at hz2
    obtain rfl:z3=z:=pz3.trans pz.symm
    rw [show IntKind.i64.wrap (z3*z2)=z3*z2 from by rcases hz with rfl | rfl | rfl <;> rcases hz2 with rfl | rfl | rfl <;> rfl]
    rw [← pz2] at hst
    by_cases h9:z3*z2 < 0
    ·rw [show decide (z3*z2 < 0)=true from decide_eq_true h9]
     rw [if_pos h9] at hst
     conv=>whnf
     refine .inl ⟨10,[[],[],[],[],[],[],[4,5],[3,4,5,6],[1,2,3,4,5,6,7],[1,2,3,4,5,6,7,8],[0,1,2,3,4,5,6,7,8,9],[0,1,2,3,4,5,6,7,8,9,10]],by kernel_rfl,?_⟩
     conv=>whnf
     obtain ⟨d2,ed2,pd2,sd2,qd2⟩:=hideR (QB.sub qx qy)
     refine ⟨(x,y),rfl,⟨RV.sz_ok sx (by decide),RV.sz_ok sy (by decide)⟩,?_⟩
     rw [show qsubS.val (x,y)=d2.v from ed2]
     conv=>whnf
     obtain ⟨t,et,pt,st,qt⟩:=hideR (QB.div qx qd2 (by decide))
     refine ⟨(x,d2),rfl,⟨RV.sz_ok sx (by decide),RV.sz_ok sd2 (by decide)⟩,?_⟩
     rw [show rquotS.val (x,d2)=t.v from et]
     conv=>whnf
     obtain ⟨w,ew,pw,sw,qw⟩:=hideP (at_sz qa qb qt)
     refine ⟨((a,b),t),rfl,⟨⟨PV.sz_mono sa (by decide),PV.sz_mono sb (by decide)⟩,RV.sz_mono st (by decide)⟩,?_⟩
     rw [show vatS.val ((a,b),t)=w.v from ew]
     conv=>whnf
     have pw:=(PV.v_eq ew).symm
     rw [pt,pd2] at pw
     refine ⟨⟨by show 1≤2; decide,rfl,by show (q+1+1+1)*80≤140737488355328; omega⟩,?_⟩
     conv=>whnf
     refine ⟨[0,3,6],?_⟩
     conv=>whnf
     intro _
     conv=>whnf
     rw [e7]
     refine .inr ⟨[0,1,2],[0,3,5,6],?_⟩
     conv=>whnf
     intro _
     conv=>whnf
     refine ⟨_,?_,j+1,(O++[a])++[w],q+1+1+1,_,(.keep (.sk 2 (.keep (.sk 1 (.keep (.keep (.sk 54 .nil rfl))) rfl)) rfl)),rfl,rfl,?_⟩
     ·omega
     ·exact ⟨⟨by omega,by rw [List.length_append,List.length_append,← hq]; rfl⟩,by rw [hst,pw]; simp,appP_row (O:=O++[a]) (by rw [List.length_append,← hq]; rfl) (appP_row hq hF rfl) rfl⟩
    ·rw [show decide (z3*z2 < 0)=false from decide_eq_false h9]
     rw [if_neg h9] at hst
     conv=>whnf
     rw [e7]
     refine .inr ⟨[0,1,2],[0,3,5,6],?_⟩
     conv=>whnf
     intro _
     conv=>whnf
     refine ⟨_,?_,j+1,O++[a],q+1+1,_,(.keep (.sk 2 (.keep (.sk 1 (.keep (.keep (.sk 54 .nil rfl))) rfl)) rfl)),rfl,rfl,?_⟩
     ·omega
     ·exact ⟨⟨by omega,by rw [List.length_append,← hq]; rfl⟩,by rw [hst]; simp,appP_row hq hF rfl⟩
   ·rw [show decide (z ≥ 0)=false from decide_eq_false h8]
    rw [if_neg h8] at hst
    conv=>whnf
    refine .inl ⟨3,[[],[0],[],[0,1,2],[0,1,2,3],[0,1,2,3,4]],by kernel_rfl,?_⟩
    conv=>whnf
    obtain ⟨z3,ez3,pz3⟩:=hideZ (cmpQ x.q 0)
    refine ⟨x,rfl,RV.sz_ok sx (by decide),?_⟩
    rw [show qsignS.val x=.int .i64 z3 from ez3]
    conv=>whnf
    obtain ⟨z2,ez2,pz2⟩:=hideZ (cmpQ y.q 0)
    refine ⟨y,rfl,RV.sz_ok sy (by decide),?_⟩
    rw [show qsignS.val y=.int .i64 z2 from ez2]
    conv=>whnf
    have hz2:=cmpQ_range y.q 0
    rw [← pz2] at hz2
    obtain rfl:z3=z:=pz3.trans pz.symm
    rw [show IntKind.i64.wrap (z3*z2)=z3*z2 from by rcases hz with rfl | rfl | rfl <;> rcases hz2 with rfl | rfl | rfl <;> rfl]
    rw [← pz2] at hst
    by_cases h9:z3*z2 < 0
    ·rw [show decide (z3*z2 < 0)=true from decide_eq_true h9]
     rw [if_pos h9] at hst
     conv=>whnf
     refine .inl ⟨10,[[],[],[],[],[],[],[4,5],[3,4,5,6],[1,2,3,4,5,6,7],[1,2,3,4,5,6,7,8],[0,1,2,3,4,5,6,7,8,9],[0,1,2,3,4,5,6,7,8,9,10]],by kernel_rfl,?_⟩
     conv=>whnf
     obtain ⟨d2,ed2,pd2,sd2,qd2⟩:=hideR (QB.sub qx qy)
     refine ⟨(x,y),rfl,⟨RV.sz_ok sx (by decide),RV.sz_ok sy (by decide)⟩,?_⟩
     rw [show qsubS.val (x,y)=d2.v from ed2]
     conv=>whnf
     obtain ⟨t,et,pt,st,qt⟩:=hideR (QB.div qx qd2 (by decide))
     refine ⟨(x,d2),rfl,⟨RV.sz_ok sx (by decide),RV.sz_ok sd2 (by decide)⟩,?_⟩
     rw [show rquotS.val (x,d2)=t.v from et]
     conv=>whnf
     obtain ⟨w,ew,pw,sw,qw⟩:=hideP (at_sz qa qb qt)
     refine ⟨((a,b),t),rfl,⟨⟨PV.sz_mono sa (by decide),PV.sz_mono sb (by decide)⟩,RV.sz_mono st (by decide)⟩,?_⟩
     rw [show vatS.val ((a,b),t)=w.v from ew]
     conv=>whnf
     have pw:=(PV.v_eq ew).symm
     rw [pt,pd2] at pw
     refine ⟨⟨by show 1≤2; decide,rfl,by show (q+1+1)*80≤140737488355328; omega⟩,?_⟩
     conv=>whnf
     refine ⟨[0,3,6],?_⟩
     conv=>whnf
     intro _
     conv=>whnf
     rw [e7]
     refine .inr ⟨[0,1,2],[0,3,5,6],?_⟩
     conv=>whnf
     intro _
     conv=>whnf
     refine ⟨_,?_,j+1,O++[w],q+1+1,_,(.keep (.sk 2 (.keep (.sk 1 (.keep (.keep (.sk 54 .nil rfl))) rfl)) rfl)),rfl,rfl,?_⟩
     ·omega
     ·exact ⟨⟨by omega,by rw [List.length_append,← hq]; rfl⟩,by rw [hst,pw]; simp,appP_row hq hF rfl⟩
    ·rw [show decide (z3*z2 < 0)=false from decide_eq_false h9]
     rw [if_neg h9] at hst
     conv=>whnf
     rw [e7]
     refine .inr ⟨[0,1,2],[0,3,5,6],?_⟩
     conv=>whnf
     intro _
     conv=>whnf
     refine ⟨_,?_,j+1,O,q+1,F,(.keep (.sk 2 (.keep (.sk 1 (.keep (.keep (.sk 54 .nil rfl))) rfl)) rfl)),rfl,rfl,?_⟩
     ·omega
     ·exact ⟨⟨by omega,hq⟩,by rw [hst]; simp,hF⟩
 ·have h1:j=n:=by
   have:=of_decide_eq_false h1
   omega
  subst h1
  have hcut:cutV m.q L=O:=by rw [hO,hn,← edges_length L,List.take_length]; rfl
  unfold qRes
  rw [show rcutS.new ((L,c),m)=some (.flat true q 6 (rowsP O)) from by rw [← hcut,show q=(cutV m.q L).length from by rw [hcut]; exact hq]; rfl,show rcutS.val ((L,c),m)=.slice (some ⟨1,0,none⟩) q capU from by rw [show q=(cutV m.q L).length from by rw [hcut]; exact hq]; rfl]
  conv=>whnf
  refine ⟨2,?_⟩
  conv=>whnf
  refine ⟨⟨rfl,BlkLe.flat_rows (fun h=>h) hF (fun r hr=>rfl)⟩,_,rfl,?_⟩
  exact .cap _ _ _ rfl
end Go.Proofs.YtppeponndkfbkaaGreat
/- The reference's ring. -/
set_option maxRecDepth 20000
set_option maxHeartbeats 4000000
namespace Go.Proofs.YtppeponndkfbkaaGreat
open Go Go.Ae
def Ere9:Env:=En [(55,.p vsubS),(144,.p vcrossS),(49,.p qsignS)]
theorem Ere9ok:EnvOk Tryz.prog Ere9:=Enk ⟨rvsub_ok,rvcross_ok,rqsign_ok,trivial⟩ trivial
theorem rturn_ok:Snd Tryz.prog 115 rturnS:=by
 refine snd_of Ere9ok Dok Tryz.func115 (enters_of Tryz.func115 (by kernel_rfl) rfl) (fun _=>rfl) (fun _=>rfl) ?_
 intro ⟨a,b,c⟩ hp
 have hp:a.sz 262144∧b.sz 262144∧c.sz 262144:=hp
 obtain ⟨sa,sb,sc⟩:=hp
 have qa:=PV.psz sa (by decide)
 have qb:=PV.psz sb (by decide)
 have qc:=PV.psz sc (by decide)
 conv=>whnf
 refine .inl ⟨5,[[],[],[0,1],[],[],[0,1,2,3,4],[0,1,2,3,4,5],[0,1,2,3,4,5,6],[0,1,2,3,4,5,6,7]],by kernel_rfl,?_⟩
 conv=>whnf
 obtain ⟨u,eu,pu,su,qu⟩:=hideP (sub_sz qb qa)
 refine ⟨(b,a),rfl,⟨PV.sz_mono sb (by decide),PV.sz_mono sa (by decide)⟩,?_⟩
 rw [show vsubS.val (b,a)=u.v from eu]
 conv=>whnf
 obtain ⟨v,ev,pv,sv,qv⟩:=hideP (sub_sz qc qa)
 refine ⟨(c,a),rfl,⟨PV.sz_mono sc (by decide),PV.sz_mono sa (by decide)⟩,?_⟩
 rw [show vsubS.val (c,a)=v.v from ev]
 conv=>whnf
 obtain ⟨w,ew,pw,sw,qw⟩:=hideR (cross_sz qu qv)
 refine ⟨(u,v),rfl,⟨PV.sz_mono su (by decide),PV.sz_mono sv (by decide)⟩,?_⟩
 rw [show vcrossS.val (u,v)=w.v from ew]
 conv=>whnf
 obtain ⟨z,ez,pz⟩:=hideZ (cmpQ w.q 0)
 refine ⟨w,rfl,RV.sz_ok sw (by decide),?_⟩
 rw [show qsignS.val w=.int .i64 z from ez]
 conv=>whnf
 show Value.int .i64 z=.int .i64 (cmpQ (orR a.p b.p c.p) 0)
 rw [pz,pw,pu,pv]
 rfl
def Erf9:Env:=En [(44,.p vcmpS),(114,.p vnormS),(115,.p rturnS)]
theorem Erf9ok:EnvOk Tryz.prog Erf9:=Enk ⟨rvcmp_ok,rvnorm_ok,rturn_ok,trivial⟩ trivial
theorem rring_ok:QSnd Tryz.prog 77 rringS:=by
 refine qsnd_of Erf9ok Dok Tryz.func77 (enters_of Tryz.func77 (by kernel_rfl) rfl) ?_ ?_ ?_
 ·intro i B hb; simp [rringS] at hb; rw [hb]; rfl
 ·intro i B hb; simp [rringS] at hb; rw [← hb]; rfl
 intro ⟨L,c⟩ hp
 have hp:L.length≤549755813888∧∀ v∈L,v.sz 262144:=hp
 obtain ⟨hlen,hsz⟩:=hp
 obtain ⟨n,hn⟩:∃ n,n=L.length:=⟨_,rfl⟩
 obtain ⟨g,hg⟩:∃ g,g=rowsP L:=⟨_,rfl⟩
 have hszQ:=ptsV_sz hsz (by decide)
 rw [show rringS.blks (L,c)=[.flat false n 6 g] from by rw [hn,hg]; rfl,show rringS.args (L,c)=[.slice (some ⟨0,0,none⟩) n c] from by rw [hn]; rfl]
 rw [← hn] at hlen
 conv=>whnf
 refine .inl ⟨fun mm tz hz=>∃ (j:Nat) (O:List Q2) (q:Nat) (F:Nat→List Value),Pat (some (.slice (some ⟨0,0,none⟩) n c)::nos 2 (some (.slice (some ⟨1,0,none⟩) q (capOf q))::some (.int .i64 j)::nos 101 [])) tz∧hz=[some (.flat false n 6 g),some (.flat true q 6 F)]∧n - j=mm∧((j≤n∧q=O.length)∧O=((edges (ptsV L)).take j).flatMap distF∧(∀ r,r < q→F r=rowsQ O r)),.inr ⟨[0,1],[0,3,4],?_⟩,?_⟩
 ·conv=>whnf
  intro _
  conv=>whnf
  refine ⟨_,0,[],0,fun _=>[],(.keep (.sk 2 (.keep (.keep (.sk 101 .nil rfl))) rfl)),rfl,rfl,?_⟩
  exact ⟨⟨Nat.zero_le _,rfl⟩,rfl,fun r hr=>absurd hr (Nat.not_lt_zero r)⟩
 rintro mm tms _ ⟨j,O,q,F,hpat,rfl,rfl,⟨⟨hj,hq⟩,hO,hF⟩⟩
 obtain ⟨az,rfl⟩:∃ az:Nat→Value,tms=.slice (some ⟨0,0,none⟩) n c::zs az 1 2 (.slice (some ⟨1,0,none⟩) q (capOf q)::.int .i64 j::zs az 5 101 []):=pat_fill hpat
 clear hpat
 conv=>whnf
 refine br_intro (fun h1=>?_) (fun h1=>?_)
 ·have h1:j < n:=by
   have:=of_decide_eq_true h1
   omega
  have e7:IntKind.i64.wrap ((j:Int)+1)=((j+1:Nat):Int):=by rw [wrapi64 (by omega) (by omega)]; rfl
  have hup:=dist_up (ptsV L) j
  rw [← hO,← hq,ptsV_len,← hn] at hup
  have ra:=rowsP_atV (L:=L) (k:=j) (by omega)
  have rb:=rowsP_atV (L:=L) (k:=nxt n j) (by rw [hn]; exact nxt_lt (by omega))
  have hed:(edges (ptsV L))[j]?=some ((atV L j).p,(atV L (nxt n j)).p):=by
   rw [atV_p (by omega),atV_p (by rw [← hn]; exact nxt_lt h1)]
   exact edges_get (at2_some (by rw [ptsV_len]; omega)) (by rw [ptsV_len,← hn]; exact at2_some (by rw [ptsV_len,← hn]; exact nxt_lt h1))
  have sa:=hsz _ (atV_mem (L:=L) (k:=j) (by omega))
  have sb:=hsz _ (atV_mem (L:=L) (k:=nxt n j) (by rw [← hn]; exact nxt_lt h1))
  obtain ⟨a,ha⟩:∃ a,a=atV L j:=⟨_,rfl⟩
  obtain ⟨b,hb⟩:∃ a,a=atV L (nxt n j):=⟨_,rfl⟩
  have hnx:=nxt_i h1 (by omega)
  have hnl:=nxt_lt h1
  rw [← ha] at hed sa ra
  rw [← hb] at hed sb rb
  clear ha hb
  have qa:=PV.psz sa (by decide)
  have qb:=PV.psz sb (by decide)
  obtain ⟨u,hu⟩:∃ u,u=nxt n j:=⟨_,rfl⟩
  rw [← hu] at hnx hnl rb
  rw [← hg] at ra rb
  conv=>whnf
  refine .inl ⟨12,[[],[],[0,1],[0,1,2],[],[],[5],[],[7],[5,6,7,8],[4,5,6,7,8,9],[4,5,6,7,8,9,10],[0,1,2,3,4,5,6,7,8,9,10,11],[0,1,2,3,4,5,6,7,8,9,10,11,12]],by kernel_rfl,?_⟩
  conv=>whnf
  refine ⟨⟨by omega,by omega⟩,?_⟩
  simp only [toNat_cast,rowAdd_eq,Nat.zero_add]
  conv=>whnf
  refine ⟨by show j < n; omega,?_⟩
  conv=>whnf
  rw [ra]
  conv=>whnf
  rw [show decide ((n:Int)≠0)=true from decide_eq_true (by omega)]
  conv=>whnf
  rw [hnx]
  refine ⟨⟨by omega,by omega⟩,?_⟩
  simp only [toNat_cast,rowAdd_eq,Nat.zero_add]
  conv=>whnf
  refine ⟨by show u < n; omega,?_⟩
  conv=>whnf
  rw [rb]
  conv=>whnf
  obtain ⟨z,ez,pz⟩:=hideZ (cmpR a.p b.p)
  refine ⟨(a,b),rfl,⟨PV.sz_mono sa (by decide),PV.sz_mono sb (by decide)⟩,?_⟩
  rw [show vcmpS.val (a,b)=.int .i64 z from ez]
  conv=>whnf
  have hst:=(flat_step (f:=distF) hed).trans (congrArg (_++·) (distF_eq pz))
  rw [← hO] at hst
  by_cases h8:z=0
  ·rw [show (z != 0)=false from by simp [h8]]
   rw [if_neg (fun e=>e h8)] at hst
   conv=>whnf
   rw [e7]
   refine .inr ⟨[0,1],[0,3,4],?_⟩
   conv=>whnf
   intro _
   conv=>whnf
   refine ⟨_,?_,j+1,O,q,F,(.keep (.sk 2 (.keep (.keep (.sk 101 .nil rfl))) rfl)),rfl,rfl,?_⟩
   ·omega
   ·exact ⟨⟨by omega,hq⟩,by rw [hst]; simp,hF⟩
  ·rw [show (z != 0)=true from by simp [h8]]
   rw [if_pos h8] at hst
   conv=>whnf
   refine ⟨⟨by omega,by omega⟩,?_⟩
   simp only [toNat_cast,rowAdd_eq,Nat.zero_add]
   conv=>whnf
   refine ⟨by show j < n; omega,?_⟩
   conv=>whnf
   rw [ra]
   conv=>whnf
   obtain ⟨x,hx⟩:∃ x,x=ptV a.p:=⟨_,rfl⟩
   refine ⟨a,rfl,PV.sz_mono sa (by decide),?_⟩
   rw [show vnormS.val a=x.v from by rw [hx]; rfl]
   conv=>whnf
   cases q with
   | zero =>
    obtain rfl:O=[]:=List.eq_nil_of_length_eq_zero hq.symm
    conv=>whnf
    refine ⟨⟨Nat.le_refl _,by show (0+1)*80≤140737488355328; decide⟩,?_⟩
    conv=>whnf
    rw [e7]
    refine .inr ⟨[0,15],[0,3,4],?_⟩
    conv=>whnf
    intro _
    conv=>whnf
    refine ⟨_,?_,j+1,[a.p],1,_,(.keep (.sk 2 (.keep (.keep (.sk 101 .nil rfl))) rfl)),rfl,rfl,?_⟩
    ·omega
    ·exact ⟨⟨by omega,rfl⟩,by rw [hst]; rfl,oneQ_row hx rfl⟩
   | succ q =>
    conv=>whnf
    refine ⟨⟨by show 1≤1; decide,rfl,by show (q+1+1)*80≤140737488355328; omega⟩,?_⟩
    conv=>whnf
    refine ⟨[0,4],?_⟩
    conv=>whnf
    intro _
    conv=>whnf
    rw [e7]
    refine .inr ⟨[0,1],[0,3,4],?_⟩
    conv=>whnf
    intro _
    conv=>whnf
    refine ⟨_,?_,j+1,O++[a.p],q+1+1,_,(.keep (.sk 2 (.keep (.keep (.sk 101 .nil rfl))) rfl)),rfl,rfl,?_⟩
    ·omega
    ·exact ⟨⟨by omega,by rw [List.length_append,← hq]; rfl⟩,by rw [hst],appQ_row hq hF hx rfl⟩
 ·have h1:j=n:=by
   have:=of_decide_eq_false h1
   omega
  subst h1
  have hD:O=distinctR (ptsV L):=by rw [hO,hn,← ptsV_len L,← edges_length (ptsV L),List.take_length]; rfl
  have hsO:∀ v∈O,Q2.sz 262144 v:=fun v hv=>hszQ v ((distinct_sub _).subset (by rw [← hD]; exact hv))
  have hqn:q≤j:=by
   have:=(distinct_sub (ptsV L)).length_le
   rw [← hD,ptsV_len] at this
   omega
  clear hO
  conv=>whnf
  skip
  refine .inl ⟨fun mm tz hz=>∃ (i:Nat) (C:List Q2) (e:Nat) (E:Nat→List Value),Pat (nos 3 (some (.slice (some ⟨1,0,none⟩) q (capOf q))::nos 1 (some (.slice (some ⟨2,0,none⟩) e (capOf e))::some (.int .i64 q)::some (.int .i64 i)::nos 98 []))) tz∧hz=[some (.flat false j 6 g),some (.flat true q 6 F),some (.flat true e 6 E)]∧q - i=mm∧((i≤q∧e=C.length)∧C=(List.range i).flatMap (cornF O)∧(∀ r,r < e→E r=rowsQ C r)),.inr ⟨[0,1,2],[3,5,6,7],?_⟩,?_⟩
  ·conv=>whnf
   intro _
   conv=>whnf
   refine ⟨_,0,[],0,fun _=>[],(.sk 3 (.keep (.sk 1 (.keep (.keep (.keep (.sk 98 .nil rfl)))) rfl)) rfl),rfl,rfl,?_⟩
   exact ⟨⟨Nat.zero_le _,rfl⟩,rfl,fun r hr=>absurd hr (Nat.not_lt_zero r)⟩
  rintro mm tms _ ⟨i,C,e,E,hpat,rfl,rfl,⟨⟨hi,he⟩,hC,hE⟩⟩
  obtain ⟨az,rfl⟩:∃ az:Nat→Value,tms=zs az 0 3 (.slice (some ⟨1,0,none⟩) q (capOf q)::zs az 4 1 (.slice (some ⟨2,0,none⟩) e (capOf e)::.int .i64 q::.int .i64 i::zs az 8 98 [])):=pat_fill hpat
  clear hpat
  conv=>whnf
  refine br_intro (fun h1=>?_) (fun h1=>?_)
  ·have h1:i < q:=by
    have:=of_decide_eq_true h1
    omega
   have e7:IntKind.i64.wrap ((i:Int)+1)=((i+1:Nat):Int):=by rw [wrapi64 (by omega) (by omega)]; rfl
   have hup:=corn_up O i
   rw [← hC,← he] at hup
   have hpl:prv q i < q:=prv_lt h1
   have hnl:=nxt_lt h1
   obtain ⟨a,ca,ra,pa,sa,qa⟩:=hideAt (L:=O) (k:=prv q i) (by omega) hsO
   obtain ⟨b,cb,rb,pb,sb,qb⟩:=hideAt (L:=O) (k:=i) (by omega) hsO
   obtain ⟨d,cd,rd,pd,sd,qd⟩:=hideAt (L:=O) (k:=nxt q i) (by omega) hsO
   rw [← hF _ (by omega)] at ra rb rd
   have hpv:=prv_i h1 (by omega)
   have hnx:=nxt_i h1 (by omega)
   have hst:(List.range (i+1)).flatMap (cornF O)=C++cornF O i:=by rw [List.range_succ,List.flatMap_append,← hC]; simp
   have hcf:∀ z:Int,z=cmpQ (orR a.p b.p d.p) 0→cornF O i=if z≠0 then [b.p] else []:=fun z hz=>cornF_eq (by rw [← hq]; exact pa) pb (by rw [← hq]; exact pd) hz
   obtain ⟨u,hu⟩:∃ u,u=prv q i:=⟨_,rfl⟩
   obtain ⟨w,hw⟩:∃ u,u=nxt q i:=⟨_,rfl⟩
   rw [← hu] at hpv hpl ra
   rw [← hw] at hnx hnl rd
   conv=>whnf
   refine .inl ⟨20,[[],[],[],[1,2],[1,2,3],[],[1,2,3,4,5],[0,1,2,3,4,5,6],[0,1,2,3,4,5,6,7],[],[],[9,10],[9,10,11],[],[],[14],[],[14,15,16],[13,14,15,16,17],[13,14,15,16,17,18],[0,1,2,3,4,5,6,7,8,9,10,11,12,13,14,15,16,17,18,19],[0,1,2,3,4,5,6,7,8,9,10,11,12,13,14,15,16,17,18,19,20]],by kernel_rfl,?_⟩
   conv=>whnf
   rw [show decide ((q:Int)≠0)=true from decide_eq_true (by omega)]
   conv=>whnf
   rw [hpv]
   refine ⟨⟨by omega,by omega⟩,?_⟩
   simp only [toNat_cast,rowAdd_eq,Nat.zero_add]
   conv=>whnf
   refine ⟨by show u < q; omega,?_⟩
   conv=>whnf
   rw [ra]
   conv=>whnf
   refine ⟨⟨by omega,by omega⟩,?_⟩
   simp only [toNat_cast,rowAdd_eq,Nat.zero_add]
   conv=>whnf
   refine ⟨by show i < q; omega,?_⟩
   conv=>whnf
   rw [rb]
   conv=>whnf
   rw [show decide ((q:Int)≠0)=true from decide_eq_true (by omega)]
   conv=>whnf
   rw [hnx]
   refine ⟨⟨by omega,by omega⟩,?_⟩
   simp only [toNat_cast,rowAdd_eq,Nat.zero_add]
   conv=>whnf
   refine ⟨by show w < q; omega,?_⟩
   conv=>whnf
   rw [rd]
   conv=>whnf
   obtain ⟨z,ez,pz⟩:=hideZ (cmpQ (orR a.p b.p d.p) 0)
   refine ⟨(a,b,d),rfl,⟨PV.sz_mono sa (by decide),PV.sz_mono sb (by decide),PV.sz_mono sd (by decide)⟩,?_⟩
   rw [show rturnS.val (a,b,d)=.int .i64 z from ez]
   conv=>whnf
   have hcz:=hcf z pz
   by_cases h8:z=0
   ·rw [show (z != 0)=false from by simp [h8]]
    rw [if_neg (fun e=>e h8)] at hcz
    conv=>whnf
    rw [e7]
    refine .inr ⟨[0,1,2],[3,5,6,7],?_⟩
    conv=>whnf
    intro _
    conv=>whnf
    refine ⟨_,?_,i+1,C,e,E,(.sk 3 (.keep (.sk 1 (.keep (.keep (.keep (.sk 98 .nil rfl)))) rfl)) rfl),rfl,rfl,?_⟩
    ·omega
    ·exact ⟨⟨by omega,he⟩,by rw [hst,hcz]; simp,hE⟩
   ·rw [show (z != 0)=true from by simp [h8]]
    rw [if_pos h8] at hcz
    conv=>whnf
    refine ⟨⟨by omega,by omega⟩,?_⟩
    simp only [toNat_cast,rowAdd_eq,Nat.zero_add]
    conv=>whnf
    refine ⟨by show i < q; omega,?_⟩
    conv=>whnf
    rw [rb]
    conv=>whnf
    cases e with
    | zero =>
     obtain rfl:C=[]:=List.eq_nil_of_length_eq_zero he.symm
     conv=>whnf
     refine ⟨⟨Nat.le_refl _,by show (0+1)*80≤140737488355328; decide⟩,?_⟩
     conv=>whnf
     rw [e7]
     refine .inr ⟨[0,1,24],[3,5,6,7],?_⟩
     conv=>whnf
     intro _
     conv=>whnf
     refine ⟨_,?_,i+1,[b.p],1,_,(.sk 3 (.keep (.sk 1 (.keep (.keep (.keep (.sk 98 .nil rfl)))) rfl)) rfl),rfl,rfl,?_⟩
     ·omega
     ·exact ⟨⟨by omega,rfl⟩,by rw [hst,hcz]; rfl,oneQ_row (by rw [pb]; exact cb) rfl⟩
    | succ e =>
     conv=>whnf
     refine ⟨⟨by show 1≤2; decide,rfl,by show (e+1+1)*80≤140737488355328; omega⟩,?_⟩
     conv=>whnf
     refine ⟨[3,6,7],?_⟩
     conv=>whnf
     intro _
     conv=>whnf
     rw [e7]
     refine .inr ⟨[0,1,2],[3,5,6,7],?_⟩
     conv=>whnf
     intro _
     conv=>whnf
     refine ⟨_,?_,i+1,C++[b.p],e+1+1,_,(.sk 3 (.keep (.sk 1 (.keep (.keep (.keep (.sk 98 .nil rfl)))) rfl)) rfl),rfl,rfl,?_⟩
     ·omega
     ·exact ⟨⟨by omega,by rw [List.length_append,← he]; rfl⟩,by rw [hst,hcz],appQ_row he hE (by rw [pb]; exact cb) rfl⟩
  ·have h1:i=q:=by
    have:=of_decide_eq_false h1
    omega
   subst h1
   have hCC:C=cornersR O:=by rw [hC,hq]; rfl
   have hei:e≤i:=by have:=corn_up O i; rw [← hC,← he] at this; exact this
   clear hC
   have hR:ringR (ptsV L)=if C.length < 3 then [] else rotR C:=by unfold ringR; rw [← hD,← hCC]
   conv=>whnf
   by_cases h3:e < 3
   ·rw [show decide ((e:Int) < 3)=true from decide_eq_true (by omega)]
    rw [if_pos (by omega)] at hR
    conv=>whnf
    rw [show rringS.val (L,c)=.slice (some ⟨1,0,none⟩) 0 capU from by show Value.slice _ (ringR (ptsV L)).length _=_; rw [hR]; rfl]
    refine ⟨3,?_⟩
    conv=>whnf
    refine ⟨⟨rfl,?_⟩,_,rfl,.cap _ _ _ rfl⟩
    show BlkLe (.flat true (ringR (ptsV L)).length 6 (rowsQ (ringR (ptsV L)))) _
    rw [hR]
    exact BlkLe.flat_rows (fun h=>h) (fun r hr=>absurd hr (Nat.not_lt_zero r)) (fun r hr=>rfl)
   ·rw [show decide ((e:Int) < 3)=false from decide_eq_false (by omega)]
    rw [if_neg (by omega)] at hR
    have hcap:capOf e=capU:=by
     cases e with
     | zero=>omega
     | succ e=>rfl
    rw [hcap]
    obtain ⟨cu,hcu⟩:∃ c,c=capU:=⟨_,rfl⟩
    rw [← hcu]
    have hsC:∀ v∈C,Q2.sz 262144 v:=fun v hv=>hsO v ((corners_sub _).subset (by rw [← hCC]; exact hv))
    conv=>whnf
    skip
    refine .inl ⟨fun mm tz hz=>∃ (k:Nat) (m:Nat),Pat (nos 5 (some (.slice (some ⟨2,0,none⟩) e cu)::nos 2 (some (.int .i64 m)::some (.int .i64 k)::nos 96 []))) tz∧hz=[some (.flat false j 6 g),some (.flat true i 6 F),some (.flat true e 6 E)]∧e - k=mm∧((k≤e∧1≤k)∧m=leastUp C k),.inr ⟨[0,1,2],[5,8,9],?_⟩,?_⟩
    ·conv=>whnf
     intro _
     conv=>whnf
     refine ⟨_,1,0,(.sk 5 (.keep (.sk 2 (.keep (.keep (.sk 96 .nil rfl))) rfl)) rfl),rfl,rfl,?_⟩
     exact ⟨⟨by omega,Nat.le_refl _⟩,(least_one C).symm⟩
    rintro mm tms _ ⟨k,m,hpat,rfl,rfl,⟨⟨hk,hk1⟩,hm⟩⟩
    obtain ⟨az,rfl⟩:∃ az:Nat→Value,tms=zs az 0 5 (.slice (some ⟨2,0,none⟩) e cu::zs az 6 2 (.int .i64 m::.int .i64 k::zs az 10 96 [])):=pat_fill hpat
    clear hpat
    have hml:m < e:=by rw [hm,he]; exact (leastUp_spec C k (by omega)).1 (by omega)
    conv=>whnf
    refine br_intro (fun h1=>?_) (fun h1=>?_)
    ·have h1:k < e:=by
      have:=of_decide_eq_true h1
      omega
     have e7:IntKind.i64.wrap ((k:Int)+1)=((k+1:Nat):Int):=by rw [wrapi64 (by omega) (by omega)]; rfl
     obtain ⟨a,ca,ra,pa,sa,qa⟩:=hideAt (L:=C) (k:=k) (by omega) hsC
     obtain ⟨b,cb,rb,pb,sb,qb⟩:=hideAt (L:=C) (k:=m) (by omega) hsC
     rw [← hE _ (by omega)] at ra rb
     conv=>whnf
     refine .inl ⟨8,[[],[],[0,1],[0,1,2],[],[],[4,5],[4,5,6],[0,1,2,3,4,5,6,7],[0,1,2,3,4,5,6,7,8]],by kernel_rfl,?_⟩
     conv=>whnf
     refine ⟨⟨by omega,by omega⟩,?_⟩
     simp only [toNat_cast,rowAdd_eq,Nat.zero_add]
     conv=>whnf
     refine ⟨by show k < e; omega,?_⟩
     conv=>whnf
     rw [ra]
     conv=>whnf
     refine ⟨⟨by omega,by omega⟩,?_⟩
     simp only [toNat_cast,rowAdd_eq,Nat.zero_add]
     conv=>whnf
     refine ⟨by show m < e; omega,?_⟩
     conv=>whnf
     rw [rb]
     conv=>whnf
     obtain ⟨z,ez,pz⟩:=hideZ (cmpR a.p b.p)
     refine ⟨(a,b),rfl,⟨PV.sz_mono sa (by decide),PV.sz_mono sb (by decide)⟩,?_⟩
     rw [show vcmpS.val (a,b)=.int .i64 z from ez]
     conv=>whnf
     have hup:leastUp C (k+1)=if z < 0 then k else m:=by
      show (if cmpR (at2 C k) (at2 C (leastUp C k)) < 0 then k else leastUp C k)=_
      rw [← hm,← pa,← pb,← pz]
     by_cases h8:z < 0
     ·rw [show decide (z < 0)=true from decide_eq_true h8]
      rw [if_pos h8] at hup
      conv=>whnf
      rw [e7]
      refine .inr ⟨[0,1,2],[5,8,9],?_⟩
      conv=>whnf
      intro _
      conv=>whnf
      refine ⟨_,?_,k+1,k,(.sk 5 (.keep (.sk 2 (.keep (.keep (.sk 96 .nil rfl))) rfl)) rfl),rfl,rfl,?_⟩
      ·omega
      ·exact ⟨⟨by omega,by omega⟩,hup.symm⟩
     ·rw [show decide (z < 0)=false from decide_eq_false h8]
      rw [if_neg h8] at hup
      conv=>whnf
      rw [e7]
      refine .inr ⟨[0,1,2],[5,8,9],?_⟩
      conv=>whnf
      intro _
      conv=>whnf
      refine ⟨_,?_,k+1,m,(.sk 5 (.keep (.sk 2 (.keep (.keep (.sk 96 .nil rfl))) rfl)) rfl),rfl,rfl,?_⟩
      ·omega
      ·exact ⟨⟨by omega,by omega⟩,hup.symm⟩
    ·have h1:k=e:=by
      have:=of_decide_eq_false h1
      omega
     subst h1
     conv=>whnf
     refine .inr (.inr (.inr ⟨10,[[],[],[],[1,2],[0,1,2,3],[],[],[5,6],[1,2,3,4,5,6,7],[1,2,3,5,6,7,8]],by kernel_rfl,?_⟩))
     conv=>whnf
     refine ⟨⟨by omega,by omega,by omega⟩,?_⟩
     rw [show Int.toNat (k:Int) - Int.toNat (m:Int)=k - m from rfl,show Int.toNat (m:Int)=m from rfl,rowAdd_eq,Nat.zero_add]
     conv=>whnf
     refine ⟨by omega,?_⟩
     conv=>whnf
     obtain ⟨a,ha⟩:∃ a,a=k - m:=⟨_,rfl⟩
     rw [← ha]
     rw [show (Src.fl a fun j=>E (rowAdd (0+m) j)).m=a from rfl]
     refine ⟨⟨rfl,by show (0+a)*80≤140737488355328; omega⟩,?_⟩
     conv=>whnf
     refine ⟨by kernel_rfl,?_⟩
     conv=>whnf
     refine ⟨⟨by omega,by omega,by omega⟩,?_⟩
     rw [show Int.toNat (m:Int) - Int.toNat 0=m from rfl,show rowAdd 0 (Int.toNat 0)=0 from rfl]
     conv=>whnf
     refine ⟨by omega,?_⟩
     conv=>whnf
     rw [show (Src.fl m fun j=>E (rowAdd 0 j)).m=m from rfl]
     refine ⟨⟨rfl,by show (0+a+m)*80≤140737488355328; omega⟩,?_⟩
     conv=>whnf
     refine ⟨by kernel_rfl,?_⟩
     conv=>whnf
     rw [show 0+a+m=k from by omega]
     have hRl:(ringR (ptsV L)).length=k:=by rw [hR,rotR_length]; omega
     rw [show rringS.val (L,c)=.slice (some ⟨1,0,none⟩) k capU from by show Value.slice _ (ringR (ptsV L)).length _=_; rw [hRl]]
     refine ⟨11,?_⟩
     conv=>whnf
     refine ⟨⟨rfl,?_⟩,_,rfl,.refl _⟩
     show BlkLe (.flat true (ringR (ptsV L)).length 6 (rowsQ (ringR (ptsV L)))) _
     rw [hRl,hR]
     refine BlkLe.flat_rows (fun h=>h) (fun r hr=>?_) (fun r hr=>rfl)
     rw [rot_rowsE (n:=k) hE he ha (by omega) r hr]
     show rowsQ _ r=rowsQ (C.drop (leastUp C C.length)++C.take (leastUp C C.length)) r
     rw [← he,← hm]
end Go.Proofs.YtppeponndkfbkaaGreat
/- The reference's part of a box on the left of lines. -/
set_option maxRecDepth 20000
set_option maxHeartbeats 4000000
namespace Go.Proofs.YtppeponndkfbkaaGreat
open Go Go.Ae
def Erg9:Env:=En [(85,.p qcmpS)]
theorem Erg9ok:EnvOk Tryz.prog Erg9:=Enk ⟨rqcmp_ok,trivial⟩ trivial
theorem rless_ok:Snd Tryz.prog 112 lessS:=by
 refine snd_of Erg9ok Dok Tryz.func112 (enters_of Tryz.func112 (by kernel_rfl) rfl) (fun _=>rfl) (fun _=>rfl) ?_
 intro ⟨a,b⟩ hp
 have hp:a.ok∧b.ok:=hp
 conv=>whnf
 obtain ⟨z,ez,pz⟩:=hideZ (cmpQ a.q b.q)
 refine ⟨(a,b),rfl,hp,?_⟩
 rw [show qcmpS.val (a,b)=.int .i64 z from ez]
 conv=>whnf
 show Value.bool (decide (z < 0))=.bool (decide (a.q < b.q))
 congr 1
 exact decide_eq_decide.2 (by rw [pz]; exact cmpQ_neg)
def Erh9:Env:=En [(112,.p lessS)]
theorem Erh9ok:EnvOk Tryz.prog Erh9:=Enk ⟨rless_ok,trivial⟩ trivial
theorem isbox_ok:Snd Tryz.prog 75 rboxS:=by
 refine snd_of Erh9ok Dok Tryz.func75 (enters_of Tryz.func75 (by kernel_rfl) rfl) (fun _=>rfl) (fun _=>rfl) ?_
 intro ⟨⟨x1,y1⟩,⟨x2,y2⟩⟩ hp
 have hp:PV.sz 1048576 (x1,y1)∧PV.sz 1048576 (x2,y2):=hp
 obtain ⟨s1,s2⟩:=hp
 have fin:∀ b:Bool,b=decide (okB (XV.p ((x1,y1),(x2,y2))))→Value.bool b=rboxS.val ((x1,y1),(x2,y2)):=fun b h=>by rw [h]; rfl
 conv=>whnf
 refine ⟨(x2,x1),rfl,⟨RV.sz_ok s2.1 (by decide),RV.sz_ok s1.1 (by decide)⟩,?_⟩
 by_cases h1:x2.q < x1.q
 ·rw [show lessS.val (x2,x1)=.bool true from congrArg Value.bool (decide_eq_true h1)]
  conv=>whnf
  exact fin false (decide_eq_false fun e=>absurd h1 (Rat.not_lt.2 e.1)).symm
 ·rw [show lessS.val (x2,x1)=.bool false from congrArg Value.bool (decide_eq_false h1)]
  conv=>whnf
  refine ⟨(y2,y1),rfl,⟨RV.sz_ok s2.2 (by decide),RV.sz_ok s1.2 (by decide)⟩,?_⟩
  by_cases h2:y2.q < y1.q
  ·rw [show lessS.val (y2,y1)=.bool true from congrArg Value.bool (decide_eq_true h2)]
   conv=>whnf
   exact fin false (decide_eq_false fun e=>absurd h2 (Rat.not_lt.2 e.2)).symm
  ·rw [show lessS.val (y2,y1)=.bool false from congrArg Value.bool (decide_eq_false h2)]
   conv=>whnf
   exact fin true (decide_eq_true ⟨Rat.not_lt.1 h1,Rat.not_lt.1 h2⟩).symm
def Eri9:Env:=En [(75,.p rboxS),(18,.p lcheckS),(76,.q rcutS),(77,.q rringS)]
theorem Eri9ok:EnvOk Tryz.prog Eri9:=Enk ⟨isbox_ok,rlcheck_ok,rcut_ok,rring_ok,trivial⟩ trivial
theorem rcommon_ok:QSnd Tryz.prog 34 rcommonS:=by
 refine qsnd_of Eri9ok Dok Tryz.func34 (enters_of Tryz.func34 (by kernel_rfl) rfl) ?_ ?_ ?_
 ·intro ⟨b,i⟩ B hb
  cases i with
  | none=>simp [rcommonS,LL.blks] at hb
  | some i=>simp [rcommonS,LL.blks] at hb; rw [hb]; rfl
 ·intro i B hb; simp [rcommonS] at hb; rw [← hb]; rfl
 intro ⟨⟨⟨x1,y1⟩,⟨x2,y2⟩⟩,i⟩ hp
 have hp:comOk ((x1,y1),(x2,y2)) i.list∧PV.sz 262144 (x1,y1)∧PV.sz 262144 (x2,y2):=hp
 obtain ⟨⟨⟨sb1,sb2⟩,hlen,hsl,hsz⟩,t1,t2⟩:=hp
 obtain ⟨B,hB⟩:∃ B,B=XV.p ((x1,y1),(x2,y2)):=⟨_,rfl⟩
 cases i with
 | none =>
  have hsz:0≤60→∀ k,k≤0→(partR (XV.p ((x1,y1),(x2,y2))) ((qs []).take k)).length≤274877906944∧∀ v∈partR (XV.p ((x1,y1),(x2,y2))) ((qs []).take k),Q2.sz 262144 v:=hsz
  have hPk:=(hsz (by decide) 0 (Nat.le_refl _)).2
  obtain ⟨K,hK⟩:∃ K,K=qRes rcommonS (((x1,y1),(x2,y2)),none):=⟨_,rfl⟩
  rw [show rcommonS.blks (((x1,y1),(x2,y2)),none)=[] from rfl,show rcommonS.args (((x1,y1),(x2,y2)),none)=[XV.v ((x1,y1),(x2,y2)),.slice none 0 0] from rfl,← hK]
  conv=>whnf
  refine ⟨((x1,y1),(x2,y2)),rfl,⟨sb1,sb2⟩,?_⟩
  by_cases hok:okB B
  ·rw [show rboxS.val ((x1,y1),(x2,y2))=.bool true from congrArg Value.bool (decide_eq_true (by rw [← hB]; exact hok))]
   conv=>whnf
   refine .inr ⟨1,?_⟩
   conv=>whnf
   refine .inr ⟨1,?_⟩
   conv=>whnf
   have hE:comE B []=if (cleanL (partR B [])).length < 3 then 12 else 0:=by
    unfold comE
    rw [if_neg (fun e=>e.elim (fun e=>e hok) (fun e=>by cases e)),if_neg (by decide)]
    rfl
   obtain ⟨g1,g2⟩:=ring_part (l:=[]) hok
   obtain ⟨R,hR⟩:∃ R,R=ringR (ptsV (boxV ((x1,y1),(x2,y2)))):=⟨_,rfl⟩
   obtain ⟨M,hM⟩:∃ M,R.length=M:=⟨_,rfl⟩
   obtain ⟨gs,hgs⟩:∃ g,g=rowsQ R:=⟨_,rfl⟩
   rw [show ringR (partR B [])=R from by rw [hR,hB]; rfl] at g1 g2
   refine ⟨(boxV ((x1,y1),(x2,y2)),4),[1],rfl,⟨by show 4≤549755813888; decide,cutsV_sz (l:=[]) t1 t2 hPk⟩,?_⟩
   rw [show rringS.blks (boxV ((x1,y1),(x2,y2)),4)=[.flat false 4 6 (rowsP (boxV ((x1,y1),(x2,y2))))] from rfl,show rringS.val (boxV ((x1,y1),(x2,y2)),4)=.slice (some ⟨1,0,none⟩) M capU from by rw [← hM,hR]; rfl,show rringS.new (boxV ((x1,y1),(x2,y2)),4)=some (.flat true M 6 gs) from by rw [← hM,hgs,hR]; rfl]
   conv=>whnf
   have hW:=lit_blkT (boxV ((x1,y1),(x2,y2)))
   refine ⟨⟨(fun h=>by cases h),hW.esz,hW.n,hW.row,hW.flat⟩,?_⟩
   conv=>whnf
   refine ⟨_,rfl,?_⟩
   conv=>whnf
   by_cases h8:M=0
   ·have hR0:R=[]:=List.eq_nil_of_length_eq_zero (by rw [hM]; exact h8)
    have he:comE B []=12:=by rw [hE,if_pos (g1.1 hR0)]
    have hrc:rcomP (XV.p ((x1,y1),(x2,y2))) (qs (LL.list none))=R:=by rw [hR0]; exact rcom_err (e:=12) (by rw [← hB]; exact he) (by decide)
    rw [show (((M:Nat):Int) == 0)=true from by rw [h8]; rfl]
    conv=>whnf
    have he2:comE (XV.p ((x1,y1),(x2,y2))) (qs (LL.list none))=12:=by rw [← hB]; exact he
    obtain ⟨f1,f2⟩:=rcom_eq (b:=((x1,y1),(x2,y2))) (i:=none) he2 hrc hM hgs
    rw [hK]
    unfold qRes
    rw [f1,f2]
    refine ⟨2,?_⟩
    conv=>whnf
    exact ⟨⟨rfl,BlkLe.flat_flat (fun h=>h) (fun r hr=>by rw [hgs]; rfl)⟩,_,rfl,.refl _⟩
   ·have h9:¬ (cleanL (partR B [])).length < 3:=fun e=>h8 (by rw [← hM,g1.2 e]; rfl)
    have he:comE B []=0:=by rw [hE,if_neg h9]
    have hrc:rcomP (XV.p ((x1,y1),(x2,y2))) (qs (LL.list none))=R:=by
     unfold rcomP
     rw [if_pos (by rw [← hB]; exact he),← hB]
     rw [g2 h9]; rfl
    rw [show (((M:Nat):Int) == 0)=false from by simp; exact h8]
    conv=>whnf
    have he2:comE (XV.p ((x1,y1),(x2,y2))) (qs (LL.list none))=0:=by rw [← hB]; exact he
    obtain ⟨f1,f2⟩:=rcom_eq (b:=((x1,y1),(x2,y2))) (i:=none) he2 hrc hM hgs
    rw [hK]
    unfold qRes
    rw [f1,f2]
    refine ⟨2,?_⟩
    conv=>whnf
    exact ⟨⟨rfl,BlkLe.flat_flat (fun h=>h) (fun r hr=>by rw [hgs]; rfl)⟩,_,rfl,.refl _⟩
  ·have he:comE B []=1:=if_pos (.inl hok)
   rw [show rboxS.val ((x1,y1),(x2,y2))=.bool false from congrArg Value.bool (decide_eq_false (by rw [← hB]; exact hok))]
   conv=>whnf
   have he2:comE (XV.p ((x1,y1),(x2,y2))) (qs (LL.list none))=1:=by rw [← hB]; exact he
   obtain ⟨f1,f2⟩:=rcom_eq (b:=((x1,y1),(x2,y2))) (i:=none) he2 (rcom_err he2 (by decide)) rfl rfl
   rw [hK]
   unfold qRes
   rw [f1,f2]
   refine ⟨1,?_⟩
   conv=>whnf
   exact ⟨⟨rfl,BlkLe.flat_rows (fun h=>h) (fun r hr=>absurd hr (Nat.not_lt_zero r)) (fun r hr=>rfl)⟩,_,rfl,.two (.cap _ _ _ rfl) (.refl _)⟩
 | some i =>
  obtain ⟨l,c⟩:=i
  have hlen:l.length≤1099511627776:=hlen
  have hsl:∀ m∈l,R3.sz 1048576 m:=hsl
  have hsz:l.length≤60→∀ k,k≤l.length→(partR (XV.p ((x1,y1),(x2,y2))) ((qs l).take k)).length≤274877906944∧∀ v∈partR (XV.p ((x1,y1),(x2,y2))) ((qs l).take k),Q2.sz 262144 v:=hsz
  rw [← hB] at hsz
  obtain ⟨N,hN⟩:∃ N,N=l.length:=⟨_,rfl⟩
  obtain ⟨G,hG⟩:∃ g,g=rowsLn l:=⟨_,rfl⟩
  obtain ⟨Q,hQ⟩:∃ Q,Q=qs l:=⟨_,rfl⟩
  have qlen:Q.length=N:=by rw [hQ,hN]; exact List.length_map ..
  obtain ⟨K,hK⟩:∃ K,K=qRes rcommonS (((x1,y1),(x2,y2)),some (l,c)):=⟨_,rfl⟩
  rw [show rcommonS.blks (((x1,y1),(x2,y2)),some (l,c))=[.flat false N 9 G] from by rw [hN,hG]; rfl,show rcommonS.args (((x1,y1),(x2,y2)),some (l,c))=[XV.v ((x1,y1),(x2,y2)),.slice (some ⟨0,0,none⟩) N c] from by rw [hN]; rfl,← hK]
  rw [← hN] at hlen
  conv=>whnf
  refine ⟨((x1,y1),(x2,y2)),rfl,⟨sb1,sb2⟩,?_⟩
  by_cases hok:okB B
  ·rw [show rboxS.val ((x1,y1),(x2,y2))=.bool true from congrArg Value.bool (decide_eq_true (by rw [← hB]; exact hok))]
   conv=>whnf
   refine .inl ⟨fun mm tz hz=>∃ (i:Nat),Pat (nos 1 (some (.slice (some ⟨0,0,none⟩) N c)::some (.pointer (some ⟨1,0,none⟩))::nos 3 (some (.int .i64 i)::nos 66 []))) tz∧hz=[some (.flat false N 9 G),some (.expl true 12 [XV.cells ((x1,y1),(x2,y2))])]∧N - i=mm∧(i≤N∧goodUp l i),.inr ⟨[0,1],[1,2,6],?_⟩,?_⟩
   ·conv=>whnf
    intro _
    conv=>whnf
    refine ⟨_,0,(.sk 1 (.keep (.keep (.sk 3 (.keep (.sk 66 .nil rfl)) rfl))) rfl),rfl,rfl,?_⟩
    exact ⟨Nat.zero_le _,goodUp_start _⟩
   rintro mm tms _ ⟨i,hpat,rfl,rfl,⟨hi,hU⟩⟩
   obtain ⟨az,rfl⟩:∃ az:Nat→Value,tms=zs az 0 1 (.slice (some ⟨0,0,none⟩) N c::.pointer (some ⟨1,0,none⟩)::zs az 3 3 (.int .i64 i::zs az 7 66 [])):=pat_fill hpat
   clear hpat
   conv=>whnf
   refine br_intro (fun h3=>?_) (fun h3=>?_)
   ·have h3:i < N:=by
     have:=of_decide_eq_true h3
     omega
    have e7:IntKind.i64.wrap ((i:Int)+1)=((i+1:Nat):Int):=by rw [wrapi64 (by omega) (by omega)]; rfl
    obtain ⟨m,hml,hmm,hrow⟩:=rowsLn_get (l:=l) (k:=i) (by omega)
    rw [← hG] at hrow
    have sm:=hsl m hmm
    have qm:=R3.qsz sm (by decide)
    conv=>whnf
    refine ⟨⟨by omega,by omega⟩,?_⟩
    simp only [toNat_cast,rowAdd_eq,Nat.zero_add]
    conv=>whnf
    refine ⟨by show i < N; omega,?_⟩
    conv=>whnf
    rw [hrow]
    conv=>whnf
    obtain ⟨z,ez,pz⟩:=hideZ (chkV m.q)
    refine ⟨m,rfl,R3.sz_mono sm (by decide),?_⟩
    rw [show lcheckS.val m=.int .i64 z from ez]
    conv=>whnf
    by_cases h4:isL m.q
    ·obtain rfl:z=0:=by rw [pz,chkV_ok h4]
     conv=>whnf
     rw [e7]
     refine .inr ⟨[0,1],[1,2,6],?_⟩
     conv=>whnf
     intro _
     conv=>whnf
     refine ⟨_,?_,i+1,(.sk 1 (.keep (.keep (.sk 3 (.keep (.sk 66 .nil rfl)) rfl))) rfl),rfl,rfl,?_⟩
     ·omega
     ·exact ⟨by omega,goodUp_step hU hml h4⟩
    ·have he:comE B Q=1:=if_pos (.inr (by rw [hQ]; exact bad_of hmm h4))
     rw [show (z != 0)=true from by rw [pz,chkV_no h4]; rfl]
     conv=>whnf
     have he2:comE (XV.p ((x1,y1),(x2,y2))) (qs (LL.list (some (l,c))))=1:=by rw [← hB]; rw [hQ] at he; exact he
     obtain ⟨f1,f2⟩:=rcom_eq (b:=((x1,y1),(x2,y2))) (i:=some (l,c)) he2 (rcom_err he2 (by decide)) rfl rfl
     rw [hK]
     unfold qRes
     rw [f1,f2]
     refine ⟨2,?_⟩
     conv=>whnf
     exact ⟨⟨rfl,BlkLe.flat_rows (fun h=>h) (fun r hr=>absurd hr (Nat.not_lt_zero r)) (fun r hr=>rfl)⟩,_,rfl,.two (.cap _ _ _ rfl) (.refl _)⟩
   ·have h3:i=N:=by
     have:=of_decide_eq_false h3
     omega
    subst h3
    have hgood:badL Q=false:=by rw [hQ]; exact goodUp_end (by rw [← hN]; exact hU)
    conv=>whnf
    by_cases h5:60 < i
    ·have he:comE B Q=4:=by
      unfold comE
      rw [if_neg (fun e=>e.elim (fun e=>e hok) (fun e=>by rw [hgood] at e; cases e)),if_pos (by rw [qlen]; exact h5)]
     rw [show decide ((i:Int) > 60)=true from decide_eq_true (by omega)]
     conv=>whnf
     have he2:comE (XV.p ((x1,y1),(x2,y2))) (qs (LL.list (some (l,c))))=4:=by rw [← hB]; rw [hQ] at he; exact he
     obtain ⟨f1,f2⟩:=rcom_eq (b:=((x1,y1),(x2,y2))) (i:=some (l,c)) he2 (rcom_err he2 (by decide)) rfl rfl
     rw [hK]
     unfold qRes
     rw [f1,f2]
     refine ⟨2,?_⟩
     conv=>whnf
     exact ⟨⟨rfl,BlkLe.flat_rows (fun h=>h) (fun r hr=>absurd hr (Nat.not_lt_zero r)) (fun r hr=>rfl)⟩,_,rfl,.two (.cap _ _ _ rfl) (.refl _)⟩
    rw [show decide ((i:Int) > 60)=false from decide_eq_false (by omega)]
    have hE:comE B Q=if partR B Q=[] then 11 else if (cleanL (partR B Q)).length < 3 then 12 else 0:=by
     unfold comE
     rw [if_neg (fun e=>e.elim (fun e=>e hok) (fun e=>by rw [hgood] at e; cases e)),if_neg (by rw [qlen]; exact h5)]
    conv=>whnf
    skip
    refine .inl ⟨fun mm tz hz=>∃ (k:Nat) (P:List PV) (d:Nat) (W:Blk),Pat (nos 1 (some (.slice (some ⟨0,0,none⟩) i c)::nos 5 (some (.slice (some ⟨2,0,none⟩) P.length d)::some (.int .i64 k)::nos 64 []))) tz∧hz=[some (.flat false i 9 G),some (.expl true 12 [XV.cells ((x1,y1),(x2,y2))]),some W]∧i - k=mm∧((k≤i∧P=cutsV ((x1,y1),(x2,y2)) (Q.take k))∧BlkLe (.flat true P.length 6 (rowsP P)) W),.inr ⟨[0,1,2],[1,7,8],?_⟩,?_⟩
    ·conv=>whnf
     intro _
     conv=>whnf
     refine ⟨_,0,boxV ((x1,y1),(x2,y2)),4,_,(.sk 1 (.keep (.sk 5 (.keep (.keep (.sk 64 .nil rfl))) rfl)) rfl),rfl,rfl,?_⟩
     exact ⟨⟨Nat.zero_le _,rfl⟩,lit_blkT (boxV ((x1,y1),(x2,y2)))⟩
    rintro mm tms _ ⟨k,P,d,W,hpat,rfl,rfl,⟨⟨hk,hP⟩,hW⟩⟩
    obtain ⟨az,rfl⟩:∃ az:Nat→Value,tms=zs az 0 1 (.slice (some ⟨0,0,none⟩) i c::zs az 2 5 (.slice (some ⟨2,0,none⟩) P.length d::.int .i64 k::zs az 9 64 [])):=pat_fill hpat
    clear hpat
    conv=>whnf
    refine br_intro (fun h6=>?_) (fun h6=>?_)
    ·have h6:k < i:=by
      have:=of_decide_eq_true h6
      omega
     have e7:IntKind.i64.wrap ((k:Int)+1)=((k+1:Nat):Int):=by rw [wrapi64 (by omega) (by omega)]; rfl
     obtain ⟨m,hml,hmm,hrow⟩:=rowsLn_get (l:=l) (k:=k) (by omega)
     rw [← hG] at hrow
     have sm:=hsl m hmm
     have hPk:=hsz (by omega) k (by omega)
     have hPl:P.length≤274877906944:=by
      have:=hPk.1
      rw [hB,← hQ,← ptsV_cuts,← hP,ptsV_len] at this
      exact this
     have hPs:∀ v∈P,v.sz 262144:=by rw [hP]; exact cutsV_sz t1 t2 (by rw [← hB,hQ]; exact hPk.2)
     have hstep:cutV m.q P=cutsV ((x1,y1),(x2,y2)) (Q.take (k+1)):=by
      rw [List.take_add_one,show Q[k]?=some m.q from by rw [hQ]; unfold qs; rw [List.getElem?_map,hml]; rfl,hP]
      exact (cutsV_app _ _ _).symm
     conv=>whnf
     refine ⟨⟨by omega,by omega⟩,?_⟩
     simp only [toNat_cast,rowAdd_eq,Nat.zero_add]
     conv=>whnf
     refine ⟨by show k < i; omega,?_⟩
     conv=>whnf
     rw [hrow]
     conv=>whnf
     refine ⟨((P,d),m),[2],rfl,⟨hPl,hPs,sm⟩,?_⟩
     rw [show rcutS.blks ((P,d),m)=[.flat false P.length 6 (rowsP P)] from rfl,show rcutS.val ((P,d),m)=.slice (some ⟨1,0,none⟩) (cutV m.q P).length capU from rfl,show rcutS.new ((P,d),m)=some (.flat true (cutV m.q P).length 6 (rowsP (cutV m.q P))) from rfl]
     conv=>whnf
     refine ⟨⟨(fun h=>by cases h),hW.esz,hW.n,hW.row,hW.flat⟩,?_⟩
     conv=>whnf
     refine ⟨_,rfl,?_⟩
     conv=>whnf
     rw [e7]
     refine .inr ⟨[0,1,3],[1,7,8],?_⟩
     conv=>whnf
     intro _
     conv=>whnf
     refine ⟨_,?_,k+1,cutV m.q P,capU,_,(.sk 1 (.keep (.sk 5 (.keep (.keep (.sk 64 .nil rfl))) rfl)) rfl),rfl,rfl,?_⟩
     ·omega
     ·exact ⟨⟨by omega,hstep⟩,BlkLe.flat_flat (fun h=>h) (fun r hr=>rfl)⟩
    ·have h6:k=i:=by
      have:=of_decide_eq_false h6
      omega
     subst h6
     rw [show Q.take k=Q from List.take_of_length_le (by omega)] at hP
     have hPk:=hsz (by omega) k (by omega)
     rw [← hQ,show Q.take k=Q from List.take_of_length_le (by omega)] at hPk
     have hpt:ptsV P=partR B Q:=by rw [hP,ptsV_cuts,← hB]
     have hPl:P.length≤274877906944:=by rw [← ptsV_len,hpt]; exact hPk.1
     have hPs:∀ v∈P,v.sz 262144:=by rw [hP]; exact cutsV_sz t1 t2 (by rw [← hB]; exact hPk.2)
     conv=>whnf
     by_cases h7:P.length=0
     ·have he:comE B Q=11:=by rw [hE,if_pos (by rw [← hpt,List.eq_nil_of_length_eq_zero h7]; rfl)]
      rw [show (((P.length:Nat):Int) == 0)=true from by rw [h7]; rfl]
      conv=>whnf
      have he2:comE (XV.p ((x1,y1),(x2,y2))) (qs (LL.list (some (l,c))))=11:=by rw [← hB]; rw [hQ] at he; exact he
      obtain ⟨f1,f2⟩:=rcom_eq (b:=((x1,y1),(x2,y2))) (i:=some (l,c)) he2 (rcom_err he2 (by decide)) rfl rfl
      rw [hK]
      unfold qRes
      rw [f1,f2]
      refine ⟨3,?_⟩
      conv=>whnf
      exact ⟨⟨rfl,BlkLe.flat_rows (fun h=>h) (fun r hr=>absurd hr (Nat.not_lt_zero r)) (fun r hr=>rfl)⟩,_,rfl,.two (.cap _ _ _ rfl) (.refl _)⟩
     ·rw [show (((P.length:Nat):Int) == 0)=false from by simp; exact fun e=>h7 (by rw [e]; rfl)]
      rw [if_neg (fun e=>h7 (by rw [← ptsV_len,hpt,e]; rfl))] at hE
      obtain ⟨g1,g2⟩:=ring_part (l:=Q) hok
      obtain ⟨R,hR⟩:∃ R,R=ringR (ptsV P):=⟨_,rfl⟩
      obtain ⟨M,hM⟩:∃ M,R.length=M:=⟨_,rfl⟩
      obtain ⟨gs,hgs⟩:∃ g,g=rowsQ R:=⟨_,rfl⟩
      rw [show ringR (partR B Q)=R from by rw [hR,hpt]] at g1 g2
      conv=>whnf
      refine ⟨(P,d),[2],rfl,⟨by show P.length≤_; omega,hPs⟩,?_⟩
      rw [show rringS.blks (P,d)=[.flat false P.length 6 (rowsP P)] from rfl,show rringS.val (P,d)=.slice (some ⟨1,0,none⟩) M capU from by rw [← hM,hR]; rfl,show rringS.new (P,d)=some (.flat true M 6 gs) from by rw [← hM,hgs,hR]; rfl]
      conv=>whnf
      refine ⟨⟨(fun h=>by cases h),hW.esz,hW.n,hW.row,hW.flat⟩,?_⟩
      conv=>whnf
      refine ⟨_,rfl,?_⟩
      conv=>whnf
      by_cases h8:M=0
      ·have hR0:R=[]:=List.eq_nil_of_length_eq_zero (by rw [hM]; exact h8)
       have he:comE B Q=12:=by rw [hE,if_pos (g1.1 hR0)]
       have hrc:rcomP (XV.p ((x1,y1),(x2,y2))) (qs (LL.list (some (l,c))))=R:=by rw [hR0]; exact rcom_err (e:=12) (by rw [← hB]; rw [hQ] at he; exact he) (by decide)
       rw [show (((M:Nat):Int) == 0)=true from by rw [h8]; rfl]
       conv=>whnf
       have he2:comE (XV.p ((x1,y1),(x2,y2))) (qs (LL.list (some (l,c))))=12:=by rw [← hB]; rw [hQ] at he; exact he
       obtain ⟨f1,f2⟩:=rcom_eq (b:=((x1,y1),(x2,y2))) (i:=some (l,c)) he2 hrc hM hgs
       rw [hK]
       unfold qRes
       rw [f1,f2]
       refine ⟨3,?_⟩
       conv=>whnf
       exact ⟨⟨rfl,BlkLe.flat_flat (fun h=>h) (fun r hr=>by rw [hgs]; rfl)⟩,_,rfl,.refl _⟩
      ·have h9:¬ (cleanL (partR B Q)).length < 3:=fun e=>h8 (by rw [← hM,g1.2 e]; rfl)
       have he:comE B Q=0:=by rw [hE,if_neg h9]
       have hrc:rcomP (XV.p ((x1,y1),(x2,y2))) (qs (LL.list (some (l,c))))=R:=by
        unfold rcomP
        rw [if_pos (by rw [← hB]; rw [hQ] at he; exact he),← hB]
        rw [g2 h9,hQ]; rfl
       rw [show (((M:Nat):Int) == 0)=false from by simp; exact h8]
       conv=>whnf
       have he2:comE (XV.p ((x1,y1),(x2,y2))) (qs (LL.list (some (l,c))))=0:=by rw [← hB]; rw [hQ] at he; exact he
       obtain ⟨f1,f2⟩:=rcom_eq (b:=((x1,y1),(x2,y2))) (i:=some (l,c)) he2 hrc hM hgs
       rw [hK]
       unfold qRes
       rw [f1,f2]
       refine ⟨3,?_⟩
       conv=>whnf
       exact ⟨⟨rfl,BlkLe.flat_flat (fun h=>h) (fun r hr=>by rw [hgs]; rfl)⟩,_,rfl,.refl _⟩
  ·have he:comE B Q=1:=if_pos (.inl hok)
   rw [show rboxS.val ((x1,y1),(x2,y2))=.bool false from congrArg Value.bool (decide_eq_false (by rw [← hB]; exact hok))]
   conv=>whnf
   have he2:comE (XV.p ((x1,y1),(x2,y2))) (qs (LL.list (some (l,c))))=1:=by rw [← hB]; rw [hQ] at he; exact he
   obtain ⟨f1,f2⟩:=rcom_eq (b:=((x1,y1),(x2,y2))) (i:=some (l,c)) he2 (rcom_err he2 (by decide)) rfl rfl
   rw [hK]
   unfold qRes
   rw [f1,f2]
   refine ⟨2,?_⟩
   conv=>whnf
   exact ⟨⟨rfl,BlkLe.flat_rows (fun h=>h) (fun r hr=>absurd hr (Nat.not_lt_zero r)) (fun r hr=>rfl)⟩,_,rfl,.two (.cap _ _ _ rfl) (.refl _)⟩
end Go.Proofs.YtppeponndkfbkaaGreat
/- A list of lines, repeated. -/
set_option maxRecDepth 20000
set_option maxHeartbeats 4000000
namespace Go.Proofs.YtppeponndkfbkaaGreat
open Go Go.Ae
def Erj9:Env:=En []
theorem Erj9ok:EnvOk Tryz.prog Erj9:=Enk trivial trivial
theorem mul64_ok:Snd Tryz.prog 111 bmulS:=by
 refine snd_of Erj9ok Dok Tryz.func111 (enters_of Tryz.func111 (by kernel_rfl) rfl) (fun _=>rfl) (fun _=>rfl) ?_
 intro ⟨a,b⟩ hp
 have hp:a≤8∧b=61:=hp
 obtain ⟨ha,rfl⟩:=hp
 have:a=0∨a=1∨a=2∨a=3∨a=4∨a=5∨a=6∨a=7∨a=8:=by omega
 rcases this with rfl | rfl | rfl | rfl | rfl | rfl | rfl | rfl | rfl
 all_goals conv=>whnf
 all_goals rfl
def Erk9:Env:=En [(111,.p bmulS)]
theorem Erk9ok:EnvOk Tryz.prog Erk9:=Enk ⟨mul64_ok,trivial⟩ trivial
theorem bmul_ok:Snd Tryz.prog 74 bmulS:=by
 refine snd_of Erk9ok Dok Tryz.func74 (enters_of Tryz.func74 (by kernel_rfl) rfl) (fun _=>rfl) (fun _=>rfl) ?_
 intro ⟨a,b⟩ hp
 conv=>whnf
 refine ⟨(a,b),rfl,hp,?_⟩
 conv=>whnf
 rfl
def Erl9:Env:=En [(74,.p bmulS)]
theorem Erl9ok:EnvOk Tryz.prog Erl9:=Enk ⟨bmul_ok,trivial⟩ trivial
theorem repeat_ok:QSnd Tryz.prog 33 repLS:=by
 refine qsnd_of Erl9ok Dok Tryz.func33 (enters_of Tryz.func33 (by kernel_rfl) rfl) ?_ ?_ ?_
 ·intro i B hb; simp [repLS] at hb; rw [hb]; rfl
 ·intro i B hb; simp [repLS] at hb; rw [← hb]; rfl
 intro ⟨l,c⟩ hp
 have hp:1≤l.length∧l.length≤8:=hp
 obtain ⟨h1,h8⟩:=hp
 obtain ⟨n,hn⟩:∃ n,n=l.length:=⟨_,rfl⟩
 obtain ⟨g,hg⟩:∃ g,g=rowsLn l:=⟨_,rfl⟩
 rw [show repLS.blks (l,c)=[.flat false n 9 g] from by rw [hn,hg]; rfl,show repLS.args (l,c)=[.slice (some ⟨0,0,none⟩) n c,.int .i64 61] from by rw [hn]; rfl]
 rw [← hn] at h1 h8
 conv=>whnf
 obtain ⟨T,hT⟩:∃ T,T=n*61:=⟨_,rfl⟩
 rw [show IntKind.u64.wrap (n:Int)=(n:Int) from by rw [wrapu64 (by omega) (by omega)]]
 refine ⟨(n,61),rfl,⟨h8,rfl⟩,?_⟩
 rw [show bmulS.val (n,61)=.tuple ⟨[.int .u64 0,.int .u64 (T:Int)]⟩ from by rw [hT]; rfl]
 conv=>whnf
 rw [show decide ((T:Int) > 9223372036854775807)=false from decide_eq_false (by omega)]
 conv=>whnf
 rw [show IntKind.i64.wrap (T:Int)=(T:Int) from by rw [wrapi64 (by omega) (by omega)]]
 refine ⟨⟨by omega,by omega,by show (T:Int)*((120:Nat):Int)≤140737488355328; omega⟩,?_⟩
 conv=>whnf
 refine ⟨by omega,?_⟩
 rw [show Int.toNat (T:Int)=T from rfl]
 conv=>whnf
 refine ⟨by omega,?_⟩
 conv=>whnf
 rw [show Nat.min n T=n from Nat.min_eq_left (by omega)]
 refine .inl ⟨fun mm tz hz=>∃ (m:Nat) (F:Nat→List Value),Pat (nos 7 (some (.slice (some ⟨1,0,none⟩) T T)::some (.int .i64 m)::nos 39 [])) tz∧hz=[some (.flat false n 9 g),some (.flat true T 9 F)]∧T - m=mm∧(RepI l n m F),.inr ⟨[0,1],[7,8],?_⟩,?_⟩
 ·conv=>whnf
  intro _
  conv=>whnf
  refine ⟨_,n,_,(.sk 7 (.keep (.keep (.sk 39 .nil rfl))) rfl),rfl,rfl,?_⟩
  refine rep_start h1 (fun r hr=>by rw [hg]; simp [rowAdd_eq])
 rintro mm tms _ ⟨m,F,hpat,rfl,rfl,hI⟩
 obtain ⟨az,rfl⟩:∃ az:Nat→Value,tms=zs az 0 7 (.slice (some ⟨1,0,none⟩) T T::.int .i64 m::zs az 9 39 []):=pat_fill hpat
 clear hpat
 have hmT:m≤T:=by
  have:=hI.1
  rw [← hT] at this
  omega
 have hm1:=hI.2.1
 conv=>whnf
 refine br_intro (fun h3=>?_) (fun h3=>?_)
 ·have h3:m < T:=by
   have:=of_decide_eq_true h3
   omega
  conv=>whnf
  refine .inr (.inr (.inl ⟨7,1,[[],[],[],[1,2],[],[],[4,5],[1,2,3,4,5,6],[0,1,2,3,4,5,6,7],[0,1,2,3,4,5,6,7,8]],[0],by kernel_rfl,?_⟩))
  conv=>whnf
  refine ⟨⟨by omega,by omega,by omega⟩,?_⟩
  rw [show Int.toNat (T:Int) - Int.toNat (m:Int)=T - m from rfl,show Int.toNat (m:Int)=m from rfl,rowAdd_eq,Nat.zero_add]
  conv=>whnf
  refine ⟨⟨by omega,by omega,by omega⟩,?_⟩
  rw [show Int.toNat (m:Int) - Int.toNat 0=m from rfl,show rowAdd 0 (Int.toNat 0)=0 from rfl]
  conv=>whnf
  refine ⟨by omega,?_⟩
  conv=>whnf
  refine ⟨by omega,?_⟩
  conv=>whnf
  obtain ⟨q,hq⟩:∃ q,q=Nat.min m (T - m):=⟨_,rfl⟩
  have hq1:1≤q∧q≤T - m:=by rw [hq]; exact ⟨Nat.le_min.2 ⟨hm1,by omega⟩,Nat.min_le_right _ _⟩
  rw [← hq]
  rw [show IntKind.i64.wrap ((m:Int)+(q:Int))=((m+q:Nat):Int) from by rw [wrapi64 (by omega) (by omega)]; rfl]
  refine .inr ⟨[0,1],[7,8],?_⟩
  conv=>whnf
  intro _
  conv=>whnf
  refine ⟨_,?_,m+q,_,(.sk 7 (.keep (.keep (.sk 39 .nil rfl))) rfl),rfl,rfl,?_⟩
  ·omega
  ·rw [show (fun j=>F (rowAdd 0 j))=F from funext fun j=>by rw [rowAdd_eq,Nat.zero_add],Nat.zero_add m]
   exact rep_step (q:=q) hI (by rw [← hT]; exact h3) (by rw [← hT]; exact hq)
 ·have h3:m=T:=by
   have:=of_decide_eq_false h3
   omega
  subst h3
  conv=>whnf
  rw [show repLS.val (l,c)=.slice (some ⟨1,0,none⟩) m capU from by rw [hT,hn]; rfl]
  refine ⟨1,?_⟩
  conv=>whnf
  refine ⟨⟨rfl,?_⟩,_,rfl,.cap _ _ _ rfl⟩
  show BlkLe (.flat true (l.length*61) 9 (repG l l.length)) _
  rw [← hn,← hT]
  exact BlkLe.flat_rows (fun h=>h) hI.2.2 (fun r hr=>rfl)
end Go.Proofs.YtppeponndkfbkaaGreat
/- The law LineCommon. -/
set_option maxRecDepth 20000
set_option maxHeartbeats 4000000
namespace Go.Proofs.YtppeponndkfbkaaGreat
open Go Go.Ae
def Elm9:Env:=EnE [(7,.q greatLS),(8,.p awakeS),(25,.q commonS),(34,.q rcommonS),(28,.q sameS),(33,.q repLS)]
theorem Elm9ok:EnvOk Tryz.prog Elm9:=EnEk ⟨greatL_ok,awake9_ok,common_ok,rcommon_ok,equal_ok,repeat_ok,trivial⟩ trivial
theorem lcommon_ok:QSnd Tryz.prog 6 lcommonS:=by
 refine qsnd_of Elm9ok Dok Tryz.func6 (enters_of Tryz.func6 (by kernel_rfl) rfl) ?_ ?_ ?_
 ·intro ⟨⟨b,i⟩,_⟩ B hb
  cases i with
  | none=>simp [lcommonS,LL.blks] at hb
  | some i=>simp [lcommonS,LL.blks] at hb; rw [hb]; rfl
 ·intro i B hb; simp [lcommonS] at hb
 intro ⟨⟨⟨⟨x1,y1⟩,⟨x2,y2⟩⟩,i⟩,many⟩ hp
 have hlen:i.list.length*120≤140737488351232:=hp
 obtain ⟨cu,hcu⟩:∃ cu,cu=capU:=⟨_,rfl⟩
 cases i with
 | none =>
  have fin:∃ v',renV (List.range 1) 3 (lcommonS.val ((((x1,y1),(x2,y2)),none),many))=some v'∧VLe (.bool true) v':=⟨.bool true,rfl,.refl _⟩
  rw [show lcommonS.blks ((((x1,y1),(x2,y2)),none),many)=[] from rfl,show lcommonS.args ((((x1,y1),(x2,y2)),none),many)=[XV.v ((x1,y1),(x2,y2)),.slice none 0 0,.bool many] from rfl]
  conv=>whnf
  obtain ⟨G,hG⟩:∃ G,G=greatL [] [(x1,y1),(x2,y2)]:=⟨_,rfl⟩
  refine ⟨((none:LL),some ([(x1,y1),(x2,y2)],2)),[1],rfl,⟨Nat.zero_le _,by show 2≤1099511627776; decide⟩,?_⟩
  rw [show greatLS.blks ((none:LL),some ([(x1,y1),(x2,y2)],2))=[.flat false 2 6 (rowsP [(x1,y1),(x2,y2)])] from rfl,show greatLS.val ((none:LL),some ([(x1,y1),(x2,y2)],2))=.bool G from by rw [hG]; rfl,show greatLS.new ((none:LL),some ([(x1,y1),(x2,y2)],2))=none from rfl]
  conv=>whnf
  refine ⟨lit_blk [(x1,y1),(x2,y2)],?_⟩
  conv=>whnf
  refine ⟨.bool G,rfl,?_⟩
  conv=>whnf
  have hgr:=fun h=>great_false (hG.symm.trans h)
  clear hG
  cases hG2:G
  ·obtain ⟨_,hps⟩:=hgr hG2
   have sb1:PV.sz 20 (x1,y1):=hps _ (by simp)
   have sb2:PV.sz 20 (x2,y2):=hps _ (by simp)
   have tb:=And.intro (PV.sz_mono sb1 (show 20≤262144 by decide)) (PV.sz_mono sb2 (show 20≤262144 by decide))
   have hok:comOk ((x1,y1),(x2,y2)) []:=com_ok sb1 sb2 (fun r hr=>by cases hr) (by decide) (.inl (by decide))
   cases many with
   | false =>
    conv=>whnf
    obtain ⟨E,hE⟩:∃ E,comE (XV.p ((x1,y1),(x2,y2))) (qs (LL.list (none)))=E:=⟨_,rfl⟩
    obtain ⟨P,hP⟩:∃ P,rcomP (XV.p ((x1,y1),(x2,y2))) (qs (LL.list (none)))=P:=⟨_,rfl⟩
    obtain ⟨M,hM⟩:∃ M,P.length=M:=⟨_,rfl⟩
    obtain ⟨gs,hgs⟩:∃ g,g=rowsQ P:=⟨_,rfl⟩
    obtain ⟨r1,r2⟩:=rcom_eq (b:=((x1,y1),(x2,y2))) (i:=none) hE hP hM hgs
    rw [← hcu] at r2
    by_cases h0:E=0
    ·have hP2:comP (XV.p ((x1,y1),(x2,y2))) (qs (LL.list (none)))=P:=by rw [← hP]; exact (if_pos (hE.trans h0)).symm
     obtain ⟨f1,f2⟩:=common_new (b:=((x1,y1),(x2,y2))) (i:=none) (hE.trans h0) hP2 hM hgs
     rw [← hcu] at f2
     have hMb:(comP (XV.p ((x1,y1),(x2,y2))) (qs (LL.list (none)))).length≤274877906944:=(com_bound hok (by decide)).1
     rw [hP2,hM] at hMb
     subst h0
     refine ⟨(((x1,y1),(x2,y2)),none),[],rfl,hok,?_⟩
     rw [f1,f2,show commonS.blks (((x1,y1),(x2,y2)),none)=[] from rfl]
     conv=>whnf
     refine ⟨_,rfl,?_⟩
     conv=>whnf
     refine ⟨(((x1,y1),(x2,y2)),none),[],rfl,⟨hok,tb⟩,?_⟩
     rw [r1,r2,show rcommonS.blks (((x1,y1),(x2,y2)),none)=[] from rfl]
     conv=>whnf
     refine ⟨_,rfl,?_⟩
     conv=>whnf
     obtain ⟨Lp,hLp⟩:∃ L,L=pvs P:=⟨_,rfl⟩
     have hLl:Lp.length=M:=by rw [hLp,pvs_length,hM]
     refine ⟨(some (Lp,cu),some (Lp,cu)),[2,3],by rw [show sameS.args (some (Lp,cu),some (Lp,cu))=[.slice (some ⟨0,0,none⟩) M cu,.slice (some ⟨1,0,none⟩) M cu] from by rw [← hLl]; rfl]; rfl,⟨by show Lp.length≤_; omega,by show Lp.length≤_; omega⟩,?_⟩
     rw [show sameS.blks (some (Lp,cu),some (Lp,cu))=[.flat false M 6 gs,.flat false M 6 gs] from by rw [← hLl,hgs,hLp]; rfl,show sameS.val (some (Lp,cu),some (Lp,cu))=.bool true from congrArg Value.bool (decide_eq_true rfl),show sameS.new (some (Lp,cu),some (Lp,cu))=none from rfl]
     conv=>whnf
     refine ⟨BlkLe.flat_flat (fun h=>by cases h) (fun r hr=>by rw [hgs]; rfl),BlkLe.flat_flat (fun h=>by cases h) (fun r hr=>by rw [hgs]; rfl),?_⟩
     conv=>whnf
     refine ⟨.bool true,rfl,?_⟩
     conv=>whnf
     refine ⟨(),rfl,trivial,?_⟩
     conv=>whnf
     exact fin
    ·obtain ⟨f1,f2⟩:=common_err (b:=((x1,y1),(x2,y2))) (i:=none) hE h0
     obtain rfl:P=[]:=by rw [← hP]; exact rcom_err hE h0
     obtain rfl:0=M:=hM
     refine ⟨(((x1,y1),(x2,y2)),none),[],rfl,hok,?_⟩
     rw [f1,f2,show commonS.blks (((x1,y1),(x2,y2)),none)=[] from rfl]
     conv=>whnf
     refine ⟨_,rfl,?_⟩
     conv=>whnf
     refine ⟨(((x1,y1),(x2,y2)),none),[],rfl,⟨hok,tb⟩,?_⟩
     rw [r1,r2,show rcommonS.blks (((x1,y1),(x2,y2)),none)=[] from rfl]
     conv=>whnf
     refine ⟨_,rfl,?_⟩
     conv=>whnf
     refine ⟨((none:PL),(some ([],cu):PL)),[2],rfl,⟨Nat.zero_le _,Nat.zero_le _⟩,?_⟩
     rw [show sameS.blks ((none:PL),(some ([],cu):PL))=[.flat false 0 6 (rowsP [])] from rfl]
     conv=>whnf
     refine ⟨BlkLe.flat_rows (fun h=>by cases h) (fun r hr=>absurd hr (Nat.not_lt_zero r)) (fun r hr=>rfl),?_⟩
     conv=>whnf
     refine ⟨.bool true,rfl,?_⟩
     conv=>whnf
     rw [show (E == E)=true from by simp]
     conv=>whnf
     refine ⟨(),rfl,trivial,?_⟩
     conv=>whnf
     exact fin
   | true =>
    conv=>whnf
    obtain ⟨E,hE⟩:∃ E,comE (XV.p ((x1,y1),(x2,y2))) (qs (LL.list (none)))=E:=⟨_,rfl⟩
    obtain ⟨P,hP⟩:∃ P,rcomP (XV.p ((x1,y1),(x2,y2))) (qs (LL.list (none)))=P:=⟨_,rfl⟩
    obtain ⟨M,hM⟩:∃ M,P.length=M:=⟨_,rfl⟩
    obtain ⟨gs,hgs⟩:∃ g,g=rowsQ P:=⟨_,rfl⟩
    obtain ⟨r1,r2⟩:=rcom_eq (b:=((x1,y1),(x2,y2))) (i:=none) hE hP hM hgs
    rw [← hcu] at r2
    by_cases h0:E=0
    ·have hP2:comP (XV.p ((x1,y1),(x2,y2))) (qs (LL.list (none)))=P:=by rw [← hP]; exact (if_pos (hE.trans h0)).symm
     obtain ⟨f1,f2⟩:=common_new (b:=((x1,y1),(x2,y2))) (i:=none) (hE.trans h0) hP2 hM hgs
     rw [← hcu] at f2
     have hMb:(comP (XV.p ((x1,y1),(x2,y2))) (qs (LL.list (none)))).length≤274877906944:=(com_bound hok (by decide)).1
     rw [hP2,hM] at hMb
     subst h0
     refine ⟨(((x1,y1),(x2,y2)),none),[],rfl,hok,?_⟩
     rw [f1,f2,show commonS.blks (((x1,y1),(x2,y2)),none)=[] from rfl]
     conv=>whnf
     refine ⟨_,rfl,?_⟩
     conv=>whnf
     refine ⟨(((x1,y1),(x2,y2)),none),[],rfl,⟨hok,tb⟩,?_⟩
     rw [r1,r2,show rcommonS.blks (((x1,y1),(x2,y2)),none)=[] from rfl]
     conv=>whnf
     refine ⟨_,rfl,?_⟩
     conv=>whnf
     obtain ⟨Lp,hLp⟩:∃ L,L=pvs P:=⟨_,rfl⟩
     have hLl:Lp.length=M:=by rw [hLp,pvs_length,hM]
     refine ⟨(some (Lp,cu),some (Lp,cu)),[2,3],by rw [show sameS.args (some (Lp,cu),some (Lp,cu))=[.slice (some ⟨0,0,none⟩) M cu,.slice (some ⟨1,0,none⟩) M cu] from by rw [← hLl]; rfl]; rfl,⟨by show Lp.length≤_; omega,by show Lp.length≤_; omega⟩,?_⟩
     rw [show sameS.blks (some (Lp,cu),some (Lp,cu))=[.flat false M 6 gs,.flat false M 6 gs] from by rw [← hLl,hgs,hLp]; rfl,show sameS.val (some (Lp,cu),some (Lp,cu))=.bool true from congrArg Value.bool (decide_eq_true rfl),show sameS.new (some (Lp,cu),some (Lp,cu))=none from rfl]
     conv=>whnf
     refine ⟨BlkLe.flat_flat (fun h=>by cases h) (fun r hr=>by rw [hgs]; rfl),BlkLe.flat_flat (fun h=>by cases h) (fun r hr=>by rw [hgs]; rfl),?_⟩
     conv=>whnf
     refine ⟨.bool true,rfl,?_⟩
     conv=>whnf
     refine ⟨(),rfl,trivial,?_⟩
     conv=>whnf
     exact fin
    ·obtain ⟨f1,f2⟩:=common_err (b:=((x1,y1),(x2,y2))) (i:=none) hE h0
     obtain rfl:P=[]:=by rw [← hP]; exact rcom_err hE h0
     obtain rfl:0=M:=hM
     refine ⟨(((x1,y1),(x2,y2)),none),[],rfl,hok,?_⟩
     rw [f1,f2,show commonS.blks (((x1,y1),(x2,y2)),none)=[] from rfl]
     conv=>whnf
     refine ⟨_,rfl,?_⟩
     conv=>whnf
     refine ⟨(((x1,y1),(x2,y2)),none),[],rfl,⟨hok,tb⟩,?_⟩
     rw [r1,r2,show rcommonS.blks (((x1,y1),(x2,y2)),none)=[] from rfl]
     conv=>whnf
     refine ⟨_,rfl,?_⟩
     conv=>whnf
     refine ⟨((none:PL),(some ([],cu):PL)),[2],rfl,⟨Nat.zero_le _,Nat.zero_le _⟩,?_⟩
     rw [show sameS.blks ((none:PL),(some ([],cu):PL))=[.flat false 0 6 (rowsP [])] from rfl]
     conv=>whnf
     refine ⟨BlkLe.flat_rows (fun h=>by cases h) (fun r hr=>absurd hr (Nat.not_lt_zero r)) (fun r hr=>rfl),?_⟩
     conv=>whnf
     refine ⟨.bool true,rfl,?_⟩
     conv=>whnf
     rw [show (E == E)=true from by simp]
     conv=>whnf
     refine ⟨(),rfl,trivial,?_⟩
     conv=>whnf
     exact fin
  ·conv=>whnf
   conv=>whnf
   refine ⟨(),rfl,trivial,?_⟩
   conv=>whnf
   exact fin
 | some i =>
  obtain ⟨l,c0⟩:=i
  have hlen:l.length*120≤140737488351232:=hlen
  obtain ⟨n,hn⟩:∃ n,n=l.length:=⟨_,rfl⟩
  obtain ⟨g,hg⟩:∃ g,g=rowsLn l:=⟨_,rfl⟩
  rw [← hn] at hlen
  have fin:∃ v',renV (List.range 1) 3 (lcommonS.val ((((x1,y1),(x2,y2)),some (l,c0)),many))=some v'∧VLe (.bool true) v':=⟨.bool true,rfl,.refl _⟩
  rw [show lcommonS.blks ((((x1,y1),(x2,y2)),some (l,c0)),many)=[.flat false n 9 g] from by rw [hn,hg]; rfl,show lcommonS.args ((((x1,y1),(x2,y2)),some (l,c0)),many)=[XV.v ((x1,y1),(x2,y2)),.slice (some ⟨0,0,none⟩) n c0,.bool many] from by rw [hn]; rfl]
  conv=>whnf
  obtain ⟨G,hG⟩:∃ G,G=greatL l [(x1,y1),(x2,y2)]:=⟨_,rfl⟩
  refine ⟨(some (l,c0),some ([(x1,y1),(x2,y2)],2)),[0,2],by rw [show greatLS.args (some (l,c0),some ([(x1,y1),(x2,y2)],2))=[.slice (some ⟨0,0,none⟩) n c0,.slice (some ⟨1,0,none⟩) 2 2] from by rw [hn]; rfl]; rfl,⟨by show l.length≤_; omega,by show 2≤1099511627776; decide⟩,?_⟩
  rw [show greatLS.blks (some (l,c0),some ([(x1,y1),(x2,y2)],2))=[.flat false n 9 g,.flat false 2 6 (rowsP [(x1,y1),(x2,y2)])] from by rw [hn,hg]; rfl,show greatLS.val (some (l,c0),some ([(x1,y1),(x2,y2)],2))=.bool G from by rw [hG]; rfl,show greatLS.new (some (l,c0),some ([(x1,y1),(x2,y2)],2))=none from rfl]
  conv=>whnf
  refine ⟨BlkLe.flat_flat (fun h=>h) (fun r hr=>by rw [hg]; rfl),lit_blk [(x1,y1),(x2,y2)],?_⟩
  conv=>whnf
  refine ⟨.bool G,rfl,?_⟩
  conv=>whnf
  have hgr:=fun h=>great_false (hG.symm.trans h)
  have hgl:=fun h=>great_len (hG.symm.trans h)
  clear hG
  cases hG2:G
  ·obtain ⟨hls,hps⟩:=hgr hG2
   have hn8:=hgl hG2
   rw [← hn] at hn8
   have sb1:PV.sz 20 (x1,y1):=hps _ (by simp)
   have sb2:PV.sz 20 (x2,y2):=hps _ (by simp)
   have tb:=And.intro (PV.sz_mono sb1 (show 20≤262144 by decide)) (PV.sz_mono sb2 (show 20≤262144 by decide))
   have hok:comOk ((x1,y1),(x2,y2)) l:=com_ok sb1 sb2 hls (by omega) (.inl (by omega))
   cases many with
   | false =>
    conv=>whnf
    obtain ⟨E,hE⟩:∃ E,comE (XV.p ((x1,y1),(x2,y2))) (qs (LL.list (some (l,c0))))=E:=⟨_,rfl⟩
    obtain ⟨P,hP⟩:∃ P,rcomP (XV.p ((x1,y1),(x2,y2))) (qs (LL.list (some (l,c0))))=P:=⟨_,rfl⟩
    obtain ⟨M,hM⟩:∃ M,P.length=M:=⟨_,rfl⟩
    obtain ⟨gs,hgs⟩:∃ g,g=rowsQ P:=⟨_,rfl⟩
    obtain ⟨r1,r2⟩:=rcom_eq (b:=((x1,y1),(x2,y2))) (i:=some (l,c0)) hE hP hM hgs
    rw [← hcu] at r2
    by_cases h0:E=0
    ·have hP2:comP (XV.p ((x1,y1),(x2,y2))) (qs (LL.list (some (l,c0))))=P:=by rw [← hP]; exact (if_pos (hE.trans h0)).symm
     obtain ⟨f1,f2⟩:=common_new (b:=((x1,y1),(x2,y2))) (i:=some (l,c0)) (hE.trans h0) hP2 hM hgs
     rw [← hcu] at f2
     have hMb:(comP (XV.p ((x1,y1),(x2,y2))) (qs (LL.list (some (l,c0))))).length≤274877906944:=(com_bound hok (by omega)).1
     rw [hP2,hM] at hMb
     subst h0
     refine ⟨(((x1,y1),(x2,y2)),some (l,c0)),[0],by rw [show commonS.args (((x1,y1),(x2,y2)),some (l,c0))=[XV.v ((x1,y1),(x2,y2)),.slice (some ⟨0,0,none⟩) n c0] from by rw [hn]; rfl]; rfl,hok,?_⟩
     rw [f1,f2,show commonS.blks (((x1,y1),(x2,y2)),some (l,c0))=[.flat false n 9 g] from by rw [hn,hg]; rfl]
     conv=>whnf
     refine ⟨BlkLe.flat_flat (fun h=>h) (fun r hr=>by rw [hg]; rfl),?_⟩
     conv=>whnf
     refine ⟨_,rfl,?_⟩
     conv=>whnf
     refine ⟨(((x1,y1),(x2,y2)),some (l,c0)),[0],by rw [show rcommonS.args (((x1,y1),(x2,y2)),some (l,c0))=[XV.v ((x1,y1),(x2,y2)),.slice (some ⟨0,0,none⟩) n c0] from by rw [hn]; rfl]; rfl,⟨hok,tb⟩,?_⟩
     rw [r1,r2,show rcommonS.blks (((x1,y1),(x2,y2)),some (l,c0))=[.flat false n 9 g] from by rw [hn,hg]; rfl]
     conv=>whnf
     refine ⟨BlkLe.flat_flat (fun h=>h) (fun r hr=>by rw [hg]; rfl),?_⟩
     conv=>whnf
     refine ⟨_,rfl,?_⟩
     conv=>whnf
     obtain ⟨Lp,hLp⟩:∃ L,L=pvs P:=⟨_,rfl⟩
     have hLl:Lp.length=M:=by rw [hLp,pvs_length,hM]
     refine ⟨(some (Lp,cu),some (Lp,cu)),[3,4],by rw [show sameS.args (some (Lp,cu),some (Lp,cu))=[.slice (some ⟨0,0,none⟩) M cu,.slice (some ⟨1,0,none⟩) M cu] from by rw [← hLl]; rfl]; rfl,⟨by show Lp.length≤_; omega,by show Lp.length≤_; omega⟩,?_⟩
     rw [show sameS.blks (some (Lp,cu),some (Lp,cu))=[.flat false M 6 gs,.flat false M 6 gs] from by rw [← hLl,hgs,hLp]; rfl,show sameS.val (some (Lp,cu),some (Lp,cu))=.bool true from congrArg Value.bool (decide_eq_true rfl),show sameS.new (some (Lp,cu),some (Lp,cu))=none from rfl]
     conv=>whnf
     refine ⟨BlkLe.flat_flat (fun h=>by cases h) (fun r hr=>by rw [hgs]; rfl),BlkLe.flat_flat (fun h=>by cases h) (fun r hr=>by rw [hgs]; rfl),?_⟩
     conv=>whnf
     refine ⟨.bool true,rfl,?_⟩
     conv=>whnf
     refine ⟨(),rfl,trivial,?_⟩
     conv=>whnf
     exact fin
    ·obtain ⟨f1,f2⟩:=common_err (b:=((x1,y1),(x2,y2))) (i:=some (l,c0)) hE h0
     obtain rfl:P=[]:=by rw [← hP]; exact rcom_err hE h0
     obtain rfl:0=M:=hM
     refine ⟨(((x1,y1),(x2,y2)),some (l,c0)),[0],by rw [show commonS.args (((x1,y1),(x2,y2)),some (l,c0))=[XV.v ((x1,y1),(x2,y2)),.slice (some ⟨0,0,none⟩) n c0] from by rw [hn]; rfl]; rfl,hok,?_⟩
     rw [f1,f2,show commonS.blks (((x1,y1),(x2,y2)),some (l,c0))=[.flat false n 9 g] from by rw [hn,hg]; rfl]
     conv=>whnf
     refine ⟨BlkLe.flat_flat (fun h=>h) (fun r hr=>by rw [hg]; rfl),?_⟩
     conv=>whnf
     refine ⟨_,rfl,?_⟩
     conv=>whnf
     refine ⟨(((x1,y1),(x2,y2)),some (l,c0)),[0],by rw [show rcommonS.args (((x1,y1),(x2,y2)),some (l,c0))=[XV.v ((x1,y1),(x2,y2)),.slice (some ⟨0,0,none⟩) n c0] from by rw [hn]; rfl]; rfl,⟨hok,tb⟩,?_⟩
     rw [r1,r2,show rcommonS.blks (((x1,y1),(x2,y2)),some (l,c0))=[.flat false n 9 g] from by rw [hn,hg]; rfl]
     conv=>whnf
     refine ⟨BlkLe.flat_flat (fun h=>h) (fun r hr=>by rw [hg]; rfl),?_⟩
     conv=>whnf
     refine ⟨_,rfl,?_⟩
     conv=>whnf
     refine ⟨((none:PL),(some ([],cu):PL)),[3],rfl,⟨Nat.zero_le _,Nat.zero_le _⟩,?_⟩
     rw [show sameS.blks ((none:PL),(some ([],cu):PL))=[.flat false 0 6 (rowsP [])] from rfl]
     conv=>whnf
     refine ⟨BlkLe.flat_rows (fun h=>by cases h) (fun r hr=>absurd hr (Nat.not_lt_zero r)) (fun r hr=>rfl),?_⟩
     conv=>whnf
     refine ⟨.bool true,rfl,?_⟩
     conv=>whnf
     rw [show (E == E)=true from by simp]
     conv=>whnf
     refine ⟨(),rfl,trivial,?_⟩
     conv=>whnf
     exact fin
   | true =>
    by_cases hn0:n=0
    ·conv=>whnf
     rw [show decide ((n:Int) > 0)=false from decide_eq_false (by omega)]
     conv=>whnf
     obtain ⟨E,hE⟩:∃ E,comE (XV.p ((x1,y1),(x2,y2))) (qs (LL.list (some (l,c0))))=E:=⟨_,rfl⟩
     obtain ⟨P,hP⟩:∃ P,rcomP (XV.p ((x1,y1),(x2,y2))) (qs (LL.list (some (l,c0))))=P:=⟨_,rfl⟩
     obtain ⟨M,hM⟩:∃ M,P.length=M:=⟨_,rfl⟩
     obtain ⟨gs,hgs⟩:∃ g,g=rowsQ P:=⟨_,rfl⟩
     obtain ⟨r1,r2⟩:=rcom_eq (b:=((x1,y1),(x2,y2))) (i:=some (l,c0)) hE hP hM hgs
     rw [← hcu] at r2
     by_cases h0:E=0
     ·have hP2:comP (XV.p ((x1,y1),(x2,y2))) (qs (LL.list (some (l,c0))))=P:=by rw [← hP]; exact (if_pos (hE.trans h0)).symm
      obtain ⟨f1,f2⟩:=common_new (b:=((x1,y1),(x2,y2))) (i:=some (l,c0)) (hE.trans h0) hP2 hM hgs
      rw [← hcu] at f2
      have hMb:(comP (XV.p ((x1,y1),(x2,y2))) (qs (LL.list (some (l,c0))))).length≤274877906944:=(com_bound hok (by omega)).1
      rw [hP2,hM] at hMb
      subst h0
      refine ⟨(((x1,y1),(x2,y2)),some (l,c0)),[0],by rw [show commonS.args (((x1,y1),(x2,y2)),some (l,c0))=[XV.v ((x1,y1),(x2,y2)),.slice (some ⟨0,0,none⟩) n c0] from by rw [hn]; rfl]; rfl,hok,?_⟩
      rw [f1,f2,show commonS.blks (((x1,y1),(x2,y2)),some (l,c0))=[.flat false n 9 g] from by rw [hn,hg]; rfl]
      conv=>whnf
      refine ⟨BlkLe.flat_flat (fun h=>h) (fun r hr=>by rw [hg]; rfl),?_⟩
      conv=>whnf
      refine ⟨_,rfl,?_⟩
      conv=>whnf
      refine ⟨(((x1,y1),(x2,y2)),some (l,c0)),[0],by rw [show rcommonS.args (((x1,y1),(x2,y2)),some (l,c0))=[XV.v ((x1,y1),(x2,y2)),.slice (some ⟨0,0,none⟩) n c0] from by rw [hn]; rfl]; rfl,⟨hok,tb⟩,?_⟩
      rw [r1,r2,show rcommonS.blks (((x1,y1),(x2,y2)),some (l,c0))=[.flat false n 9 g] from by rw [hn,hg]; rfl]
      conv=>whnf
      refine ⟨BlkLe.flat_flat (fun h=>h) (fun r hr=>by rw [hg]; rfl),?_⟩
      conv=>whnf
      refine ⟨_,rfl,?_⟩
      conv=>whnf
      obtain ⟨Lp,hLp⟩:∃ L,L=pvs P:=⟨_,rfl⟩
      have hLl:Lp.length=M:=by rw [hLp,pvs_length,hM]
      refine ⟨(some (Lp,cu),some (Lp,cu)),[3,4],by rw [show sameS.args (some (Lp,cu),some (Lp,cu))=[.slice (some ⟨0,0,none⟩) M cu,.slice (some ⟨1,0,none⟩) M cu] from by rw [← hLl]; rfl]; rfl,⟨by show Lp.length≤_; omega,by show Lp.length≤_; omega⟩,?_⟩
      rw [show sameS.blks (some (Lp,cu),some (Lp,cu))=[.flat false M 6 gs,.flat false M 6 gs] from by rw [← hLl,hgs,hLp]; rfl,show sameS.val (some (Lp,cu),some (Lp,cu))=.bool true from congrArg Value.bool (decide_eq_true rfl),show sameS.new (some (Lp,cu),some (Lp,cu))=none from rfl]
      conv=>whnf
      refine ⟨BlkLe.flat_flat (fun h=>by cases h) (fun r hr=>by rw [hgs]; rfl),BlkLe.flat_flat (fun h=>by cases h) (fun r hr=>by rw [hgs]; rfl),?_⟩
      conv=>whnf
      refine ⟨.bool true,rfl,?_⟩
      conv=>whnf
      refine ⟨(),rfl,trivial,?_⟩
      conv=>whnf
      exact fin
     ·obtain ⟨f1,f2⟩:=common_err (b:=((x1,y1),(x2,y2))) (i:=some (l,c0)) hE h0
      obtain rfl:P=[]:=by rw [← hP]; exact rcom_err hE h0
      obtain rfl:0=M:=hM
      refine ⟨(((x1,y1),(x2,y2)),some (l,c0)),[0],by rw [show commonS.args (((x1,y1),(x2,y2)),some (l,c0))=[XV.v ((x1,y1),(x2,y2)),.slice (some ⟨0,0,none⟩) n c0] from by rw [hn]; rfl]; rfl,hok,?_⟩
      rw [f1,f2,show commonS.blks (((x1,y1),(x2,y2)),some (l,c0))=[.flat false n 9 g] from by rw [hn,hg]; rfl]
      conv=>whnf
      refine ⟨BlkLe.flat_flat (fun h=>h) (fun r hr=>by rw [hg]; rfl),?_⟩
      conv=>whnf
      refine ⟨_,rfl,?_⟩
      conv=>whnf
      refine ⟨(((x1,y1),(x2,y2)),some (l,c0)),[0],by rw [show rcommonS.args (((x1,y1),(x2,y2)),some (l,c0))=[XV.v ((x1,y1),(x2,y2)),.slice (some ⟨0,0,none⟩) n c0] from by rw [hn]; rfl]; rfl,⟨hok,tb⟩,?_⟩
      rw [r1,r2,show rcommonS.blks (((x1,y1),(x2,y2)),some (l,c0))=[.flat false n 9 g] from by rw [hn,hg]; rfl]
      conv=>whnf
      refine ⟨BlkLe.flat_flat (fun h=>h) (fun r hr=>by rw [hg]; rfl),?_⟩
      conv=>whnf
      refine ⟨_,rfl,?_⟩
      conv=>whnf
      refine ⟨((none:PL),(some ([],cu):PL)),[3],rfl,⟨Nat.zero_le _,Nat.zero_le _⟩,?_⟩
      rw [show sameS.blks ((none:PL),(some ([],cu):PL))=[.flat false 0 6 (rowsP [])] from rfl]
      conv=>whnf
      refine ⟨BlkLe.flat_rows (fun h=>by cases h) (fun r hr=>absurd hr (Nat.not_lt_zero r)) (fun r hr=>rfl),?_⟩
      conv=>whnf
      refine ⟨.bool true,rfl,?_⟩
      conv=>whnf
      rw [show (E == E)=true from by simp]
      conv=>whnf
      refine ⟨(),rfl,trivial,?_⟩
      conv=>whnf
      exact fin
    ·conv=>whnf
     rw [show decide ((n:Int) > 0)=true from decide_eq_true (by omega)]
     conv=>whnf
     refine ⟨(l,c0),[0],by rw [show repLS.args (l,c0)=[.slice (some ⟨0,0,none⟩) n c0,.int .i64 61] from by rw [hn]; rfl]; rfl,⟨by show 1≤l.length; omega,by show l.length≤8; omega⟩,?_⟩
     obtain ⟨T,hT⟩:∃ T,T=n*61:=⟨_,rfl⟩
     obtain ⟨rg,hrg⟩:∃ g,g=repG l n:=⟨_,rfl⟩
     rw [show repLS.blks (l,c0)=[.flat false n 9 g] from by rw [hn,hg]; rfl,show repLS.val (l,c0)=.slice (some ⟨1,0,none⟩) T cu from by rw [hT,hn,hcu]; rfl,show repLS.new (l,c0)=some (.flat true T 9 rg) from by rw [hT,hrg,hn]; rfl]
     conv=>whnf
     refine ⟨BlkLe.flat_flat (fun h=>h) (fun r hr=>by rw [hg]; rfl),?_⟩
     conv=>whnf
     refine ⟨_,rfl,?_⟩
     conv=>whnf
     refine ⟨⟨by omega,by omega,by omega⟩,?_⟩
     rw [show capSub cu (Int.toNat 0)=cu from capSub_zero _,show rowAdd 0 (Int.toNat 0)=0 from rfl,show Int.toNat 61 - Int.toNat 0=61 from rfl]
     conv=>whnf
     obtain ⟨l2,hl2⟩:∃ L,L=repL l:=⟨_,rfl⟩
     have hn2:l2.length=61:=by rw [hl2]; exact repL_len l
     have hls2:∀ r∈l2,r.sz 20:=fun r hr=>hls r (repL_mem (by omega) r (by rw [← hl2]; exact hr))
     have hok:comOk ((x1,y1),(x2,y2)) l2:=com_ok sb1 sb2 hls2 (by omega) (.inr (by omega))
     have hblk:BlkLe (.flat false 61 9 (rowsLn l2)) (.flat true T 9 rg) :=
      ⟨(fun h=>by cases h),rfl,by show 61≤T; omega,fun r hr=>by
       have hr:r < 61:=hr
       show rowsLn l2 r=rg r
       rw [hl2,hrg,repL_row hr,hn],fun r hr v hv=>allS_spec (rowsLn_allS _ r) v hv⟩
     obtain ⟨E,hE⟩:∃ E,comE (XV.p ((x1,y1),(x2,y2))) (qs (LL.list (some (l2,cu))))=E:=⟨_,rfl⟩
     have h0:E≠0:=fun e=>by
      have:=(com_ring (hE.trans e)).few
      rw [qs_len] at this
      have:l2.length≤60:=this
      omega
     obtain ⟨P,hP⟩:∃ P,rcomP (XV.p ((x1,y1),(x2,y2))) (qs (LL.list (some (l2,cu))))=P:=⟨_,rfl⟩
     obtain ⟨M,hM⟩:∃ M,P.length=M:=⟨_,rfl⟩
     obtain ⟨gs,hgs⟩:∃ g,g=rowsQ P:=⟨_,rfl⟩
     obtain ⟨r1,r2⟩:=rcom_eq (b:=((x1,y1),(x2,y2))) (i:=some (l2,cu)) hE hP hM hgs
     rw [← hcu] at r2
     obtain ⟨f1,f2⟩:=common_err (b:=((x1,y1),(x2,y2))) (i:=some (l2,cu)) hE h0
     obtain rfl:P=[]:=by rw [← hP]; exact rcom_err hE h0
     obtain rfl:0=M:=hM
     refine ⟨(((x1,y1),(x2,y2)),some (l2,cu)),[3],by rw [show commonS.args (((x1,y1),(x2,y2)),some (l2,cu))=[XV.v ((x1,y1),(x2,y2)),.slice (some ⟨0,0,none⟩) 61 cu] from by rw [← hn2]; rfl]; rfl,hok,?_⟩
     rw [f1,f2,show commonS.blks (((x1,y1),(x2,y2)),some (l2,cu))=[.flat false 61 9 (rowsLn l2)] from by rw [← hn2]; rfl]
     conv=>whnf
     refine ⟨hblk,?_⟩
     conv=>whnf
     refine ⟨_,rfl,?_⟩
     conv=>whnf
     refine ⟨(((x1,y1),(x2,y2)),some (l2,cu)),[3],by rw [show rcommonS.args (((x1,y1),(x2,y2)),some (l2,cu))=[XV.v ((x1,y1),(x2,y2)),.slice (some ⟨0,0,none⟩) 61 cu] from by rw [← hn2]; rfl]; rfl,⟨hok,tb⟩,?_⟩
     rw [r1,r2,show rcommonS.blks (((x1,y1),(x2,y2)),some (l2,cu))=[.flat false 61 9 (rowsLn l2)] from by rw [← hn2]; rfl]
     conv=>whnf
     refine ⟨hblk,?_⟩
     conv=>whnf
     refine ⟨_,rfl,?_⟩
     conv=>whnf
     refine ⟨((none:PL),(some ([],cu):PL)),[4],rfl,⟨Nat.zero_le _,Nat.zero_le _⟩,?_⟩
     rw [show sameS.blks ((none:PL),(some ([],cu):PL))=[.flat false 0 6 (rowsP [])] from rfl]
     conv=>whnf
     refine ⟨BlkLe.flat_rows (fun h=>by cases h) (fun r hr=>absurd hr (Nat.not_lt_zero r)) (fun r hr=>rfl),?_⟩
     conv=>whnf
     refine ⟨.bool true,rfl,?_⟩
     conv=>whnf
     rw [show (E == E)=true from by simp]
     conv=>whnf
     refine ⟨(),rfl,trivial,?_⟩
     conv=>whnf
     exact fin
  ·conv=>whnf
   conv=>whnf
   refine ⟨(),rfl,trivial,?_⟩
   conv=>whnf
   exact fin
end Go.Proofs.YtppeponndkfbkaaGreat
/- The statement LineCommon. -/
namespace Go.Proofs.YtppeponndkfbkaaGreat
open Go Go.Ae Go.ChangeShapes Go.WideShapes Go.ChangeAt Go.RowKit
theorem own:ownKnob Tryz.prog.godebug=none:=by kernel_rfl
theorem laidOut:laidOutB Tryz.prog=true:=by kernel_rfl
def zX:Value:=.agg #[.bool false,.string ⟨#[]⟩,.string ⟨#[]⟩,.bool false,.string ⟨#[]⟩,.string ⟨#[]⟩,.bool false,.string ⟨#[]⟩,.string ⟨#[]⟩,.bool false,.string ⟨#[]⟩,.string ⟨#[]⟩]
set_option maxRecDepth 100000 in
theorem open_abox {w:World} {r:Reach} {base:Nat} {v:Value} (h:Value.okWide Tryz.prog w r base 44 v):∃ p:XV,v=p.v :=
 open_box Tryz.underlying44 (b:=4) (s:=9) (by kernel_rfl) (by kernel_rfl) Tryz.underlying4 Tryz.underlying9 h
set_option maxRecDepth 100000 in
theorem ptTy:PtTy Tryz.prog 23 27 4 9 :=
 ⟨⟨_,_,_,Tryz.underlying23,⟨rfl,rfl⟩,⟨rfl,rfl⟩,rfl,rfl⟩,⟨_,_,Tryz.underlying27,⟨rfl,rfl⟩,rfl,rfl⟩,Tryz.underlying4,Tryz.underlying9,by kernel_rfl,by kernel_rfl,by kernel_rfl,by kernel_rfl⟩
set_option maxRecDepth 100000 in
theorem lnTy:LnTy Tryz.prog 23 25 :=
 ⟨⟨_,_,_,Tryz.underlying25,⟨rfl,rfl⟩,⟨rfl,rfl⟩,rfl,rfl⟩,by kernel_rfl⟩
set_option maxRecDepth 100000 in
theorem lineCommon_lifted (os:Os) (started:os.Started) (H:Type) (enc:TypeId × Value→H) :
  ReturnsInHanded {} Tryz.checked os 6 .any (Rows.lineCommonSpec.pre6 enc Tryz.prog Tryz.f6 Rows.lineCommonRow.domain false) (Rows.lineCommonSpec.post enc Tryz.prog Tryz.f6 false true false false):=by
 refine returnsInHanded_of_change_sized (C:=Tryz.checked) own started (by kernel_rfl) Tryz.func6
  (ChangeSpec.witness6 (enc:=enc) (C:=Tryz.checked) false ⟨#[],#[zX,.slice none 0 0,.bool false],[]⟩ 8 (by kernel_rfl) (by kernel_rfl) (by kernel_rfl) (by kernel_rfl)) ?_
 intro W base args ds gs before hval0 hW hcnd hz0 _
 have hval:∀ (j:Nat) t v,Tryz.f6.params[j]?=some t→args[j]?=some v→Value.okWide Tryz.prog W .any base t v:=hval0
 have hW':=hW
 obtain ⟨p,q,hA0,hV,rfl,hfz,hnd⟩:=hW
 have hA:DataW.TrodAll enc Tryz.prog W 0 (fun _=>true) true Tryz.f6.params.toList args.toList ds p:=hA0
 have hz:(DataW.weightsEach Tryz.prog (Tryz.f6.params.toList++Rows.lineCommonSpec.plain.varTypes Tryz.prog) (ds++gs)).all (·≤reachBytes)=true:=hz0
 rw [Tryz.params6] at hA hval hz
 obtain ⟨v0,vs0,d0,ds0,p0,q0,hargs,rfl,rfl,h0,r0⟩:=trodAll_cons hA
 obtain ⟨v1,vs1,d1,ds1,p1,q1,rfl,rfl,rfl,h1,r1⟩:=trodAll_cons r0
 obtain ⟨v2,vs2,d2,ds2,p2,q2,rfl,rfl,rfl,h2,r2⟩:=trodAll_cons r1
 obtain ⟨rfl,rfl,rfl⟩:=trodAll_nil r2
 obtain rfl:args=#[v0,v1,v2]:=by cases args; simp_all
 obtain ⟨rfl,rfl⟩:=trodVars_none hV
 obtain ⟨a0,rfl⟩:=open_abox (hval 0 44 v0 rfl rfl)
 obtain ⟨a1,ν1,i1,z1,hv1,hH1,hν1⟩:=open_lines ptTy lnTy Tryz.underlying29 (hval 1 29 v1 rfl rfl) h1
 have z1:=z1 120 reachBytes (fun elems spare e=>sized_slice (e:=25) hz (j:=1) (t:=29) rfl (by rw [e]; rfl) Tryz.underlying29)
 obtain ⟨a2,rfl,rfl,rfl⟩:=open_bool Tryz.underlying4 (hval 2 4 v2 rfl rfl) h2
 have lt0:∀ x∈p0,x.block < W.heap.size:=by obtain ⟨m,hm⟩:=h0; exact DataW.trod_lt m _ _ _ hm
 have lt1:∀ x∈p1,x.block < W.heap.size:=by obtain ⟨m,hm⟩:=h1; exact DataW.trod_lt m _ _ _ hm
 clear hA0 hval0
 have hargs2:LRel ν1 (lcommonS.args ((((a0,a1),a2):(XV × LL) × Bool))) [a0.v,v1,.bool a2]:=.cons ((plain2_spec (v:=XV.v a0) rfl).1 ν1) (.cons hv1 (.cons ((plain2_spec (v:=.bool a2) rfl).1 ν1) (.nil ν1)))
 refine (calls_of_qsnd lcommon_ok (i:=(((a0,a1),a2):(XV × LL) × Bool)) (z1) hargs2 hH1 hν1 (b:=true) rfl).mono fun e W' ⟨he,bel⟩=>?_
 subst he
 exact ⟨_,rfl,_,_,_,[],_,[],hW',trodAll_mk1 (shut_bool Tryz.underlying4 _),(trodAll_cons_mk (Below.trod laidOut (by kernel_rfl) (of_decide_eq_true (by kernel_rfl)) h0 bel lt0) (trodAll_cons_mk (Below.trod laidOut (by kernel_rfl) (of_decide_eq_true (by kernel_rfl)) h1 bel lt1) (trodAll_cons_mk (shut_bool Tryz.underlying4 _) trodAll_mk0))),rfl,bel.frame _,fun h=>by cases h⟩
theorem lineCommon_holds:Rows.lineCommonRow.holds Tryz.pinned (OpenSpec.ofChange Rows.lineCommonSpec) :=
 OpenClaim.holds_of_wide 6 Tryz.f6 rfl rfl rfl rfl rfl rfl rfl ⟨rfl,rfl,rfl,rfl,rfl⟩ rfl rfl rfl rfl rfl (by kernel_rfl) Tryz.func6 (by kernel_rfl)
  (of_decide_eq_true (by kernel_rfl)) (by unfold Func.isWrapper; first | (rw [if_pos (by decide +kernel)]; kernel_rfl) | (rw [if_neg (by decide +kernel)]; exact ⟨rfl,rfl⟩))
  (fun os started H enc _=>lineCommon_lifted os started H enc)
theorem lineCommon_proved:Rows.LineCommonSaid:=lineCommon_holds
end Go.Proofs.YtppeponndkfbkaaGreat
