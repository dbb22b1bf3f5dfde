import Derived.Test.YtppeponndkfbkaaGreatSI
set_option linter.unusedVariables false
set_option linter.unusedSimpArgs false
/- Contracts of line: needless points. -/
set_option maxRecDepth 20000
set_option maxHeartbeats 4000000
namespace Go.Proofs.YtppeponndkfbkaaGreat
open Go Go.Ae
def Eg0:Env:=En [(40,.p qofS)]
theorem Eg0ok:EnvOk Tryz.prog Eg0:=Enk ⟨qof_ok,trivial⟩ trivial
theorem grow_ft:FTOk Tryz.prog 142 (fnK Eg0 drawT Tryz.f142):=by
 exact ft_of Eg0ok Dok Tryz.func142 (enters_of Tryz.func142 (by kernel_rfl) rfl)
def Eg1:Env:=En [] [(142,fnK Eg0 drawT Tryz.f142)] [] true
theorem Eg1ok:EnvOk Tryz.prog Eg1:=Enk trivial ⟨grow_ft,trivial⟩
theorem concat_ft:FTOk Tryz.prog 108 (fnK Eg1 drawT Tryz.f108):=by
 exact ft_of Eg1ok Dok Tryz.func108 (enters_of Tryz.func108 (by kernel_rfl) rfl)
theorem delete_ft:FTOk Tryz.prog 107 (fnK Eg0 drawT Tryz.f107):=by
 exact ft_of Eg0ok Dok Tryz.func107 (enters_of Tryz.func107 (by kernel_rfl) rfl)
def Eg2:Env:=EnE [(106,.q cloneS),(30,.p orientS),(31,.p vcmpS)] [(107,limFT (fnK Eg0 drawT Tryz.f107)),(108,fnK Eg1 drawT Tryz.f108)]
theorem Eg2ok:EnvOk Tryz.prog Eg2:=EnEk ⟨clone_ok,orient_ok,vcmp_ok,trivial⟩ ⟨(lim_ft delete_ft),concat_ft,trivial⟩
theorem clean_ok:QSnd Tryz.prog 71 cleanS:=by
 refine qsnd_of Eg2ok Dok Tryz.func71 (enters_of Tryz.func71 (by kernel_rfl) rfl) ?_ ?_ ?_
 ·intro i b hb; simp [cleanS] at hb; rw [hb]; rfl
 ·intro i b hb; simp [cleanS] at hb; rw [← hb]; rfl
 intro ⟨L0,c⟩ hp
 have hp:L0≠[]∧L0.length≤1099511627776∧∀ v∈L0,Q2.sz 1048576 v:=hp
 obtain ⟨hne0,hlen,hsz0⟩:=hp
 obtain ⟨n0,hn0⟩:∃ n,n=L0.length:=⟨_,rfl⟩
 obtain ⟨g,hg⟩:∃ g,g=rowsQ L0:=⟨_,rfl⟩
 obtain ⟨cu,hcu⟩:∃ cu,cu=capU:=⟨_,rfl⟩
 obtain ⟨gs,hgs⟩:∃ g,g=rowsQ (rotR (cleanL L0)):=⟨_,rfl⟩
 obtain ⟨M,hM⟩:∃ M,M=(cleanL L0).length:=⟨_,rfl⟩
 unfold qRes
 rw [show cleanS.blks (L0,c)=[.flat false n0 6 g] from by rw [hn0,hg]; rfl,show cleanS.args (L0,c)=[.slice (some ⟨0,0,none⟩) n0 c] from by rw [hn0]; rfl,
  show cleanS.val (L0,c)=.slice (some ⟨1,0,none⟩) M cu from by rw [hcu,hM]; rfl,show cleanS.new (L0,c)=some (.flat true M 6 gs) from by rw [hgs,hM]; rfl]
 rw [← hn0] at hlen
 conv=>whnf
 refine ⟨some (pvs L0,c),[0],by rw [show cloneS.args (some (pvs L0,c))=[.slice (some ⟨0,0,none⟩) n0 c] from by rw [hn0,← pvs_length L0]; rfl]; rfl,by show (pvs L0).length≤1099511627776; rw [pvs_length]; omega,?_⟩
 rw [show cloneS.blks (some (pvs L0,c))=[.flat false n0 6 g] from by rw [hn0,hg,← pvs_length L0]; rfl,show cloneS.val (some (pvs L0,c))=.slice (some ⟨1,0,none⟩) n0 cu from by rw [hn0,hcu,← pvs_length L0]; rfl,show cloneS.new (some (pvs L0,c))=some (.flat true n0 6 g) from by rw [hn0,hg,← pvs_length L0]; rfl]
 conv=>whnf
 refine ⟨BlkLe.flat_flat (fun h=>h) (fun r hr=>by rw [hg]; rfl),?_⟩
 conv=>whnf
 refine ⟨_,rfl,?_⟩
 conv=>whnf
 refine .inl ⟨fun mm tz hz=>∃ (L:List Q2) (n:Nat) (G:Nat→List Value),Pat (some (.slice (some ⟨1,0,none⟩) n cu)::nos 94 []) tz∧hz=[some (.flat false n0 6 g),some (.flat true n0 6 G)]∧n=mm∧((L≠[]∧n=L.length∧n≤n0)∧cleanL L0=cleanL L∧(∀ v∈L,Q2.sz 1048576 v)∧∀ r,r < n→G r=rowsQ L r),.inr ⟨[0,1],[0],?_⟩,?_⟩
 ·conv=>whnf
  intro _
  conv=>whnf
  refine ⟨_,L0,n0,g,(.keep (.sk 94 .nil rfl)),rfl,rfl,?_⟩
  exact ⟨⟨hne0,hn0,Nat.le_refl _⟩,rfl,hsz0,fun r _=>by rw [hg]⟩
 rintro mm tms _ ⟨L,n,G,hpat,rfl,rfl,⟨⟨hne,hn,hnn⟩,hcl,hsz,hG⟩⟩
 obtain ⟨az,rfl⟩:∃ az:Nat→Value,tms=.slice (some ⟨1,0,none⟩) n cu::zs az 1 94 []:=pat_fill hpat
 clear hpat
 have hpos:0 < n:=by rw [hn]; exact List.length_pos_iff.2 hne
 have row:∀ k,k < n→∃ u:PV,u=ptV (at2 L k)∧G k=u.cells∧u.p=at2 L k∧u.sz 1048576∧Q2.sz 1048576 u.p:=fun k hk=>by
  obtain ⟨u,h1,h2,h3⟩:=hideAt (L:=L) (k:=k) (by omega) hsz
  exact ⟨u,h1,by rw [hG k hk]; exact h2,h3⟩
 conv=>whnf
 refine .inl ⟨fun mm tz hz=>∃ (k:Nat),Pat (some (.slice (some ⟨1,0,none⟩) n cu)::nos 2 (some (.int .i64 n)::some (.int .i64 (-1))::nos 9 (some (.int .i64 n)::some (.int .i64 k)::nos 79 []))) tz∧hz=[some (.flat false n0 6 g),some (.flat true n0 6 G)]∧n - k=mm∧(k≤n∧∀ j,j < k→¬ nd L j),.inr ⟨[0,1],[0,3,4,14,15],?_⟩,?_⟩
 ·conv=>whnf
  intro _
  conv=>whnf
  refine ⟨_,0,(.keep (.sk 2 (.keep (.keep (.sk 9 (.keep (.keep (.sk 79 .nil rfl))) rfl))) rfl)),rfl,rfl,?_⟩
  exact ⟨Nat.zero_le _,fun j hj=>absurd hj (by omega)⟩
 rintro mm tms _ ⟨k,hpat,rfl,rfl,⟨hk,hup⟩⟩
 obtain ⟨az,rfl⟩:∃ az:Nat→Value,tms=.slice (some ⟨1,0,none⟩) n cu::zs az 1 2 (.int .i64 n::.int .i64 (-1)::zs az 5 9 (.int .i64 n::.int .i64 k::zs az 16 79 [])):=pat_fill hpat
 clear hpat
 conv=>whnf
 refine br_intro (fun h1=>?_) (fun h1=>?_)
 ·have h1:k < n:=by
   have:=of_decide_eq_true h1
   omega
  conv=>whnf
  refine .inl ⟨39,[[],[0],[0,1],[0,1,2],[0,1,2],[0,1,2,3,4],[0,1,2,3,4,5],[0,1,2],[0,1,2],[0,1,2,8],[0,1,2],[0,1,2,8,9,10],[0,1,2,7,8,9,10,11],[0,1,2,7,8,9,10,11,12],[0,1,2,3,4,5,6,7,8,9,10,11,12,13],[0,1,2,3,4,5,6,7,8,9,10,11,12,13,14],[0,1,2,3,4,5,6,7,8,9,10,11,12,13,14,15],[0,1,2,3,4,5,6,7,8,9,10,11,12,13,14,15,16],[0,1,2,3,4,5,6,7,8,9,10,11,12,13,14,15,16,17],[0,1,2,3,4,5,6,7,8,9,10,11,12,13,14,15,16,17,18],[0,1,2,3,4,5,6,7,8,9,10,11,12,13,14,15,16,17,18],[0,1,2,3,4,5,6,7,8,9,10,11,12,13,14,15,16,17,18],[0,1,2,3,4,5,6,7,8,9,10,11,12,13,14,15,16,17,18,20,21],[0,1,2,3,4,5,6,7,8,9,10,11,12,13,14,15,16,17,18,20,21,22],[0,1,2,3,4,5,6,7,8,9,10,11,12,13,14,15,16,17,18],[0,1,2,3,4,5,6,7,8,9,10,11,12,13,14,15,16,17,18,20,21,22,23,24],[0,1,2,3,4,5,6,7,8,9,10,11,12,13,14,15,16,17,18,19,20,21,22,23,24,25],[0,1,2,3,4,5,6,7,8,9,10,11,12,13,14,15,16,17,18,19,20,21,22,23,24,25,26],[0,1,2,3,4,5,6,7,8,9,10,11,12,13,14,15,16,17,18],[0,1,2,3,4,5,6,7,8,9,10,11,12,13,14,15,16,17,18],[0,1,2,3,4,5,6,7,8,9,10,11,12,13,14,15,16,17,18,28,29],[0,1,2,3,4,5,6,7,8,9,10,11,12,13,14,15,16,17,18,28,29,30],[0,1,2,3,4,5,6,7,8,9,10,11,12,13,14,15,16,17,18],[0,1,2,3,4,5,6,7,8,9,10,11,12,13,14,15,16,17,18],[0,1,2,3,4,5,6,7,8,9,10,11,12,13,14,15,16,17,18,33],[0,1,2,3,4,5,6,7,8,9,10,11,12,13,14,15,16,17,18],[0,1,2,3,4,5,6,7,8,9,10,11,12,13,14,15,16,17,18,33,34,35],[0,1,2,3,4,5,6,7,8,9,10,11,12,13,14,15,16,17,18,32,33,34,35,36],[0,1,2,3,4,5,6,7,8,9,10,11,12,13,14,15,16,17,18,32,33,34,35,36,37],[0,1,2,3,4,5,6,7,8,9,10,11,12,13,14,15,16,17,18,19,20,21,22,23,24,25,26,27,28,29,30,31,32,33,34,35,36,37,38],[0,1,2,3,4,5,6,7,8,9,10,11,12,13,14,15,16,17,18,19,20,21,22,23,24,25,26,27,28,29,30,31,32,33,34,35,36,37,38,39],[0,1,2,3,4,5,6,7,8,9,10,11,12,13,14,15,16,17,18,19,20,21,22,23,24,25,26,27,28,29,30,31,32,33,34,35,36,37,38,39,40],[0,1,2,3,4,5,6,7,8,9,10,11,12,13,14,15,16,17,18,19,20,21,22,23,24,25,26,27,28,29,30,31,32,33,34,35,36,37,38,39,40,41],[0,1,2,3,4,5,6,7,8,9,10,11,12,13,14,15,16,17,18,19,20,21,22,23,24,25,26,27,28,29,30,31,32,33,34,35,36,37,38,39,40,41,42]],by kernel_rfl,?_⟩
  conv=>whnf
  have e7:IntKind.i64.wrap ((k:Int)+1)=((k+1:Nat):Int):=by rw [wrapi64 (by omega) (by omega)]; rfl
  by_cases hn1:1 < n
  ·rw [show decide ((n:Int) > 1)=true from decide_eq_true (by omega)]
   obtain ⟨p,cp,rp,pp,sp,qp⟩:=row k h1
   obtain ⟨q,cq,rq,pq,sq,qq⟩:=row (nxt n k) (nxt_lt (by omega))
   have hnx:=nxt_i h1 (by omega)
   have hnl:=nxt_lt h1
   obtain ⟨j,hj⟩:∃ j,j=nxt n k:=⟨_,rfl⟩
   rw [← hj] at hnx hnl rq
   conv=>whnf
   refine ⟨⟨by omega,by omega⟩,?_⟩
   simp only [toNat_cast,rowAdd_eq,Nat.zero_add]
   conv=>whnf
   refine ⟨by show k < n0; omega,?_⟩
   conv=>whnf
   rw [rp]
   conv=>whnf
   rw [show decide ((n:Int)≠0)=true from decide_eq_true (by omega)]
   conv=>whnf
   rw [hnx]
   refine ⟨⟨by omega,by omega⟩,?_⟩
   simp only [toNat_cast,rowAdd_eq,Nat.zero_add]
   conv=>whnf
   refine ⟨by show j < n0; omega,?_⟩
   conv=>whnf
   rw [rq]
   conv=>whnf
   rw [eqPQ p q]
   by_cases ne:p=q
   ·have hnk:nd L k:=⟨by omega,.inl (by rw [← hn]; exact (canP_eq cp cq).1 ne)⟩
    rw [decide_eq_true ne]
    conv=>whnf
    refine ⟨hcu,?_⟩
    rw [← hcu,e7]
    conv=>whnf
    refine ⟨⟨by omega,by omega,by omega,Int.le_refl _⟩,?_⟩
    conv=>whnf
    rw [show ((k:Int) == ((k+1:Nat):Int))=false from by rw [beq_eq_false_iff_ne]; omega]
    conv=>whnf
    refine .inl ⟨6,[[],[],[0,1],[],[],[3,4],[0,1,2,3,4,5],[0,1,2,3,4,5,6]],by kernel_rfl,?_⟩
    conv=>whnf
    refine ⟨⟨Int.le_refl _,by omega,by omega⟩,?_⟩
    conv=>whnf
    refine ⟨⟨by omega,by omega,Int.le_refl _⟩,?_⟩
    conv=>whnf
    obtain ⟨ce,hce⟩:∃ c,c=n - (k+1):=⟨_,rfl⟩
    rw [show Int.toNat ((k+1:Nat):Int)=k+1 from rfl,show Int.toNat (n:Int)=n from rfl,show Int.toNat 0=0 from rfl,show Int.toNat (k:Int)=k from rfl,show rowAdd 0 (k+1)=k+1 from rfl,show rowAdd 0 0=0 from rfl,Nat.sub_zero,Nat.sub_zero,← hce,← hcu]
    refine ⟨by omega,?_⟩
    conv=>whnf
    obtain ⟨G1,hG1⟩:∃ F,F=overGet G (rowAdd 0 k) (fun j=>G (rowAdd (k+1) j)) ce:=⟨_,rfl⟩
    rw [← hG1]
    refine ⟨⟨by omega,by omega⟩,?_⟩
    conv=>whnf
    refine ⟨⟨by omega,by omega,by omega⟩,?_⟩
    conv=>whnf
    rw [show Int.toNat ((k+ce:Nat):Int)=k+ce from rfl,show Int.toNat (n:Int)=n from rfl,show rowAdd 0 (k+ce)=k+ce from rfl]
    refine ⟨⟨by omega,rfl⟩,?_⟩
    conv=>whnf
    refine .inr ⟨[0,1],[0],?_⟩
    conv=>whnf
    intro _
    conv=>whnf
    refine ⟨_,?_,L.eraseIdx k,k+ce,_,(.keep (.sk 94 .nil rfl)),rfl,rfl,?_⟩
    ·omega
    ·have h2:1 < n:=by rw [hn]; exact hnk.1
     have hl:(L.eraseIdx k).length=n - 1:=by rw [List.length_eraseIdx_of_lt (by omega)]; omega
     refine ⟨⟨fun e=>?_,by omega,by omega⟩,hcl.trans (cleanL_step (firstNd_some (by omega) hnk hup)),fun v hv=>hsz v ((List.eraseIdx_sublist L k).subset hv),fun r hr=>?_⟩
     ·rw [e] at hl
      simp at hl
      omega
     ·rw [hG1]
      exact del_rows hG hn h1 hce r (by omega)
   rw [decide_eq_false ne]
   conv=>whnf
   by_cases hn2:2 < n
   ·rw [show decide ((n:Int) > 2)=true from decide_eq_true (by omega)]
    obtain ⟨o,co,ro,po,so,qo⟩:=row (prv n k) (prv_lt (by omega))
    have hpx:=prv_i h1 (by omega)
    have hpl:=prv_lt h1
    obtain ⟨i,hi⟩:∃ i,i=prv n k:=⟨_,rfl⟩
    rw [← hi] at hpx hpl ro
    conv=>whnf
    rw [show decide ((n:Int)≠0)=true from decide_eq_true (by omega)]
    conv=>whnf
    rw [hpx]
    refine ⟨⟨by omega,by omega⟩,?_⟩
    simp only [toNat_cast,rowAdd_eq,Nat.zero_add]
    conv=>whnf
    refine ⟨by show i < n0; omega,?_⟩
    conv=>whnf
    rw [ro]
    conv=>whnf
    refine ⟨⟨by omega,by omega⟩,?_⟩
    simp only [toNat_cast,rowAdd_eq,Nat.zero_add]
    conv=>whnf
    refine ⟨by show k < n0; omega,?_⟩
    conv=>whnf
    rw [rp]
    conv=>whnf
    rw [show decide ((n:Int)≠0)=true from decide_eq_true (by omega)]
    conv=>whnf
    rw [hnx]
    refine ⟨⟨by omega,by omega⟩,?_⟩
    simp only [toNat_cast,rowAdd_eq,Nat.zero_add]
    conv=>whnf
    refine ⟨by show j < n0; omega,?_⟩
    conv=>whnf
    rw [rq]
    conv=>whnf
    obtain ⟨z,ez,pz⟩:=hideZ (cmpQ (orR o.p p.p q.p) 0)
    refine ⟨(o,p,q),rfl,⟨PV.sz_mono so (by decide),PV.sz_mono sp (by decide),PV.sz_mono sq (by decide)⟩,?_⟩
    rw [show orientS.val (o,p,q)=.int .i64 z from ez]
    conv=>whnf
    by_cases hor:cmpQ (orR o.p p.p q.p) 0=0
    ·have hnk:nd L k:=⟨by omega,.inr ⟨by omega,by
      have:=cmpQ_zero.1 hor
      rw [po,pp,pq,hn] at this; exact this⟩⟩
     rw [show (z == 0)=true from by rw [pz]; simp [hor]]
     conv=>whnf
     refine ⟨hcu,?_⟩
     rw [← hcu,e7]
     conv=>whnf
     refine ⟨⟨by omega,by omega,by omega,Int.le_refl _⟩,?_⟩
     conv=>whnf
     rw [show ((k:Int) == ((k+1:Nat):Int))=false from by rw [beq_eq_false_iff_ne]; omega]
     conv=>whnf
     refine .inl ⟨6,[[],[],[0,1],[],[],[3,4],[0,1,2,3,4,5],[0,1,2,3,4,5,6]],by kernel_rfl,?_⟩
     conv=>whnf
     refine ⟨⟨Int.le_refl _,by omega,by omega⟩,?_⟩
     conv=>whnf
     refine ⟨⟨by omega,by omega,Int.le_refl _⟩,?_⟩
     conv=>whnf
     obtain ⟨ce,hce⟩:∃ c,c=n - (k+1):=⟨_,rfl⟩
     rw [show Int.toNat ((k+1:Nat):Int)=k+1 from rfl,show Int.toNat (n:Int)=n from rfl,show Int.toNat 0=0 from rfl,show Int.toNat (k:Int)=k from rfl,show rowAdd 0 (k+1)=k+1 from rfl,show rowAdd 0 0=0 from rfl,Nat.sub_zero,Nat.sub_zero,← hce,← hcu]
     refine ⟨by omega,?_⟩
     conv=>whnf
     obtain ⟨G1,hG1⟩:∃ F,F=overGet G (rowAdd 0 k) (fun j=>G (rowAdd (k+1) j)) ce:=⟨_,rfl⟩
     rw [← hG1]
     refine ⟨⟨by omega,by omega⟩,?_⟩
     conv=>whnf
     refine ⟨⟨by omega,by omega,by omega⟩,?_⟩
     conv=>whnf
     rw [show Int.toNat ((k+ce:Nat):Int)=k+ce from rfl,show Int.toNat (n:Int)=n from rfl,show rowAdd 0 (k+ce)=k+ce from rfl]
     refine ⟨⟨by omega,rfl⟩,?_⟩
     conv=>whnf
     refine .inr ⟨[0,1],[0],?_⟩
     conv=>whnf
     intro _
     conv=>whnf
     refine ⟨_,?_,L.eraseIdx k,k+ce,_,(.keep (.sk 94 .nil rfl)),rfl,rfl,?_⟩
     ·omega
     ·have h2:1 < n:=by rw [hn]; exact hnk.1
      have hl:(L.eraseIdx k).length=n - 1:=by rw [List.length_eraseIdx_of_lt (by omega)]; omega
      refine ⟨⟨fun e=>?_,by omega,by omega⟩,hcl.trans (cleanL_step (firstNd_some (by omega) hnk hup)),fun v hv=>hsz v ((List.eraseIdx_sublist L k).subset hv),fun r hr=>?_⟩
      ·rw [e] at hl
       simp at hl
       omega
      ·rw [hG1]
       exact del_rows hG hn h1 hce r (by omega)
    ·have hnk:¬ nd L k:=fun ⟨_,h⟩=>by
      rcases h with h | ⟨_,h⟩
      ·exact ne ((canP_eq cp cq).2 (by rw [hn]; exact h))
      ·exact hor (cmpQ_zero.2 (by rw [po,pp,pq,hn]; exact h))
     rw [show (z == 0)=false from by rw [pz]; simp [hor]]
     have hup':∀ j,j < k+1→¬ nd L j:=fun j hj=>by
      rcases Nat.lt_or_ge j k with h | h
      ·exact hup j h
      ·have:j=k:=by omega
       rw [this]; exact hnk
     conv=>whnf
     rw [e7]
     refine .inr ⟨[0,1],[0,3,4,14,15],?_⟩
     conv=>whnf
     intro _
     conv=>whnf
     refine ⟨_,?_,k+1,(.keep (.sk 2 (.keep (.keep (.sk 9 (.keep (.keep (.sk 79 .nil rfl))) rfl))) rfl)),rfl,rfl,?_⟩
     ·omega
     ·exact ⟨by omega,hup'⟩
   ·have hnk:¬ nd L k:=fun ⟨_,h⟩=>by
     rcases h with h | ⟨h,_⟩
     ·exact ne ((canP_eq cp cq).2 (by rw [hn]; exact h))
     ·omega
    rw [show decide ((n:Int) > 2)=false from decide_eq_false (by omega)]
    have hup':∀ j,j < k+1→¬ nd L j:=fun j hj=>by
     rcases Nat.lt_or_ge j k with h | h
     ·exact hup j h
     ·have:j=k:=by omega
      rw [this]; exact hnk
    conv=>whnf
    rw [e7]
    refine .inr ⟨[0,1],[0,3,4,14,15],?_⟩
    conv=>whnf
    intro _
    conv=>whnf
    refine ⟨_,?_,k+1,(.keep (.sk 2 (.keep (.keep (.sk 9 (.keep (.keep (.sk 79 .nil rfl))) rfl))) rfl)),rfl,rfl,?_⟩
    ·omega
    ·exact ⟨by omega,hup'⟩
  ·have hnk:¬ nd L k:=fun ⟨h,_⟩=>by omega
   rw [show decide ((n:Int) > 1)=false from decide_eq_false (by omega)]
   have hup':∀ j,j < k+1→¬ nd L j:=fun j hj=>by
    rcases Nat.lt_or_ge j k with h | h
    ·exact hup j h
    ·have:j=k:=by omega
     rw [this]; exact hnk
   conv=>whnf
   rw [e7]
   refine .inr ⟨[0,1],[0,3,4,14,15],?_⟩
   conv=>whnf
   intro _
   conv=>whnf
   refine ⟨_,?_,k+1,(.keep (.sk 2 (.keep (.keep (.sk 9 (.keep (.keep (.sk 79 .nil rfl))) rfl))) rfl)),rfl,rfl,?_⟩
   ·omega
   ·exact ⟨by omega,hup'⟩
 ·have h1:k=n:=by
   have:=of_decide_eq_false h1
   omega
  subst h1
  have hnd:firstNd L=none:=firstNd_none fun j hj=>hup j (by omega)
  have hcl:cleanL L0=L:=hcl.trans (cleanL_stop hnd)
  have hMk:M=k:=by rw [hM,hcl,hn]
  rw [hMk]
  rw [hcl] at hgs
  conv=>whnf
  skip
  skip
  refine .inl ⟨fun mm tz hz=>∃ (i:Nat) (m:Nat),Pat (some (.slice (some ⟨1,0,none⟩) k cu)::nos 5 (some (.int .i64 m)::nos 64 (some (.slice (some ⟨1,0,none⟩) k cu)::some (.int .i64 k)::some (.int .i64 i)::nos 21 []))) tz∧hz=[some (.flat false n0 6 g),some (.flat true n0 6 G)]∧k - i=mm∧(i≤k∧m=leastUp L i),.inr ⟨[0,1],[0,6,71,72,73],?_⟩,?_⟩
  ·conv=>whnf
   intro _
   conv=>whnf
   refine ⟨_,0,0,(.keep (.sk 5 (.keep (.sk 64 (.keep (.keep (.keep (.sk 21 .nil rfl)))) rfl)) rfl)),rfl,rfl,?_⟩
   exact ⟨Nat.zero_le _,rfl⟩
  rintro mm tms _ ⟨i,m,hpat,rfl,rfl,⟨hi,hm⟩⟩
  obtain ⟨az,rfl⟩:∃ az:Nat→Value,tms=.slice (some ⟨1,0,none⟩) k cu::zs az 1 5 (.int .i64 m::zs az 7 64 (.slice (some ⟨1,0,none⟩) k cu::.int .i64 k::.int .i64 i::zs az 74 21 [])):=pat_fill hpat
  clear hpat
  have hml:m < k:=by rw [hm,hn]; exact (leastUp_spec L i (by omega)).1 (by omega)
  conv=>whnf
  refine br_intro (fun h1=>?_) (fun h1=>?_)
  ·have h1:i < k:=by
    have:=of_decide_eq_true h1
    omega
   have e7:IntKind.i64.wrap ((i:Int)+1)=((i+1:Nat):Int):=by rw [wrapi64 (by omega) (by omega)]; rfl
   obtain ⟨p,cp,rp,pp,sp,qp⟩:=row i (by omega)
   obtain ⟨q,cq,rq,pq,sq,qq⟩:=row m (by omega)
   conv=>whnf
   refine ⟨⟨by omega,by omega⟩,?_⟩
   simp only [toNat_cast,rowAdd_eq,Nat.zero_add]
   conv=>whnf
   refine ⟨by show i < n0; omega,?_⟩
   conv=>whnf
   rw [rp]
   conv=>whnf
   refine .inl ⟨5,[[],[],[],[1,2],[1,2,3],[0,1,2,3,4],[0,1,2,3,4,5]],by kernel_rfl,?_⟩
   conv=>whnf
   refine ⟨⟨by omega,by omega⟩,?_⟩
   simp only [toNat_cast,rowAdd_eq,Nat.zero_add]
   conv=>whnf
   refine ⟨by show m < n0; omega,?_⟩
   conv=>whnf
   rw [rq]
   conv=>whnf
   obtain ⟨z,ez,pz⟩:=hideZ (cmpR p.p q.p)
   refine ⟨(p,q),rfl,⟨PV.sz_mono sp (by decide),PV.sz_mono sq (by decide)⟩,?_⟩
   rw [show vcmpS.val (p,q)=.int .i64 z from ez]
   conv=>whnf
   rw [pp,pq] at pz
   have hup:leastUp L (i+1)=if z < 0 then i else m:=by
    show (if cmpR (at2 L i) (at2 L (leastUp L i)) < 0 then i else leastUp L i)=_
    rw [pz,hm]
   refine br_intro (fun h2=>?_) (fun h2=>?_)
   ·have h2:z < 0:=of_decide_eq_true h2
    conv=>whnf
    rw [e7]
    refine .inr ⟨[0,1],[0,6,71,72,73],?_⟩
    conv=>whnf
    intro _
    conv=>whnf
    refine ⟨_,?_,i+1,i,(.keep (.sk 5 (.keep (.sk 64 (.keep (.keep (.keep (.sk 21 .nil rfl)))) rfl)) rfl)),rfl,rfl,?_⟩
    ·omega
    ·exact ⟨by omega,by rw [hup,if_pos h2]⟩
   ·have h2:¬ z < 0:=of_decide_eq_false h2
    conv=>whnf
    rw [e7]
    refine .inr ⟨[0,1],[0,6,71,72,73],?_⟩
    conv=>whnf
    intro _
    conv=>whnf
    refine ⟨_,?_,i+1,m,(.keep (.sk 5 (.keep (.sk 64 (.keep (.keep (.keep (.sk 21 .nil rfl)))) rfl)) rfl)),rfl,rfl,?_⟩
    ·omega
    ·exact ⟨by omega,by rw [hup,if_neg h2]⟩
  ·have h1:i=k:=by
    have:=of_decide_eq_false h1
    omega
   subst h1
   conv=>whnf
   refine .inl ⟨6,[[],[],[0,1],[],[],[3,4],[0,1,2,3,4,5],[0,1,2,3,4,5,6],[0,1,2,3,4,5,6,7]],by kernel_rfl,?_⟩
   conv=>whnf
   refine ⟨⟨by omega,by omega,by omega⟩,?_⟩
   rw [show Int.toNat (i:Int) - Int.toNat (m:Int)=i - m from rfl,show Int.toNat (m:Int)=m from rfl,rowAdd_eq,Nat.zero_add]
   conv=>whnf
   refine ⟨⟨by omega,by omega,by omega⟩,?_⟩
   conv=>whnf
   obtain ⟨a,ha⟩:∃ a,a=i - m:=⟨_,rfl⟩
   obtain ⟨ca,hca⟩:∃ a,a=capSub cu m:=⟨_,rfl⟩
   obtain ⟨cb,hcb⟩:∃ a,a=capSub cu (Int.toNat 0):=⟨_,rfl⟩
   rw [← ha,← hca,← hcb,show rowAdd 0 (Int.toNat 0)=0 from rfl,show Int.toNat (m:Int) - Int.toNat 0=m from rfl,Nat.zero_add]
   have w1:IntKind.i64.wrap (0+(a:Int))=(a:Int):=by rw [wrapi64 (by omega) (by omega)]; omega
   have w2:IntKind.i64.wrap ((a:Int)+(m:Int))=(i:Int):=by rw [wrapi64 (by omega) (by omega)]; omega
   refine .inr ⟨3,?_⟩
   conv=>whnf
   refine ⟨by decide,?_⟩
   conv=>whnf
   rw [w1,show decide ((a:Int) < 0)=false from decide_eq_false (by omega)]
   conv=>whnf
   refine ⟨by decide,?_⟩
   conv=>whnf
   rw [w2,show decide ((i:Int) < 0)=false from decide_eq_false (by omega)]
   conv=>whnf
   have w3:IntKind.i64.wrap ((i:Int) - IntKind.i64.wrap (0 - ((0:Nat):Int)))=(i:Int):=by
    rw [show IntKind.i64.wrap (0 - ((0:Nat):Int))=0 from rfl,wrapi64 (by omega) (by omega)]; omega
   rw [w3,show decide ((i:Int) > 0)=true from decide_eq_true (by omega)]
   conv=>whnf
   refine ⟨⟨by omega,by omega,by omega⟩,?_⟩
   conv=>whnf
   refine ⟨⟨by omega,by show (i:Int)*((80:Nat):Int)≤_; omega⟩,?_⟩
   conv=>whnf
   refine ⟨⟨by omega,by omega,by omega⟩,?_⟩
   rw [show (0:Int).toNat=0 from rfl,show rowAdd 0 0=0 from rfl]
   conv=>whnf
   refine .inr ⟨3,?_⟩
   conv=>whnf
   refine ⟨by decide,?_⟩
   conv=>whnf
   refine ⟨by omega,?_⟩
   conv=>whnf
   rw [show Int.toNat (((0:Nat):Int)) - 0=0 from rfl,show (Src.fl a fun j=>G (rowAdd (0+m) j)).m=a from rfl,Nat.zero_add]
   refine ⟨⟨by decide,⟨Nat.zero_le _,rfl⟩,by show (0+a)*80≤_; omega⟩,?_⟩
   conv=>whnf
   refine ⟨[25,26,27],?_⟩
   conv=>whnf
   intro _
   conv=>whnf
   refine ⟨by decide,?_⟩
   conv=>whnf
   refine ⟨by omega,?_⟩
   conv=>whnf
   rw [show (Src.fl m fun j=>G (rowAdd 0 j)).m=m from rfl]
   refine ⟨⟨by decide,⟨Nat.le_refl _,rfl⟩,by show (0+a+m)*80≤_; omega⟩,?_⟩
   conv=>whnf
   refine ⟨[25,26,27],?_⟩
   conv=>whnf
   intro _
   conv=>whnf
   rw [show 0+a+m=i from by omega]
   refine ⟨9,?_⟩
   conv=>whnf
   refine ⟨⟨rfl,BlkLe.flat_rows (fun h=>h) (fun r hr=>?_) (fun r hr=>by rw [hgs]; rfl)⟩,_,rfl,by rw [hcu]; exact .refl _⟩
   rw [hgs,rot_rowsG (fun r hr=>hG r (by omega)) (by omega) (by omega) r (by omega),hm,hn]
   rfl
end Go.Proofs.YtppeponndkfbkaaGreat
/- Contracts of line: the part of a box on the left of lines. -/
set_option maxRecDepth 20000
set_option maxHeartbeats 4000000
namespace Go.Proofs.YtppeponndkfbkaaGreat
open Go Go.Ae
def Ecq:Env:=En [(17,.p lcheckS)]
theorem Ecqok:EnvOk Tryz.prog Ecq:=Enk ⟨lcheck_ok,trivial⟩ trivial
theorem lnot_ok:Snd Tryz.prog 68 lnotS:=by
 refine snd_of Ecqok Dok Tryz.func68 (enters_of Tryz.func68 (by kernel_rfl) rfl) (fun _=>rfl) (fun _=>rfl) ?_
 intro l hp
 have sl:l.sz 1048576:=hp
 have fin:∀ (z:Bool),z=decide (¬ isL l.q)→Value.bool z=lnotS.val l:=fun z h=>by rw [h]; rfl
 conv=>whnf
 obtain ⟨c,ec,pc⟩:=hideZ (chkV l.q)
 refine ⟨l,rfl,R3.sz_mono sl (by decide),?_⟩
 rw [show lcheckS.val l=.int .i64 c from ec]
 conv=>whnf
 refine fin _ ?_
 rw [pc]
 unfold chkV
 by_cases h:isL l.q
 ·rw [if_neg h,decide_eq_false (fun e=>e h)]; rfl
 ·have h2:l.q.1=0∧l.q.2.1=0:=Classical.byContradiction h
  rw [if_pos h2,decide_eq_true h]; rfl
def Eci:Env:=En [(68,.p lnotS)]
theorem Eciok:EnvOk Tryz.prog Eci:=Enk ⟨lnot_ok,trivial⟩ trivial
theorem lindex_ft:FTOk Tryz.prog 78 (fnK Eci drawT Tryz.f78):=by
 exact ft_of Eciok Dok Tryz.func78 (enters_of Tryz.func78 (by kernel_rfl) rfl)
def Ecj:Env:=En [] [(78,fnK Eci drawT Tryz.f78)]
theorem Ecjok:EnvOk Tryz.prog Ecj:=Enk trivial ⟨lindex_ft,trivial⟩
theorem lcontains_ft:FTOk Tryz.prog 35 (fnK Ecj drawT Tryz.f35):=by
 exact ft_of Ecjok Dok Tryz.func35 (enters_of Tryz.func35 (by kernel_rfl) rfl)
def Ecx:Env:=En [(89,.q lvalS),(47,.p qsignS),(52,.p qsubS),(61,.p qquoS),(105,.p vatS)]
theorem Ecxok:EnvOk Tryz.prog Ecx:=Enk ⟨value_ok,qsign_ok,qsub_ok,qquo_ok,vat_ok,trivial⟩ trivial
def cut1I:Nat→FT→Nu→FT:=fun l G nu=>fnK { Ecx with ys:=[(l,G)],nu:=nu } drawT Tryz.f104
theorem cut1_it:ITOk Tryz.prog 104 cut1I:=by
 exact it_of Ecxok Dok Tryz.func104 (enters_of Tryz.func104 (by kernel_rfl) rfl)
def Eca:Env:=En [] [] [(104,cut1I)]
theorem Ecaok:EnvOk Tryz.prog Eca:=Enk trivial trivial
theorem Ecaits:ItsOk Tryz.prog Eca:=Eni ⟨cut1_it,trivial⟩
theorem appseq_ft:FTOk Tryz.prog 103 (fnK Eca drawT Tryz.f103):=by
 exact ft_of Ecaok Dok Tryz.func103 (enters_of Tryz.func103 (by kernel_rfl) rfl) (hI:=Ecaits)
def Ecc:Env:=En [] [(103,fnK Eca drawT Tryz.f103)]
theorem Eccok:EnvOk Tryz.prog Ecc:=Enk trivial ⟨appseq_ft,trivial⟩
theorem collect_ft:FTOk Tryz.prog 69 (fnK Ecc drawT Tryz.f69):=by
 exact ft_of Eccok Dok Tryz.func69 (enters_of Tryz.func69 (by kernel_rfl) rfl)
def Ecv:Env:=En [(48,.q (lvalueS 89))]
theorem Ecvok:EnvOk Tryz.prog Ecv:=Enk ⟨lvalue_ok,trivial⟩ trivial
theorem cut_ft0:FTOk Tryz.prog 70 (fnK Ecv drawT Tryz.f70):=by
 exact ft_of Ecvok Dok Tryz.func70 (enters_of Tryz.func70 (by kernel_rfl) rfl)
theorem cut_ft:FTOk Tryz.prog 70 (weakFT (fnK Ecv drawT Tryz.f70)):=weak_ft cut_ft0
def Eco:Env:=En [(71,.q cleanS),(39,.p vofS),(64,.p vaddS),(67,.p qcmpS)] [(70,weakFT (fnK Ecv drawT Tryz.f70)),(69,fnK Ecc drawT Tryz.f69),(35,fnK Ecj drawT Tryz.f35)]
theorem Ecook:EnvOk Tryz.prog Eco:=Enk ⟨clean_ok,vof_ok,vadd_ok,qcmp_ok,trivial⟩ ⟨cut_ft,collect_ft,lcontains_ft,trivial⟩
theorem common_ok:QSnd Tryz.prog 25 commonS:=by
 refine qsnd_of Ecook Dok Tryz.func25 (enters_of Tryz.func25 (by kernel_rfl) rfl) ?_ ?_ ?_
 ·intro ⟨b,i⟩ B hb
  cases i with
  | none=>simp [commonS,LL.blks] at hb
  | some i=>simp [commonS,LL.blks] at hb; rw [hb]; rfl
 ·intro i B hb
  have hb:(if comE i.1.p (qs i.2.list)=0 then some (Blk.flat true (comP i.1.p (qs i.2.list)).length 6 (rowsQ (comP i.1.p (qs i.2.list)))) else none)=some B:=hb
  split at hb
  ·rw [← Option.some.inj hb]; rfl
  ·cases hb
 intro ⟨b,i⟩ hp
 have hp:comOk b i.list:=hp
 obtain ⟨⟨sb1,sb2⟩,hlen,hsl,hsz⟩:=hp
 cases i with
 | none =>
  have hsz:0≤60→∀ k,k≤0→(partR b.p ((qs []).take k)).length≤274877906944∧∀ v∈partR b.p ((qs []).take k),Q2.sz 262144 v:=hsz
  obtain ⟨⟨x1,y1⟩,⟨x2,y2⟩⟩:=b
  have sx1:=sb1.1
  have sy1:=sb1.2
  have sx2:=sb2.1
  have sy2:=sb2.2
  obtain ⟨B,hB⟩:∃ B,B=XV.p ((x1,y1),(x2,y2)):=⟨_,rfl⟩
  have hLs:∀ v∈boxR B,Q2.sz 262144 v:=by rw [hB]; exact (hsz (by decide) 0 (Nat.le_refl _)).2
  obtain ⟨K,hK⟩:∃ K,K=qRes commonS (((x1,y1),(x2,y2)),none):=⟨_,rfl⟩
  have fin0:∀ (e:Int) (H:Heap),comE B []=e→e≠0→K (.tuple ⟨[.slice none 0 0,.int .i64 e]⟩) H:=fun e H he h0=>by
   obtain ⟨f1,f2⟩:=common_err (b:=((x1,y1),(x2,y2))) (i:=none) (by rw [hB] at he; exact he) h0
   rw [hK]
   unfold qRes
   rw [f1,f2]
   exact ⟨_,rfl,.refl _⟩
  rw [show commonS.blks (((x1,y1),(x2,y2)),none)=[] from rfl,show commonS.args (((x1,y1),(x2,y2)),none)=[XV.v ((x1,y1),(x2,y2)),.slice none 0 0] from rfl,← hK]
  conv=>whnf
  obtain ⟨z1,ez1,pz1⟩:=hideZ (cmpQ x1.q x2.q)
  refine ⟨(x1,x2),rfl,⟨RV.sz_ok sx1 (by decide),RV.sz_ok sx2 (by decide)⟩,?_⟩
  rw [show qcmpS.val (x1,x2)=.int .i64 z1 from ez1]
  conv=>whnf
  by_cases h1:x2.q < x1.q
  ·rw [show decide (z1 > 0)=true from decide_eq_true (by rw [pz1]; exact cmpQ_pos.2 h1)]
   conv=>whnf
   exact fin0 1 _ (if_pos (.inl fun e=>by rw [hB] at e; have:=e.1; exact absurd h1 (Rat.not_lt.2 this))) (by decide)
  rw [show decide (z1 > 0)=false from decide_eq_false (by rw [pz1]; exact fun e=>h1 (cmpQ_pos.1 e))]
  conv=>whnf
  obtain ⟨z2,ez2,pz2⟩:=hideZ (cmpQ y1.q y2.q)
  refine ⟨(y1,y2),rfl,⟨RV.sz_ok sy1 (by decide),RV.sz_ok sy2 (by decide)⟩,?_⟩
  rw [show qcmpS.val (y1,y2)=.int .i64 z2 from ez2]
  conv=>whnf
  by_cases h2:y2.q < y1.q
  ·rw [show decide (z2 > 0)=true from decide_eq_true (by rw [pz2]; exact cmpQ_pos.2 h2)]
   conv=>whnf
   exact fin0 1 _ (if_pos (.inl fun e=>by rw [hB] at e; have:=e.2; exact absurd h2 (Rat.not_lt.2 this))) (by decide)
  rw [show decide (z2 > 0)=false from decide_eq_false (by rw [pz2]; exact fun e=>h2 (cmpQ_pos.1 e))]
  have hok:okB B:=by rw [hB]; exact ⟨Rat.not_lt.1 h1,Rat.not_lt.1 h2⟩
  conv=>whnf
  refine .inr ⟨1,?_⟩
  conv=>whnf
  have hE:comE B []=if (cleanL (boxR B)).length < 3 then 12 else 0:=by
   unfold comE
   rw [if_neg (fun e=>e.elim (fun e=>e hok) (fun e=>by cases e)),if_neg (by decide)]
   rfl
  have qx1:=RV.qb' sx1 (by decide)
  have qy1:=RV.qb' sy1 (by decide)
  have qx2:=RV.qb' sx2 (by decide)
  have qy2:=RV.qb' sy2 (by decide)
  obtain ⟨o,co,eo,po,so,qo⟩:=hidePc (ofsz (0) (0) (by decide) (by decide))
  refine ⟨(((0:Int),(0:Int)):Int × Int),rfl,⟨⟨by decide,by decide⟩,⟨by decide,by decide⟩⟩,?_⟩
  rw [show vofS.val (((0:Int),(0:Int)):Int × Int)=o.v from eo]
  conv=>whnf
  refine .inl ⟨10,[[],[0],[],[0,1,2],[],[4],[],[0,1,2,3,4,5,6],[],[],[0,1,2,3,4,5,6,7,8,9],[0,1,2,3,4,5,6,7,8,9,10]],by kernel_rfl,?_⟩
  conv=>whnf
  obtain ⟨lo,elo,plo,slo,qlo⟩:=hideP (add_sz (mkQ qx1 qy1) qo)
  refine ⟨((x1,y1),o),rfl,⟨PV.sz_mono (mkP sx1 sy1) (by decide),PV.sz_mono so (by decide)⟩,?_⟩
  rw [show vaddS.val ((x1,y1),o)=lo.v from elo]
  conv=>whnf
  obtain ⟨hi',ehi',phi',shi',qhi'⟩:=hideP (add_sz (mkQ qx2 qy2) qo)
  refine ⟨((x2,y2),o),rfl,⟨PV.sz_mono (mkP sx2 sy2) (by decide),PV.sz_mono so (by decide)⟩,?_⟩
  rw [show vaddS.val ((x2,y2),o)=hi'.v from ehi']
  conv=>whnf
  have clo:=(PV.v_eq elo).symm
  have chi:=(PV.v_eq ehi').symm
  rw [addz _ _ po,show PV.p (x1,y1)=B.1 from by rw [hB]; rfl] at clo
  rw [addz _ _ po,show PV.p (x2,y2)=B.2 from by rw [hB]; rfl] at chi
  obtain ⟨lx,ly⟩:=lo
  obtain ⟨hx,hy⟩:=hi'
  have b1:lx=RV.of B.1.1:=congrArg Prod.fst clo
  have b2:ly=RV.of B.1.2:=congrArg Prod.snd clo
  have b3:hx=RV.of B.2.1:=congrArg Prod.fst chi
  have b4:hy=RV.of B.2.2:=congrArg Prod.snd chi
  refine .inr ⟨1,?_⟩
  conv=>whnf
  have hcom:comP B []=rotR (cleanL (boxR B)):=rfl
  obtain ⟨L,hL⟩:∃ L,L=boxR B:=⟨_,rfl⟩
  have hl4:L.length=4:=by rw [hL]; rfl
  have hW:=box_blk b1 b2 b3 b4
  rw [← hL] at hcom hE hW hLs
  have hRl:(rotR (cleanL L)).length=(cleanL L).length:=rotR_length _
  obtain ⟨M,hM⟩:∃ M,M=(cleanL L).length:=⟨_,rfl⟩
  obtain ⟨gs,hgs⟩:∃ M,M=rowsQ (rotR (cleanL L)):=⟨_,rfl⟩
  obtain ⟨cu,hcu⟩:∃ c,c=capU:=⟨_,rfl⟩
  rw [← hM] at hE hRl
  refine ⟨(L,4),[12],by rw [show cleanS.args (L,4)=[Value.slice (some ⟨0,0,none⟩) L.length 4] from rfl,hl4]; rfl,⟨(fun e=>by have e:L=[]:=e; rw [e] at hl4; cases hl4),by show L.length≤_; omega,fun v hv=>Q2.mono (hLs v hv) (by decide)⟩,?_⟩
  rw [show cleanS.blks (L,4)=[.flat false L.length 6 (rowsQ L)] from rfl,show cleanS.val (L,4)=.slice (some ⟨1,0,none⟩) M cu from by rw [hM,hcu]; rfl,show cleanS.new (L,4)=some (.flat true M 6 gs) from by rw [hM,hgs]; rfl]
  conv=>whnf
  refine ⟨⟨(fun h=>by cases h),hW.esz,hW.n,hW.row,hW.flat⟩,?_⟩
  conv=>whnf
  refine ⟨_,rfl,?_⟩
  conv=>whnf
  by_cases h7:M < 3
  ·rw [show decide ((M:Int) < 3)=true from decide_eq_true (by omega)]
   conv=>whnf
   exact fin0 12 _ (by rw [hE,if_pos h7]) (by decide)
  ·rw [show decide ((M:Int) < 3)=false from decide_eq_false (by omega)]
   rw [if_neg h7] at hE
   conv=>whnf
   obtain ⟨f1,f2⟩:=common_new (b:=((x1,y1),(x2,y2))) (i:=none) (by rw [hB] at hE; exact hE) (by rw [hB] at hcom; exact hcom) hRl hgs
   rw [hK]
   unfold qRes
   rw [f1,f2]
   refine ⟨13,?_⟩
   conv=>whnf
   exact ⟨⟨rfl,BlkLe.flat_flat (fun h=>h) (fun r hr=>by rw [hgs]; rfl)⟩,_,rfl,by rw [hcu]; exact .refl _⟩
 | some i =>
  obtain ⟨l,c⟩:=i
  have hlen:l.length≤1099511627776:=hlen
  have hsl:∀ m∈l,R3.sz 1048576 m:=hsl
  have hsz:l.length≤60→∀ k,k≤l.length→(partR b.p ((qs l).take k)).length≤274877906944∧∀ v∈partR b.p ((qs l).take k),Q2.sz 262144 v:=hsz
  obtain ⟨N,hN⟩:∃ N,N=l.length:=⟨_,rfl⟩
  obtain ⟨G,hG⟩:∃ g,g=rowsLn l:=⟨_,rfl⟩
  obtain ⟨⟨x1,y1⟩,⟨x2,y2⟩⟩:=b
  have sx1:=sb1.1
  have sy1:=sb1.2
  have sx2:=sb2.1
  have sy2:=sb2.2
  obtain ⟨B,hB⟩:∃ B,B=XV.p ((x1,y1),(x2,y2)):=⟨_,rfl⟩
  obtain ⟨Q,hQ⟩:∃ Q,Q=qs l:=⟨_,rfl⟩
  rw [← hB,← hQ] at hsz
  obtain ⟨K,hK⟩:∃ K,K=qRes commonS (((x1,y1),(x2,y2)),some (l,c)):=⟨_,rfl⟩
  have fin0:∀ (e:Int) (H:Heap),comE B Q=e→e≠0→K (.tuple ⟨[.slice none 0 0,.int .i64 e]⟩) H:=fun e H he h0=>by
   obtain ⟨f1,f2⟩:=common_err (b:=((x1,y1),(x2,y2))) (i:=some (l,c)) (by rw [hB,hQ] at he; exact he) h0
   rw [hK]
   unfold qRes
   rw [f1,f2]
   exact ⟨_,rfl,.refl _⟩
  have qlen:Q.length=N:=by rw [hQ,hN]; exact List.length_map ..
  rw [show commonS.blks (((x1,y1),(x2,y2)),some (l,c))=[.flat false N 9 G] from by rw [hN,hG]; rfl,show commonS.args (((x1,y1),(x2,y2)),some (l,c))=[XV.v ((x1,y1),(x2,y2)),.slice (some ⟨0,0,none⟩) N c] from by rw [hN]; rfl,← hK]
  rw [← hN] at hlen
  conv=>whnf
  obtain ⟨z1,ez1,pz1⟩:=hideZ (cmpQ x1.q x2.q)
  refine ⟨(x1,x2),rfl,⟨RV.sz_ok sx1 (by decide),RV.sz_ok sx2 (by decide)⟩,?_⟩
  rw [show qcmpS.val (x1,x2)=.int .i64 z1 from ez1]
  conv=>whnf
  by_cases h1:x2.q < x1.q
  ·rw [show decide (z1 > 0)=true from decide_eq_true (by rw [pz1]; exact cmpQ_pos.2 h1)]
   conv=>whnf
   exact fin0 1 _ (if_pos (.inl fun e=>by rw [hB] at e; have:=e.1; exact absurd h1 (Rat.not_lt.2 this))) (by decide)
  rw [show decide (z1 > 0)=false from decide_eq_false (by rw [pz1]; exact fun e=>h1 (cmpQ_pos.1 e))]
  conv=>whnf
  obtain ⟨z2,ez2,pz2⟩:=hideZ (cmpQ y1.q y2.q)
  refine ⟨(y1,y2),rfl,⟨RV.sz_ok sy1 (by decide),RV.sz_ok sy2 (by decide)⟩,?_⟩
  rw [show qcmpS.val (y1,y2)=.int .i64 z2 from ez2]
  conv=>whnf
  by_cases h2:y2.q < y1.q
  ·rw [show decide (z2 > 0)=true from decide_eq_true (by rw [pz2]; exact cmpQ_pos.2 h2)]
   conv=>whnf
   exact fin0 1 _ (if_pos (.inl fun e=>by rw [hB] at e; have:=e.2; exact absurd h2 (Rat.not_lt.2 this))) (by decide)
  rw [show decide (z2 > 0)=false from decide_eq_false (by rw [pz2]; exact fun e=>h2 (cmpQ_pos.1 e))]
  have hok:okB B:=by rw [hB]; exact ⟨Rat.not_lt.1 h1,Rat.not_lt.1 h2⟩
  conv=>whnf
  refine .inl ⟨fun mm tz hz=>∃ (i:Nat),Pat (some (.slice (some ⟨0,0,none⟩) N c)::some (.func (.func 68) #[] #[])::nos 5 (some (.int .i64 N)::some (.int .i64 i)::nos 10 [])) tz∧hz=[some (.flat false N 9 G),some (.expl true 12 [XV.cells ((x1,y1),(x2,y2))])]∧N - i=mm∧(i≤N∧goodUp l i),.inr ⟨[0,1],[0,1,7,8],?_⟩,?_⟩
  ·conv=>whnf
   intro _
   conv=>whnf
   refine ⟨_,0,(.keep (.keep (.sk 5 (.keep (.keep (.sk 10 .nil rfl))) rfl))),rfl,rfl,?_⟩
   exact ⟨Nat.zero_le _,goodUp_start _⟩
  rintro mm tms _ ⟨i,hpat,rfl,rfl,⟨hi,hU⟩⟩
  obtain ⟨az,rfl⟩:∃ az:Nat→Value,tms=.slice (some ⟨0,0,none⟩) N c::.func (.func 68) #[] #[]::zs az 2 5 (.int .i64 N::.int .i64 i::zs az 9 10 []):=pat_fill hpat
  clear hpat
  conv=>whnf
  refine br_intro (fun h3=>?_) (fun h3=>?_)
  ·have h3:i < N:=by
    have:=of_decide_eq_true h3
    omega
   have e7:IntKind.i64.wrap ((i:Int)+1)=((i+1:Nat):Int):=by rw [wrapi64 (by omega) (by omega)]; rfl
   obtain ⟨m,hml,hmm,hrow⟩:=rowsLn_get (l:=l) (k:=i) (by omega)
   rw [← hG] at hrow
   conv=>whnf
   refine ⟨⟨by omega,by omega⟩,?_⟩
   simp only [toNat_cast,rowAdd_eq,Nat.zero_add]
   conv=>whnf
   refine ⟨by show i < N; omega,?_⟩
   conv=>whnf
   rw [hrow]
   conv=>whnf
   refine ⟨m,rfl,hsl m hmm,?_⟩
   by_cases h4:isL m.q
   ·rw [show lnotS.val m=.bool false from congrArg Value.bool (decide_eq_false fun e=>e h4)]
    conv=>whnf
    rw [e7]
    refine .inr ⟨[0,1],[0,1,7,8],?_⟩
    conv=>whnf
    intro _
    conv=>whnf
    refine ⟨_,?_,i+1,(.keep (.keep (.sk 5 (.keep (.keep (.sk 10 .nil rfl))) rfl))),rfl,rfl,?_⟩
    ·omega
    ·exact ⟨by omega,goodUp_step hU hml h4⟩
   ·rw [show lnotS.val m=.bool true from congrArg Value.bool (decide_eq_true h4)]
    conv=>whnf
    exact fin0 1 _ (if_pos (.inr (by rw [hQ]; exact bad_of hmm h4))) (by decide)
  ·have h3:i=N:=by
    have:=of_decide_eq_false h3
    omega
   subst h3
   have hgood:badL Q=false:=by rw [hQ]; exact goodUp_end (by rw [← hN]; exact hU)
   conv=>whnf
   by_cases h5:60 < i
   ·rw [show decide ((i:Int) > 60)=true from decide_eq_true (by omega)]
    conv=>whnf
    exact fin0 4 _ (by
     unfold comE
     rw [if_neg (fun e=>e.elim (fun e=>e hok) (fun e=>by rw [hgood] at e; cases e)),if_pos (by rw [qlen]; exact h5)]) (by decide)
   rw [show decide ((i:Int) > 60)=false from decide_eq_false (by omega)]
   have hE:comE B Q=if partR B Q=[] then 11 else if (cleanL (partR B Q)).length < 3 then 12 else 0:=by
    unfold comE
    rw [if_neg (fun e=>e.elim (fun e=>e hok) (fun e=>by rw [hgood] at e; cases e)),if_neg (by rw [qlen]; exact h5)]
   have q1:=mkQ (RV.qb' sx1 (by decide)) (RV.qb' sy1 (by decide))
   have q2:=mkQ (RV.qb' sx2 (by decide)) (RV.qb' sy2 (by decide))
   conv=>whnf
   obtain ⟨o,co,eo,po,so,qo⟩:=hidePc (ofsz (0) (0) (by decide) (by decide))
   refine ⟨(((0:Int),(0:Int)):Int × Int),rfl,⟨⟨by decide,by decide⟩,⟨by decide,by decide⟩⟩,?_⟩
   rw [show vofS.val (((0:Int),(0:Int)):Int × Int)=o.v from eo]
   conv=>whnf
   refine .inl ⟨10,[[],[0],[],[0,1,2],[],[4],[],[0,1,2,3,4,5,6],[],[],[0,1,2,3,4,5,6,7,8,9],[0,1,2,3,4,5,6,7,8,9,10]],by kernel_rfl,?_⟩
   conv=>whnf
   have qx1:=RV.qb' sx1 (by decide)
   have qy1:=RV.qb' sy1 (by decide)
   have qx2:=RV.qb' sx2 (by decide)
   have qy2:=RV.qb' sy2 (by decide)
   obtain ⟨lo,elo,plo,slo,qlo⟩:=hideP (add_sz (mkQ qx1 qy1) qo)
   refine ⟨((x1,y1),o),rfl,⟨PV.sz_mono (mkP sx1 sy1) (by decide),PV.sz_mono so (by decide)⟩,?_⟩
   rw [show vaddS.val ((x1,y1),o)=lo.v from elo]
   conv=>whnf
   obtain ⟨hi',ehi',phi',shi',qhi'⟩:=hideP (add_sz (mkQ qx2 qy2) qo)
   refine ⟨((x2,y2),o),rfl,⟨PV.sz_mono (mkP sx2 sy2) (by decide),PV.sz_mono so (by decide)⟩,?_⟩
   rw [show vaddS.val ((x2,y2),o)=hi'.v from ehi']
   conv=>whnf
   have clo:=(PV.v_eq elo).symm
   have chi:=(PV.v_eq ehi').symm
   rw [addz _ _ po,show PV.p (x1,y1)=B.1 from by rw [hB]; rfl] at clo
   rw [addz _ _ po,show PV.p (x2,y2)=B.2 from by rw [hB]; rfl] at chi
   obtain ⟨lx,ly⟩:=lo
   obtain ⟨hx,hy⟩:=hi'
   have b1:lx=RV.of B.1.1:=congrArg Prod.fst clo
   have b2:ly=RV.of B.1.2:=congrArg Prod.snd clo
   have b3:hx=RV.of B.2.1:=congrArg Prod.fst chi
   have b4:hy=RV.of B.2.2:=congrArg Prod.snd chi
   refine .inl ⟨fun mm tz hz=>∃ (k:Nat) (P:List Q2) (d:Nat) (W:Blk),Pat (nos 9 (some (pVal P d)::nos 49 (some (.slice (some ⟨0,0,none⟩) i c)::some (.int .i64 i)::some (.int .i64 k)::nos 17 []))) tz∧hz=[some (.flat false i 9 G),some W]∧i - k=mm∧((k≤i∧P=partR B (Q.take k))∧BlkP' P W),.inr ⟨[0,13],[9,59,60,61],?_⟩,?_⟩
   ·conv=>whnf
    intro _
    conv=>whnf
    refine ⟨_,0,boxR B,4,_,(.sk 9 (.keep (.sk 49 (.keep (.keep (.keep (.sk 17 .nil rfl)))) rfl)) rfl),rfl,rfl,?_⟩
    exact ⟨⟨Nat.zero_le _,rfl⟩,_,fun _=>rfl,box_blk b1 b2 b3 b4⟩
   rintro mm tms _ ⟨k,P,d,W,hpat,rfl,rfl,⟨⟨hk,hP⟩,P',hP',hW⟩⟩
   obtain ⟨az,rfl⟩:∃ az:Nat→Value,tms=zs az 0 9 (pVal P d::zs az 10 49 (.slice (some ⟨0,0,none⟩) i c::.int .i64 i::.int .i64 k::zs az 62 17 [])):=pat_fill hpat
   clear hpat
   conv=>whnf
   refine br_intro (fun h6=>?_) (fun h6=>?_)
   ·have h6:k < i:=by
     have:=of_decide_eq_true h6
     omega
    have e7:IntKind.i64.wrap ((k:Int)+1)=((k+1:Nat):Int):=by rw [wrapi64 (by omega) (by omega)]; rfl
    obtain ⟨m,hml,hmm,hrow⟩:=rowsLn_get (l:=l) (k:=k) (by omega)
    rw [← hG] at hrow
    have sm:=hsl m hmm
    have qm:=R3.qsz sm (by decide)
    have hstep:partR B (Q.take (k+1))=cutR m.q P:=by
     rw [hP,hQ]
     unfold partR qs
     rw [List.take_add_one,List.getElem?_map,hml]
     simp
    cases P with
    | nil =>
     conv=>whnf
     refine ⟨⟨by omega,by omega⟩,?_⟩
     simp only [toNat_cast,rowAdd_eq,Nat.zero_add]
     conv=>whnf
     refine ⟨by show k < i; omega,?_⟩
     conv=>whnf
     rw [hrow]
     conv=>whnf
     refine ⟨1,.flat true P'.length 6 (rowsQ P'),?_⟩
     conv=>whnf
     refine ⟨⟨hW,rfl⟩,?_⟩
     conv=>whnf
     refine ⟨m,[],rfl,trivial,?_⟩
     rw [show (lvalueS 89).new m=some (.flat true 1 9 (fun _=>R3.cells m)) from rfl]
     conv=>whnf
     refine ⟨_,rfl,?_⟩
     conv=>whnf
     intro yl nu fn tm df
     conv=>whnf
     refine .inr ⟨1,?_⟩
     conv=>whnf
     rw [e7]
     refine .inr ⟨[0,1],[9,59,60,61],?_⟩
     conv=>whnf
     intro _
     conv=>whnf
     refine ⟨_,?_,k+1,[],d,_,(.sk 9 (.keep (.sk 49 (.keep (.keep (.keep (.sk 17 .nil rfl)))) rfl)) rfl),rfl,rfl,?_⟩
     ·omega
     ·exact ⟨⟨by omega,by rw [hstep]; rfl⟩,P',fun e=>absurd rfl e,BlkLe.flat_flat (fun h=>h) (fun r hr=>rfl)⟩
    | cons p r =>
     obtain ⟨n,hn⟩:∃ n,n=r.length+1:=⟨_,rfl⟩
     obtain ⟨L,hL⟩:∃ L,L=p::r:=⟨_,rfl⟩
     obtain ⟨g,hg⟩:∃ g,g=rowsQ L:=⟨_,rfl⟩
     have hnL:n=L.length:=by rw [hL,hn]; rfl
     have hLs:∀ v∈L,Q2.sz 262144 v:=by rw [hL,hP]; exact (hsz (by omega) k (by omega)).2
     have hnl0:n≤274877906944:=by rw [hnL,hL,hP]; exact (hsz (by omega) k (by omega)).1
     have hnlen:n≤1099511627776:=by omega
     have hW:BlkLe (.flat true n 6 g) W:=by rw [hnL,hg,hL,← hP' (by simp)]; exact hW
     rw [show pVal (p::r) d=.slice (some ⟨1,0,none⟩) n d from by rw [hn]; rfl]
     rw [← hL] at hP hstep
     clear hL hn
     conv=>whnf
     refine ⟨⟨by omega,by omega⟩,?_⟩
     simp only [toNat_cast,rowAdd_eq,Nat.zero_add]
     conv=>whnf
     refine ⟨by show k < i; omega,?_⟩
     conv=>whnf
     rw [hrow]
     conv=>whnf
     refine ⟨1,.flat true n 6 g,?_⟩
     conv=>whnf
     refine ⟨⟨hW,rfl⟩,?_⟩
     conv=>whnf
     refine ⟨m,[],rfl,trivial,?_⟩
     rw [show (lvalueS 89).new m=some (.flat true 1 9 (fun _=>R3.cells m)) from rfl]
     conv=>whnf
     refine ⟨_,rfl,?_⟩
     conv=>whnf
     intro yl nu fn tm df
     conv=>whnf
     refine .inl ⟨fun mm tz hz=>∃ (j:Nat) (O:List Q2) (q:Nat) (F:Nat→List Value),Pat (some (.func (.yield yl) #[] #[])::some (.pointer (some ⟨3,0,none⟩))::some (.pointer (some ⟨6,0,none⟩))::nos 8 (some (.slice (some ⟨1,0,none⟩) n d)::some (.int .i64 n)::some (.int .i64 j)::nos 49 [])) tz∧hz=[some (.flat false i 9 G),some (.flat true n 6 g),some (.expl true 9 [m.cells]),some (.expl true 1 [[.slice (some ⟨1,0,none⟩) n d]]),some (.expl true 9 [m.cells]),some (.flat true 1 9 fun _=>m.cells),some (.expl true 1 [[.func (.func 89) #[] #[.pointer (some ⟨5,0,none⟩)]]]),some (.expl true 1 [[oVal 9 q]]),some (.lrec (recR Tryz.f103 fn tm df))]++oBlk 6 F q∧n - j=mm∧((j≤n∧q=O.length)∧O=((edges L).take j).flatMap (cutF m.q)∧∀ r,r < q→F r=rowsQ O r),.inr ⟨[0,1,2,3,4,5,6,7,8],[0,1,2,11,12,13],?_⟩,?_⟩
     ·conv=>whnf
      intro _
      conv=>whnf
      refine ⟨_,0,[],0,fun _=>[],(.keep (.keep (.keep (.sk 8 (.keep (.keep (.keep (.sk 49 .nil rfl)))) rfl)))),rfl,rfl,?_⟩
      exact ⟨⟨Nat.zero_le _,rfl⟩,rfl,fun r hr=>absurd hr (Nat.not_lt_zero r)⟩
     rintro mm tms _ ⟨j,O,q,F,hpat,rfl,rfl,⟨⟨hj,hq⟩,hO,hF⟩⟩
     obtain ⟨az,rfl⟩:∃ az:Nat→Value,tms=.func (.yield yl) #[] #[]::.pointer (some ⟨3,0,none⟩)::.pointer (some ⟨6,0,none⟩)::zs az 3 8 (.slice (some ⟨1,0,none⟩) n d::.int .i64 n::.int .i64 j::zs az 14 49 []):=pat_fill hpat
     clear hpat
     have hqb:q≤2*n:=by
      have:=cutF_lens m.q ((edges L).take j)
      rw [← hO,List.length_take] at this
      omega
     cases q with
     | zero =>
      have hO0:O=[]:=List.length_eq_zero_iff.1 hq.symm
      subst hO0
      conv=>whnf
      refine br_intro (fun h7=>?_) (fun h7=>?_)
      ·have h7:j < n:=by
        have:=of_decide_eq_true h7
        omega
       have e8:IntKind.i64.wrap ((j:Int)+1)=((j+1:Nat):Int):=by rw [wrapi64 (by omega) (by omega)]; rfl
       obtain ⟨a,ca,ra,pa,sa,qa⟩:=hideAt (k:=j) (by omega) hLs
       obtain ⟨b,cb,rb,pb,sb,qb⟩:=hideAt (k:=nxt n j) (by rw [hnL]; exact nxt_lt (by omega)) hLs
       have hnx:=nxt_i h7 hnlen
       have hnl:=nxt_lt h7
       have hed:(edges L)[j]?=some (a.p,b.p):=by rw [pa,pb]; rw [hnL] at hnl ⊢; exact edges_get (at2_some (by omega)) (at2_some hnl)
       rw [← pa] at ca
       obtain ⟨u,hu⟩:∃ u,u=nxt n j:=⟨_,rfl⟩
       rw [← hu] at hnx hnl rb
       rw [← hg] at ra rb
       conv=>whnf
       refine ⟨⟨by omega,by omega⟩,?_⟩
       simp only [toNat_cast,rowAdd_eq,Nat.zero_add]
       conv=>whnf
       refine ⟨by show j < n; omega,?_⟩
       conv=>whnf
       rw [ra]
       conv=>whnf
       refine .inl ⟨9,[[],[],[1],[],[3],[1,2,3,4],[0,1,2,3,4,5],[0,1,2,3,4,5,6],[],[0,1,2,3,4,5,6,7,8]],by kernel_rfl,?_⟩
       conv=>whnf
       rw [show decide ((n:Int)≠0)=true from decide_eq_true (by omega)]
       conv=>whnf
       rw [hnx]
       refine ⟨⟨by omega,by omega⟩,?_⟩
       simp only [toNat_cast,rowAdd_eq,Nat.zero_add]
       conv=>whnf
       refine ⟨by show u < n; omega,?_⟩
       conv=>whnf
       rw [rb]
       conv=>whnf
       refine .inl ⟨8,[[],[],[0,1],[],[],[0,1,2,3,4],[],[],[0,1,2,3,4,5,6,7],[0,1,2,3,4,5,6,7,8]],by kernel_rfl,?_⟩
       conv=>whnf
       obtain ⟨x,ex,px,sx,qx⟩:=hideR (val_sz qm qa)
       refine ⟨(m,a),[5],rfl,⟨R3.sz_mono sm (by decide),PV.sz_mono sa (by decide)⟩,?_⟩
       rw [show lvalS.blks (m,a)=[.flat false 1 9 (fun _=>R3.cells m)] from rfl,show lvalS.val (m,a)=x.v from ex,show lvalS.new (m,a)=none from rfl]
       conv=>whnf
       refine ⟨line_blk2 m,?_⟩
       conv=>whnf
       refine ⟨_,rfl,?_⟩
       conv=>whnf
       obtain ⟨y,ey,py,sy,qy⟩:=hideR (val_sz qm qb)
       refine ⟨(m,b),[5],rfl,⟨R3.sz_mono sm (by decide),PV.sz_mono sb (by decide)⟩,?_⟩
       rw [show lvalS.blks (m,b)=[.flat false 1 9 (fun _=>R3.cells m)] from rfl,show lvalS.val (m,b)=y.v from ey,show lvalS.new (m,b)=none from rfl]
       conv=>whnf
       refine ⟨line_blk2 m,?_⟩
       conv=>whnf
       refine ⟨_,rfl,?_⟩
       conv=>whnf
       obtain ⟨z,ez,pz⟩:=hideZ (cmpQ x.q 0)
       refine ⟨x,rfl,RV.sz_ok sx (by decide),?_⟩
       rw [show qsignS.val x=.int .i64 z from ez]
       conv=>whnf
       have hz:=cmpQ_range x.q 0
       rw [← pz] at hz
       have hst:=(flat_step (f:=cutF m.q) hed).trans (congrArg (_++·) (cut_rows px py rfl))
       rw [← hO,← pz] at hst
       by_cases h8:z ≥ 0
       ·rw [show decide (z ≥ 0)=true from decide_eq_true h8]
        rw [if_pos h8] at hst
        conv=>whnf
        refine ⟨rfl,?_⟩
        conv=>whnf
        refine ⟨rfl,?_⟩
        conv=>whnf
        refine ⟨rfl,?_⟩
        conv=>whnf
        refine ⟨by decide,?_⟩
        conv=>whnf
        refine ⟨rfl,?_⟩
        conv=>whnf
        refine .inl ⟨3,[[],[0],[],[0,1,2],[0,1,2,3],[0,1,2,3,4]],by kernel_rfl,?_⟩
        conv=>whnf
        obtain ⟨z3,ez3,pz3⟩:=hideZ (cmpQ x.q 0)
        refine ⟨x,rfl,RV.sz_ok sx (by decide),?_⟩
        rw [show qsignS.val x=.int .i64 z3 from ez3]
        conv=>whnf
        obtain ⟨z2,ez2,pz2⟩:=hideZ (cmpQ y.q 0)
        refine ⟨y,rfl,RV.sz_ok sy (by decide),?_⟩
        rw [show qsignS.val y=.int .i64 z2 from ez2]
        conv=>whnf
        have hz2:=cmpQ_range y.q 0
        rw [← pz2] at hz2
        obtain rfl:z3=z:=pz3.trans pz.symm
        rw [show IntKind.i64.wrap (z3*z2)=z3*z2 from by rcases hz with rfl | rfl | rfl <;> rcases hz2 with rfl | rfl | rfl <;> rfl]
        rw [← pz2] at hst
        by_cases h9:z3*z2 < 0
        ·rw [show decide (z3*z2 < 0)=true from decide_eq_true h9]
         rw [if_pos h9] at hst
         conv=>whnf
         refine .inr (.inr (.inl ⟨9,1,[[],[],[],[1,2],[0,1,2,3],[0,1,2,3,4],[0,1,2,3,4,5],[0,1,2,3,4,5],[],[0,1,2,3,4,5,6,8],[0,1,2,3,4,5,6,7,8,9]],[7],by kernel_rfl,?_⟩))
         conv=>whnf
         obtain ⟨d2,ed2,pd2,sd2,qd2⟩:=hideR (QB.sub qx qy)
         refine ⟨(x,y),rfl,⟨RV.sz_ok sx (by decide),RV.sz_ok sy (by decide)⟩,?_⟩
         rw [show qsubS.val (x,y)=d2.v from ed2]
         conv=>whnf
         obtain ⟨t,et,pt,st,qt⟩:=hideR (QB.div qx qd2 (by decide))
         obtain ⟨e,ee,pe⟩:=hideZ (if d2.q=0 then 10 else 0)
         refine ⟨(x,d2),rfl,⟨RV.sz_ok sx (by decide),RV.sz_ok sd2 (by decide)⟩,?_⟩
         rw [show qquoS.val (x,d2)=.tuple ⟨[t.v,.int .i64 e]⟩ from by rw [← et,← ee]; rfl]
         conv=>whnf
         obtain ⟨w,ew,pw,sw,qw⟩:=hideP (at_sz qa qb qt)
         refine ⟨((a,b),t),rfl,⟨⟨PV.sz_mono sa (by decide),PV.sz_mono sb (by decide)⟩,RV.sz_mono st (by decide)⟩,?_⟩
         rw [show vatS.val ((a,b),t)=w.v from ew]
         conv=>whnf
         have cw:=(PV.v_eq ew).symm
         rw [← pw] at cw
         rw [pd2] at pt
         refine ⟨rfl,?_⟩
         conv=>whnf
         refine ⟨rfl,?_⟩
         conv=>whnf
         refine ⟨rfl,?_⟩
         conv=>whnf
         refine ⟨⟨rfl,by show (0+1+1)*80≤140737488355328; decide⟩,?_⟩
         conv=>whnf
         refine ⟨rfl,?_⟩
         conv=>whnf
         rw [e8]
         refine .inr ⟨[0,1,2,3,4,5,6,7,8,44],[0,1,2,11,12,13],?_⟩
         conv=>whnf
         intro _
         conv=>whnf
         refine ⟨_,?_,j+1,[a.p]++[w.p],0+1+1,_,(.keep (.keep (.keep (.sk 8 (.keep (.keep (.keep (.sk 49 .nil rfl)))) rfl)))),rfl,rfl,?_⟩
         ·omega
         ·exact ⟨⟨by omega,rfl⟩,by rw [hst,pw,pt]; rfl,appQ_row (O:=[a.p]) rfl (oneQ_row ca rfl) cw rfl⟩
        ·rw [show decide (z3*z2 < 0)=false from decide_eq_false h9]
         rw [if_neg h9] at hst
         conv=>whnf
         rw [e8]
         refine .inr ⟨[0,1,2,3,4,5,6,7,8,29],[0,1,2,11,12,13],?_⟩
         conv=>whnf
         intro _
         conv=>whnf
         refine ⟨_,?_,j+1,[a.p],0+1,_,(.keep (.keep (.keep (.sk 8 (.keep (.keep (.keep (.sk 49 .nil rfl)))) rfl)))),rfl,rfl,?_⟩
         ·omega
         ·exact ⟨⟨by omega,rfl⟩,by rw [hst]; rfl,oneQ_row ca rfl⟩
       ·rw [show decide (z ≥ 0)=false from decide_eq_false h8]
        rw [if_neg h8] at hst
        conv=>whnf
        refine .inl ⟨3,[[],[0],[],[0,1,2],[0,1,2,3],[0,1,2,3,4]],by kernel_rfl,?_⟩
        conv=>whnf
        obtain ⟨z3,ez3,pz3⟩:=hideZ (cmpQ x.q 0)
        refine ⟨x,rfl,RV.sz_ok sx (by decide),?_⟩
        rw [show qsignS.val x=.int .i64 z3 from ez3]
        conv=>whnf
        obtain ⟨z2,ez2,pz2⟩:=hideZ (cmpQ y.q 0)
        refine ⟨y,rfl,RV.sz_ok sy (by decide),?_⟩
        rw [show qsignS.val y=.int .i64 z2 from ez2]
        conv=>whnf
        have hz2:=cmpQ_range y.q 0
        rw [← pz2] at hz2
        obtain rfl:z3=z:=pz3.trans pz.symm
        rw [show IntKind.i64.wrap (z3*z2)=z3*z2 from by rcases hz with rfl | rfl | rfl <;> rcases hz2 with rfl | rfl | rfl <;> rfl]
        rw [← pz2] at hst
        by_cases h9:z3*z2 < 0
        ·rw [show decide (z3*z2 < 0)=true from decide_eq_true h9]
         rw [if_pos h9] at hst
         conv=>whnf
         refine .inr (.inr (.inl ⟨9,1,[[],[],[],[1,2],[0,1,2,3],[0,1,2,3,4],[0,1,2,3,4,5],[0,1,2,3,4,5],[],[0,1,2,3,4,5,6,8],[0,1,2,3,4,5,6,7,8,9]],[7],by kernel_rfl,?_⟩))
         conv=>whnf
         obtain ⟨d2,ed2,pd2,sd2,qd2⟩:=hideR (QB.sub qx qy)
         refine ⟨(x,y),rfl,⟨RV.sz_ok sx (by decide),RV.sz_ok sy (by decide)⟩,?_⟩
         rw [show qsubS.val (x,y)=d2.v from ed2]
         conv=>whnf
         obtain ⟨t,et,pt,st,qt⟩:=hideR (QB.div qx qd2 (by decide))
         obtain ⟨e,ee,pe⟩:=hideZ (if d2.q=0 then 10 else 0)
         refine ⟨(x,d2),rfl,⟨RV.sz_ok sx (by decide),RV.sz_ok sd2 (by decide)⟩,?_⟩
         rw [show qquoS.val (x,d2)=.tuple ⟨[t.v,.int .i64 e]⟩ from by rw [← et,← ee]; rfl]
         conv=>whnf
         obtain ⟨w,ew,pw,sw,qw⟩:=hideP (at_sz qa qb qt)
         refine ⟨((a,b),t),rfl,⟨⟨PV.sz_mono sa (by decide),PV.sz_mono sb (by decide)⟩,RV.sz_mono st (by decide)⟩,?_⟩
         rw [show vatS.val ((a,b),t)=w.v from ew]
         conv=>whnf
         have cw:=(PV.v_eq ew).symm
         rw [← pw] at cw
         rw [pd2] at pt
         refine ⟨rfl,?_⟩
         conv=>whnf
         refine ⟨rfl,?_⟩
         conv=>whnf
         refine ⟨rfl,?_⟩
         conv=>whnf
         refine ⟨by decide,?_⟩
         conv=>whnf
         refine ⟨rfl,?_⟩
         conv=>whnf
         rw [e8]
         refine .inr ⟨[0,1,2,3,4,5,6,7,8,41],[0,1,2,11,12,13],?_⟩
         conv=>whnf
         intro _
         conv=>whnf
         refine ⟨_,?_,j+1,[w.p],0+1,_,(.keep (.keep (.keep (.sk 8 (.keep (.keep (.keep (.sk 49 .nil rfl)))) rfl)))),rfl,rfl,?_⟩
         ·omega
         ·exact ⟨⟨by omega,rfl⟩,by rw [hst,pw,pt]; rfl,oneQ_row cw rfl⟩
        ·rw [show decide (z3*z2 < 0)=false from decide_eq_false h9]
         rw [if_neg h9] at hst
         conv=>whnf
         rw [e8]
         refine .inr ⟨[0,1,2,3,4,5,6,7,8],[0,1,2,11,12,13],?_⟩
         conv=>whnf
         intro _
         conv=>whnf
         refine ⟨_,?_,j+1,[],0,fun _=>[],(.keep (.keep (.keep (.sk 8 (.keep (.keep (.keep (.sk 49 .nil rfl)))) rfl)))),rfl,rfl,?_⟩
         ·omega
         ·exact ⟨⟨by omega,rfl⟩,by rw [hst]; rfl,fun r hr=>absurd hr (Nat.not_lt_zero r)⟩
      ·have h7:j=n:=by
        have:=of_decide_eq_false h7
        omega
       subst h7
       have hcut:cutR m.q L=[]:=by rw [hO,cutF_eq,hnL,← edges_length L,List.take_length]
       conv=>whnf
       rw [e7]
       refine .inr ⟨[0,1],[9,59,60,61],?_⟩
       conv=>whnf
       intro _
       conv=>whnf
       refine ⟨_,?_,k+1,[],d,_,(.sk 9 (.keep (.sk 49 (.keep (.keep (.keep (.sk 17 .nil rfl)))) rfl)) rfl),rfl,rfl,?_⟩
       ·omega
       ·exact ⟨⟨by omega,by rw [hstep,hcut]⟩,L,fun e=>absurd rfl e,by unfold BlkP; rw [← hnL,← hg]; exact BlkLe.flat_flat (fun h=>h) (fun r hr=>by rw [hg]; rfl)⟩
     | succ q =>
      conv=>whnf
      refine br_intro (fun h7=>?_) (fun h7=>?_)
      ·have h7:j < n:=by
        have:=of_decide_eq_true h7
        omega
       have e8:IntKind.i64.wrap ((j:Int)+1)=((j+1:Nat):Int):=by rw [wrapi64 (by omega) (by omega)]; rfl
       obtain ⟨a,ca,ra,pa,sa,qa⟩:=hideAt (k:=j) (by omega) hLs
       obtain ⟨b,cb,rb,pb,sb,qb⟩:=hideAt (k:=nxt n j) (by rw [hnL]; exact nxt_lt (by omega)) hLs
       have hnx:=nxt_i h7 hnlen
       have hnl:=nxt_lt h7
       have hed:(edges L)[j]?=some (a.p,b.p):=by rw [pa,pb]; rw [hnL] at hnl ⊢; exact edges_get (at2_some (by omega)) (at2_some hnl)
       rw [← pa] at ca
       obtain ⟨u,hu⟩:∃ u,u=nxt n j:=⟨_,rfl⟩
       rw [← hu] at hnx hnl rb
       rw [← hg] at ra rb
       conv=>whnf
       refine ⟨⟨by omega,by omega⟩,?_⟩
       simp only [toNat_cast,rowAdd_eq,Nat.zero_add]
       conv=>whnf
       refine ⟨by show j < n; omega,?_⟩
       conv=>whnf
       rw [ra]
       conv=>whnf
       refine .inl ⟨9,[[],[],[1],[],[3],[1,2,3,4],[0,1,2,3,4,5],[0,1,2,3,4,5,6],[],[0,1,2,3,4,5,6,7,8]],by kernel_rfl,?_⟩
       conv=>whnf
       rw [show decide ((n:Int)≠0)=true from decide_eq_true (by omega)]
       conv=>whnf
       rw [hnx]
       refine ⟨⟨by omega,by omega⟩,?_⟩
       simp only [toNat_cast,rowAdd_eq,Nat.zero_add]
       conv=>whnf
       refine ⟨by show u < n; omega,?_⟩
       conv=>whnf
       rw [rb]
       conv=>whnf
       refine .inl ⟨8,[[],[],[0,1],[],[],[0,1,2,3,4],[],[],[0,1,2,3,4,5,6,7],[0,1,2,3,4,5,6,7,8]],by kernel_rfl,?_⟩
       conv=>whnf
       obtain ⟨x,ex,px,sx,qx⟩:=hideR (val_sz qm qa)
       refine ⟨(m,a),[5],rfl,⟨R3.sz_mono sm (by decide),PV.sz_mono sa (by decide)⟩,?_⟩
       rw [show lvalS.blks (m,a)=[.flat false 1 9 (fun _=>R3.cells m)] from rfl,show lvalS.val (m,a)=x.v from ex,show lvalS.new (m,a)=none from rfl]
       conv=>whnf
       refine ⟨line_blk2 m,?_⟩
       conv=>whnf
       refine ⟨_,rfl,?_⟩
       conv=>whnf
       obtain ⟨y,ey,py,sy,qy⟩:=hideR (val_sz qm qb)
       refine ⟨(m,b),[5],rfl,⟨R3.sz_mono sm (by decide),PV.sz_mono sb (by decide)⟩,?_⟩
       rw [show lvalS.blks (m,b)=[.flat false 1 9 (fun _=>R3.cells m)] from rfl,show lvalS.val (m,b)=y.v from ey,show lvalS.new (m,b)=none from rfl]
       conv=>whnf
       refine ⟨line_blk2 m,?_⟩
       conv=>whnf
       refine ⟨_,rfl,?_⟩
       conv=>whnf
       obtain ⟨z,ez,pz⟩:=hideZ (cmpQ x.q 0)
       refine ⟨x,rfl,RV.sz_ok sx (by decide),?_⟩
       rw [show qsignS.val x=.int .i64 z from ez]
       conv=>whnf
       have hz:=cmpQ_range x.q 0
       rw [← pz] at hz
       have hst:=(flat_step (f:=cutF m.q) hed).trans (congrArg (_++·) (cut_rows px py rfl))
       rw [← hO,← pz] at hst
       by_cases h8:z ≥ 0
       ·rw [show decide (z ≥ 0)=true from decide_eq_true h8]
        rw [if_pos h8] at hst
        conv=>whnf
        refine ⟨rfl,?_⟩
        conv=>whnf
        refine ⟨rfl,?_⟩
        conv=>whnf
        refine ⟨rfl,?_⟩
        conv=>whnf
        refine ⟨⟨rfl,by show (q+1+1)*80≤140737488355328; omega⟩,?_⟩
        conv=>whnf
        refine ⟨rfl,?_⟩
        conv=>whnf
        refine .inl ⟨3,[[],[0],[],[0,1,2],[0,1,2,3],[0,1,2,3,4]],by kernel_rfl,?_⟩
        conv=>whnf
        obtain ⟨z3,ez3,pz3⟩:=hideZ (cmpQ x.q 0)
        refine ⟨x,rfl,RV.sz_ok sx (by decide),?_⟩
        rw [show qsignS.val x=.int .i64 z3 from ez3]
        conv=>whnf
        obtain ⟨z2,ez2,pz2⟩:=hideZ (cmpQ y.q 0)
        refine ⟨y,rfl,RV.sz_ok sy (by decide),?_⟩
        rw [show qsignS.val y=.int .i64 z2 from ez2]
        conv=>whnf
        have hz2:=cmpQ_range y.q 0
        rw [← pz2] at hz2
        obtain rfl:z3=z:=pz3.trans pz.symm
        rw [show IntKind.i64.wrap (z3*z2)=z3*z2 from by rcases hz with rfl | rfl | rfl <;> rcases hz2 with rfl | rfl | rfl <;> rfl]
        rw [← pz2] at hst
        by_cases h9:z3*z2 < 0
        ·rw [show decide (z3*z2 < 0)=true from decide_eq_true h9]
         rw [if_pos h9] at hst
         conv=>whnf
         refine .inr (.inr (.inl ⟨9,1,[[],[],[],[1,2],[0,1,2,3],[0,1,2,3,4],[0,1,2,3,4,5],[0,1,2,3,4,5],[],[0,1,2,3,4,5,6,8],[0,1,2,3,4,5,6,7,8,9]],[7],by kernel_rfl,?_⟩))
         conv=>whnf
         obtain ⟨d2,ed2,pd2,sd2,qd2⟩:=hideR (QB.sub qx qy)
         refine ⟨(x,y),rfl,⟨RV.sz_ok sx (by decide),RV.sz_ok sy (by decide)⟩,?_⟩
         rw [show qsubS.val (x,y)=d2.v from ed2]
         conv=>whnf
         obtain ⟨t,et,pt,st,qt⟩:=hideR (QB.div qx qd2 (by decide))
         obtain ⟨e,ee,pe⟩:=hideZ (if d2.q=0 then 10 else 0)
         refine ⟨(x,d2),rfl,⟨RV.sz_ok sx (by decide),RV.sz_ok sd2 (by decide)⟩,?_⟩
         rw [show qquoS.val (x,d2)=.tuple ⟨[t.v,.int .i64 e]⟩ from by rw [← et,← ee]; rfl]
         conv=>whnf
         obtain ⟨w,ew,pw,sw,qw⟩:=hideP (at_sz qa qb qt)
         refine ⟨((a,b),t),rfl,⟨⟨PV.sz_mono sa (by decide),PV.sz_mono sb (by decide)⟩,RV.sz_mono st (by decide)⟩,?_⟩
         rw [show vatS.val ((a,b),t)=w.v from ew]
         conv=>whnf
         have cw:=(PV.v_eq ew).symm
         rw [← pw] at cw
         rw [pd2] at pt
         refine ⟨rfl,?_⟩
         conv=>whnf
         refine ⟨rfl,?_⟩
         conv=>whnf
         refine ⟨rfl,?_⟩
         conv=>whnf
         refine ⟨⟨rfl,by show (q+1+1+1)*80≤140737488355328; omega⟩,?_⟩
         conv=>whnf
         refine ⟨rfl,?_⟩
         conv=>whnf
         rw [e8]
         refine .inr ⟨[0,1,2,3,4,5,6,7,8,45],[0,1,2,11,12,13],?_⟩
         conv=>whnf
         intro _
         conv=>whnf
         refine ⟨_,?_,j+1,(O++[a.p])++[w.p],q+1+1+1,_,(.keep (.keep (.keep (.sk 8 (.keep (.keep (.keep (.sk 49 .nil rfl)))) rfl)))),rfl,rfl,?_⟩
         ·omega
         ·exact ⟨⟨by omega,by rw [List.length_append,List.length_append,← hq]; rfl⟩,by rw [hst,pw,pt]; simp,appQ_row (O:=O++[a.p]) (by rw [List.length_append,← hq]; rfl) (appQ_row hq hF ca rfl) cw rfl⟩
        ·rw [show decide (z3*z2 < 0)=false from decide_eq_false h9]
         rw [if_neg h9] at hst
         conv=>whnf
         rw [e8]
         refine .inr ⟨[0,1,2,3,4,5,6,7,8,30],[0,1,2,11,12,13],?_⟩
         conv=>whnf
         intro _
         conv=>whnf
         refine ⟨_,?_,j+1,O++[a.p],q+1+1,_,(.keep (.keep (.keep (.sk 8 (.keep (.keep (.keep (.sk 49 .nil rfl)))) rfl)))),rfl,rfl,?_⟩
         ·omega
         ·exact ⟨⟨by omega,by rw [List.length_append,← hq]; rfl⟩,by rw [hst]; simp,appQ_row hq hF ca rfl⟩
       ·rw [show decide (z ≥ 0)=false from decide_eq_false h8]
        rw [if_neg h8] at hst
        conv=>whnf
        refine .inl ⟨3,[[],[0],[],[0,1,2],[0,1,2,3],[0,1,2,3,4]],by kernel_rfl,?_⟩
        conv=>whnf
        obtain ⟨z3,ez3,pz3⟩:=hideZ (cmpQ x.q 0)
        refine ⟨x,rfl,RV.sz_ok sx (by decide),?_⟩
        rw [show qsignS.val x=.int .i64 z3 from ez3]
        conv=>whnf
        obtain ⟨z2,ez2,pz2⟩:=hideZ (cmpQ y.q 0)
        refine ⟨y,rfl,RV.sz_ok sy (by decide),?_⟩
        rw [show qsignS.val y=.int .i64 z2 from ez2]
        conv=>whnf
        have hz2:=cmpQ_range y.q 0
        rw [← pz2] at hz2
        obtain rfl:z3=z:=pz3.trans pz.symm
        rw [show IntKind.i64.wrap (z3*z2)=z3*z2 from by rcases hz with rfl | rfl | rfl <;> rcases hz2 with rfl | rfl | rfl <;> rfl]
        rw [← pz2] at hst
        by_cases h9:z3*z2 < 0
        ·rw [show decide (z3*z2 < 0)=true from decide_eq_true h9]
         rw [if_pos h9] at hst
         conv=>whnf
         refine .inr (.inr (.inl ⟨9,1,[[],[],[],[1,2],[0,1,2,3],[0,1,2,3,4],[0,1,2,3,4,5],[0,1,2,3,4,5],[],[0,1,2,3,4,5,6,8],[0,1,2,3,4,5,6,7,8,9]],[7],by kernel_rfl,?_⟩))
         conv=>whnf
         obtain ⟨d2,ed2,pd2,sd2,qd2⟩:=hideR (QB.sub qx qy)
         refine ⟨(x,y),rfl,⟨RV.sz_ok sx (by decide),RV.sz_ok sy (by decide)⟩,?_⟩
         rw [show qsubS.val (x,y)=d2.v from ed2]
         conv=>whnf
         obtain ⟨t,et,pt,st,qt⟩:=hideR (QB.div qx qd2 (by decide))
         obtain ⟨e,ee,pe⟩:=hideZ (if d2.q=0 then 10 else 0)
         refine ⟨(x,d2),rfl,⟨RV.sz_ok sx (by decide),RV.sz_ok sd2 (by decide)⟩,?_⟩
         rw [show qquoS.val (x,d2)=.tuple ⟨[t.v,.int .i64 e]⟩ from by rw [← et,← ee]; rfl]
         conv=>whnf
         obtain ⟨w,ew,pw,sw,qw⟩:=hideP (at_sz qa qb qt)
         refine ⟨((a,b),t),rfl,⟨⟨PV.sz_mono sa (by decide),PV.sz_mono sb (by decide)⟩,RV.sz_mono st (by decide)⟩,?_⟩
         rw [show vatS.val ((a,b),t)=w.v from ew]
         conv=>whnf
         have cw:=(PV.v_eq ew).symm
         rw [← pw] at cw
         rw [pd2] at pt
         refine ⟨rfl,?_⟩
         conv=>whnf
         refine ⟨rfl,?_⟩
         conv=>whnf
         refine ⟨rfl,?_⟩
         conv=>whnf
         refine ⟨⟨rfl,by show (q+1+1)*80≤140737488355328; omega⟩,?_⟩
         conv=>whnf
         refine ⟨rfl,?_⟩
         conv=>whnf
         rw [e8]
         refine .inr ⟨[0,1,2,3,4,5,6,7,8,42],[0,1,2,11,12,13],?_⟩
         conv=>whnf
         intro _
         conv=>whnf
         refine ⟨_,?_,j+1,O++[w.p],q+1+1,_,(.keep (.keep (.keep (.sk 8 (.keep (.keep (.keep (.sk 49 .nil rfl)))) rfl)))),rfl,rfl,?_⟩
         ·omega
         ·exact ⟨⟨by omega,by rw [List.length_append,← hq]; rfl⟩,by rw [hst,pw,pt]; simp,appQ_row hq hF cw rfl⟩
        ·rw [show decide (z3*z2 < 0)=false from decide_eq_false h9]
         rw [if_neg h9] at hst
         conv=>whnf
         rw [e8]
         refine .inr ⟨[0,1,2,3,4,5,6,7,8,9],[0,1,2,11,12,13],?_⟩
         conv=>whnf
         intro _
         conv=>whnf
         refine ⟨_,?_,j+1,O,q+1,F,(.keep (.keep (.keep (.sk 8 (.keep (.keep (.keep (.sk 49 .nil rfl)))) rfl)))),rfl,rfl,?_⟩
         ·omega
         ·exact ⟨⟨by omega,hq⟩,by rw [hst]; simp,hF⟩
      ·have h7:j=n:=by
        have:=of_decide_eq_false h7
        omega
       subst h7
       have hcut:cutR m.q L=O:=by rw [hO,cutF_eq,hnL,← edges_length L,List.take_length]
       obtain ⟨p1,r1,rfl⟩:∃ p1 r1,O=p1::r1:=List.exists_cons_of_ne_nil (fun e=>by rw [e] at hq; cases hq)
       obtain rfl:q=r1.length:=by simpa using hq
       conv=>whnf
       rw [e7]
       refine .inr ⟨[0,9],[9,59,60,61],?_⟩
       conv=>whnf
       intro _
       conv=>whnf
       refine ⟨_,?_,k+1,p1::r1,capU,_,(.sk 9 (.keep (.sk 49 (.keep (.keep (.keep (.sk 17 .nil rfl)))) rfl)) rfl),rfl,rfl,?_⟩
       ·omega
       ·exact ⟨⟨by omega,by rw [hstep,hcut]⟩,_,fun _=>rfl,BlkLe.flat_rows (fun h=>h) hF (fun r hr=>rfl)⟩
   ·have h6:k=i:=by
     have:=of_decide_eq_false h6
     omega
    subst h6
    rw [show Q.take k=Q from List.take_of_length_le (by omega)] at hP
    cases P with
    | nil =>
     conv=>whnf
     exact fin0 11 _ (by rw [hE,if_pos hP.symm]) (by decide)
    | cons p r =>
     obtain ⟨n,hn⟩:∃ n,n=r.length+1:=⟨_,rfl⟩
     obtain ⟨L,hL⟩:∃ L,L=p::r:=⟨_,rfl⟩
     obtain ⟨g,hg⟩:∃ g,g=rowsQ L:=⟨_,rfl⟩
     have hnL:n=L.length:=by rw [hL,hn]; rfl
     have hW:BlkLe (.flat true n 6 g) W:=by rw [hnL,hg,hL,← hP' (by simp)]; exact hW
     rw [show pVal (p::r) d=.slice (some ⟨1,0,none⟩) n d from by rw [hn]; rfl]
     rw [← hL] at hP
     have hLne:L≠[]:=by rw [hL]; simp
     rw [← hP] at hE
     rw [if_neg hLne] at hE
     have hpos:0 < n:=by omega
     have hln:n≤1099511627776:=by
      have:=(hsz (by omega) k (by omega)).1
      rw [show Q.take k=Q from List.take_of_length_le (by omega),← hP,← hnL] at this
      omega
     have hLs:∀ v∈L,Q2.sz 262144 v:=by
      have:=(hsz (by omega) k (by omega)).2
      rw [show Q.take k=Q from List.take_of_length_le (by omega),← hP] at this
      exact this
     clear hL hn
     have hRl:(rotR (cleanL L)).length=(cleanL L).length:=rotR_length _
     have hcom:comP B Q=rotR (cleanL L):=by unfold comP; rw [← hP]
     obtain ⟨M,hM⟩:∃ M,M=(cleanL L).length:=⟨_,rfl⟩
     obtain ⟨gs,hgs⟩:∃ M,M=rowsQ (rotR (cleanL L)):=⟨_,rfl⟩
     obtain ⟨cu,hcu⟩:∃ c,c=capU:=⟨_,rfl⟩
     rw [← hM] at hE hRl
     conv=>whnf
     rw [show (((n:Nat):Int) == 0)=false from by simp; omega]
     conv=>whnf
     refine ⟨(L,d),[1],by rw [show cleanS.args (L,d)=[.slice (some ⟨0,0,none⟩) n d] from by rw [hnL]; rfl]; rfl,⟨hLne,by show L.length≤_; omega,fun v hv=>Q2.mono (hLs v hv) (by decide)⟩,?_⟩
     rw [show cleanS.blks (L,d)=[.flat false n 6 g] from by rw [hnL,hg]; rfl,show cleanS.val (L,d)=.slice (some ⟨1,0,none⟩) M cu from by rw [hM,hcu]; rfl,show cleanS.new (L,d)=some (.flat true M 6 gs) from by rw [hM,hgs]; rfl]
     conv=>whnf
     refine ⟨⟨(fun h=>by cases h),hW.esz,hW.n,hW.row,hW.flat⟩,?_⟩
     conv=>whnf
     refine ⟨_,rfl,?_⟩
     conv=>whnf
     by_cases h7:M < 3
     ·rw [show decide ((M:Int) < 3)=true from decide_eq_true (by omega)]
      conv=>whnf
      exact fin0 12 _ (by rw [hE,if_pos h7]) (by decide)
     ·rw [show decide ((M:Int) < 3)=false from decide_eq_false (by omega)]
      rw [if_neg h7] at hE
      conv=>whnf
      obtain ⟨f1,f2⟩:=common_new (b:=((x1,y1),(x2,y2))) (i:=some (l,c)) (by rw [hB,hQ] at hE; exact hE) (by rw [hB,hQ] at hcom; exact hcom) hRl hgs
      rw [hK]
      unfold qRes
      rw [f1,f2]
      refine ⟨2,?_⟩
      conv=>whnf
      exact ⟨⟨rfl,BlkLe.flat_flat (fun h=>h) (fun r hr=>by rw [hgs]; rfl)⟩,_,rfl,by rw [hcu]; exact .refl _⟩
end Go.Proofs.YtppeponndkfbkaaGreat
/- What the laws of line call: equal lists, sizes. -/
set_option maxRecDepth 20000
set_option maxHeartbeats 4000000
namespace Go.Proofs.YtppeponndkfbkaaGreat
open Go Go.Ae
def Edz:Env:=EnE [(40,.p qofS)]
theorem Edzok:EnvOk Tryz.prog Edz:=EnEk ⟨qof_ok,trivial⟩ trivial
theorem equal_ok:QSnd Tryz.prog 28 sameS:=by
 refine qsnd_of Edzok Dok Tryz.func28 (enters_of Tryz.func28 (by kernel_rfl) rfl) ?_ ?_ ?_
 ·intro ⟨i,j⟩ b hb
  cases i <;> cases j <;> simp [sameS,PL.blks] at hb <;> (try rcases hb with rfl | rfl) <;> (try subst hb) <;> first | rfl | skip
 ·intro i b hb; simp [sameS] at hb
 intro ⟨i,j⟩ hp
 have hp:i.list.length≤1099511627776∧j.list.length≤1099511627776:=hp
 obtain ⟨hpi,hpj⟩:=hp
 cases i with
 | none =>
  cases j with
  | none =>
   conv=>whnf
   refine .inr ⟨1,?_⟩
   conv=>whnf
   exact ⟨.bool true,rfl,.refl _⟩
  | some j =>
   obtain ⟨m,c⟩:=j
   obtain ⟨n,hn⟩:∃ n,n=m.length:=⟨_,rfl⟩
   obtain ⟨g,hg⟩:∃ g,g=rowsP m:=⟨_,rfl⟩
   have fin:∀ b:Bool,b=decide ([]=m)→∃ v',renV (List.range 1) 3 (sameS.val (none,some (m,c)))=some v'∧VLe (.bool b) v':=fun b h=>⟨.bool b,by rw [h]; rfl,.refl _⟩
   rw [show sameS.blks (none,some (m,c))=[.flat false n 6 g] from by rw [hn,hg]; rfl,show sameS.args (none,some (m,c))=[.slice none 0 0,.slice (some ⟨0,0,none⟩) n c] from by rw [hn]; rfl]
   by_cases h0:n=0
   ·have hm:m=[]:=List.length_eq_zero_iff.1 (hn.symm.trans h0)
    subst h0
    conv=>whnf
    refine .inr ⟨1,?_⟩
    conv=>whnf
    exact fin true (by rw [hm]; rfl)
   ·conv=>whnf
    rw [show (((0:Nat):Int) != ((n:Nat):Int))=true from by simp; omega]
    conv=>whnf
    exact fin false (by cases m with | nil=>exact absurd hn h0 | cons a m=>rfl)
 | some i =>
  obtain ⟨l,c⟩:=i
  obtain ⟨k,hk⟩:∃ n,n=l.length:=⟨_,rfl⟩
  obtain ⟨f,hf⟩:∃ g,g=rowsP l:=⟨_,rfl⟩
  have hpi:k≤1099511627776:=by rw [hk]; exact hpi
  cases j with
  | none =>
   have fin:∀ b:Bool,b=decide (l=[])→∃ v',renV (List.range 1) 3 (sameS.val (some (l,c),none))=some v'∧VLe (.bool b) v':=fun b h=>⟨.bool b,by rw [h]; rfl,.refl _⟩
   rw [show sameS.blks (some (l,c),none)=[.flat false k 6 f] from by rw [hk,hf]; rfl,show sameS.args (some (l,c),none)=[.slice (some ⟨0,0,none⟩) k c,.slice none 0 0] from by rw [hk]; rfl]
   by_cases h0:k=0
   ·have hm:l=[]:=List.length_eq_zero_iff.1 (hk.symm.trans h0)
    subst h0
    conv=>whnf
    refine .inr ⟨1,?_⟩
    conv=>whnf
    exact fin true (by rw [hm]; rfl)
   ·conv=>whnf
    rw [show (((k:Nat):Int) != ((0:Nat):Int))=true from by simp; omega]
    conv=>whnf
    exact fin false (by cases l with | nil=>exact absurd hk h0 | cons a m=>rfl)
  | some j =>
   obtain ⟨m,d⟩:=j
   obtain ⟨n,hn⟩:∃ n,n=m.length:=⟨_,rfl⟩
   obtain ⟨g,hg⟩:∃ g,g=rowsP m:=⟨_,rfl⟩
   have fin:∀ b:Bool,b=decide (l=m)→∃ v',renV (List.range 2) 3 (sameS.val (some (l,c),some (m,d)))=some v'∧VLe (.bool b) v':=fun b h=>⟨.bool b,by rw [h]; rfl,.refl _⟩
   rw [show sameS.blks (some (l,c),some (m,d))=[.flat false k 6 f,.flat false n 6 g] from by rw [hk,hf,hn,hg]; rfl,show sameS.args (some (l,c),some (m,d))=[.slice (some ⟨0,0,none⟩) k c,.slice (some ⟨1,0,none⟩) n d] from by rw [hk,hn]; rfl]
   by_cases h0:k=n
   ·obtain rfl:=h0
    conv=>whnf
    rw [show ((k:Int) != (k:Int))=false from by simp]
    conv=>whnf
    refine .inl ⟨fun mm tz hz=>∃ (i:Nat),Pat (some (.slice (some ⟨0,0,none⟩) k c)::some (.slice (some ⟨1,0,none⟩) k d)::nos 10 (some (.int .i64 k)::some (.int .i64 i)::nos 12 [])) tz∧hz=[some (.flat false k 6 f),some (.flat false k 6 g)]∧k - i=mm∧(i≤k∧eqUp l m i),.inr ⟨[0,1],[0,1,12,13],?_⟩,?_⟩
    ·conv=>whnf
     intro _
     conv=>whnf
     refine ⟨_,0,(.keep (.keep (.sk 10 (.keep (.keep (.sk 12 .nil rfl))) rfl))),rfl,rfl,?_⟩
     exact ⟨Nat.zero_le _,eqUp_start _ _⟩
    rintro mm tms _ ⟨i,hpat,rfl,rfl,⟨hi,hN⟩⟩
    obtain ⟨az,rfl⟩:∃ az:Nat→Value,tms=.slice (some ⟨0,0,none⟩) k c::.slice (some ⟨1,0,none⟩) k d::zs az 2 10 (.int .i64 k::.int .i64 i::zs az 14 12 []):=pat_fill hpat
    clear hpat
    conv=>whnf
    refine br_intro (fun h1=>?_) (fun h1=>?_)
    ·have h1:i < k:=by
      have:=of_decide_eq_true h1
      omega
     obtain ⟨p,hpl,_,hrow⟩:=rowsP_get (l:=l) (i:=i) (by omega)
     obtain ⟨q,hql,_,hrow2⟩:=rowsP_get (l:=m) (i:=i) (by omega)
     rw [← hf] at hrow
     rw [← hg] at hrow2
     have e7:IntKind.i64.wrap ((i:Int)+1)=((i+1:Nat):Int):=by rw [wrapi64 (by omega) (by omega)]; rfl
     conv=>whnf
     refine .inl ⟨8,[[],[],[0,1],[0,1,2],[],[],[4,5],[4,5,6],[0,1,2,3,4,5,6,7]],by kernel_rfl,?_⟩
     conv=>whnf
     refine ⟨⟨by omega,by omega⟩,?_⟩
     simp only [toNat_cast,rowAdd_eq,Nat.zero_add]
     conv=>whnf
     refine ⟨by show i < k; omega,?_⟩
     conv=>whnf
     rw [hrow]
     conv=>whnf
     refine ⟨⟨by omega,by omega⟩,?_⟩
     simp only [toNat_cast,rowAdd_eq,Nat.zero_add]
     conv=>whnf
     refine ⟨by show i < k; omega,?_⟩
     conv=>whnf
     rw [hrow2]
     conv=>whnf
     rw [eqPQ p q]
     by_cases h2:p=q
     ·rw [decide_eq_true h2]
      conv=>whnf
      rw [e7]
      refine .inr ⟨[0,1],[0,1,12,13],?_⟩
      conv=>whnf
      intro _
      conv=>whnf
      refine ⟨_,?_,i+1,(.keep (.keep (.sk 10 (.keep (.keep (.sk 12 .nil rfl))) rfl))),rfl,rfl,?_⟩
      ·omega
      ·exact ⟨by omega,eqUp_step hN hpl hql h2⟩
     ·rw [decide_eq_false h2]
      conv=>whnf
      exact fin false (decide_eq_false (ne_at hpl hql h2)).symm
    ·have h1:i=k:=by
      have:=of_decide_eq_false h1
      omega
     subst h1
     conv=>whnf
     exact fin true (decide_eq_true (eqUp_end (by rw [← hk]; exact hN) (hk.symm.trans hn))).symm
   ·conv=>whnf
    rw [show ((k:Int) != (n:Int))=true from by simp; omega]
    conv=>whnf
    exact fin false (decide_eq_false (fun e=>h0 (by rw [hk,hn,e]))).symm
theorem long_ok:Snd Tryz.prog 79 longS:=by
 refine snd_of Edzok Dok Tryz.func79 (enters_of Tryz.func79 (by kernel_rfl) rfl) (fun _=>rfl) (fun _=>rfl) ?_
 intro (a:RV) hp
 have fin:∀ (z:Bool),z=decide a.long→Value.bool z=longS.val a:=fun z h=>by rw [h]; rfl
 conv=>whnf
 by_cases h1:20 < a.2.1.size
 ·rw [show decide ((a.2.1.size:Int) > 20)=true from decide_eq_true (by omega)]
  conv=>whnf
  exact fin _ (decide_eq_true (.inl h1)).symm
 ·rw [show decide ((a.2.1.size:Int) > 20)=false from decide_eq_false (by omega)]
  conv=>whnf
  refine fin _ ?_
  by_cases h2:20 < a.2.2.size
  ·rw [show decide ((a.2.2.size:Int) > 20)=true from decide_eq_true (by omega)]
   exact (decide_eq_true (.inr h2)).symm
  ·rw [show decide ((a.2.2.size:Int) > 20)=false from decide_eq_false (by omega)]
   exact (decide_eq_false (fun e=>e.elim h1 h2)).symm
def Edy:Env:=En [(79,.p longS)]
theorem Edyok:EnvOk Tryz.prog Edy:=Enk ⟨long_ok,trivial⟩ trivial
theorem llong_ok:Snd Tryz.prog 36 llongS:=by
 refine snd_of Edyok Dok Tryz.func36 (enters_of Tryz.func36 (by kernel_rfl) rfl) (fun _=>rfl) (fun _=>rfl) ?_
 intro ⟨a,b,c⟩ hp
 have fin:∀ (z:Bool),z=decide (R3.long (a,b,c))→Value.bool z=llongS.val (a,b,c):=fun z h=>by rw [h]; rfl
 conv=>whnf
 refine ⟨a,rfl,trivial,?_⟩
 by_cases h1:a.long
 ·rw [show longS.val a=.bool true from congrArg Value.bool (decide_eq_true h1)]
  conv=>whnf
  exact fin _ (decide_eq_true (.inl h1)).symm
 ·rw [show longS.val a=.bool false from congrArg Value.bool (decide_eq_false h1)]
  conv=>whnf
  refine ⟨b,rfl,trivial,?_⟩
  by_cases h2:b.long
  ·rw [show longS.val b=.bool true from congrArg Value.bool (decide_eq_true h2)]
   conv=>whnf
   exact fin _ (decide_eq_true (.inr (.inl h2))).symm
  ·rw [show longS.val b=.bool false from congrArg Value.bool (decide_eq_false h2)]
   conv=>whnf
   refine ⟨c,rfl,trivial,?_⟩
   by_cases h3:c.long
   ·rw [show longS.val c=.bool true from congrArg Value.bool (decide_eq_true h3)]
    conv=>whnf
    exact fin _ (decide_eq_true (.inr (.inr h3))).symm
   ·rw [show longS.val c=.bool false from congrArg Value.bool (decide_eq_false h3)]
    conv=>whnf
    exact fin _ (decide_eq_false (fun e=>e.elim h1 (fun e=>e.elim h2 h3))).symm
theorem plong_ok:Snd Tryz.prog 38 plongS:=by
 refine snd_of Edyok Dok Tryz.func38 (enters_of Tryz.func38 (by kernel_rfl) rfl) (fun _=>rfl) (fun _=>rfl) ?_
 intro ⟨a,b⟩ hp
 have fin:∀ (z:Bool),z=decide (PV.long (a,b))→Value.bool z=plongS.val (a,b):=fun z h=>by rw [h]; rfl
 conv=>whnf
 refine ⟨a,rfl,trivial,?_⟩
 by_cases h1:a.long
 ·rw [show longS.val a=.bool true from congrArg Value.bool (decide_eq_true h1)]
  conv=>whnf
  exact fin _ (decide_eq_true (.inl h1)).symm
 ·rw [show longS.val a=.bool false from congrArg Value.bool (decide_eq_false h1)]
  conv=>whnf
  refine ⟨b,rfl,trivial,?_⟩
  by_cases h2:b.long
  ·rw [show longS.val b=.bool true from congrArg Value.bool (decide_eq_true h2)]
   conv=>whnf
   exact fin _ (decide_eq_true (.inr h2)).symm
  ·rw [show longS.val b=.bool false from congrArg Value.bool (decide_eq_false h2)]
   conv=>whnf
   exact fin _ (decide_eq_false (fun e=>e.elim h1 h2)).symm
def Edx:Env:=En [(36,.p llongS),(38,.p plongS)]
theorem Edxok:EnvOk Tryz.prog Edx:=Enk ⟨llong_ok,plong_ok,trivial⟩ trivial
theorem lindex2_ft:FTOk Tryz.prog 78 (fnK Edx drawT Tryz.f78):=by
 exact ft_of Edxok Dok Tryz.func78 (enters_of Tryz.func78 (by kernel_rfl) rfl)
theorem pindex2_ft:FTOk Tryz.prog 80 (fnK Edx drawT Tryz.f80):=by
 exact ft_of Edxok Dok Tryz.func80 (enters_of Tryz.func80 (by kernel_rfl) rfl)
def Edw:Env:=En [] [(78,fnK Edx drawT Tryz.f78),(80,fnK Edx drawT Tryz.f80)]
theorem Edwok:EnvOk Tryz.prog Edw:=Enk trivial ⟨lindex2_ft,pindex2_ft,trivial⟩
theorem lany_ok:QSnd Tryz.prog 35 (anyLS 36 longL):=by
 refine qsnd_of Edwok Dok Tryz.func35 (enters_of Tryz.func35 (by kernel_rfl) rfl) ?_ ?_ ?_
 ·intro i b hb
  cases i with
  | none=>simp [anyLS,LL.blks] at hb
  | some i=>simp [anyLS,LL.blks] at hb; rw [hb]; rfl
 ·intro i b hb; simp [anyLS] at hb
 intro i hp
 have hp:i.list.length≤1099511627776:=hp
 cases i with
 | none =>
  conv=>whnf
  refine .inr ⟨1,?_⟩
  conv=>whnf
  exact ⟨.bool false,rfl,.refl _⟩
 | some i =>
  obtain ⟨l,c⟩:=i
  obtain ⟨n,hn⟩:∃ n,n=l.length:=⟨_,rfl⟩
  obtain ⟨g,hg⟩:∃ g,g=rowsLn l:=⟨_,rfl⟩
  have hp:n≤1099511627776:=by rw [hn]; exact hp
  have fin:∀ b:Bool,l.any longL=b→∃ v',renV (List.range 1) 3 ((anyLS 36 longL).val (some (l,c)))=some v'∧VLe (.bool b) v':=fun b h=>⟨.bool b,by rw [← h]; rfl,.refl _⟩
  rw [show (anyLS 36 longL).blks (some (l,c))=[.flat false n 9 g] from by rw [hn,hg]; rfl,show (anyLS 36 longL).args (some (l,c))=[.slice (some ⟨0,0,none⟩) n c,.func (.func 36) #[] #[]] from by rw [hn]; rfl]
  conv=>whnf
  refine .inl ⟨fun mm tz hz=>∃ (i:Nat),Pat (some (.slice (some ⟨0,0,none⟩) n c)::some (.func (.func 36) #[] #[])::nos 5 (some (.int .i64 n)::some (.int .i64 i)::nos 10 [])) tz∧hz=[some (.flat false n 9 g)]∧n - i=mm∧(i≤n∧noneUp longL l i),.inr ⟨[0],[0,1,7,8],?_⟩,?_⟩
  ·conv=>whnf
   intro _
   conv=>whnf
   refine ⟨_,0,(.keep (.keep (.sk 5 (.keep (.keep (.sk 10 .nil rfl))) rfl))),rfl,rfl,?_⟩
   exact ⟨Nat.zero_le _,noneUp_start _ _⟩
  rintro mm tms _ ⟨i,hpat,rfl,rfl,⟨hi,hN⟩⟩
  obtain ⟨az,rfl⟩:∃ az:Nat→Value,tms=.slice (some ⟨0,0,none⟩) n c::.func (.func 36) #[] #[]::zs az 2 5 (.int .i64 n::.int .i64 i::zs az 9 10 []):=pat_fill hpat
  clear hpat
  conv=>whnf
  refine br_intro (fun h1=>?_) (fun h1=>?_)
  ·have h1:i < n:=by
    have:=of_decide_eq_true h1
    omega
   obtain ⟨p,hpl,hpm,hrow⟩:=rowsLn_get (l:=l) (k:=i) (by omega)
   rw [← hg] at hrow
   have e7:IntKind.i64.wrap ((i:Int)+1)=((i+1:Nat):Int):=by rw [wrapi64 (by omega) (by omega)]; rfl
   conv=>whnf
   refine ⟨⟨by omega,by omega⟩,?_⟩
   simp only [toNat_cast,rowAdd_eq,Nat.zero_add]
   conv=>whnf
   refine ⟨by show i < n; omega,?_⟩
   conv=>whnf
   rw [hrow]
   conv=>whnf
   refine ⟨p,rfl,trivial,?_⟩
   cases h2:longL p with
   | true =>
    rw [show llongS.val p=.bool true from congrArg Value.bool h2]
    conv=>whnf
    exact fin true (any_of hpm h2)
   | false =>
    rw [show llongS.val p=.bool false from congrArg Value.bool h2]
    conv=>whnf
    rw [e7]
    refine .inr ⟨[0],[0,1,7,8],?_⟩
    conv=>whnf
    intro _
    conv=>whnf
    refine ⟨_,?_,i+1,(.keep (.keep (.sk 5 (.keep (.keep (.sk 10 .nil rfl))) rfl))),rfl,rfl,?_⟩
    ·omega
    ·exact ⟨by omega,noneUp_step hN hpl h2⟩
  ·have h1:i=n:=by
    have:=of_decide_eq_false h1
    omega
   subst h1
   conv=>whnf
   exact fin false (noneUp_end (by rw [← hn]; exact hN))
theorem pany_ok:QSnd Tryz.prog 37 (anyPS 38 longP):=by
 refine qsnd_of Edwok Dok Tryz.func37 (enters_of Tryz.func37 (by kernel_rfl) rfl) ?_ ?_ ?_
 ·intro i b hb
  cases i with
  | none=>simp [anyPS,PL.blks] at hb
  | some i=>simp [anyPS,PL.blks] at hb; rw [hb]; rfl
 ·intro i b hb; simp [anyPS] at hb
 intro i hp
 have hp:i.list.length≤1099511627776:=hp
 cases i with
 | none =>
  conv=>whnf
  refine .inr ⟨1,?_⟩
  conv=>whnf
  exact ⟨.bool false,rfl,.refl _⟩
 | some i =>
  obtain ⟨l,c⟩:=i
  obtain ⟨n,hn⟩:∃ n,n=l.length:=⟨_,rfl⟩
  obtain ⟨g,hg⟩:∃ g,g=rowsP l:=⟨_,rfl⟩
  have hp:n≤1099511627776:=by rw [hn]; exact hp
  have fin:∀ b:Bool,l.any longP=b→∃ v',renV (List.range 1) 3 ((anyPS 38 longP).val (some (l,c)))=some v'∧VLe (.bool b) v':=fun b h=>⟨.bool b,by rw [← h]; rfl,.refl _⟩
  rw [show (anyPS 38 longP).blks (some (l,c))=[.flat false n 6 g] from by rw [hn,hg]; rfl,show (anyPS 38 longP).args (some (l,c))=[.slice (some ⟨0,0,none⟩) n c,.func (.func 38) #[] #[]] from by rw [hn]; rfl]
  conv=>whnf
  refine .inl ⟨fun mm tz hz=>∃ (i:Nat),Pat (some (.slice (some ⟨0,0,none⟩) n c)::some (.func (.func 38) #[] #[])::nos 5 (some (.int .i64 n)::some (.int .i64 i)::nos 10 [])) tz∧hz=[some (.flat false n 6 g)]∧n - i=mm∧(i≤n∧noneUp longP l i),.inr ⟨[0],[0,1,7,8],?_⟩,?_⟩
  ·conv=>whnf
   intro _
   conv=>whnf
   refine ⟨_,0,(.keep (.keep (.sk 5 (.keep (.keep (.sk 10 .nil rfl))) rfl))),rfl,rfl,?_⟩
   exact ⟨Nat.zero_le _,noneUp_start _ _⟩
  rintro mm tms _ ⟨i,hpat,rfl,rfl,⟨hi,hN⟩⟩
  obtain ⟨az,rfl⟩:∃ az:Nat→Value,tms=.slice (some ⟨0,0,none⟩) n c::.func (.func 38) #[] #[]::zs az 2 5 (.int .i64 n::.int .i64 i::zs az 9 10 []):=pat_fill hpat
  clear hpat
  conv=>whnf
  refine br_intro (fun h1=>?_) (fun h1=>?_)
  ·have h1:i < n:=by
    have:=of_decide_eq_true h1
    omega
   obtain ⟨p,hpl,hpm,hrow⟩:=rowsP_get2 (l:=l) (k:=i) (by omega)
   rw [← hg] at hrow
   have e7:IntKind.i64.wrap ((i:Int)+1)=((i+1:Nat):Int):=by rw [wrapi64 (by omega) (by omega)]; rfl
   conv=>whnf
   refine ⟨⟨by omega,by omega⟩,?_⟩
   simp only [toNat_cast,rowAdd_eq,Nat.zero_add]
   conv=>whnf
   refine ⟨by show i < n; omega,?_⟩
   conv=>whnf
   rw [hrow]
   conv=>whnf
   refine ⟨p,rfl,trivial,?_⟩
   cases h2:longP p with
   | true =>
    rw [show plongS.val p=.bool true from congrArg Value.bool h2]
    conv=>whnf
    exact fin true (any_of hpm h2)
   | false =>
    rw [show plongS.val p=.bool false from congrArg Value.bool h2]
    conv=>whnf
    rw [e7]
    refine .inr ⟨[0],[0,1,7,8],?_⟩
    conv=>whnf
    intro _
    conv=>whnf
    refine ⟨_,?_,i+1,(.keep (.keep (.sk 5 (.keep (.keep (.sk 10 .nil rfl))) rfl))),rfl,rfl,?_⟩
    ·omega
    ·exact ⟨by omega,noneUp_step hN hpl h2⟩
  ·have h1:i=n:=by
    have:=of_decide_eq_false h1
    omega
   subst h1
   conv=>whnf
   exact fin false (noneUp_end (by rw [← hn]; exact hN))
def Edv:Env:=En [(35,.q (anyLS 36 longL)),(37,.q (anyPS 38 longP))]
theorem Edvok:EnvOk Tryz.prog Edv:=Enk ⟨lany_ok,pany_ok,trivial⟩ trivial
theorem greatL_ok:QSnd Tryz.prog 7 greatLS:=by
 refine qsnd_of Edvok Dok Tryz.func7 (enters_of Tryz.func7 (by kernel_rfl) rfl) ?_ ?_ ?_
 ·intro ⟨i,j⟩ b hb
  cases i <;> cases j <;> simp [greatLS,PL.blks,LL.blks] at hb <;> (try rcases hb with rfl | rfl) <;> (try subst hb) <;> first | rfl | skip
 ·intro i b hb; simp [greatLS] at hb
 intro ⟨i,j⟩ hp
 have hp:i.list.length≤9223372036854775807∧j.list.length≤1099511627776:=hp
 obtain ⟨hpi,hpj⟩:=hp
 cases i with
 | none =>
  cases j with
  | none =>
   have fin:∀ b:Bool,greatL [] []=b→∃ v',renV (List.range 0) 3 (greatLS.val (none,none))=some v'∧VLe (.bool b) v':=fun b h=>⟨.bool b,by rw [← h]; rfl,.refl _⟩
   conv=>whnf
   refine ⟨none,[],rfl,Nat.zero_le _,?_⟩
   conv=>whnf
   refine ⟨_,rfl,?_⟩
   conv=>whnf
   refine ⟨none,[],rfl,Nat.zero_le _,?_⟩
   conv=>whnf
   refine ⟨_,rfl,?_⟩
   conv=>whnf
   exact fin _ rfl
  | some j =>
   have fin:∀ b:Bool,greatL [] j.1=b→∃ v',renV (List.range 1) 3 (greatLS.val (none,some j))=some v'∧VLe (.bool b) v':=fun b h=>⟨.bool b,by rw [← h]; rfl,.refl _⟩
   conv=>whnf
   refine ⟨none,[],rfl,Nat.zero_le _,?_⟩
   conv=>whnf
   refine ⟨_,rfl,?_⟩
   conv=>whnf
   obtain ⟨ps,d⟩:=j
   obtain ⟨y,hy⟩:∃ y,y=ps.any longP:=⟨_,rfl⟩
   refine ⟨some (ps,d),[0],rfl,hpj,?_⟩
   rw [show (anyPS 38 longP).val (some (ps,d))=.bool y from by rw [hy]; rfl]
   conv=>whnf
   refine ⟨BlkLe.flat_flat (fun h=>h) (fun r hr=>rfl),?_⟩
   conv=>whnf
   refine ⟨_,rfl,?_⟩
   conv=>whnf
   exact fin _ (by rw [hy]; rfl)
 | some i =>
  cases j with
  | none =>
   obtain ⟨l,c⟩:=i
   obtain ⟨n,hn⟩:∃ n,n=l.length:=⟨_,rfl⟩
   obtain ⟨g,hg⟩:∃ g,g=rowsLn l:=⟨_,rfl⟩
   have fin:∀ b:Bool,greatL l (PL.list none)=b→∃ v',renV (List.range 1) 3 (greatLS.val (some (l,c),none))=some v'∧VLe (.bool b) v':=fun b h=>⟨.bool b,by rw [← h]; rfl,.refl _⟩
   unfold qRes
   rw [show greatLS.blks (some (l,c),none)=.flat false n 9 g::[] from by rw [hn,hg]; rfl,show greatLS.args (some (l,c),none)=[.slice (some ⟨0,0,none⟩) n c,PL.valAt none 1] from by rw [hn]; rfl,show greatLS.new (some (l,c),none)=none from rfl]
   conv=>whnf
   by_cases h8:8 < n
   ·rw [show decide ((n:Int) > 8)=true from decide_eq_true (by omega)]
    conv=>whnf
    exact fin true (by unfold greatL; rw [decide_eq_true (by omega)]; rfl)
   ·rw [show decide ((n:Int) > 8)=false from decide_eq_false (by omega)]
    have h8':decide (8 < l.length)=false:=decide_eq_false (by omega)
    conv=>whnf
    obtain ⟨x,hx⟩:∃ x,x=l.any longL:=⟨_,rfl⟩
    refine ⟨some (l,c),[0],by rw [show (anyLS 36 longL).args (some (l,c))=[.slice (some ⟨0,0,none⟩) n c,.func (.func 36) #[] #[]] from by rw [hn]; rfl]; rfl,by show l.length≤_; omega,?_⟩
    rw [show (anyLS 36 longL).val (some (l,c))=.bool x from by rw [hx]; rfl,show (anyLS 36 longL).blks (some (l,c))=[.flat false n 9 g] from by rw [hn,hg]; rfl]
    conv=>whnf
    refine ⟨BlkLe.flat_flat (fun h=>h) (fun r hr=>by rw [hg]; rfl),?_⟩
    conv=>whnf
    refine ⟨_,rfl,?_⟩
    cases x with
    | true =>
     conv=>whnf
     exact fin true (by unfold greatL; rw [← hx]; simp)
    | false =>
     have fin:∀ b:Bool,(PL.list none).any longP=b→∃ v',renV (List.range 1) 3 (greatLS.val (some (l,c),none))=some v'∧VLe (.bool b) v':=fun b h=>fin b (by unfold greatL; rw [← hx,h8',h]; rfl)
     conv=>whnf
     refine ⟨none,[],rfl,Nat.zero_le _,?_⟩
     conv=>whnf
     refine ⟨_,rfl,?_⟩
     conv=>whnf
     exact fin _ rfl
  | some j =>
   obtain ⟨l,c⟩:=i
   obtain ⟨n,hn⟩:∃ n,n=l.length:=⟨_,rfl⟩
   obtain ⟨g,hg⟩:∃ g,g=rowsLn l:=⟨_,rfl⟩
   have fin:∀ b:Bool,greatL l (PL.list (some j))=b→∃ v',renV (List.range 2) 3 (greatLS.val (some (l,c),(some j)))=some v'∧VLe (.bool b) v':=fun b h=>⟨.bool b,by rw [← h]; rfl,.refl _⟩
   unfold qRes
   rw [show greatLS.blks (some (l,c),(some j))=.flat false n 9 g::[.flat false j.1.length 6 (rowsP j.1)] from by rw [hn,hg]; rfl,show greatLS.args (some (l,c),(some j))=[.slice (some ⟨0,0,none⟩) n c,PL.valAt (some j) 1] from by rw [hn]; rfl,show greatLS.new (some (l,c),(some j))=none from rfl]
   conv=>whnf
   by_cases h8:8 < n
   ·rw [show decide ((n:Int) > 8)=true from decide_eq_true (by omega)]
    conv=>whnf
    exact fin true (by unfold greatL; rw [decide_eq_true (by omega)]; rfl)
   ·rw [show decide ((n:Int) > 8)=false from decide_eq_false (by omega)]
    have h8':decide (8 < l.length)=false:=decide_eq_false (by omega)
    conv=>whnf
    obtain ⟨x,hx⟩:∃ x,x=l.any longL:=⟨_,rfl⟩
    refine ⟨some (l,c),[0],by rw [show (anyLS 36 longL).args (some (l,c))=[.slice (some ⟨0,0,none⟩) n c,.func (.func 36) #[] #[]] from by rw [hn]; rfl]; rfl,by show l.length≤_; omega,?_⟩
    rw [show (anyLS 36 longL).val (some (l,c))=.bool x from by rw [hx]; rfl,show (anyLS 36 longL).blks (some (l,c))=[.flat false n 9 g] from by rw [hn,hg]; rfl]
    conv=>whnf
    refine ⟨BlkLe.flat_flat (fun h=>h) (fun r hr=>by rw [hg]; rfl),?_⟩
    conv=>whnf
    refine ⟨_,rfl,?_⟩
    cases x with
    | true =>
     conv=>whnf
     exact fin true (by unfold greatL; rw [← hx]; simp)
    | false =>
     have fin:∀ b:Bool,(PL.list (some j)).any longP=b→∃ v',renV (List.range 2) 3 (greatLS.val (some (l,c),(some j)))=some v'∧VLe (.bool b) v':=fun b h=>fin b (by unfold greatL; rw [← hx,h8',h]; rfl)
     conv=>whnf
     obtain ⟨ps,d⟩:=j
     obtain ⟨y,hy⟩:∃ y,y=ps.any longP:=⟨_,rfl⟩
     refine ⟨some (ps,d),[1],rfl,hpj,?_⟩
     rw [show (anyPS 38 longP).val (some (ps,d))=.bool y from by rw [hy]; rfl]
     conv=>whnf
     refine ⟨BlkLe.flat_flat (fun h=>h) (fun r hr=>rfl),?_⟩
     conv=>whnf
     refine ⟨_,rfl,?_⟩
     conv=>whnf
     exact fin _ (by rw [hy]; rfl)
end Go.Proofs.YtppeponndkfbkaaGreat
/- The example of the chapter on lines. -/
set_option maxRecDepth 20000
set_option maxHeartbeats 4000000
namespace Go.Proofs.YtppeponndkfbkaaGreat
open Go Go.Ae
def Edu:Env:=EnE [(39,.p vofS),(40,.p qofS),(9,.p throughS),(11,.p sideS),(21,.p (footS 1)),(25,.q commonS),(28,.q sameS)]
theorem Eduok:EnvOk Tryz.prog Edu:=EnEk ⟨vof_ok,qof_ok,through_ok,side_ok,foot_ok,common_ok,equal_ok,trivial⟩ trivial
theorem awake9_ok:Snd Tryz.prog 8 awakeS:=by
 refine snd_of Eduok Dok Tryz.func8 (enters_of Tryz.func8 (by kernel_rfl) rfl) (fun _=>rfl) (fun _=>rfl) ?_
 intro _ hp
 conv=>whnf
 obtain ⟨o,co,eo,po,so,qo⟩:=hidePc (ofsz (0) (0) (by decide) (by decide))
 refine ⟨(((0:Int),(0:Int)):Int × Int),rfl,⟨⟨by decide,by decide⟩,⟨by decide,by decide⟩⟩,?_⟩
 rw [show vofS.val (((0:Int),(0:Int)):Int × Int)=o.v from eo]
 conv=>whnf
 obtain ⟨t,ct,et,pt,st,qt⟩:=hidePc (ofsz (2) (2) (by decide) (by decide))
 refine ⟨(((2:Int),(2:Int)):Int × Int),rfl,⟨⟨by decide,by decide⟩,⟨by decide,by decide⟩⟩,?_⟩
 rw [show vofS.val (((2:Int),(2:Int)):Int × Int)=t.v from et]
 conv=>whnf
 obtain ⟨l,e,el,pl,sl,ql⟩:=hideLE (thrV_sz qo qt)
 refine ⟨(o,t),rfl,⟨PV.sz_mono so (by decide),PV.sz_mono st (by decide)⟩,?_⟩
 rw [show throughS.val (o,t)=.tuple ⟨[l.v,.int .i64 e]⟩ from el]
 conv=>whnf
 rw [po,pt,ex_thr] at pl
 obtain ⟨cl,rfl⟩:linV exL=l∧(0:Int)=e:=⟨congrArg Prod.fst pl,congrArg Prod.snd pl⟩
 have hl:l.q=exL:=by rw [← cl,linV_q]
 refine .inl ⟨7,[[],[],[0,1],[0,1,2],[0,1,2,3],[0,1,2,3],[0,1,2,3,4],[0,1,2,3,4,5,6]],by kernel_rfl,?_⟩
 conv=>whnf
 obtain ⟨a,ca,ea,pa,sa,qa⟩:=hidePc (ofsz (0) (1) (by decide) (by decide))
 refine ⟨(((0:Int),(1:Int)):Int × Int),rfl,⟨⟨by decide,by decide⟩,⟨by decide,by decide⟩⟩,?_⟩
 rw [show vofS.val (((0:Int),(1:Int)):Int × Int)=a.v from ea]
 conv=>whnf
 obtain ⟨s,f,es,ps⟩:=hideZE (sidV l.q a.p)
 refine ⟨(l,a),rfl,⟨R3.sz_mono sl (by decide),PV.sz_mono sa (by decide)⟩,?_⟩
 rw [show sideS.val (l,a)=.tuple ⟨[.int .i64 s,.int .i64 f]⟩ from es]
 conv=>whnf
 rw [hl,pa,ex_sid] at ps
 obtain ⟨rfl,rfl⟩:(1:Int)=s∧(0:Int)=f:=⟨congrArg Prod.fst ps,congrArg Prod.snd ps⟩
 refine .inr (.inr (.inl ⟨7,1,[[],[],[0,1],[0,1,2],[0,1,2,3],[0,1,2,3],[],[0,1,2,3,4,6],[0,1,2,3,4,5,6,7]],[5],by kernel_rfl,?_⟩))
 conv=>whnf
 obtain ⟨b,cb,eb,pb,sb,qb⟩:=hidePc (ofsz (0) (2) (by decide) (by decide))
 refine ⟨(((0:Int),(2:Int)):Int × Int),rfl,⟨⟨by decide,by decide⟩,⟨by decide,by decide⟩⟩,?_⟩
 rw [show vofS.val (((0:Int),(2:Int)):Int × Int)=b.v from eb]
 conv=>whnf
 obtain ⟨u,f,eu,pu,su,qu⟩:=hidePE (footV_sz (qb1 (Nat.le_refl 1)) ql qb)
 refine ⟨(l,b),rfl,⟨R3.sz_mono sl (by decide),PV.sz_mono sb (by decide)⟩,?_⟩
 rw [show (footS 1).val (l,b)=.tuple ⟨[u.v,.int .i64 f]⟩ from eu]
 conv=>whnf
 rw [hl,pb,ex_foot] at pu
 obtain ⟨cu1,rfl⟩:ptV (((1:Int):Rat),((1:Int):Rat))=u∧(0:Int)=f:=⟨congrArg Prod.fst pu,congrArg Prod.snd pu⟩
 refine .inl ⟨9,[[],[0],[],[2],[0,1,2,3],[0,1,2,3,4],[0,1,2,3,4,5],[0,1,2,3,4,5],[0,1,2,3,4,5,6],[0,1,2,3,4,5,6,7,8]],by kernel_rfl,?_⟩
 conv=>whnf
 obtain ⟨m,cm,em,pm,sm,qm⟩:=hidePc (ofsz (4) (4) (by decide) (by decide))
 refine ⟨(((4:Int),(4:Int)):Int × Int),rfl,⟨⟨by decide,by decide⟩,⟨by decide,by decide⟩⟩,?_⟩
 rw [show vofS.val (((4:Int),(4:Int)):Int × Int)=m.v from em]
 conv=>whnf
 have hok:=ex_ok pm sm hl (R3.sz_mono sl (by decide))
 obtain ⟨f1,f2⟩:=common_new (b:=(zeroP,m)) (i:=some ([l],1)) (P:=exR) (M:=3) (by rw [show XV.p (zeroP,m)=exB from by show (zeroP.p,m.p)=_; rw [zeroP_p,pm]; rfl,show qs (LL.list (some ([l],1)))=[exL] from by show [l.q]=_; rw [hl]]; exact ex_E) (by rw [show XV.p (zeroP,m)=exB from by show (zeroP.p,m.p)=_; rw [zeroP_p,pm]; rfl,show qs (LL.list (some ([l],1)))=[exL] from by show [l.q]=_; rw [hl]]; exact ex_P) rfl rfl
 obtain ⟨cu,hcu⟩:∃ cu,cu=capU:=⟨_,rfl⟩
 obtain ⟨gs,hgs⟩:∃ g,g=rowsQ exR:=⟨_,rfl⟩
 rw [← hgs] at f1
 rw [← hcu] at f2
 refine ⟨((zeroP,m),some ([l],1)),[18],rfl,hok,?_⟩
 rw [f1,f2,show commonS.blks ((zeroP,m),some ([l],1))=[.flat false 1 9 (rowsLn [l])] from rfl]
 conv=>whnf
 refine ⟨lit_blkL [l],?_⟩
 conv=>whnf
 refine ⟨_,rfl,?_⟩
 conv=>whnf
 refine .inl ⟨35,[[],[0],[0,1],[0,1,2],[0,1,2,3],[0,1,2,3,4],[0,1,2,3,4,5],[0,1,2,3,4,5,6],[0,1,2,3,4,5,6,7],[0,1,2,3,4,5,6,7,8],[0,1,2,3,4,5,6,7,8,9],[0,1,2,3,4,5,6,7,8,9,10],[0,1,2,3,4,5,6,7,8,9,10,11],[0,1,2,3,4,5,6,7,8,9,10,11,12],[0,1,2,3,4,5,6,7,8,9,10,11,12,13],[0,1,2,3,4,5,6,7,8,9,10,11,12,13,14],[0,1,2,3,4,5,6,7,8,9,10,11,12,13,14,15],[0,1,2,3,4,5,6,7,8,9,10,11,12,13,14,15,16],[0,1,2,3,4,5,6,7,8,9,10,11,12,13,14,15,16,17],[0,1,2,3,4,5,6,7,8,9,10,11,12,13,14,15,16,17,18],[0,1,2,3,4,5,6,7,8,9,10,11,12,13,14,15,16,17,18],[0,1,2,3,4,5,6,7,8,9,10,11,12,13,14,15,16,17,18,19,20],[0,1,2,3,4,5,6,7,8,9,10,11,12,13,14,15,16,17,18,19,20,21],[0,1,2,3,4,5,6,7,8,9,10,11,12,13,14,15,16,17,18,19,20,21,22],[0,1,2,3,4,5,6,7,8,9,10,11,12,13,14,15,16,17,18,19,20,21,22,23],[0,1,2,3,4,5,6,7,8,9,10,11,12,13,14,15,16,17,18,19,20,21,22,23,24],[0,1,2,3,4,5,6,7,8,9,10,11,12,13,14,15,16,17,18,19,20,21,22,23],[0,1,2,3,4,5,6,7,8,9,10,11,12,13,14,15,16,17,18,19,20,21,22,23,24,25,26],[0,1,2,3,4,5,6,7,8,9,10,11,12,13,14,15,16,17,18,19,20,21,22,23,24,25,26,27],[0,1,2,3,4,5,6,7,8,9,10,11,12,13,14,15,16,17,18,19,20,21,22,23,24,25,26,27,28],[0,1,2,3,4,5,6,7,8,9,10,11,12,13,14,15,16,17,18,19,20,21,22,23,24,25,26,27,28,29],[0,1,2,3,4,5,6,7,8,9,10,11,12,13,14,15,16,17,18,19,20,21,22,23,24,25,26,27,28,29],[0,1,2,3,4,5,6,7,8,9,10,11,12,13,14,15,16,17,18,19,20,21,22,23,24,25,26,27,28,29,31],[0,1,2,3,4,5,6,7,8,9,10,11,12,13,14,15,16,17,18,19,20,21,22,23,24,25,26,27,28,29,31,32],[0,1,2,3,4,5,6,7,8,9,10,11,12,13,14,15,16,17,18,19,20,21,22,23,24,25,26,27,28,29,31,32,33],[0,1,2,3,4,5,6,7,8,9,10,11,12,13,14,15,16,17,18,19,20,21,22,23,24,25,26,27,28,29,30,31,32,33,34],[0,1,2,3,4,5,6,7,8,9,10,11,12,13,14,15,16,17,18,19,20,21,22,23,24,25,26,27,28,29,30,31,32,33,34,35],[0,1,2,3,4,5,6,7,8,9,10,11,12,13,14,15,16,17,18,19,20,21,22,23,24,25,26,27,28,29,30,31,32,33,34,35,36]],by kernel_rfl,?_⟩
 conv=>whnf
 obtain ⟨v,cv,ev,pv,sv,qv⟩:=hidePc (ofsz (1) (1) (by decide) (by decide))
 refine ⟨(((1:Int),(1:Int)):Int × Int),rfl,⟨⟨by decide,by decide⟩,⟨by decide,by decide⟩⟩,?_⟩
 rw [show vofS.val (((1:Int),(1:Int)):Int × Int)=v.v from ev]
 conv=>whnf
 rw [eqPQ u v,show decide (u=v)=true from decide_eq_true (cu1.symm.trans cv.symm)]
 conv=>whnf
 obtain ⟨r,cr,er,pr,sr,qr⟩:=hideRc (q:=((-2:Int):Rat)) (QB.of_int (n:=-2) (k:=1) (nby_le (show Int.natAbs (-2) < C ^ 1 by decide)) (by decide))
 refine ⟨(-2:Int),rfl,⟨by decide,by decide⟩,?_⟩
 rw [show qofS.val (-2:Int)=r.v from er]
 conv=>whnf
 rw [eqCells_rat l.1 r,show decide (l.1=r)=true from decide_eq_true (by rw [cr,← cl]; rfl)]
 conv=>whnf
 obtain ⟨w1,cw1,ew1,pw1,sw1,qw1⟩:=hidePc (ofsz (0) (0) (by decide) (by decide))
 refine ⟨(((0:Int),(0:Int)):Int × Int),rfl,⟨⟨by decide,by decide⟩,⟨by decide,by decide⟩⟩,?_⟩
 rw [show vofS.val (((0:Int),(0:Int)):Int × Int)=w1.v from ew1]
 conv=>whnf
 obtain ⟨w2,cw2,ew2,pw2,sw2,qw2⟩:=hidePc (ofsz (4) (4) (by decide) (by decide))
 refine ⟨(((4:Int),(4:Int)):Int × Int),rfl,⟨⟨by decide,by decide⟩,⟨by decide,by decide⟩⟩,?_⟩
 rw [show vofS.val (((4:Int),(4:Int)):Int × Int)=w2.v from ew2]
 conv=>whnf
 obtain ⟨w3,cw3,ew3,pw3,sw3,qw3⟩:=hidePc (ofsz (0) (4) (by decide) (by decide))
 refine ⟨(((0:Int),(4:Int)):Int × Int),rfl,⟨⟨by decide,by decide⟩,⟨by decide,by decide⟩⟩,?_⟩
 rw [show vofS.val (((0:Int),(4:Int)):Int × Int)=w3.v from ew3]
 conv=>whnf
 have hR:pvs exR=[w1,w2,w3]:=by rw [cw1,cw2,cw3]; rfl
 refine ⟨(some (pvs exR,cu),some ([w1,w2,w3],3)),[19,58],rfl,⟨by show 3≤1099511627776; decide,by show 3≤1099511627776; decide⟩,?_⟩
 rw [show sameS.blks (some (pvs exR,cu),some ([w1,w2,w3],3))=[.flat false 3 6 (rowsP (pvs exR)),.flat false 3 6 (rowsP [w1,w2,w3])] from rfl,show sameS.val (some (pvs exR,cu),some ([w1,w2,w3],3))=.bool true from congrArg Value.bool (decide_eq_true hR),show sameS.new (some (pvs exR,cu),some ([w1,w2,w3],3))=none from rfl]
 conv=>whnf
 refine ⟨BlkLe.flat_rows (fun h=>by cases h) (fun r hr=>by rw [hgs]; rfl) (fun r hr=>rfl),lit_blk [w1,w2,w3],?_⟩
 conv=>whnf
 refine ⟨.bool true,rfl,?_⟩
 conv=>whnf
 rfl
end Go.Proofs.YtppeponndkfbkaaGreat
/- Contracts of the reference rationals: signs, quotients. -/
set_option maxRecDepth 20000
set_option maxHeartbeats 1000000
namespace Go.Proofs.YtppeponndkfbkaaGreat
open Go Go.Ae
def Eqs:Env:=En [(85,.p qcmpS),(96,.p partsS),(87,.p qmulS)]
theorem Eqsok:EnvOk Tryz.prog Eqs:=Enk ⟨rqcmp_ok,parts_ok,rqmul_ok,trivial⟩ trivial
theorem rqsign_ok:Snd Tryz.prog 49 qsignS:=by
 refine snd_of Eqsok Dok Tryz.func49 (enters_of Tryz.func49 (by kernel_rfl) rfl) (fun _=>rfl) (fun _=>rfl) ?_
 intro (r:RV) hp
 have hp:r.ok:=hp
 obtain ⟨x,hx⟩:∃ x,x=cmpQ r.q 0:=⟨_,rfl⟩
 conv=>whnf
 refine ⟨(r,zeroR),rfl,⟨hp,RV.sz_ok (zeroR_sz 0) (by decide)⟩,?_⟩
 rw [show qcmpS.val (r,zeroR)=.int .i64 x from by rw [hx]; show Value.int .i64 (cmpQ r.q zeroR.q)=_; rw [zeroR_q]]
 conv=>whnf
 show Value.int .i64 x=Value.int .i64 (cmpQ r.q 0)
 rw [hx]
theorem rquo_ok:Snd Tryz.prog 99 qquoS:=by
 refine snd_of Eqsok Dok Tryz.func99 (enters_of Tryz.func99 (by kernel_rfl) rfl) (fun _=>rfl) (fun _=>rfl) ?_
 intro ⟨a,b⟩ hp
 have hp:a.ok∧b.ok:=hp
 obtain ⟨B,hB⟩:∃ B,B=decide (b.n < 0):=⟨_,rfl⟩
 obtain ⟨N,hN⟩:∃ N,N=b.n.natAbs:=⟨_,rfl⟩
 obtain ⟨D,hD⟩:∃ D,D=b.d:=⟨_,rfl⟩
 obtain ⟨w,hw⟩:∃ w,w=a.q / b.q:=⟨_,rfl⟩
 obtain ⟨e,he⟩:∃ e:Int,e=if b.q=0 then 10 else 0:=⟨_,rfl⟩
 have hfin:qquoS.val (a,b)=.tuple ⟨[(RV.of w).v,.int .i64 e]⟩:=by rw [hw,he]; rfl
 have hv:partsS.val b=.tuple ⟨[.agg ⟨[.bool B,.string (nb N)]⟩,.agg ⟨[.bool false,.string (nb D)]⟩]⟩:=by
  show Value.tuple ⟨[encI b.n,encI ((b.d:Nat):Int)]⟩=_
  rw [hB,hN,hD,encI_of_pos (n:=((b.d:Nat):Int)) (by omega),Int.natAbs_natCast]; rfl
 have hi:invV b=(B,nb D,nb N):=by rw [hB,hD,hN]; rfl
 have hz:=q_zero_iff b
 have hio:=inv_ok hp.2
 obtain ⟨nd,hnd⟩:∃ nd,nd=nb D:=⟨_,rfl⟩
 obtain ⟨nn,hnn⟩:∃ nn,nn=nb N:=⟨_,rfl⟩
 rw [← hnd,← hnn] at hv
 conv=>whnf
 refine ⟨b,rfl,hp.2,?_⟩
 rw [hv]
 conv=>whnf
 by_cases h0:N=0
 ·have hb0:b.q=0:=hz.2 (by omega)
  rw [show (nn.toList == (⟨#[]⟩:ByteArray).toList)=true from by
   have:=mag_zero h0
   rw [← hnn] at this
   simpa using this]
  conv=>whnf
  rw [hfin,he,if_pos hb0,hw,hb0,show a.q / 0=0 from by rw [Rat.div_def]; simp]
  show Value.tuple ⟨[zeroR.v,.int .i64 10]⟩=Value.tuple ⟨[encQ 0,.int .i64 10]⟩
  rw [enc0]
 ·rw [show (nn.toList == (⟨#[]⟩:ByteArray).toList)=false from by
   have:=mag_pos h0
   rw [← hnn] at this
   simpa using this]
  have hbn:b.n≠0:=by omega
  rw [hi,← hnd,← hnn] at hio
  conv=>whnf
  refine ⟨(a,(B,nd,nn)),rfl,⟨hp.1,hio⟩,?_⟩
  rw [show qmulS.val (a,(B,nd,nn))=(RV.of w).v from by
   show encQ (a.q*RV.q (B,nd,nn))=encQ w
   rw [hnd,hnn,← hi,inv_q b hbn,hw,Rat.div_def]]
  conv=>whnf
  rw [hfin,he,if_neg (fun h=>hbn (hz.1 h))]
  rfl
end Go.Proofs.YtppeponndkfbkaaGreat
/- Contracts of the reference lines. -/
set_option maxRecDepth 20000
set_option maxHeartbeats 1000000
namespace Go.Proofs.YtppeponndkfbkaaGreat
open Go Go.Ae
def Eq9a:Env:=En [(45,.p qsubS),(86,.p qaddS),(87,.p qmulS),(49,.p qsignS),(99,.p qquoS),(56,.p qofS),(59,.p qnormS),(55,.p vsubS),(54,.p vscaleS),(57,.p vdotS),(44,.p vcmpS)]
theorem Eq9aok:EnvOk Tryz.prog Eq9a:=Enk ⟨rqsub_ok,rqadd_ok,rqmul_ok,rqsign_ok,rquo_ok,rqof_ok,rqnorm_ok,rvsub_ok,rvscale_ok,rvdot_ok,rvcmp_ok,trivial⟩ trivial
theorem rlalong_ok:Snd Tryz.prog 46 ralongS:=by
 refine snd_of Eq9aok Dok Tryz.func46 (enters_of Tryz.func46 (by kernel_rfl) rfl) (fun _=>rfl) (fun _=>rfl) ?_
 intro ⟨l,p⟩ hp
 have hp:l.sz 67108864∧p.sz 67108864:=hp
 obtain ⟨sl,sp⟩:=hp
 have ql:=R3.qsz sl (by decide)
 have qp:=PV.psz sp (by decide)
 obtain ⟨a,b,r⟩:=l
 obtain ⟨x,y⟩:=p
 have sa:=sl.1
 have sb:=sl.2.1
 have sr:=sl.2.2
 have sx:=sp.1
 have sy:=sp.2
 have qa:QB a.q _:=ql.1
 have qb:QB b.q _:=ql.2.1
 have qr:QB r.q _:=ql.2.2
 have qx:QB x.q _:=qp.1
 have qy:QB y.q _:=qp.2
 conv=>whnf
 refine .inl ⟨9,[[],[0],[],[2],[0,1,2,3],[],[5],[],[7],[0,1,2,3,4,5,6,7,8],[0,1,2,3,4,5,6,7,8,9],[0,1,2,3,4,5,6,7,8,9,10]],by kernel_rfl,?_⟩
 conv=>whnf
 obtain ⟨m,em,pm,sm,qm⟩:=hideR (QB.mul qa qx)
 refine ⟨(a,x),rfl,⟨RV.sz_ok sa (by decide),RV.sz_ok sx (by decide)⟩,?_⟩
 rw [show qmulS.val (a,x)=m.v from em]
 conv=>whnf
 obtain ⟨n,en,pn,sn,qn⟩:=hideR (QB.mul qb qy)
 refine ⟨(b,y),rfl,⟨RV.sz_ok sb (by decide),RV.sz_ok sy (by decide)⟩,?_⟩
 rw [show qmulS.val (b,y)=n.v from en]
 conv=>whnf
 obtain ⟨s,es,ps,ss,qs⟩:=hideR (QB.add qm qn)
 refine ⟨(m,n),rfl,⟨RV.sz_ok sm (by decide),RV.sz_ok sn (by decide)⟩,?_⟩
 rw [show qaddS.val (m,n)=s.v from es]
 conv=>whnf
 show s.v=(RV.of (dotR (nrm (R3.q (a,b,r))) (PV.p (x,y)))).v
 rw [(RV.v_eq es).symm,pm,pn]
 rfl
def Eq9b:Env:=En [(46,.p ralongS),(45,.p qsubS),(87,.p qmulS),(49,.p qsignS),(99,.p qquoS)]
theorem Eq9bok:EnvOk Tryz.prog Eq9b:=Enk ⟨rlalong_ok,rqsub_ok,rqmul_ok,rqsign_ok,rquo_ok,trivial⟩ trivial
theorem excess_ok:Snd Tryz.prog 50 excessS:=by
 refine snd_of Eq9bok Dok Tryz.func50 (enters_of Tryz.func50 (by kernel_rfl) rfl) (fun _=>rfl) (fun _=>rfl) ?_
 intro ⟨l,p⟩ hp
 have hp:l.sz 1048576∧p.sz 1048576:=hp
 obtain ⟨sl,sp⟩:=hp
 have ql:=R3.qsz sl (by decide)
 have qp:=PV.psz sp (by decide)
 conv=>whnf
 refine .inl ⟨5,[[],[],[0,1],[],[3],[0,1,2,3,4],[0,1,2,3,4,5]],by kernel_rfl,?_⟩
 conv=>whnf
 obtain ⟨m,em,pm,sm,qm⟩:=hideR (dot_sz (nrm_sz ql) qp)
 refine ⟨(l,p),rfl,⟨R3.sz_mono sl (by decide),PV.sz_mono sp (by decide)⟩,?_⟩
 rw [show ralongS.val (l,p)=m.v from em]
 conv=>whnf
 obtain ⟨a,b,r⟩:=l
 have sr:=sl.2.2
 have qr:QB r.q _:=ql.2.2
 obtain ⟨s,es,ps,ss,qs⟩:=hideR (QB.sub qm qr)
 refine ⟨(m,r),rfl,⟨RV.sz_ok sm (by decide),RV.sz_ok sr (by decide)⟩,?_⟩
 rw [show qsubS.val (m,r)=s.v from es]
 conv=>whnf
 show s.v=(RV.of (valR (R3.q (a,b,r)) p.p)).v
 rw [(RV.v_eq es).symm,pm]
 rfl
theorem rquot_ok:Snd Tryz.prog 63 rquotS:=by
 refine snd_of Eq9bok Dok Tryz.func63 (enters_of Tryz.func63 (by kernel_rfl) rfl) (fun _=>rfl) (fun _=>rfl) ?_
 intro ⟨a,b⟩ hp
 have hp:a.ok∧b.ok:=hp
 obtain ⟨ha,hb⟩:=hp
 have sa:a.sz 8589934592:=ha
 have sb:b.sz 8589934592:=hb
 have qa:=RV.qb' sa (by decide)
 have qb:=RV.qb' sb (by decide)
 conv=>whnf
 obtain ⟨s,es,ps,ss,qs⟩:=hideR (QB.div qa qb (by decide))
 obtain ⟨e,ee,pe⟩:=hideZ (if b.q=0 then 10 else 0)
 refine ⟨(a,b),rfl,⟨RV.sz_ok sa (by decide),RV.sz_ok sb (by decide)⟩,?_⟩
 rw [show qquoS.val (a,b)=.tuple ⟨[s.v,.int .i64 e]⟩ from by rw [← es,← ee]; rfl]
 conv=>whnf
 show s.v=(RV.of (a.q / b.q)).v
 rw [(RV.v_eq es).symm]
theorem rlcheck_ok:Snd Tryz.prog 18 lcheckS:=by
 refine snd_of Eq9aok Dok Tryz.func18 (enters_of Tryz.func18 (by kernel_rfl) rfl) (fun _=>rfl) (fun _=>rfl) ?_
 intro ⟨a,b,c⟩ hp
 have hp:RV.sz 1048576 a∧RV.sz 1048576 b∧RV.sz 1048576 c:=hp
 obtain ⟨sa,sb,sc⟩:=hp
 have fin:∀ z:Int,z=chkV (R3.q (a,b,c))→Value.int .i64 z=lcheckS.val (a,b,c):=fun z h=>by rw [h]; rfl
 conv=>whnf
 obtain ⟨m,em,pm⟩:=hideZ (cmpQ a.q 0)
 refine ⟨a,rfl,RV.sz_ok sa (by decide),?_⟩
 rw [show qsignS.val a=.int .i64 m from em]
 conv=>whnf
 by_cases h:m=0
 ·have h1:a.q=0:=cmpQ_zero.1 (by rw [← pm]; exact h)
  subst h
  conv=>whnf
  obtain ⟨n,en,pn⟩:=hideZ (cmpQ b.q 0)
  refine ⟨b,rfl,RV.sz_ok sb (by decide),?_⟩
  rw [show qsignS.val b=.int .i64 n from en]
  conv=>whnf
  by_cases h2:n=0
  ·have h3:b.q=0:=cmpQ_zero.1 (by rw [← pn]; exact h2)
   subst h2
   conv=>whnf
   exact fin _ (if_pos ⟨h1,h3⟩).symm
  ·rw [show (n == 0)=false from by simp [h2]]
   conv=>whnf
   exact fin _ (if_neg (fun e=>h2 (by rw [pn]; exact cmpQ_eq e.2))).symm
 ·rw [show (m == 0)=false from by simp [h]]
  conv=>whnf
  exact fin _ (if_neg (fun e=>h (by rw [pm]; exact cmpQ_eq e.1))).symm
end Go.Proofs.YtppeponndkfbkaaGreat
