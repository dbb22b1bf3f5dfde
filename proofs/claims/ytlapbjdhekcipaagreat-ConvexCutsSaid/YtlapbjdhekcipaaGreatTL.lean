import Derived.Test.YtlapbjdhekcipaaGreatRows
import Derived.Test.YtlapbjdhekcipaaGreatTK
set_option linter.unusedVariables false
set_option linter.unusedSimpArgs false
set_option maxRecDepth 20000
set_option maxHeartbeats 4000000
namespace Go.Proofs.YtlapbjdhekcipaaGreat
open Go Go.Ae
def Edz:Env:=pU [(33,.p lh)]
theorem adC:EnvOk Tryz.prog Edz:=qZ ⟨zk,trivial⟩ trivial
theorem NA:dj Tryz.prog 18 cU:=by
 refine dC adC aL Tryz.func18 (enters_of Tryz.func18 (by kernel_rfl) rfl) ?_ ?_ ?_
 ·intro ⟨i,j⟩ b hb;cases i <;> cases j <;> simp [cU,PL.ae] at hb <;> (try rcases hb with rfl | rfl) <;> (try subst hb) <;> first | rfl | skip
 ·intro i b hb; simp [cU] at hb
 intro ⟨i,j⟩ hp;have hp:i.list.length≤1099511627776∧j.list.length≤1099511627776:=hp;obtain ⟨RI,QS⟩:=hp;cases i with
 | none =>
  cases j with
  | none =>
   conv=>whnf
   refine .inr ⟨1,?_⟩;conv=>whnf
   exact ⟨.bool true,rfl,.refl _⟩
  | some j =>
   obtain ⟨m,c⟩:=j;obtain ⟨n,hn⟩:∃ n,n=m.length:=⟨_,rfl⟩;obtain ⟨g,hg⟩:∃ g,g=bF m:=⟨_,rfl⟩;have fin:∀ b:Bool,b=decide ([]=m)→∃ v',dn (List.range 1) 3 (cU.val (none,some (m,c)))=some v'∧gd (.bool b) v':=fun b h=>⟨.bool b,by rw [h]; rfl,.refl _⟩
   rw [show cU.ae (none,some (m,c))=[.flat false n 6 g] from by rw [hn,hg]; rfl,show cU.args (none,some (m,c))=[.slice none 0 0,.slice (some ⟨0,0,none⟩) n c] from by rw [hn]; rfl]
   by_cases h0:n=0
   ·have hm:m=[]:=List.length_eq_zero_iff.1 (hn.symm.trans h0);subst h0;conv=>whnf
    refine .inr ⟨1,?_⟩;conv=>whnf
    exact fin true (by rw [hm]; rfl)
   ·conv=>whnf
    rw [show (((0:Nat):Int) != ((n:Nat):Int))=true from by simp; omega]
    conv=>whnf
    exact fin false (by cases m with | nil=>exact absurd hn h0 | cons a m=>rfl)
 | some i =>
  obtain ⟨l,c⟩:=i;obtain ⟨k,hk⟩:∃ n,n=l.length:=⟨_,rfl⟩;obtain ⟨f,hf⟩:∃ g,g=bF l:=⟨_,rfl⟩;have RI:k≤1099511627776:=by rw [hk]; exact RI
  cases j with
  | none =>
   have fin:∀ b:Bool,b=decide (l=[])→∃ v',dn (List.range 1) 3 (cU.val (some (l,c),none))=some v'∧gd (.bool b) v':=fun b h=>⟨.bool b,by rw [h]; rfl,.refl _⟩
   rw [show cU.ae (some (l,c),none)=[.flat false k 6 f] from by rw [hk,hf]; rfl,show cU.args (some (l,c),none)=[.slice (some ⟨0,0,none⟩) k c,.slice none 0 0] from by rw [hk]; rfl]
   by_cases h0:k=0
   ·have hm:l=[]:=List.length_eq_zero_iff.1 (hk.symm.trans h0);subst h0;conv=>whnf
    refine .inr ⟨1,?_⟩;conv=>whnf
    exact fin true (by rw [hm]; rfl)
   ·conv=>whnf
    rw [show (((k:Nat):Int) != ((0:Nat):Int))=true from by simp; omega]
    conv=>whnf
    exact fin false (by cases l with | nil=>exact absurd hk h0 | cons a m=>rfl)
  | some j =>
   obtain ⟨m,d⟩:=j;obtain ⟨n,hn⟩:∃ n,n=m.length:=⟨_,rfl⟩;obtain ⟨g,hg⟩:∃ g,g=bF m:=⟨_,rfl⟩;have fin:∀ b:Bool,b=decide (l=m)→∃ v',dn (List.range 2) 3 (cU.val (some (l,c),some (m,d)))=some v'∧gd (.bool b) v':=fun b h=>⟨.bool b,by rw [h]; rfl,.refl _⟩
   rw [show cU.ae (some (l,c),some (m,d))=[.flat false k 6 f,.flat false n 6 g] from by rw [hk,hf,hn,hg]; rfl,show cU.args (some (l,c),some (m,d))=[.slice (some ⟨0,0,none⟩) k c,.slice (some ⟨1,0,none⟩) n d] from by rw [hk,hn]; rfl]
   by_cases h0:k=n
   ·obtain rfl:=h0;conv=>whnf
    rw [show ((k:Int) != (k:Int))=false from by simp]
    conv=>whnf
    refine .inl ⟨fun mm tz hz=>∃ (i:Nat),bC (some (.slice (some ⟨0,0,none⟩) k c)::some (.slice (some ⟨1,0,none⟩) k d)::aD 10 (some (.int .i64 k)::some (.int .i64 i)::aD 12 [])) tz∧hz=[some (.flat false k 6 f),some (.flat false k 6 g)]∧k - i=mm∧(i≤k∧vl l m i),.inr ⟨[0,1],[0,1,12,13],?_⟩,?_⟩
    ·conv=>whnf
     intro _;conv=>whnf
     refine ⟨_,0,(.aa (.aa (.sk 10 (.aa (.aa (.sk 12 .nil rfl))) rfl))),rfl,rfl,?_⟩;exact ⟨Nat.zero_le _,TC _ _⟩
    rintro mm aT _ ⟨i,aw,rfl,rfl,⟨hi,hN⟩⟩
    obtain ⟨az,rfl⟩:∃ az:Nat→Value,aT=.slice (some ⟨0,0,none⟩) k c::.slice (some ⟨1,0,none⟩) k d::zs az 2 10 (.int .i64 k::.int .i64 i::zs az 14 12 []):=bL aw;clear aw;conv=>whnf
    refine aI (fun h1=>?_) (fun h1=>?_)
    ·have h1:i < k:=by
      have:=of_decide_eq_true h1;omega
     obtain ⟨p,ke,_,bd⟩:=rR (l:=l) (i:=i) (by omega)
     obtain ⟨q,Ka,_,Pv⟩:=rR (l:=m) (i:=i) (by omega)
     rw [← hf] at bd;rw [← hg] at Pv;have e7:IntKind.i64.wrap ((i:Int)+1)=((i+1:Nat):Int):=by rw [ay (by omega) (by omega)]; rfl
     conv=>whnf
     refine .inl ⟨8,[[],[],[0,1],[0,1,2],[],[],[4,5],[4,5,6],[0,1,2,3,4,5,6,7]],by kernel_rfl,?_⟩
     conv=>whnf
     refine ⟨⟨by omega,by omega⟩,?_⟩
     simp only [toNat_cast,ar,Nat.zero_add];conv=>whnf
     refine ⟨by show i < k; omega,?_⟩
     conv=>whnf
     rw [bd];conv=>whnf
     refine ⟨⟨by omega,by omega⟩,?_⟩
     simp only [toNat_cast,ar,Nat.zero_add];conv=>whnf
     refine ⟨by show i < k; omega,?_⟩
     conv=>whnf
     rw [Pv];conv=>whnf
     rw [xM p q];by_cases J:p=q
     ·rw [decide_eq_true J];conv=>whnf
      rw [e7];refine .inr ⟨[0,1],[0,1,12,13],?_⟩;conv=>whnf
      intro _;conv=>whnf
      refine ⟨_,?_,i+1,(.aa (.aa (.sk 10 (.aa (.aa (.sk 12 .nil rfl))) rfl))),rfl,rfl,?_⟩
      ·omega
      ·exact ⟨by omega,UQ hN ke Ka J⟩
     ·rw [decide_eq_false J];conv=>whnf
      exact fin false (decide_eq_false (acG ke Ka J)).symm
    ·have h1:i=k:=by
      have:=of_decide_eq_false h1;omega
     subst h1;conv=>whnf
     exact fin true (decide_eq_true (V4 (by rw [← hk]; exact hN) (hk.symm.trans hn))).symm
   ·conv=>whnf
    rw [show ((k:Int) != (n:Int))=true from by simp; omega]
    conv=>whnf
    exact fin false (decide_eq_false (fun e=>h0 (by rw [hk,hn,e]))).symm
open Go Go.Ae
def Ea2:Env:=pU [(54,.q iC),(16,.q cF),(44,.q mS),(21,.q mG),(55,.p qT),(30,.p GH),(33,.p lh),(38,.p eU),(18,.q cU)]
theorem adD:EnvOk Tryz.prog Ea2:=qZ ⟨Vp,Ny,ZJ,ZK,OS,Vf,zk,wW,NA,trivial⟩ trivial
theorem Uf:bc Tryz.prog 13 OH:=by
 refine bh adD aL Tryz.func13 (enters_of Tryz.func13 (by kernel_rfl) rfl) (fun _=>rfl) (fun _=>rfl) ?_
 intro _ hp;obtain ⟨cu,cL⟩:∃ cu,cu=ao:=⟨_,rfl⟩;obtain ⟨gS,vU⟩:∃ g,g=aX (bB dG):=⟨_,rfl⟩;obtain ⟨gT,Kb⟩:∃ g,g=aX (bB jM):=⟨_,rfl⟩;obtain ⟨gU,Kc⟩:∃ g,g=aX (bB kh):=⟨_,rfl⟩;obtain ⟨gM,AW⟩:∃ g,g=aX (bB jN):=⟨_,rfl⟩;have fS:PL.fit (some (aQ (bB dG),cu)):=Hn (by decide) (by decide)
 have fT:PL.fit (some (aQ (bB jM),cu)):=Hn (by decide) (by decide)
 have fU:PL.fit (some (aQ (bB kh),cu)):=Hn (by decide) (by decide)
 conv=>whnf
 refine ⟨dG,[0],rfl,⟨by decide,by decide⟩,?_⟩
 rw [show iC.ae dG=[.flat false 8 1 (nI dG)] from rfl,show iC.val dG=.slice (some ⟨1,0,none⟩) 4 cu from by rw [cL]; rfl,show iC.new dG=some (.flat true 4 6 gS) from by rw [vU]; rfl]
 conv=>whnf
 refine ⟨BX dG _ rfl,?_⟩;conv=>whnf
 refine ⟨_,rfl,?_⟩;conv=>whnf
 refine ⟨jM,[2],rfl,⟨by decide,by decide⟩,?_⟩
 rw [show iC.ae jM=[.flat false 6 1 (nI jM)] from rfl,show iC.val jM=.slice (some ⟨1,0,none⟩) 3 cu from by rw [cL]; rfl,show iC.new jM=some (.flat true 3 6 gT) from by rw [Kb]; rfl]
 conv=>whnf
 refine ⟨BX jM _ rfl,?_⟩;conv=>whnf
 refine ⟨_,rfl,?_⟩;conv=>whnf
 refine ⟨(some (aQ (bB dG),cu),some (aQ (bB jM),cu)),[1,3],rfl,⟨⟨fS,fT⟩,jZ (HR (by decide)) (HR (by decide))⟩,?_⟩
 rw [show cF.ae (some (aQ (bB dG),cu),some (aQ (bB jM),cu))=[.flat false 4 6 gS,.flat false 3 6 gT] from by rw [vU,Kb]; rfl,Ns.1,Ns.2,← AW,← cL]
 conv=>whnf
 refine ⟨aq.aO (fun h=>by cases h) (fun r hr=>by rw [vU]; rfl),aq.aO (fun h=>by cases h) (fun r hr=>by rw [Kb]; rfl),?_⟩
 conv=>whnf
 refine ⟨_,rfl,?_⟩;conv=>whnf
 refine ⟨kh,[5],rfl,⟨by decide,by decide⟩,?_⟩
 rw [show iC.ae kh=[.flat false 6 1 (nI kh)] from rfl,show iC.val kh=.slice (some ⟨1,0,none⟩) 3 cu from by rw [cL]; rfl,show iC.new kh=some (.flat true 3 6 gU) from by rw [Kc]; rfl]
 conv=>whnf
 refine ⟨BX kh _ rfl,?_⟩;conv=>whnf
 refine ⟨_,rfl,?_⟩;conv=>whnf
 obtain ⟨sa,AS⟩:∃ u,u=cA (iq (4,0)):=⟨_,rfl⟩;obtain ⟨sb,D9⟩:∃ u,u=cA (iq (4,4)):=⟨_,rfl⟩;refine ⟨(some (aQ (bB dG),cu),some (aQ (bB kh),cu)),[1,6],rfl,⟨fS,fU⟩,?_⟩;rw [show mS.ae (some (aQ (bB dG),cu),some (aQ (bB kh),cu))=[.flat false 4 6 gS,.flat false 3 6 gU] from by rw [vU,Kc]; rfl,XX AS D9,show mS.new (some (aQ (bB dG),cu),some (aQ (bB kh),cu))=none from rfl]
 conv=>whnf
 refine ⟨aq.aO (fun h=>by cases h) (fun r hr=>by rw [vU]; rfl),aq.aO (fun h=>by cases h) (fun r hr=>by rw [Kc]; rfl),?_⟩
 conv=>whnf
 refine ⟨_,rfl,?_⟩;conv=>whnf
 obtain ⟨p1,cp1,ep1,pp1,Ed,J8⟩:=xe (vk (-2) (1) (by decide) (by decide))
 refine ⟨(((-2:Int),(1:Int)):Int × Int),rfl,⟨⟨by decide,by decide⟩,⟨by decide,by decide⟩⟩,?_⟩
 rw [show qT.val (((-2:Int),(1:Int)):Int × Int)=p1.v from ep1]
 conv=>whnf
 obtain ⟨p2,cp2,ep2,pp2,Ee,J9⟩:=xe (vk (6) (1) (by decide) (by decide))
 refine ⟨(((6:Int),(1:Int)):Int × Int),rfl,⟨⟨by decide,by decide⟩,⟨by decide,by decide⟩⟩,?_⟩
 rw [show qT.val (((6:Int),(1:Int)):Int × Int)=p2.v from ep2]
 conv=>whnf
 obtain ⟨lo,tG,elo,plo,tI,AT⟩:=Hh (q:=1 / 4) (k:=1) ⟨gR (show _ < C ^ 1 by decide +kernel),gR (show _ < C ^ 1 by decide +kernel)⟩
 obtain ⟨hi,tH,ehi,phi,vT,AU⟩:=Hh (q:=3 / 4) (k:=1) ⟨gR (show _ < C ^ 1 by decide +kernel),gR (show _ < C ^ 1 by decide +kernel)⟩
 refine ⟨(some (aQ (bB dG),cu),(p1,p2)),[1],rfl,⟨fS,PV.aP Ed (by decide),PV.aP Ee (by decide)⟩,?_⟩
 rw [show mG.ae (some (aQ (bB dG),cu),(p1,p2))=[.flat false 4 6 gS] from by rw [vU]; rfl,XY cp1 cp2 tG tH,show mG.new (some (aQ (bB dG),cu),(p1,p2))=none from rfl]
 conv=>whnf
 refine ⟨aq.aO (fun h=>by cases h) (fun r hr=>by rw [vU]; rfl),?_⟩
 conv=>whnf
 refine ⟨_,rfl,?_⟩;conv=>whnf
 refine ⟨(1,4),rfl,⟨by show vM 1; decide,by show vM 4; decide⟩,?_⟩
 rw [show GH.val (1,4)=.tuple ⟨[lo.v,.int .i64 0]⟩ from by show me 1 4=_; unfold me; rw [show Rat.divInt 1 4=1 / 4 by decide +kernel,tG]; rfl]
 conv=>whnf
 refine .inl ⟨36,[[],[0],[0,1],[0,1,2],[0,1,2,3],[0,1,2,3,4],[0,1,2,3,4,5],[0,1,2,3,4,5,6],[0,1,2,3,4,5,6,7],[0,1,2,3,4,5,6,7,8],[0,1,2,3,4,5,6,7,8,9],[0,1,2,3,4,5,6,7,8,9,10],[0,1,2,3,4,5,6,7,8,9,10],[0,1,2,3,4,5,6,7,8,9,10,12],[0,1,2,3,4,5,6,7,8,9,10,11,12,13],[0,1,2,3,4,5,6,7,8,9,10,11,12,13,14],[0,1,2,3,4,5,6,7,8,9,10,11,12,13,14,15],[0,1,2,3,4,5,6,7,8,9,10,11,12,13,14,15,16],[0,1,2,3,4,5,6,7,8,9,10,11,12,13,14,15,16],[0,1,2,3,4,5,6,7,8,9,10,11,12,13,14,15,16,18],[0,1,2,3,4,5,6,7,8,9,10,11,12,13,14,15,16,18,19],[0,1,2,3,4,5,6,7,8,9,10,11,12,13,14,15,16,17,18,19,20],[0,1,2,3,4,5,6,7,8,9,10,11,12,13,14,15,16,17,18,19,20,21],[0,1,2,3,4,5,6,7,8,9,10,11,12,13,14,15,16,17,18,19,20,21,22],[0,1,2,3,4,5,6,7,8,9,10,11,12,13,14,15,16,17,18,19,20,21,22,23],[0,1,2,3,4,5,6,7,8,9,10,11,12,13,14,15,16,17,18,19,20,21,22,23,24],[0,1,2,3,4,5,6,7,8,9,10,11,12,13,14,15,16,17,18,19,20,21,22,23,24,25],[0,1,2,3,4,5,6,7,8,9,10,11,12,13,14,15,16,17,18,19,20,21,22,23,24,25,26],[0,1,2,3,4,5,6,7,8,9,10,11,12,13,14,15,16,17,18,19,20,21,22,23,24,25,26],[0,1,2,3,4,5,6,7,8,9,10,11,12,13,14,15,16,17,18,19,20,21,22,23,24,25,26,27,28],[0,1,2,3,4,5,6,7,8,9,10,11,12,13,14,15,16,17,18,19,20,21,22,23,24,25,26,27,28,29],[0,1,2,3,4,5,6,7,8,9,10,11,12,13,14,15,16,17,18,19,20,21,22,23,24,25,26,27,28,29,30],[0,1,2,3,4,5,6,7,8,9,10,11,12,13,14,15,16,17,18,19,20,21,22,23,24,25,26,27,28,29,30,31],[0,1,2,3,4,5,6,7,8,9,10,11,12,13,14,15,16,17,18,19,20,21,22,23,24,25,26,27,28,29,30,31],[0,1,2,3,4,5,6,7,8,9,10,11,12,13,14,15,16,17,18,19,20,21,22,23,24,25,26,27,28,29,30,31],[0,1,2,3,4,5,6,7,8,9,10,11,12,13,14,15,16,17,18,19,20,21,22,23,24,25,26,27,28,29,30,31,33,34],[0,1,2,3,4,5,6,7,8,9,10,11,12,13,14,15,16,17,18,19,20,21,22,23,24,25,26,27,28,29,30,31,32,33,34,35],[0,1,2,3,4,5,6,7,8,9,10,11,12,13,14,15,16,17,18,19,20,21,22,23,24,25,26,27,28,29,30,31,32,33,34,35,36],[0,1,2,3,4,5,6,7,8,9,10,11,12,13,14,15,16,17,18,19,20,21,22,23,24,25,26,27,28,29,30,31,32,33,34,35,36,37]],by kernel_rfl,?_⟩
 conv=>whnf
 refine ⟨jN,[23],rfl,⟨by decide,by decide⟩,?_⟩
 rw [show iC.ae jN=[.flat false 8 1 (nI jN)] from rfl,show iC.val jN=.slice (some ⟨1,0,none⟩) 4 cu from by rw [cL]; rfl,show iC.new jN=some (.flat true 4 6 gM) from by rw [AW]; rfl]
 conv=>whnf
 refine ⟨BX jN _ rfl,?_⟩;conv=>whnf
 refine ⟨_,rfl,?_⟩;conv=>whnf
 refine ⟨(some (aQ (bB jN),cu),some (aQ (bB jN),cu)),[4,24],rfl,⟨by show 4≤1099511627776; decide,by show 4≤1099511627776; decide⟩,?_⟩
 rw [show cU.ae (some (aQ (bB jN),cu),some (aQ (bB jN),cu))=[.flat false 4 6 gM,.flat false 4 6 gM] from by rw [AW]; rfl,show cU.val (some (aQ (bB jN),cu),some (aQ (bB jN),cu))=.bool true from congrArg Value.bool (decide_eq_true rfl),show cU.new (some (aQ (bB jN),cu),some (aQ (bB jN),cu))=none from rfl]
 conv=>whnf
 refine ⟨aq.aO (fun h=>by cases h) (fun r hr=>by rw [AW]; rfl),aq.aO (fun h=>by cases h) (fun r hr=>by rw [AW]; rfl),?_⟩
 conv=>whnf
 refine ⟨.bool true,rfl,?_⟩;conv=>whnf
 obtain ⟨q1,cq1,eq1,pq1,Rz,RB⟩:=xe (vk (4) (0) (by decide) (by decide))
 refine ⟨(((4:Int),(0:Int)):Int × Int),rfl,⟨⟨by decide,by decide⟩,⟨by decide,by decide⟩⟩,?_⟩
 rw [show qT.val (((4:Int),(0:Int)):Int × Int)=q1.v from eq1]
 conv=>whnf
 obtain ⟨q2,cq2,eq2,pq2,RA,RC⟩:=xe (vk (4) (4) (by decide) (by decide))
 refine ⟨(((4:Int),(4:Int)):Int × Int),rfl,⟨⟨by decide,by decide⟩,⟨by decide,by decide⟩⟩,?_⟩
 rw [show qT.val (((4:Int),(4:Int)):Int × Int)=q2.v from eq2]
 conv=>whnf
 obtain rfl:sa=q1:=AS.trans cq1.symm;obtain rfl:sb=q2:=D9.trans cq2.symm;rw [eqX (sa,sb)];conv=>whnf
 rw [Q1 lo];conv=>whnf
 obtain ⟨o,co,eo,po,so,qo⟩:=Hh (q:=((1:Int):Rat)) (QB.of_int (n:=1) (k:=1) (gR (show Int.natAbs 1 < C ^ 1 by decide)) (by decide))
 refine ⟨(1:Int),rfl,⟨by decide,by decide⟩,?_⟩
 rw [show lh.val (1:Int)=o.v from eo]
 conv=>whnf
 refine ⟨(o,lo),rfl,⟨RV.bo so (by decide),RV.bo tI (by decide)⟩,?_⟩
 rw [show eU.val (o,lo)=hi.v from by show (RV.of (o.q - lo.q)).v=_; rw [po,plo,show ((1:Int):Rat) - 1 / 4=3 / 4 by decide +kernel,tH]]
 conv=>whnf
 show Value.bool (fi _ _)=Value.bool true
 exact congrArg Value.bool (Q1 hi)
open Go Go.Ae
def Kd:Env:=En [(53,.q cf)]
theorem adE:EnvOk Tryz.prog Kd:=bI ⟨Ue,trivial⟩ trivial
theorem Vq:gj Tryz.prog 107 (cC Kd cO Tryz.f107):=by
 exact jh adE aL Tryz.func107 (enters_of Tryz.func107 (by kernel_rfl) rfl)
def Ke:Env:=En [] [(107,cC Kd cO Tryz.f107)]
theorem adF:EnvOk Tryz.prog Ke:=bI trivial ⟨Vq,trivial⟩
theorem Sn:gj Tryz.prog 52 (cC Ke cO Tryz.f52):=by
 exact jh adF aL Tryz.func52 (enters_of Tryz.func52 (by kernel_rfl) rfl)
def Kf:Env:=En [] [(52,cC Ke cO Tryz.f52)]
theorem adG:EnvOk Tryz.prog Kf:=bI trivial ⟨Sn,trivial⟩
theorem W2:gj Tryz.prog 12 (cC Kf cO Tryz.f12):=by
 exact jh adG aL Tryz.func12 (enters_of Tryz.func12 (by kernel_rfl) rfl)
open Go Go.Ae
def Ed1:Env:=En [(115,.p BU),(117,.q nH),(116,.q ny)]
theorem adH:EnvOk Tryz.prog Ed1:=bI ⟨SR,ZL,WZ,trivial⟩ trivial
theorem Gi:dj Tryz.prog 63 g0:=by
 refine dC adH aL Tryz.func63 (enters_of Tryz.func63 (by kernel_rfl) rfl) ?_ ?_ ?_
 ·intro i b hb; simp [g0] at hb; rw [hb]; rfl
 ·intro i b hb; simp [g0] at hb; rw [← hb]; rfl
 intro ⟨⟨L,c⟩,a,b⟩ hp;have hp:(L.length≤1073741824∧∀ v∈L,Q2.sz 2048 v)∧a.sz 2048∧b.sz 2048:=hp;obtain ⟨⟨hlen,aY⟩,sa,sb⟩:=hp;have qa:=PV.cM sa (by decide)
 have qb:=PV.cM sb (by decide)
 obtain ⟨n,hn⟩:∃ n,n=L.length:=⟨_,rfl⟩;obtain ⟨g,hg⟩:∃ g,g=aX L:=⟨_,rfl⟩;obtain ⟨C,hC⟩:∃ C,C=dg (c8 a.p b.p) L:=⟨_,rfl⟩;obtain ⟨R,hR⟩:∃ R,R=cV C:=⟨_,rfl⟩;obtain ⟨m,hm⟩:∃ m,m=C.length:=⟨_,rfl⟩;obtain ⟨q,hq⟩:∃ m,m=R.length:=⟨_,rfl⟩;obtain ⟨E,hE⟩:∃ G,G=aX R:=⟨_,rfl⟩;obtain ⟨K,hK⟩:∃ K,K=db g0 ((L,c),(a,b)):=⟨_,rfl⟩;have hf:=yL (a:=a.p) (b:=b.p) hlen aY qa qb;rw [← hC] at hf;rw [show g0.ae ((L,c),(a,b))=[.flat false n 6 g] from by rw [hn,hg]; rfl,show g0.args ((L,c),(a,b))=[.slice (some ⟨0,0,none⟩) n c,a.v,b.v] from by rw [hn]; rfl,← hK]
 conv=>whnf
 obtain ⟨l,e,el,pl,sl,ql⟩:=aad (Xq qa qb);refine ⟨(a,b),rfl,⟨PV.aP sa (by decide),PV.aP sb (by decide)⟩,?_⟩
 rw [show BU.val (a,b)=.tuple ⟨[l.v,.int .i64 e]⟩ from el]
 conv=>whnf
 have hl:=aas pl;obtain ⟨D,hD⟩:∃ D,D=mQ l.q (aQ L):=⟨_,rfl⟩;have Kg:aG D=C:=by rw [hD,hC,hl]; exact Nt
 have AX:D.length=m:=by rw [hm,← Kg,cE]
 obtain ⟨h,hh⟩:∃ h,h=bF D:=⟨_,rfl⟩;refine ⟨((aQ L,c),l),[0],by rw [show nH.args ((aQ L,c),l)=[.slice (some ⟨0,0,none⟩) n c,l.v] from by rw [hn,← oR]; rfl]; rfl,⟨by show (aQ L).length≤_; rw [oR]; omega,aat aY (by decide),R3.aP sl (by decide)⟩,?_⟩
 rw [show nH.ae ((aQ L,c),l)=[.flat false n 6 g] from by rw [hn,hg,← oR]; rfl,show nH.val ((aQ L,c),l)=.slice (some ⟨1,0,none⟩) m ao from by rw [← AX,hD]; rfl,show nH.new ((aQ L,c),l)=some (.flat true m 6 h) from by rw [← AX,hh,hD]; rfl]
 conv=>whnf
 refine ⟨aq.aO (fun h=>h) (fun r hr=>by rw [hg]; rfl),?_⟩
 conv=>whnf
 refine ⟨_,rfl,?_⟩;conv=>whnf
 refine ⟨(D,ao),[4],by rw [show ny.args (D,ao)=[.slice (some ⟨0,0,none⟩) m ao] from by rw [← AX]; rfl]; rfl,⟨by show D.length≤_; rw [AX,hm]; exact hf.1,by rw [hD]; exact XZ (k:=262144) (by rw [hl,← hC]; exact hf.2) (by decide)⟩,?_⟩
 rw [show ny.ae (D,ao)=[.flat false m 6 h] from by rw [← AX,hh]; rfl,show ny.val (D,ao)=.slice (some ⟨1,0,none⟩) q ao from by rw [hq,hR,← Kg]; rfl,show ny.new (D,ao)=some (.flat true q 6 E) from by rw [hq,hE,hR,← Kg]; rfl]
 conv=>whnf
 refine ⟨aq.aO (fun h=>by cases h) (fun r hr=>by rw [hh]; rfl),?_⟩
 conv=>whnf
 refine ⟨_,rfl,?_⟩;conv=>whnf
 rw [hK];unfold db;rw [show g0.new ((L,c),(a,b))=some (.flat true q 6 E) from by rw [hq,hE,hR,hC]; rfl,show g0.val ((L,c),(a,b))=.slice (some ⟨1,0,none⟩) q ao from by rw [hq,hR,hC]; rfl]
 refine ⟨5,?_⟩;conv=>whnf
 exact ⟨⟨rfl,aq.aO (fun h=>h) (fun r hr=>by rw [hE]; rfl)⟩,_,rfl,.refl _⟩
def Ed2:Env:=En [(63,.q g0)]
theorem adI:EnvOk Tryz.prog Ed2:=bI ⟨Gi,trivial⟩ trivial
theorem SS:dj Tryz.prog 66 kU:=by
 refine dC adI aL Tryz.func66 (enters_of Tryz.func66 (by kernel_rfl) rfl) ?_ ?_ ?_
 ·intro i b hb; simp [kU] at hb; rcases hb with rfl | rfl <;> rfl
 ·intro i b hb; simp [kU] at hb; rw [← hb]; rfl
 intro ⟨⟨A,c⟩,⟨B,d⟩⟩ hp;have hp:((A.length≤1099511627776∧∀ v∈A,PV.sz 2048 v)∧B.length≤1099511627776∧∀ v∈B,PV.sz 2048 v)∧(bt A=0∧bt B=0)∧qX A B:=hp;obtain ⟨⟨⟨gu,nf⟩,cR,n5⟩,⟨rJ,vS⟩,a9⟩:=hp;have a9:=a9 rJ vS;have J0:=nj rJ;have Ru:=nj vS;obtain ⟨na,a8⟩:∃ n,n=A.length:=⟨_,rfl⟩;obtain ⟨ga,bw⟩:∃ g,g=bF A:=⟨_,rfl⟩;obtain ⟨nb,bJ⟩:∃ n,n=B.length:=⟨_,rfl⟩;obtain ⟨gb,cD⟩:∃ g,g=bF B:=⟨_,rfl⟩;obtain ⟨K,hK⟩:∃ K,K=db kU ((A,c),(B,d)):=⟨_,rfl⟩;rw [show kU.ae ((A,c),(B,d))=[.flat false na 6 ga,.flat false nb 6 gb] from by rw [a8,bw,bJ,cD]; rfl,show kU.args ((A,c),(B,d))=[.slice (some ⟨0,0,none⟩) na c,.slice (some ⟨1,0,none⟩) nb d] from by rw [a8,bJ]; rfl,← hK]
 have lb3:3≤nb∧nb≤64:=by omega
 have la3:3≤na∧na≤64:=by omega
 conv=>whnf
 refine .inl ⟨fun mm tz hz=>∃ (j:Nat) (q:Nat) (F:Nat→List Value),bC (aD 1 (some (.slice (some ⟨1,0,none⟩) nb d)::aD 3 (some (Qd (.slice (some ⟨0,0,none⟩) na c) q j)::some (.int .i64 j)::aD 27 []))) tz∧hz=[some (.flat false na 6 ga),some (.flat false nb 6 gb)]++aer F q j∧nb - j=mm∧((j≤nb∧(0 < j→q=(fY (aG A) (aG B) j).length))∧(∀ r,r < q→F r=aX (fY (aG A) (aG B) j) r)),.inr ⟨[0,1],[1,5,6],?_⟩,?_⟩
 ·conv=>whnf
  intro _;conv=>whnf
  refine ⟨_,0,0,fun _=>[],(.sk 1 (.aa (.sk 3 (.aa (.aa (.sk 27 .nil rfl))) rfl)) rfl),rfl,rfl,?_⟩
  exact ⟨⟨Nat.zero_le _,fun h=>absurd h (Nat.lt_irrefl 0)⟩,fun r hr=>absurd hr (Nat.not_lt_zero r)⟩
 rintro mm aT _ ⟨j,q,F,aw,rfl,rfl,⟨⟨hj,hq⟩,hF⟩⟩
 obtain ⟨az,rfl⟩:∃ az:Nat→Value,aT=zs az 0 1 (.slice (some ⟨1,0,none⟩) nb d::zs az 2 3 (Qd (.slice (some ⟨0,0,none⟩) na c) q j::.int .i64 j::zs az 7 27 [])):=bL aw;clear aw;cases j with
 | zero =>
  conv=>whnf
  rw [show decide (((0:Nat):Int) < (nb:Int))=true from decide_eq_true (by omega)]
  conv=>whnf
  rw [show decide ((na:Int) > 0)=true from decide_eq_true (by omega)]
  have h3:0 < nb:=by omega
  have e7:IntKind.i64.wrap (((0:Nat):Int)+1)=((0+1:Nat):Int):=by rw [ay (by omega) (by omega)]; rfl
  obtain ⟨a,b,ra,rb,⟨ma,mb⟩,eH,b8,_,_⟩:=pY bJ h3;have sa:=n5 a ma;have sb:=n5 b mb;have b6:=jm h3 (by omega)
  obtain ⟨u,hu⟩:∃ u,u=aZ nb (0):=⟨_,rfl⟩;rw [← hu] at b6 b8 rb;rw [← cD] at ra rb;obtain ⟨m9,nc⟩:=a9 (0) (by rw [cE]; omega)
  obtain ⟨S,hS⟩:∃ S,S=fY (aG A) (aG B) (0):=⟨_,rfl⟩;rw [← hS] at m9 nc;obtain ⟨C,hC⟩:∃ C,C=dg (c8 a.p b.p) S:=⟨_,rfl⟩;obtain ⟨R,hR⟩:∃ R,R=cV C:=⟨_,rfl⟩;have j3:=yw eH (hC.trans (by rw [hS])) hR
  obtain ⟨q2,dH⟩:∃ m,m=R.length:=⟨_,rfl⟩;obtain ⟨E,hE⟩:∃ G,G=aX R:=⟨_,rfl⟩;conv=>whnf
  refine .inl ⟨13,[[],[],[],[1,2],[1,2,3],[],[],[6],[],[8],[6,7,8,9],[5,6,7,8,9,10],[5,6,7,8,9,10,11],[0,1,2,3,4,5,6,7,8,9,10,11,12],[0,1,2,3,4,5,6,7,8,9,10,11,12,13]],by kernel_rfl,?_⟩
  conv=>whnf
  refine ⟨⟨by omega,by omega⟩,?_⟩
  simp only [toNat_cast,ar,Nat.zero_add];conv=>whnf
  refine ⟨by show 0 < nb; omega,?_⟩
  conv=>whnf
  rw [ra];conv=>whnf
  rw [show decide ((nb:Int)≠0)=true from decide_eq_true (by omega)]
  conv=>whnf
  rw [b6];refine ⟨⟨by omega,by omega⟩,?_⟩
  simp only [toNat_cast,ar,Nat.zero_add];conv=>whnf
  refine ⟨by show u < nb; omega,?_⟩
  conv=>whnf
  rw [rb];conv=>whnf
  refine ⟨((S,c),(a,b)),[0],by rw [show g0.args ((S,c),(a,b))=[.slice (some ⟨0,0,none⟩) na c,a.v,b.v] from by rw [show na=S.length from by rw [hS,a8,← cE A]; rfl]; rfl]; rfl,⟨⟨m9,nc⟩,sa,sb⟩,?_⟩
  rw [show g0.ae ((S,c),(a,b))=[.flat false na 6 (aX S)] from by rw [show na=S.length from by rw [hS,a8,← cE A]; rfl]; rfl,show g0.val ((S,c),(a,b))=.slice (some ⟨1,0,none⟩) q2 ao from by rw [dH,hR,hC]; rfl,show g0.new ((S,c),(a,b))=some (.flat true q2 6 E) from by rw [dH,hE,hR,hC]; rfl]
  conv=>whnf
  refine ⟨aq.dz (fun h=>h) (fun r hr=>by rw [hS,TQ,wK rJ,bw]) (fun r hr=>rfl),?_⟩
  conv=>whnf
  refine ⟨_,rfl,?_⟩;conv=>whnf
  rw [e7];refine .inr ⟨[0,1,15],[1,5,6],?_⟩;conv=>whnf
  intro _;conv=>whnf
  refine ⟨_,?_,0+1,q2,E,(.sk 1 (.aa (.sk 3 (.aa (.aa (.sk 27 .nil rfl))) rfl)) rfl),rfl,rfl,?_⟩
  ·omega
  ·exact ⟨⟨by omega,fun _=>dH.trans (congrArg List.length j3)⟩,fun r hr=>by rw [hE,j3]⟩
 | succ j =>
  have hq:=hq (Nat.succ_pos j);conv=>whnf
  by_cases h3:j+1 < nb
  ·rw [show decide (((j+1:Nat):Int) < (nb:Int))=true from decide_eq_true (by omega)]
   conv=>whnf
   by_cases h4:q=0
   ·rw [show decide ((q:Int) > 0)=false from decide_eq_false (by omega)]
    have hR0:fY (aG A) (aG B) (j+1)=[]:=List.eq_nil_of_length_eq_zero (by omega)
    have hm:=TS (by rw [cE]; omega) hR0
    conv=>whnf
    rw [hK];unfold db;rw [show kU.new ((A,c),(B,d))=some (.flat true 0 6 (aX [])) from by show some (ai.flat true (jY (aG A) (aG B)).length 6 (aX (jY (aG A) (aG B))))=_; rw [hm]; rfl,show kU.val ((A,c),(B,d))=.slice (some ⟨2,0,none⟩) 0 ao from by show Value.slice (some ⟨2,0,none⟩) (jY (aG A) (aG B)).length ao=_; rw [hm]; rfl]
    subst h4;refine ⟨2,?_⟩;conv=>whnf
    exact ⟨⟨rfl,aq.dz (fun h=>h) (fun r hr=>absurd hr (Nat.not_lt_zero r)) (fun r hr=>rfl)⟩,_,rfl,.refl _⟩
   ·rw [show decide ((q:Int) > 0)=true from decide_eq_true (by omega)]
    have h3:j+1 < nb:=by omega
    have e7:IntKind.i64.wrap (((j+1:Nat):Int)+1)=((j+1+1:Nat):Int):=by rw [ay (by omega) (by omega)]; rfl
    obtain ⟨a,b,ra,rb,⟨ma,mb⟩,eH,b8,_,_⟩:=pY bJ h3;have sa:=n5 a ma;have sb:=n5 b mb;have b6:=jm h3 (by omega)
    obtain ⟨u,hu⟩:∃ u,u=aZ nb (j+1):=⟨_,rfl⟩;rw [← hu] at b6 b8 rb;rw [← cD] at ra rb;obtain ⟨m9,nc⟩:=a9 (j+1) (by rw [cE]; omega)
    obtain ⟨S,hS⟩:∃ S,S=fY (aG A) (aG B) (j+1):=⟨_,rfl⟩;rw [← hS] at m9 nc;obtain ⟨C,hC⟩:∃ C,C=dg (c8 a.p b.p) S:=⟨_,rfl⟩;obtain ⟨R,hR⟩:∃ R,R=cV C:=⟨_,rfl⟩;have j3:=yw eH (hC.trans (by rw [hS])) hR
    obtain ⟨q2,dH⟩:∃ m,m=R.length:=⟨_,rfl⟩;obtain ⟨E,hE⟩:∃ G,G=aX R:=⟨_,rfl⟩;conv=>whnf
    refine .inl ⟨13,[[],[],[],[1,2],[1,2,3],[],[],[6],[],[8],[6,7,8,9],[5,6,7,8,9,10],[5,6,7,8,9,10,11],[0,1,2,3,4,5,6,7,8,9,10,11,12],[0,1,2,3,4,5,6,7,8,9,10,11,12,13]],by kernel_rfl,?_⟩
    conv=>whnf
    refine ⟨⟨by omega,by omega⟩,?_⟩
    simp only [toNat_cast,ar,Nat.zero_add];conv=>whnf
    refine ⟨by show j+1 < nb; omega,?_⟩
    conv=>whnf
    rw [ra];conv=>whnf
    rw [show decide ((nb:Int)≠0)=true from decide_eq_true (by omega)]
    conv=>whnf
    rw [b6];refine ⟨⟨by omega,by omega⟩,?_⟩
    simp only [toNat_cast,ar,Nat.zero_add];conv=>whnf
    refine ⟨by show u < nb; omega,?_⟩
    conv=>whnf
    rw [rb];conv=>whnf
    refine ⟨((S,ao),(a,b)),[2],by rw [show g0.args ((S,ao),(a,b))=[.slice (some ⟨0,0,none⟩) q ao,a.v,b.v] from by rw [show q=S.length from by rw [hS,hq]]; rfl]; rfl,⟨⟨m9,nc⟩,sa,sb⟩,?_⟩
    rw [show g0.ae ((S,ao),(a,b))=[.flat false q 6 (aX S)] from by rw [show q=S.length from by rw [hS,hq]]; rfl,show g0.val ((S,ao),(a,b))=.slice (some ⟨1,0,none⟩) q2 ao from by rw [dH,hR,hC]; rfl,show g0.new ((S,ao),(a,b))=some (.flat true q2 6 E) from by rw [dH,hE,hR,hC]; rfl]
    conv=>whnf
    refine ⟨aq.dz (fun h=>by cases h) (fun r hr=>by rw [hS]; exact hF r hr) (fun r hr=>rfl),?_⟩
    conv=>whnf
    refine ⟨_,rfl,?_⟩;conv=>whnf
    rw [e7];refine .inr ⟨[0,1,16],[1,5,6],?_⟩;conv=>whnf
    intro _;conv=>whnf
    refine ⟨_,?_,j+1+1,q2,E,(.sk 1 (.aa (.sk 3 (.aa (.aa (.sk 27 .nil rfl))) rfl)) rfl),rfl,rfl,?_⟩
    ·omega
    ·exact ⟨⟨by omega,fun _=>dH.trans (congrArg List.length j3)⟩,fun r hr=>by rw [hE,j3]⟩
  ·rw [show decide (((j+1:Nat):Int) < (nb:Int))=false from decide_eq_false (by omega)]
   have h3:j+1=nb:=by omega
   have hm:jY (aG A) (aG B)=fY (aG A) (aG B) (j+1):=by rw [h3,bJ,← cE B,Mx]
   conv=>whnf
   rw [hK];unfold db;rw [show kU.new ((A,c),(B,d))=some (.flat true q 6 (aX (fY (aG A) (aG B) (j+1)))) from by show some (ai.flat true (jY (aG A) (aG B)).length 6 (aX (jY (aG A) (aG B))))=_; rw [hm,← hq],show kU.val ((A,c),(B,d))=.slice (some ⟨2,0,none⟩) q ao from by show Value.slice (some ⟨2,0,none⟩) (jY (aG A) (aG B)).length ao=_; rw [hm,← hq]]
   refine ⟨2,?_⟩;conv=>whnf
   exact ⟨⟨rfl,aq.dz (fun h=>h) hF (fun r hr=>rfl)⟩,_,rfl,.refl _⟩
open Go Go.Ae
def Kh:Env:=En [(63,.q g0)]
theorem adJ:EnvOk Tryz.prog Kh:=bI ⟨Gi,trivial⟩ trivial
theorem Ug:gj Tryz.prog 62 (cC Kh cO Tryz.f62):=by
 exact jh adJ aL Tryz.func62 (enters_of Tryz.func62 (by kernel_rfl) rfl)
def Ed4:Env:=pU [(63,.q g0),(66,.q kU),(65,.q g9),(24,.q bk),(61,.q dN)] [(62,cC Kh cO Tryz.f62)]
theorem Pw:EnvOk Tryz.prog Ed4:=qZ ⟨Gi,SS,W0,LX,LW,trivial⟩ ⟨Ug,trivial⟩
theorem Uh:dj Tryz.prog 17 cm:=by
 refine dC Pw aL Tryz.func17 (enters_of Tryz.func17 (by kernel_rfl) rfl) ?_ ?_ ?_
 ·intro ⟨i,k⟩ B hb;cases i <;> cases k <;> simp [cm,PL.ae] at hb
  ·rw [hb]; rfl
  ·rw [hb]; rfl
  ·rcases hb with rfl | rfl <;> rfl
 ·intro i b hb; simp [cm] at hb; rw [← hb]; rfl
 intro ⟨i,k⟩ hp;have hp:((i.list.length≤1099511627776∧∀ v∈i.list,v.sz 2048)∧k.list.length≤1099511627776∧∀ v∈k.list,v.sz 2048)∧qX i.list k.list:=hp;obtain ⟨⟨⟨gu,nf⟩,cR,n5⟩,a9⟩:=hp;obtain ⟨K,hK⟩:∃ K,K=db cm (i,k):=⟨_,rfl⟩;cases i with
 | none =>
  cases k with
  | none =>
   rw [← hK];conv=>whnf
   refine ⟨(none,none),[],rfl,⟨⟨gu,nf⟩,cR,n5⟩,?_⟩;rw [show g9.ae (none,none)=[] from rfl,show g9.val (none,none)=.bool false from Hl No,show g9.new (none,none)=none from rfl]
   conv=>whnf
   skip
   conv=>whnf
   refine ⟨_,rfl,?_⟩;conv=>whnf
   have hv:bH [] []=([],1):=qM fun e=>by have:=e.1; cases this
   rw [hK];unfold db;rw [show ax.new cm (none,none)=some (.flat true 0 6 (aX [])) from by show some (ai.flat true (bH [] []).1.length 6 (aX (bH [] []).1))=_; rw [hv]; rfl,show ax.val cm (none,none)=.tuple ⟨[.slice (some ⟨0,0,none⟩) 0 ao,.int .i64 1]⟩ from by show Value.tuple ⟨[.slice (some ⟨0,0,none⟩) (bH [] []).1.length ao,.int .i64 (bH [] []).2]⟩=_; rw [hv]; rfl]
   refine ⟨0,?_⟩;conv=>whnf
   exact ⟨⟨rfl,aq.dz (fun h=>h) (fun r hr=>absurd hr (Nat.not_lt_zero r)) (fun r hr=>rfl)⟩,_,rfl,.two (.cap _ _ _ rfl) (.refl _)⟩
  | some k =>
   obtain ⟨B,d⟩:=k;rw [← hK];conv=>whnf
   refine ⟨(none,some (B,d)),[0],rfl,⟨⟨gu,nf⟩,cR,n5⟩,?_⟩;rw [show g9.ae (none,some (B,d))=[.flat false B.length 6 (bF B)] from rfl,show g9.val (none,some (B,d))=.bool false from Hl No,show g9.new (none,some (B,d))=none from rfl]
   conv=>whnf
   refine ⟨aq.aO (fun h=>h) (fun r hr=>rfl),?_⟩
   conv=>whnf
   refine ⟨_,rfl,?_⟩;conv=>whnf
   have hv:bH [] B=([],1):=qM fun e=>by have:=e.1; cases this
   rw [hK];unfold db;rw [show ax.new cm (none,some (B,d))=some (.flat true 0 6 (aX [])) from by show some (ai.flat true (bH [] B).1.length 6 (aX (bH [] B).1))=_; rw [hv]; rfl,show ax.val cm (none,some (B,d))=.tuple ⟨[.slice (some ⟨1,0,none⟩) 0 ao,.int .i64 1]⟩ from by show Value.tuple ⟨[.slice (some ⟨1,0,none⟩) (bH [] B).1.length ao,.int .i64 (bH [] B).2]⟩=_; rw [hv]; rfl]
   refine ⟨1,?_⟩;conv=>whnf
   exact ⟨⟨rfl,aq.dz (fun h=>h) (fun r hr=>absurd hr (Nat.not_lt_zero r)) (fun r hr=>rfl)⟩,_,rfl,.two (.cap _ _ _ rfl) (.refl _)⟩
 | some i =>
  obtain ⟨A,c⟩:=i;have gu:A.length≤1099511627776:=gu;have nf:∀ v∈A,PV.sz 2048 v:=nf;cases k with
  | none =>
   rw [← hK];conv=>whnf
   refine ⟨(some (A,c),none),[0],rfl,⟨⟨gu,nf⟩,cR,n5⟩,?_⟩;rw [show g9.ae (some (A,c),none)=[.flat false A.length 6 (bF A)] from rfl,show g9.val (some (A,c),none)=.bool false from Hl WB,show g9.new (some (A,c),none)=none from rfl]
   conv=>whnf
   refine ⟨aq.aO (fun h=>h) (fun r hr=>rfl),?_⟩
   conv=>whnf
   refine ⟨_,rfl,?_⟩;conv=>whnf
   have hv:bH A []=([],1):=qM fun e=>by have:=e.2; cases this
   rw [hK];unfold db;rw [show ax.new cm (some (A,c),none)=some (.flat true 0 6 (aX [])) from by show some (ai.flat true (bH A []).1.length 6 (aX (bH A []).1))=_; rw [hv]; rfl,show ax.val cm (some (A,c),none)=.tuple ⟨[.slice (some ⟨1,0,none⟩) 0 ao,.int .i64 1]⟩ from by show Value.tuple ⟨[.slice (some ⟨1,0,none⟩) (bH A []).1.length ao,.int .i64 (bH A []).2]⟩=_; rw [hv]; rfl]
   refine ⟨1,?_⟩;conv=>whnf
   exact ⟨⟨rfl,aq.dz (fun h=>h) (fun r hr=>absurd hr (Nat.not_lt_zero r)) (fun r hr=>rfl)⟩,_,rfl,.two (.cap _ _ _ rfl) (.refl _)⟩
  | some k =>
   obtain ⟨B,d⟩:=k;have cR:B.length≤1099511627776:=cR;have n5:∀ v∈B,PV.sz 2048 v:=n5;have a9:qX A B:=a9;obtain ⟨na,a8⟩:∃ n,n=A.length:=⟨_,rfl⟩;obtain ⟨ga,bw⟩:∃ g,g=bF A:=⟨_,rfl⟩;obtain ⟨nb,bJ⟩:∃ n,n=B.length:=⟨_,rfl⟩;obtain ⟨gb,cD⟩:∃ g,g=bF B:=⟨_,rfl⟩;rw [show cm.ae (some (A,c),some (B,d))=[.flat false na 6 ga,.flat false nb 6 gb] from by rw [a8,bw,bJ,cD]; rfl,show cm.args (some (A,c),some (B,d))=[.slice (some ⟨0,0,none⟩) na c,.slice (some ⟨1,0,none⟩) nb d] from by rw [a8,bJ]; rfl,← hK]
   conv=>whnf
   obtain ⟨z,hz⟩:∃ q,q=decide (bt A=0∧bt B=0):=⟨_,rfl⟩;refine ⟨(some (A,c),some (B,d)),[0,1],by rw [show g9.args (some (A,c),some (B,d))=[.slice (some ⟨0,0,none⟩) na c,.slice (some ⟨1,0,none⟩) nb d] from by rw [a8,bJ]; rfl]; rfl,⟨⟨gu,nf⟩,⟨cR,n5⟩⟩,?_⟩
   rw [show g9.ae (some (A,c),some (B,d))=[.flat false na 6 ga,.flat false nb 6 gb] from by rw [a8,bw,bJ,cD]; rfl,show g9.val (some (A,c),some (B,d))=.bool z from by rw [hz]; rfl,show g9.new (some (A,c),some (B,d))=none from rfl]
   conv=>whnf
   refine ⟨aq.aO (fun h=>h) (fun r hr=>by rw [bw]; rfl),aq.aO (fun h=>h) (fun r hr=>by rw [cD]; rfl),?_⟩
   conv=>whnf
   refine ⟨_,rfl,?_⟩;cases z with
   | false =>
    have hv:bH A B=([],1):=qM fun h=>by rw [decide_eq_true h] at hz; cases hz
    conv=>whnf
    rw [hK];unfold db;rw [show ax.new cm (some (A,c),some (B,d))=some (.flat true 0 6 (aX [])) from by show some (ai.flat true (bH A B).1.length 6 (aX (bH A B).1))=_; rw [hv]; rfl,show ax.val cm (some (A,c),some (B,d))=.tuple ⟨[.slice (some ⟨2,0,none⟩) 0 ao,.int .i64 1]⟩ from by show Value.tuple ⟨[.slice (some ⟨2,0,none⟩) (bH A B).1.length ao,.int .i64 (bH A B).2]⟩=_; rw [hv]; rfl]
    refine ⟨2,?_⟩;conv=>whnf
    exact ⟨⟨rfl,aq.dz (fun h=>h) (fun r hr=>absurd hr (Nat.not_lt_zero r)) (fun r hr=>rfl)⟩,_,rfl,.two (.cap _ _ _ rfl) (.refl _)⟩
   | true =>
    have hk:=of_decide_eq_true hz.symm;conv=>whnf
    obtain ⟨R,hR⟩:∃ R,R=jY (aG A) (aG B):=⟨_,rfl⟩;obtain ⟨q,hq⟩:∃ m,m=R.length:=⟨_,rfl⟩;obtain ⟨E,hE⟩:∃ G,G=aX R:=⟨_,rfl⟩;have hv:bH A B=mR R:=by rw [hR]; exact if_pos hk
    refine ⟨((A,c),(B,d)),[0,1],by rw [show kU.args ((A,c),(B,d))=[.slice (some ⟨0,0,none⟩) na c,.slice (some ⟨1,0,none⟩) nb d] from by rw [a8,bJ]; rfl]; rfl,⟨⟨⟨gu,nf⟩,cR,n5⟩,hk,a9⟩,?_⟩
    rw [show kU.ae ((A,c),(B,d))=[.flat false na 6 ga,.flat false nb 6 gb] from by rw [a8,bw,bJ,cD]; rfl,show kU.val ((A,c),(B,d))=.slice (some ⟨2,0,none⟩) q ao from by rw [hq,hR]; rfl,show kU.new ((A,c),(B,d))=some (.flat true q 6 E) from by rw [hq,hE,hR]; rfl]
    conv=>whnf
    refine ⟨aq.aO (fun h=>h) (fun r hr=>by rw [bw]; rfl),aq.aO (fun h=>h) (fun r hr=>by rw [cD]; rfl),?_⟩
    conv=>whnf
    refine ⟨_,rfl,?_⟩;conv=>whnf
    by_cases h7:q=0
    ·rw [show ((q:Int) == 0)=true from by simp [h7]]
     have hv:=hv.trans (yX (by omega))
     conv=>whnf
     rw [hK];unfold db;rw [show ax.new cm (some (A,c),some (B,d))=some (.flat true 0 6 (aX [])) from by show some (ai.flat true (bH A B).1.length 6 (aX (bH A B).1))=_; rw [hv]; rfl,show ax.val cm (some (A,c),some (B,d))=.tuple ⟨[.slice (some ⟨2,0,none⟩) 0 ao,.int .i64 11]⟩ from by show Value.tuple ⟨[.slice (some ⟨2,0,none⟩) (bH A B).1.length ao,.int .i64 (bH A B).2]⟩=_; rw [hv]; rfl]
     refine ⟨3,?_⟩;conv=>whnf
     exact ⟨⟨rfl,aq.dz (fun h=>h) (fun r hr=>absurd hr (Nat.not_lt_zero r)) (fun r hr=>rfl)⟩,_,rfl,.two (.cap _ _ _ rfl) (.refl _)⟩
    ·rw [show ((q:Int) == 0)=false from by simp [h7]]
     conv=>whnf
     by_cases h8:64 < q
     ·rw [show decide ((q:Int) > 64)=true from decide_eq_true (by omega)]
      have hv:=hv.trans (Cj (by omega))
      conv=>whnf
      rw [hK];unfold db;rw [show ax.new cm (some (A,c),some (B,d))=some (.flat true 0 6 (aX [])) from by show some (ai.flat true (bH A B).1.length 6 (aX (bH A B).1))=_; rw [hv]; rfl,show ax.val cm (some (A,c),some (B,d))=.tuple ⟨[.slice (some ⟨2,0,none⟩) 0 ao,.int .i64 4]⟩ from by show Value.tuple ⟨[.slice (some ⟨2,0,none⟩) (bH A B).1.length ao,.int .i64 (bH A B).2]⟩=_; rw [hv]; rfl]
      refine ⟨3,?_⟩;conv=>whnf
      exact ⟨⟨rfl,aq.dz (fun h=>h) (fun r hr=>absurd hr (Nat.not_lt_zero r)) (fun r hr=>rfl)⟩,_,rfl,.two (.cap _ _ _ rfl) (.refl _)⟩
     ·rw [show decide ((q:Int) > 64)=false from decide_eq_false (by omega)]
      have hv:=hv.trans (zi (by omega) (by omega))
      conv=>whnf
      rw [hK];unfold db;rw [show ax.new cm (some (A,c),some (B,d))=some (.flat true q 6 E) from by show some (ai.flat true (bH A B).1.length 6 (aX (bH A B).1))=_; rw [hv,hq,hE],show ax.val cm (some (A,c),some (B,d))=.tuple ⟨[.slice (some ⟨2,0,none⟩) q ao,.int .i64 0]⟩ from by show Value.tuple ⟨[.slice (some ⟨2,0,none⟩) (bH A B).1.length ao,.int .i64 (bH A B).2]⟩=_; rw [hv,hq]]
      refine ⟨2,?_⟩;conv=>whnf
      exact ⟨⟨rfl,aq.aO (fun h=>h) (fun r hr=>by rw [hE]; rfl)⟩,_,rfl,.refl _⟩
theorem SU:dj Tryz.prog 15 cl:=by
 refine dC Pw aL Tryz.func15 (enters_of Tryz.func15 (by kernel_rfl) rfl) ?_ ?_ ?_
 ·intro ⟨i,_⟩ B hb;cases i <;> simp [cl,PL.ae] at hb
  rw [hb]; rfl
 ·intro i b hb; simp [cl] at hb; rw [← hb]; rfl
 intro ⟨i,p,q0⟩ hp;have hp:(i.list.length≤1099511627776∧∀ v∈i.list,v.sz 2048)∧p.sz 2048∧q0.sz 2048:=hp;obtain ⟨⟨gu,nf⟩,sp,sq⟩:=hp;obtain ⟨K,hK⟩:∃ K,K=db cl (i,p,q0):=⟨_,rfl⟩;cases i with
 | none =>
  rw [← hK];conv=>whnf
  refine ⟨none,[],rfl,⟨Nat.zero_le _,fun v hv=>nomatch hv⟩,?_⟩
  rw [show bk.ae none=[] from rfl,show bk.val none=.int .i64 4 from rfl,show bk.new none=none from rfl]
  conv=>whnf
  refine ⟨_,rfl,?_⟩;conv=>whnf
  have hv:bP [] p q0=([],1):=xj fun e=>by have:=e.1; cases this
  rw [hK];unfold db;rw [show ax.new cl (none,p,q0)=some (.flat true 0 6 (aX [])) from by show some (ai.flat true (bP [] p q0).1.length 6 (aX (bP [] p q0).1))=_; rw [hv]; rfl,show ax.val cl (none,p,q0)=.tuple ⟨[.slice (some ⟨0,0,none⟩) 0 ao,.int .i64 1]⟩ from by show Value.tuple ⟨[.slice (some ⟨0,0,none⟩) (bP [] p q0).1.length ao,.int .i64 (bP [] p q0).2]⟩=_; rw [hv]; rfl]
  refine ⟨2,?_⟩;conv=>whnf
  exact ⟨⟨rfl,aq.dz (fun h=>h) (fun r hr=>absurd hr (Nat.not_lt_zero r)) (fun r hr=>rfl)⟩,_,rfl,.two (.cap _ _ _ rfl) (.refl _)⟩
 | some i =>
  obtain ⟨A,c⟩:=i;have gu:A.length≤1099511627776:=gu;have nf:∀ v∈A,PV.sz 2048 v:=nf;obtain ⟨na,a8⟩:∃ n,n=A.length:=⟨_,rfl⟩;obtain ⟨ga,bw⟩:∃ g,g=bF A:=⟨_,rfl⟩;rw [show cl.ae (some (A,c),p,q0)=[.flat false na 6 ga] from by rw [a8,bw]; rfl,show cl.args (some (A,c),p,q0)=[.slice (some ⟨0,0,none⟩) na c,p.v,q0.v] from by rw [a8]; rfl,← hK]
  conv=>whnf
  refine ⟨some (A,c),[0],by rw [show bk.args (some (A,c))=[.slice (some ⟨0,0,none⟩) na c] from by rw [a8]; rfl]; rfl,⟨by show A.length≤_; omega,nf⟩,?_⟩
  rw [show bk.ae (some (A,c))=[.flat false na 6 ga] from by rw [a8,bw]; rfl,show bk.val (some (A,c))=.int .i64 (bt A) from rfl,show bk.new (some (A,c))=none from rfl]
  conv=>whnf
  refine ⟨aq.aO (fun h=>h) (fun r hr=>by rw [bw]; rfl),?_⟩
  conv=>whnf
  refine ⟨_,rfl,?_⟩;obtain ⟨e,he⟩:∃ z,z=bt A:=⟨_,rfl⟩;rw [← he];conv=>whnf
  by_cases h1:e=0
  ·rw [show (e != 0)=false from by simp [h1]]
   conv=>whnf
   refine ⟨some ([p,q0],2),[3],rfl,⟨by show 2≤1099511627776; decide,(fun v hv=>by rcases List.mem_cons.1 hv with rfl | hv; exact sp; rw [List.mem_singleton.1 hv]; exact sq)⟩,?_⟩
   rw [show dN.ae (some ([p,q0],2))=[.flat false 2 6 (bF [p,q0])] from rfl,show dN.val (some ([p,q0],2))=.bool (!fa [p,q0]) from rfl,show dN.new (some ([p,q0],2))=none from rfl]
   conv=>whnf
   refine ⟨uq [p,q0],?_⟩;conv=>whnf
   refine ⟨_,rfl,?_⟩;obtain ⟨z,hz⟩:∃ z,z=fa [p,q0]:=⟨_,rfl⟩;rw [← hz];cases z with
   | true =>
    have hv:bP A p q0=([],1):=xj fun h=>IC hz h.2.1 h.2.2
    conv=>whnf
    rw [hK];unfold db;rw [show ax.new cl (some (A,c),p,q0)=some (.flat true 0 6 (aX [])) from by show some (ai.flat true (bP A p q0).1.length 6 (aX (bP A p q0).1))=_; rw [hv]; rfl,show ax.val cl (some (A,c),p,q0)=.tuple ⟨[.slice (some ⟨1,0,none⟩) 0 ao,.int .i64 1]⟩ from by show Value.tuple ⟨[.slice (some ⟨1,0,none⟩) (bP A p q0).1.length ao,.int .i64 (bP A p q0).2]⟩=_; rw [hv]; rfl]
    refine ⟨4,?_⟩;conv=>whnf
    exact ⟨⟨rfl,aq.dz (fun h=>h) (fun r hr=>absurd hr (Nat.not_lt_zero r)) (fun r hr=>rfl)⟩,_,rfl,.two (.cap _ _ _ rfl) (.refl _)⟩
   | false =>
    have hk:bt A=0∧p.canon∧q0.canon:=⟨by rw [← he]; exact h1,HQ hz⟩
    conv=>whnf
    rw [xM p q0];by_cases J:p=q0
    ·rw [decide_eq_true J];have hv:bP A p q0=([],12):=ON hk J;conv=>whnf
     rw [hK];unfold db;rw [show ax.new cl (some (A,c),p,q0)=some (.flat true 0 6 (aX [])) from by show some (ai.flat true (bP A p q0).1.length 6 (aX (bP A p q0).1))=_; rw [hv]; rfl,show ax.val cl (some (A,c),p,q0)=.tuple ⟨[.slice (some ⟨1,0,none⟩) 0 ao,.int .i64 12]⟩ from by show Value.tuple ⟨[.slice (some ⟨1,0,none⟩) (bP A p q0).1.length ao,.int .i64 (bP A p q0).2]⟩=_; rw [hv]; rfl]
     refine ⟨4,?_⟩;conv=>whnf
     exact ⟨⟨rfl,aq.dz (fun h=>h) (fun r hr=>absurd hr (Nat.not_lt_zero r)) (fun r hr=>rfl)⟩,_,rfl,.two (.cap _ _ _ rfl) (.refl _)⟩
    ·rw [decide_eq_false J];conv=>whnf
     obtain ⟨C,hC⟩:∃ C,C=dg (c8 p.p q0.p) (aG A):=⟨_,rfl⟩;obtain ⟨R,hR⟩:∃ R,R=cV C:=⟨_,rfl⟩;obtain ⟨q,hq⟩:∃ m,m=R.length:=⟨_,rfl⟩;obtain ⟨E,hE⟩:∃ G,G=aX R:=⟨_,rfl⟩;have hv:bP A p q0=mR R:=N6 hk J hC hR;have J0:=nj hk.1;refine ⟨((aG A,c),(p,q0)),[0],by rw [show g0.args ((aG A,c),(p,q0))=[.slice (some ⟨0,0,none⟩) na c,p.v,q0.v] from by rw [a8,← cE A]; rfl]; rfl,⟨⟨by show (aG A).length≤_; rw [cE]; omega,uu nf (by decide)⟩,sp,sq⟩,?_⟩
     rw [show g0.ae ((aG A,c),(p,q0))=[.flat false na 6 ga] from by rw [a8,bw,← cE A,← wK hk.1]; rfl,show g0.val ((aG A,c),(p,q0))=.slice (some ⟨1,0,none⟩) q ao from by rw [hq,hR,hC]; rfl,show g0.new ((aG A,c),(p,q0))=some (.flat true q 6 E) from by rw [hq,hE,hR,hC]; rfl]
     conv=>whnf
     refine ⟨aq.aO (fun h=>h) (fun r hr=>by rw [bw]; rfl),?_⟩
     conv=>whnf
     refine ⟨_,rfl,?_⟩;conv=>whnf
     by_cases h7:q=0
     ·rw [show ((q:Int) == 0)=true from by simp [h7]]
      have hv:=hv.trans (yX (by omega))
      conv=>whnf
      rw [hK];unfold db;rw [show ax.new cl (some (A,c),p,q0)=some (.flat true 0 6 (aX [])) from by show some (ai.flat true (bP A p q0).1.length 6 (aX (bP A p q0).1))=_; rw [hv]; rfl,show ax.val cl (some (A,c),p,q0)=.tuple ⟨[.slice (some ⟨1,0,none⟩) 0 ao,.int .i64 11]⟩ from by show Value.tuple ⟨[.slice (some ⟨1,0,none⟩) (bP A p q0).1.length ao,.int .i64 (bP A p q0).2]⟩=_; rw [hv]; rfl]
      refine ⟨5,?_⟩;conv=>whnf
      exact ⟨⟨rfl,aq.dz (fun h=>h) (fun r hr=>absurd hr (Nat.not_lt_zero r)) (fun r hr=>rfl)⟩,_,rfl,.two (.cap _ _ _ rfl) (.refl _)⟩
     ·rw [show ((q:Int) == 0)=false from by simp [h7]]
      conv=>whnf
      by_cases h8:64 < q
      ·rw [show decide ((q:Int) > 64)=true from decide_eq_true (by omega)]
       have hv:=hv.trans (Cj (by omega))
       conv=>whnf
       rw [hK];unfold db;rw [show ax.new cl (some (A,c),p,q0)=some (.flat true 0 6 (aX [])) from by show some (ai.flat true (bP A p q0).1.length 6 (aX (bP A p q0).1))=_; rw [hv]; rfl,show ax.val cl (some (A,c),p,q0)=.tuple ⟨[.slice (some ⟨1,0,none⟩) 0 ao,.int .i64 4]⟩ from by show Value.tuple ⟨[.slice (some ⟨1,0,none⟩) (bP A p q0).1.length ao,.int .i64 (bP A p q0).2]⟩=_; rw [hv]; rfl]
       refine ⟨5,?_⟩;conv=>whnf
       exact ⟨⟨rfl,aq.dz (fun h=>h) (fun r hr=>absurd hr (Nat.not_lt_zero r)) (fun r hr=>rfl)⟩,_,rfl,.two (.cap _ _ _ rfl) (.refl _)⟩
      ·rw [show decide ((q:Int) > 64)=false from decide_eq_false (by omega)]
       have hv:=hv.trans (zi (by omega) (by omega))
       conv=>whnf
       rw [hK];unfold db;rw [show ax.new cl (some (A,c),p,q0)=some (.flat true q 6 E) from by show some (ai.flat true (bP A p q0).1.length 6 (aX (bP A p q0).1))=_; rw [hv,hq,hE],show ax.val cl (some (A,c),p,q0)=.tuple ⟨[.slice (some ⟨1,0,none⟩) q ao,.int .i64 0]⟩ from by show Value.tuple ⟨[.slice (some ⟨1,0,none⟩) (bP A p q0).1.length ao,.int .i64 (bP A p q0).2]⟩=_; rw [hv,hq]]
       refine ⟨4,?_⟩;conv=>whnf
       exact ⟨⟨rfl,aq.aO (fun h=>h) (fun r hr=>by rw [hE]; rfl)⟩,_,rfl,.refl _⟩
  ·rw [show (e != 0)=true from by simp [h1]]
   have hv:bP A p q0=([],1):=xj fun h=>h1 (by rw [he]; exact h.1)
   conv=>whnf
   rw [hK];unfold db;rw [show ax.new cl (some (A,c),p,q0)=some (.flat true 0 6 (aX [])) from by show some (ai.flat true (bP A p q0).1.length 6 (aX (bP A p q0).1))=_; rw [hv]; rfl,show ax.val cl (some (A,c),p,q0)=.tuple ⟨[.slice (some ⟨1,0,none⟩) 0 ao,.int .i64 1]⟩ from by show Value.tuple ⟨[.slice (some ⟨1,0,none⟩) (bP A p q0).1.length ao,.int .i64 (bP A p q0).2]⟩=_; rw [hv]; rfl]
   refine ⟨3,?_⟩;conv=>whnf
   exact ⟨⟨rfl,aq.dz (fun h=>h) (fun r hr=>absurd hr (Nat.not_lt_zero r)) (fun r hr=>rfl)⟩,_,rfl,.two (.cap _ _ _ rfl) (.refl _)⟩
open Go Go.Ae
def Ec6:Env:=pU [(13,.p OH),(14,.q c6),(15,.q cl),(16,.q cF),(17,.q cm),(18,.q cU)] [(12,cC Kf cO Tryz.f12)]
theorem adK:EnvOk Tryz.prog Ec6:=qZ ⟨Uf,WX,SU,Ny,Uh,NA,trivial⟩ ⟨W2,trivial⟩
theorem ZM:dj Tryz.prog 3 mH:=by
 refine dC adK aL Tryz.func3 (enters_of Tryz.func3 (by kernel_rfl) rfl) ?_ ?_ ?_
 ·intro ⟨⟨i,k⟩,_⟩ B hb;cases i <;> cases k <;> simp [mH,PL.ae] at hb
  ·rw [hb]; rfl
  ·rw [hb]; rfl
  ·rcases hb with rfl | rfl <;> rfl
 ·intro i b hb; simp [mH] at hb
 intro ⟨⟨i,k⟩,p,q⟩ hp;have hp:i.list.length*80≤140737488351232∧k.list.length*80≤140737488351232:=hp;obtain ⟨gu,cR⟩:=hp;have fin:∀ n,∃ v',dn (List.range n) 3 (mH.val ((i,k),p,q))=some v'∧gd (.bool true) v':=fun n=>⟨.bool true,rfl,.refl _⟩
 obtain ⟨cu,cL⟩:∃ cu,cu=ao:=⟨_,rfl⟩;obtain ⟨z0,im⟩:∃ z,z=aX []:=⟨_,rfl⟩;cases i with
 | none =>
  cases k with
  | none =>
   rw [show mH.ae ((none,none),p,q)=[] from rfl,show mH.args ((none,none),p,q)=[.slice none 0 0,.slice none 0 0,p.v,q.v] from rfl]
   have gu:List.length ([]:List PV)*80≤140737488351232:=gu;have cR:List.length ([]:List PV)*80≤140737488351232:=cR;conv=>whnf
   refine .inr ⟨4,?_⟩;conv=>whnf
   refine ⟨⟨by decide,by decide⟩,?_⟩
   conv=>whnf
   obtain ⟨GA,oL⟩:∃ G,G=gW []:=⟨_,rfl⟩;refine ⟨none,[],by rw [show cf.args (none)=[.slice none 0 0] from rfl]; rfl,by show List.length ([]:List PV)≤9223372036854775807; omega,?_⟩
   rw [show cf.ae (none)=[] from rfl,show cf.val (none)=.bool GA from by rw [oL]; rfl,show cf.new (none)=none from rfl]
   conv=>whnf
   skip
   conv=>whnf
   refine ⟨_,rfl,?_⟩;conv=>whnf
   cases GA with
   | true =>
    conv=>whnf
    conv=>whnf
    refine ⟨(),rfl,trivial,?_⟩;conv=>whnf
    exact fin _
   | false =>
    have hA:=oL.symm;conv=>whnf
    refine ⟨⟨by decide,by decide⟩,?_⟩
    conv=>whnf
    obtain ⟨GB,oM⟩:∃ G,G=gW []:=⟨_,rfl⟩;refine ⟨none,[],by rw [show cf.args (none)=[.slice none 0 0] from rfl]; rfl,by show List.length ([]:List PV)≤9223372036854775807; omega,?_⟩
    rw [show cf.ae (none)=[] from rfl,show cf.val (none)=.bool GB from by rw [oM]; rfl,show cf.new (none)=none from rfl]
    conv=>whnf
    skip
    conv=>whnf
    refine ⟨_,rfl,?_⟩;conv=>whnf
    cases GB with
    | true =>
     conv=>whnf
     conv=>whnf
     refine ⟨(),rfl,trivial,?_⟩;conv=>whnf
     exact fin _
    | false =>
     have hB:=oM.symm;conv=>whnf
     refine ⟨⟨by decide,by decide⟩,?_⟩
     conv=>whnf
     obtain ⟨GC,oN⟩:∃ G,G=gW [p,q]:=⟨_,rfl⟩;refine ⟨some ([p,q],2),[2],by rw [show cf.args (some ([p,q],2))=[.slice (some ⟨0,0,none⟩) 2 2] from rfl]; rfl,by show List.length ([p,q]:List PV)≤9223372036854775807; (show 2≤9223372036854775807; decide),?_⟩
     rw [show cf.ae (some ([p,q],2))=[.flat false 2 6 (bF [p,q])] from rfl,show cf.val (some ([p,q],2))=.bool GC from by rw [oN]; rfl,show cf.new (some ([p,q],2))=none from rfl]
     conv=>whnf
     refine ⟨uq [p,q],?_⟩;conv=>whnf
     refine ⟨_,rfl,?_⟩;conv=>whnf
     cases GC with
     | true =>
      conv=>whnf
      conv=>whnf
      refine ⟨(),rfl,trivial,?_⟩;conv=>whnf
      exact fin _
     | false =>
      obtain ⟨sp,sq⟩:=CM oN.symm;have sp:=PV.aP sp (show 12≤2048 by decide)
      have sq:=PV.aP sq (show 12≤2048 by decide)
      conv=>whnf
      obtain ⟨e,he⟩:∃ f:Int,f=1:=⟨_,rfl⟩;have hh:=C9 (i:=none) (a:=p) (b:=q) (e:=e) (by rw [he]; exact OQ)
      obtain ⟨f,hf⟩:∃ f:Int,f=1:=⟨_,rfl⟩;have hg:=xE (i:=none) (k:=none) (e:=f) (by rw [hf]; exact Oa)
      refine ⟨(none,(p,q)),[],by rw [show ax.args c6 (none,(p,q))=[.slice none 0 0,p.v,q.v] from rfl]; rfl,⟨cT hA,sp,sq⟩,?_⟩
      rw [show ax.ae c6 (none,(p,q))=[] from rfl,show ax.val c6 (none,(p,q))=.tuple ⟨[.slice none 0 0,.int .i64 e]⟩ from hh.1,show ax.new c6 (none,(p,q))=none from hh.2.1]
      conv=>whnf
      skip
      conv=>whnf
      refine ⟨_,rfl,?_⟩;conv=>whnf
      refine ⟨(none,(p,q)),[],by rw [show ax.args cl (none,(p,q))=[.slice none 0 0,p.v,q.v] from rfl]; rfl,⟨cT hA,sp,sq⟩,?_⟩
      rw [show ax.ae cl (none,(p,q))=[] from rfl,show ax.val cl (none,(p,q))=.tuple ⟨[.slice (some ⟨0,0,none⟩) 0 cu,.int .i64 e]⟩ from by rw [cL]; exact hh.2.2.1,show ax.new cl (none,(p,q))=some (.flat true 0 6 z0) from by rw [im]; exact hh.2.2.2]
      conv=>whnf
      skip
      conv=>whnf
      refine ⟨_,rfl,?_⟩;conv=>whnf
      refine ⟨(none,none),[],by rw [show ax.args cF (none,none)=[.slice none 0 0,.slice none 0 0] from rfl]; rfl,⟨⟨cT hA,cT hB⟩,jZ (eh hA).2 (eh hB).2⟩,?_⟩
      rw [show ax.ae cF (none,none)=[] from rfl,show ax.val cF (none,none)=.tuple ⟨[.slice none 0 0,.int .i64 f]⟩ from hg.1,show ax.new cF (none,none)=none from hg.2.1]
      conv=>whnf
      skip
      conv=>whnf
      refine ⟨_,rfl,?_⟩;conv=>whnf
      refine ⟨(none,none),[],by rw [show ax.args cm (none,none)=[.slice none 0 0,.slice none 0 0] from rfl]; rfl,⟨⟨cT hA,cT hB⟩,jZ (eh hA).2 (eh hB).2⟩,?_⟩
      rw [show ax.ae cm (none,none)=[] from rfl,show ax.val cm (none,none)=.tuple ⟨[.slice (some ⟨0,0,none⟩) 0 cu,.int .i64 f]⟩ from by rw [cL]; exact hg.2.2.1,show ax.new cm (none,none)=some (.flat true 0 6 z0) from by rw [im]; exact hg.2.2.2]
      conv=>whnf
      skip
      conv=>whnf
      refine ⟨_,rfl,?_⟩;conv=>whnf
      refine ⟨((none:PL),(some ([],cu):PL)),[4],rfl,⟨Nat.zero_le _,Nat.zero_le _⟩,?_⟩;rw [show cU.ae ((none:PL),(some ([],cu):PL))=[.flat false 0 6 (bF [])] from rfl]
      conv=>whnf
      refine ⟨aq.dz (fun h=>by cases h) (fun r hr=>absurd hr (Nat.not_lt_zero r)) (fun r hr=>rfl),?_⟩
      conv=>whnf
      refine ⟨.bool true,rfl,?_⟩;conv=>whnf
      rw [show (e == e)=true from by simp]
      conv=>whnf
      refine ⟨((none:PL),(some ([],cu):PL)),[5],rfl,⟨Nat.zero_le _,Nat.zero_le _⟩,?_⟩;rw [show cU.ae ((none:PL),(some ([],cu):PL))=[.flat false 0 6 (bF [])] from rfl]
      conv=>whnf
      refine ⟨aq.dz (fun h=>by cases h) (fun r hr=>absurd hr (Nat.not_lt_zero r)) (fun r hr=>rfl),?_⟩
      conv=>whnf
      refine ⟨.bool true,rfl,?_⟩;conv=>whnf
      rw [show (f == f)=true from by simp]
      conv=>whnf
      refine ⟨(),rfl,trivial,?_⟩;conv=>whnf
      exact fin _
  | some k =>
   obtain ⟨B,d⟩:=k;obtain ⟨nb,bJ⟩:∃ n,n=B.length:=⟨_,rfl⟩;obtain ⟨gb,cD⟩:∃ g,g=bF B:=⟨_,rfl⟩;rw [show mH.ae ((none,some (B,d)),p,q)=[.flat false nb 6 gb] from by rw [bJ,cD]; rfl,show mH.args ((none,some (B,d)),p,q)=[.slice none 0 0,.slice (some ⟨0,0,none⟩) nb d,p.v,q.v] from by rw [bJ]; rfl]
   have gu:List.length ([]:List PV)*80≤140737488351232:=gu;have cR:List.length (B:List PV)*80≤140737488351232:=cR;conv=>whnf
   refine .inr ⟨4,?_⟩;conv=>whnf
   refine ⟨⟨by decide,by decide⟩,?_⟩
   conv=>whnf
   obtain ⟨GA,oL⟩:∃ G,G=gW []:=⟨_,rfl⟩;refine ⟨none,[],by rw [show cf.args (none)=[.slice none 0 0] from rfl]; rfl,by show List.length ([]:List PV)≤9223372036854775807; omega,?_⟩
   rw [show cf.ae (none)=[] from rfl,show cf.val (none)=.bool GA from by rw [oL]; rfl,show cf.new (none)=none from rfl]
   conv=>whnf
   skip
   conv=>whnf
   refine ⟨_,rfl,?_⟩;conv=>whnf
   cases GA with
   | true =>
    conv=>whnf
    conv=>whnf
    refine ⟨(),rfl,trivial,?_⟩;conv=>whnf
    exact fin _
   | false =>
    have hA:=oL.symm;conv=>whnf
    refine ⟨⟨by decide,by decide⟩,?_⟩
    conv=>whnf
    obtain ⟨GB,oM⟩:∃ G,G=gW B:=⟨_,rfl⟩;refine ⟨some (B,d),[0],by rw [show cf.args (some (B,d))=[.slice (some ⟨0,0,none⟩) nb d] from by rw [bJ]; rfl]; rfl,by show List.length (B:List PV)≤9223372036854775807; omega,?_⟩
    rw [show cf.ae (some (B,d))=[.flat false nb 6 gb] from by rw [bJ,cD]; rfl,show cf.val (some (B,d))=.bool GB from by rw [oM]; rfl,show cf.new (some (B,d))=none from rfl]
    conv=>whnf
    refine ⟨aq.aO (fun h=>h) (fun r hr=>by rw [cD]; rfl),?_⟩
    conv=>whnf
    refine ⟨_,rfl,?_⟩;conv=>whnf
    cases GB with
    | true =>
     conv=>whnf
     conv=>whnf
     refine ⟨(),rfl,trivial,?_⟩;conv=>whnf
     exact fin _
    | false =>
     have hB:=oM.symm;conv=>whnf
     refine ⟨⟨by decide,by decide⟩,?_⟩
     conv=>whnf
     obtain ⟨GC,oN⟩:∃ G,G=gW [p,q]:=⟨_,rfl⟩;refine ⟨some ([p,q],2),[3],by rw [show cf.args (some ([p,q],2))=[.slice (some ⟨0,0,none⟩) 2 2] from rfl]; rfl,by show List.length ([p,q]:List PV)≤9223372036854775807; (show 2≤9223372036854775807; decide),?_⟩
     rw [show cf.ae (some ([p,q],2))=[.flat false 2 6 (bF [p,q])] from rfl,show cf.val (some ([p,q],2))=.bool GC from by rw [oN]; rfl,show cf.new (some ([p,q],2))=none from rfl]
     conv=>whnf
     refine ⟨uq [p,q],?_⟩;conv=>whnf
     refine ⟨_,rfl,?_⟩;conv=>whnf
     cases GC with
     | true =>
      conv=>whnf
      conv=>whnf
      refine ⟨(),rfl,trivial,?_⟩;conv=>whnf
      exact fin _
     | false =>
      obtain ⟨sp,sq⟩:=CM oN.symm;have sp:=PV.aP sp (show 12≤2048 by decide)
      have sq:=PV.aP sq (show 12≤2048 by decide)
      conv=>whnf
      obtain ⟨e,he⟩:∃ f:Int,f=1:=⟨_,rfl⟩;have hh:=C9 (i:=none) (a:=p) (b:=q) (e:=e) (by rw [he]; exact OQ)
      obtain ⟨f,hf⟩:∃ f:Int,f=1:=⟨_,rfl⟩;have hg:=xE (i:=none) (k:=some (B,d)) (e:=f) (by rw [hf]; exact Oa)
      refine ⟨(none,(p,q)),[],by rw [show ax.args c6 (none,(p,q))=[.slice none 0 0,p.v,q.v] from rfl]; rfl,⟨cT hA,sp,sq⟩,?_⟩
      rw [show ax.ae c6 (none,(p,q))=[] from rfl,show ax.val c6 (none,(p,q))=.tuple ⟨[.slice none 0 0,.int .i64 e]⟩ from hh.1,show ax.new c6 (none,(p,q))=none from hh.2.1]
      conv=>whnf
      skip
      conv=>whnf
      refine ⟨_,rfl,?_⟩;conv=>whnf
      refine ⟨(none,(p,q)),[],by rw [show ax.args cl (none,(p,q))=[.slice none 0 0,p.v,q.v] from rfl]; rfl,⟨cT hA,sp,sq⟩,?_⟩
      rw [show ax.ae cl (none,(p,q))=[] from rfl,show ax.val cl (none,(p,q))=.tuple ⟨[.slice (some ⟨0,0,none⟩) 0 cu,.int .i64 e]⟩ from by rw [cL]; exact hh.2.2.1,show ax.new cl (none,(p,q))=some (.flat true 0 6 z0) from by rw [im]; exact hh.2.2.2]
      conv=>whnf
      skip
      conv=>whnf
      refine ⟨_,rfl,?_⟩;conv=>whnf
      refine ⟨(none,some (B,d)),[0],by rw [show ax.args cF (none,some (B,d))=[.slice none 0 0,.slice (some ⟨0,0,none⟩) nb d] from by rw [bJ]; rfl]; rfl,⟨⟨cT hA,cT hB⟩,jZ (eh hA).2 (eh hB).2⟩,?_⟩
      rw [show ax.ae cF (none,some (B,d))=[.flat false nb 6 gb] from by rw [bJ,cD]; rfl,show ax.val cF (none,some (B,d))=.tuple ⟨[.slice none 0 0,.int .i64 f]⟩ from hg.1,show ax.new cF (none,some (B,d))=none from hg.2.1]
      conv=>whnf
      refine ⟨aq.aO (fun h=>h) (fun r hr=>by rw [cD]; rfl),?_⟩
      conv=>whnf
      refine ⟨_,rfl,?_⟩;conv=>whnf
      refine ⟨(none,some (B,d)),[0],by rw [show ax.args cm (none,some (B,d))=[.slice none 0 0,.slice (some ⟨0,0,none⟩) nb d] from by rw [bJ]; rfl]; rfl,⟨⟨cT hA,cT hB⟩,jZ (eh hA).2 (eh hB).2⟩,?_⟩
      rw [show ax.ae cm (none,some (B,d))=[.flat false nb 6 gb] from by rw [bJ,cD]; rfl,show ax.val cm (none,some (B,d))=.tuple ⟨[.slice (some ⟨1,0,none⟩) 0 cu,.int .i64 f]⟩ from by rw [cL]; exact hg.2.2.1,show ax.new cm (none,some (B,d))=some (.flat true 0 6 z0) from by rw [im]; exact hg.2.2.2]
      conv=>whnf
      refine ⟨aq.aO (fun h=>h) (fun r hr=>by rw [cD]; rfl),?_⟩
      conv=>whnf
      refine ⟨_,rfl,?_⟩;conv=>whnf
      refine ⟨((none:PL),(some ([],cu):PL)),[5],rfl,⟨Nat.zero_le _,Nat.zero_le _⟩,?_⟩;rw [show cU.ae ((none:PL),(some ([],cu):PL))=[.flat false 0 6 (bF [])] from rfl]
      conv=>whnf
      refine ⟨aq.dz (fun h=>by cases h) (fun r hr=>absurd hr (Nat.not_lt_zero r)) (fun r hr=>rfl),?_⟩
      conv=>whnf
      refine ⟨.bool true,rfl,?_⟩;conv=>whnf
      rw [show (e == e)=true from by simp]
      conv=>whnf
      refine ⟨((none:PL),(some ([],cu):PL)),[6],rfl,⟨Nat.zero_le _,Nat.zero_le _⟩,?_⟩;rw [show cU.ae ((none:PL),(some ([],cu):PL))=[.flat false 0 6 (bF [])] from rfl]
      conv=>whnf
      refine ⟨aq.dz (fun h=>by cases h) (fun r hr=>absurd hr (Nat.not_lt_zero r)) (fun r hr=>rfl),?_⟩
      conv=>whnf
      refine ⟨.bool true,rfl,?_⟩;conv=>whnf
      rw [show (f == f)=true from by simp]
      conv=>whnf
      refine ⟨(),rfl,trivial,?_⟩;conv=>whnf
      exact fin _
 | some i =>
  obtain ⟨A,c⟩:=i;obtain ⟨na,a8⟩:∃ n,n=A.length:=⟨_,rfl⟩;obtain ⟨ga,bw⟩:∃ g,g=bF A:=⟨_,rfl⟩;cases k with
  | none =>
   rw [show mH.ae ((some (A,c),none),p,q)=[.flat false na 6 ga] from by rw [a8,bw]; rfl,show mH.args ((some (A,c),none),p,q)=[.slice (some ⟨0,0,none⟩) na c,.slice none 0 0,p.v,q.v] from by rw [a8]; rfl]
   have gu:List.length (A:List PV)*80≤140737488351232:=gu;have cR:List.length ([]:List PV)*80≤140737488351232:=cR;conv=>whnf
   refine .inr ⟨4,?_⟩;conv=>whnf
   refine ⟨⟨by decide,by decide⟩,?_⟩
   conv=>whnf
   obtain ⟨GA,oL⟩:∃ G,G=gW A:=⟨_,rfl⟩;refine ⟨some (A,c),[0],by rw [show cf.args (some (A,c))=[.slice (some ⟨0,0,none⟩) na c] from by rw [a8]; rfl]; rfl,by show List.length (A:List PV)≤9223372036854775807; omega,?_⟩
   rw [show cf.ae (some (A,c))=[.flat false na 6 ga] from by rw [a8,bw]; rfl,show cf.val (some (A,c))=.bool GA from by rw [oL]; rfl,show cf.new (some (A,c))=none from rfl]
   conv=>whnf
   refine ⟨aq.aO (fun h=>h) (fun r hr=>by rw [bw]; rfl),?_⟩
   conv=>whnf
   refine ⟨_,rfl,?_⟩;conv=>whnf
   cases GA with
   | true =>
    conv=>whnf
    conv=>whnf
    refine ⟨(),rfl,trivial,?_⟩;conv=>whnf
    exact fin _
   | false =>
    have hA:=oL.symm;conv=>whnf
    refine ⟨⟨by decide,by decide⟩,?_⟩
    conv=>whnf
    obtain ⟨GB,oM⟩:∃ G,G=gW []:=⟨_,rfl⟩;refine ⟨none,[],by rw [show cf.args (none)=[.slice none 0 0] from rfl]; rfl,by show List.length ([]:List PV)≤9223372036854775807; omega,?_⟩
    rw [show cf.ae (none)=[] from rfl,show cf.val (none)=.bool GB from by rw [oM]; rfl,show cf.new (none)=none from rfl]
    conv=>whnf
    skip
    conv=>whnf
    refine ⟨_,rfl,?_⟩;conv=>whnf
    cases GB with
    | true =>
     conv=>whnf
     conv=>whnf
     refine ⟨(),rfl,trivial,?_⟩;conv=>whnf
     exact fin _
    | false =>
     have hB:=oM.symm;conv=>whnf
     refine ⟨⟨by decide,by decide⟩,?_⟩
     conv=>whnf
     obtain ⟨GC,oN⟩:∃ G,G=gW [p,q]:=⟨_,rfl⟩;refine ⟨some ([p,q],2),[3],by rw [show cf.args (some ([p,q],2))=[.slice (some ⟨0,0,none⟩) 2 2] from rfl]; rfl,by show List.length ([p,q]:List PV)≤9223372036854775807; (show 2≤9223372036854775807; decide),?_⟩
     rw [show cf.ae (some ([p,q],2))=[.flat false 2 6 (bF [p,q])] from rfl,show cf.val (some ([p,q],2))=.bool GC from by rw [oN]; rfl,show cf.new (some ([p,q],2))=none from rfl]
     conv=>whnf
     refine ⟨uq [p,q],?_⟩;conv=>whnf
     refine ⟨_,rfl,?_⟩;conv=>whnf
     cases GC with
     | true =>
      conv=>whnf
      conv=>whnf
      refine ⟨(),rfl,trivial,?_⟩;conv=>whnf
      exact fin _
     | false =>
      obtain ⟨sp,sq⟩:=CM oN.symm;have sp:=PV.aP sp (show 12≤2048 by decide)
      have sq:=PV.aP sq (show 12≤2048 by decide)
      conv=>whnf
      obtain ⟨⟨R,e⟩,hR⟩:∃ x,x=bP A p q:=⟨_,rfl⟩;obtain ⟨m,hm⟩:∃ m,m=R.length:=⟨_,rfl⟩;have hh:=C9 (i:=some (A,c)) hR;cases m with
      | zero =>
       obtain rfl:R=[]:=List.eq_nil_of_length_eq_zero hm.symm;obtain ⟨f,hf⟩:∃ f:Int,f=1:=⟨_,rfl⟩;have hg:=xE (i:=some (A,c)) (k:=none) (e:=f) (by rw [hf]; exact Ob)
       refine ⟨(some (A,c),(p,q)),[0],by rw [show ax.args c6 (some (A,c),(p,q))=[.slice (some ⟨0,0,none⟩) na c,p.v,q.v] from by rw [a8]; rfl]; rfl,⟨cT hA,sp,sq⟩,?_⟩
       rw [show ax.ae c6 (some (A,c),(p,q))=[.flat false na 6 ga] from by rw [a8,bw]; rfl,show ax.val c6 (some (A,c),(p,q))=.tuple ⟨[.slice none 0 0,.int .i64 e]⟩ from hh.1,show ax.new c6 (some (A,c),(p,q))=none from hh.2.1]
       conv=>whnf
       refine ⟨aq.aO (fun h=>h) (fun r hr=>by rw [bw]; rfl),?_⟩
       conv=>whnf
       refine ⟨_,rfl,?_⟩;conv=>whnf
       refine ⟨(some (A,c),(p,q)),[0],by rw [show ax.args cl (some (A,c),(p,q))=[.slice (some ⟨0,0,none⟩) na c,p.v,q.v] from by rw [a8]; rfl]; rfl,⟨cT hA,sp,sq⟩,?_⟩
       rw [show ax.ae cl (some (A,c),(p,q))=[.flat false na 6 ga] from by rw [a8,bw]; rfl,show ax.val cl (some (A,c),(p,q))=.tuple ⟨[.slice (some ⟨1,0,none⟩) 0 cu,.int .i64 e]⟩ from by rw [cL]; exact hh.2.2.1,show ax.new cl (some (A,c),(p,q))=some (.flat true 0 6 z0) from by rw [im]; exact hh.2.2.2]
       conv=>whnf
       refine ⟨aq.aO (fun h=>h) (fun r hr=>by rw [bw]; rfl),?_⟩
       conv=>whnf
       refine ⟨_,rfl,?_⟩;conv=>whnf
       refine ⟨(some (A,c),none),[0],by rw [show ax.args cF (some (A,c),none)=[.slice (some ⟨0,0,none⟩) na c,.slice none 0 0] from by rw [a8]; rfl]; rfl,⟨⟨cT hA,cT hB⟩,jZ (eh hA).2 (eh hB).2⟩,?_⟩
       rw [show ax.ae cF (some (A,c),none)=[.flat false na 6 ga] from by rw [a8,bw]; rfl,show ax.val cF (some (A,c),none)=.tuple ⟨[.slice none 0 0,.int .i64 f]⟩ from hg.1,show ax.new cF (some (A,c),none)=none from hg.2.1]
       conv=>whnf
       refine ⟨aq.aO (fun h=>h) (fun r hr=>by rw [bw]; rfl),?_⟩
       conv=>whnf
       refine ⟨_,rfl,?_⟩;conv=>whnf
       refine ⟨(some (A,c),none),[0],by rw [show ax.args cm (some (A,c),none)=[.slice (some ⟨0,0,none⟩) na c,.slice none 0 0] from by rw [a8]; rfl]; rfl,⟨⟨cT hA,cT hB⟩,jZ (eh hA).2 (eh hB).2⟩,?_⟩
       rw [show ax.ae cm (some (A,c),none)=[.flat false na 6 ga] from by rw [a8,bw]; rfl,show ax.val cm (some (A,c),none)=.tuple ⟨[.slice (some ⟨1,0,none⟩) 0 cu,.int .i64 f]⟩ from by rw [cL]; exact hg.2.2.1,show ax.new cm (some (A,c),none)=some (.flat true 0 6 z0) from by rw [im]; exact hg.2.2.2]
       conv=>whnf
       refine ⟨aq.aO (fun h=>h) (fun r hr=>by rw [bw]; rfl),?_⟩
       conv=>whnf
       refine ⟨_,rfl,?_⟩;conv=>whnf
       refine ⟨((none:PL),(some ([],cu):PL)),[5],rfl,⟨Nat.zero_le _,Nat.zero_le _⟩,?_⟩;rw [show cU.ae ((none:PL),(some ([],cu):PL))=[.flat false 0 6 (bF [])] from rfl]
       conv=>whnf
       refine ⟨aq.dz (fun h=>by cases h) (fun r hr=>absurd hr (Nat.not_lt_zero r)) (fun r hr=>rfl),?_⟩
       conv=>whnf
       refine ⟨.bool true,rfl,?_⟩;conv=>whnf
       rw [show (e == e)=true from by simp]
       conv=>whnf
       refine ⟨((none:PL),(some ([],cu):PL)),[6],rfl,⟨Nat.zero_le _,Nat.zero_le _⟩,?_⟩;rw [show cU.ae ((none:PL),(some ([],cu):PL))=[.flat false 0 6 (bF [])] from rfl]
       conv=>whnf
       refine ⟨aq.dz (fun h=>by cases h) (fun r hr=>absurd hr (Nat.not_lt_zero r)) (fun r hr=>rfl),?_⟩
       conv=>whnf
       refine ⟨.bool true,rfl,?_⟩;conv=>whnf
       rw [show (f == f)=true from by simp]
       conv=>whnf
       refine ⟨(),rfl,trivial,?_⟩;conv=>whnf
       exact fin _
      | succ m =>
       obtain ⟨E,hE⟩:∃ F,F=aX R:=⟨_,rfl⟩;obtain ⟨f,hf⟩:∃ f:Int,f=1:=⟨_,rfl⟩;have hg:=xE (i:=some (A,c)) (k:=none) (e:=f) (by rw [hf]; exact Ob)
       refine ⟨(some (A,c),(p,q)),[0],by rw [show ax.args c6 (some (A,c),(p,q))=[.slice (some ⟨0,0,none⟩) na c,p.v,q.v] from by rw [a8]; rfl]; rfl,⟨cT hA,sp,sq⟩,?_⟩
       rw [show ax.ae c6 (some (A,c),(p,q))=[.flat false na 6 ga] from by rw [a8,bw]; rfl,show ax.val c6 (some (A,c),(p,q))=.tuple ⟨[.slice (some ⟨1,0,none⟩) (m+1) cu,.int .i64 e]⟩ from by rw [cL,hh.1,← hm]; rfl,show ax.new c6 (some (A,c),(p,q))=some (.flat true (m+1) 6 E) from by rw [hh.2.1]; unfold bW; rw [← hm,hE]]
       conv=>whnf
       refine ⟨aq.aO (fun h=>h) (fun r hr=>by rw [bw]; rfl),?_⟩
       conv=>whnf
       refine ⟨_,rfl,?_⟩;conv=>whnf
       refine ⟨(some (A,c),(p,q)),[0],by rw [show ax.args cl (some (A,c),(p,q))=[.slice (some ⟨0,0,none⟩) na c,p.v,q.v] from by rw [a8]; rfl]; rfl,⟨cT hA,sp,sq⟩,?_⟩
       rw [show ax.ae cl (some (A,c),(p,q))=[.flat false na 6 ga] from by rw [a8,bw]; rfl,show ax.val cl (some (A,c),(p,q))=.tuple ⟨[.slice (some ⟨1,0,none⟩) (m+1) cu,.int .i64 e]⟩ from by rw [cL,hh.2.2.1,← hm]; rfl,show ax.new cl (some (A,c),(p,q))=some (.flat true (m+1) 6 E) from by rw [hh.2.2.2,← hm,hE]]
       conv=>whnf
       refine ⟨aq.aO (fun h=>h) (fun r hr=>by rw [bw]; rfl),?_⟩
       conv=>whnf
       refine ⟨_,rfl,?_⟩;conv=>whnf
       refine ⟨(some (A,c),none),[0],by rw [show ax.args cF (some (A,c),none)=[.slice (some ⟨0,0,none⟩) na c,.slice none 0 0] from by rw [a8]; rfl]; rfl,⟨⟨cT hA,cT hB⟩,jZ (eh hA).2 (eh hB).2⟩,?_⟩
       rw [show ax.ae cF (some (A,c),none)=[.flat false na 6 ga] from by rw [a8,bw]; rfl,show ax.val cF (some (A,c),none)=.tuple ⟨[.slice none 0 0,.int .i64 f]⟩ from hg.1,show ax.new cF (some (A,c),none)=none from hg.2.1]
       conv=>whnf
       refine ⟨aq.aO (fun h=>h) (fun r hr=>by rw [bw]; rfl),?_⟩
       conv=>whnf
       refine ⟨_,rfl,?_⟩;conv=>whnf
       refine ⟨(some (A,c),none),[0],by rw [show ax.args cm (some (A,c),none)=[.slice (some ⟨0,0,none⟩) na c,.slice none 0 0] from by rw [a8]; rfl]; rfl,⟨⟨cT hA,cT hB⟩,jZ (eh hA).2 (eh hB).2⟩,?_⟩
       rw [show ax.ae cm (some (A,c),none)=[.flat false na 6 ga] from by rw [a8,bw]; rfl,show ax.val cm (some (A,c),none)=.tuple ⟨[.slice (some ⟨1,0,none⟩) 0 cu,.int .i64 f]⟩ from by rw [cL]; exact hg.2.2.1,show ax.new cm (some (A,c),none)=some (.flat true 0 6 z0) from by rw [im]; exact hg.2.2.2]
       conv=>whnf
       refine ⟨aq.aO (fun h=>h) (fun r hr=>by rw [bw]; rfl),?_⟩
       conv=>whnf
       refine ⟨_,rfl,?_⟩;conv=>whnf
       have hl:(aQ R).length=m+1:=by rw [oR,← hm]
       refine ⟨(some (aQ R,cu),some (aQ R,cu)),[5,6],by rw [show cU.args (some (aQ R,cu),some (aQ R,cu))=[.slice (some ⟨0,0,none⟩) (m+1) cu,.slice (some ⟨1,0,none⟩) (m+1) cu] from by rw [← hl]; rfl]; rfl,⟨by show (aQ R).length≤_; have:=xk hR; omega,by show (aQ R).length≤_; have:=xk hR; omega⟩,?_⟩
       rw [show cU.ae (some (aQ R,cu),some (aQ R,cu))=[.flat false (m+1) 6 E,.flat false (m+1) 6 E] from by rw [← hl,hE]; rfl,show cU.val (some (aQ R,cu),some (aQ R,cu))=.bool true from congrArg Value.bool (decide_eq_true rfl),show cU.new (some (aQ R,cu),some (aQ R,cu))=none from rfl]
       conv=>whnf
       refine ⟨aq.aO (fun h=>by cases h) (fun r hr=>by rw [hE]; rfl),aq.aO (fun h=>by cases h) (fun r hr=>by rw [hE]; rfl),?_⟩
       conv=>whnf
       refine ⟨.bool true,rfl,?_⟩;conv=>whnf
       rw [show (e == e)=true from by simp]
       conv=>whnf
       refine ⟨((none:PL),(some ([],cu):PL)),[7],rfl,⟨Nat.zero_le _,Nat.zero_le _⟩,?_⟩;rw [show cU.ae ((none:PL),(some ([],cu):PL))=[.flat false 0 6 (bF [])] from rfl]
       conv=>whnf
       refine ⟨aq.dz (fun h=>by cases h) (fun r hr=>absurd hr (Nat.not_lt_zero r)) (fun r hr=>rfl),?_⟩
       conv=>whnf
       refine ⟨.bool true,rfl,?_⟩;conv=>whnf
       rw [show (f == f)=true from by simp]
       conv=>whnf
       refine ⟨(),rfl,trivial,?_⟩;conv=>whnf
       exact fin _
  | some k =>
   obtain ⟨B,d⟩:=k;obtain ⟨nb,bJ⟩:∃ n,n=B.length:=⟨_,rfl⟩;obtain ⟨gb,cD⟩:∃ g,g=bF B:=⟨_,rfl⟩;rw [show mH.ae ((some (A,c),some (B,d)),p,q)=[.flat false na 6 ga,.flat false nb 6 gb] from by rw [a8,bw,bJ,cD]; rfl,show mH.args ((some (A,c),some (B,d)),p,q)=[.slice (some ⟨0,0,none⟩) na c,.slice (some ⟨1,0,none⟩) nb d,p.v,q.v] from by rw [a8,bJ]; rfl]
   have gu:List.length (A:List PV)*80≤140737488351232:=gu;have cR:List.length (B:List PV)*80≤140737488351232:=cR;conv=>whnf
   refine .inr ⟨4,?_⟩;conv=>whnf
   refine ⟨⟨by decide,by decide⟩,?_⟩
   conv=>whnf
   obtain ⟨GA,oL⟩:∃ G,G=gW A:=⟨_,rfl⟩;refine ⟨some (A,c),[0],by rw [show cf.args (some (A,c))=[.slice (some ⟨0,0,none⟩) na c] from by rw [a8]; rfl]; rfl,by show List.length (A:List PV)≤9223372036854775807; omega,?_⟩
   rw [show cf.ae (some (A,c))=[.flat false na 6 ga] from by rw [a8,bw]; rfl,show cf.val (some (A,c))=.bool GA from by rw [oL]; rfl,show cf.new (some (A,c))=none from rfl]
   conv=>whnf
   refine ⟨aq.aO (fun h=>h) (fun r hr=>by rw [bw]; rfl),?_⟩
   conv=>whnf
   refine ⟨_,rfl,?_⟩;conv=>whnf
   cases GA with
   | true =>
    conv=>whnf
    conv=>whnf
    refine ⟨(),rfl,trivial,?_⟩;conv=>whnf
    exact fin _
   | false =>
    have hA:=oL.symm;conv=>whnf
    refine ⟨⟨by decide,by decide⟩,?_⟩
    conv=>whnf
    obtain ⟨GB,oM⟩:∃ G,G=gW B:=⟨_,rfl⟩;refine ⟨some (B,d),[1],by rw [show cf.args (some (B,d))=[.slice (some ⟨0,0,none⟩) nb d] from by rw [bJ]; rfl]; rfl,by show List.length (B:List PV)≤9223372036854775807; omega,?_⟩
    rw [show cf.ae (some (B,d))=[.flat false nb 6 gb] from by rw [bJ,cD]; rfl,show cf.val (some (B,d))=.bool GB from by rw [oM]; rfl,show cf.new (some (B,d))=none from rfl]
    conv=>whnf
    refine ⟨aq.aO (fun h=>h) (fun r hr=>by rw [cD]; rfl),?_⟩
    conv=>whnf
    refine ⟨_,rfl,?_⟩;conv=>whnf
    cases GB with
    | true =>
     conv=>whnf
     conv=>whnf
     refine ⟨(),rfl,trivial,?_⟩;conv=>whnf
     exact fin _
    | false =>
     have hB:=oM.symm;conv=>whnf
     refine ⟨⟨by decide,by decide⟩,?_⟩
     conv=>whnf
     obtain ⟨GC,oN⟩:∃ G,G=gW [p,q]:=⟨_,rfl⟩;refine ⟨some ([p,q],2),[4],by rw [show cf.args (some ([p,q],2))=[.slice (some ⟨0,0,none⟩) 2 2] from rfl]; rfl,by show List.length ([p,q]:List PV)≤9223372036854775807; (show 2≤9223372036854775807; decide),?_⟩
     rw [show cf.ae (some ([p,q],2))=[.flat false 2 6 (bF [p,q])] from rfl,show cf.val (some ([p,q],2))=.bool GC from by rw [oN]; rfl,show cf.new (some ([p,q],2))=none from rfl]
     conv=>whnf
     refine ⟨uq [p,q],?_⟩;conv=>whnf
     refine ⟨_,rfl,?_⟩;conv=>whnf
     cases GC with
     | true =>
      conv=>whnf
      conv=>whnf
      refine ⟨(),rfl,trivial,?_⟩;conv=>whnf
      exact fin _
     | false =>
      obtain ⟨sp,sq⟩:=CM oN.symm;have sp:=PV.aP sp (show 12≤2048 by decide)
      have sq:=PV.aP sq (show 12≤2048 by decide)
      conv=>whnf
      obtain ⟨⟨R,e⟩,hR⟩:∃ x,x=bP A p q:=⟨_,rfl⟩;obtain ⟨m,hm⟩:∃ m,m=R.length:=⟨_,rfl⟩;have hh:=C9 (i:=some (A,c)) hR;cases m with
      | zero =>
       obtain rfl:R=[]:=List.eq_nil_of_length_eq_zero hm.symm;obtain ⟨⟨Q,f⟩,hQ⟩:∃ x,x=bH A B:=⟨_,rfl⟩;obtain ⟨n,hn⟩:∃ n,n=Q.length:=⟨_,rfl⟩;have hg:=xE (i:=some (A,c)) (k:=some (B,d)) hQ;cases n with
       | zero =>
        obtain rfl:Q=[]:=List.eq_nil_of_length_eq_zero hn.symm;refine ⟨(some (A,c),(p,q)),[0],by rw [show ax.args c6 (some (A,c),(p,q))=[.slice (some ⟨0,0,none⟩) na c,p.v,q.v] from by rw [a8]; rfl]; rfl,⟨cT hA,sp,sq⟩,?_⟩
        rw [show ax.ae c6 (some (A,c),(p,q))=[.flat false na 6 ga] from by rw [a8,bw]; rfl,show ax.val c6 (some (A,c),(p,q))=.tuple ⟨[.slice none 0 0,.int .i64 e]⟩ from hh.1,show ax.new c6 (some (A,c),(p,q))=none from hh.2.1]
        conv=>whnf
        refine ⟨aq.aO (fun h=>h) (fun r hr=>by rw [bw]; rfl),?_⟩
        conv=>whnf
        refine ⟨_,rfl,?_⟩;conv=>whnf
        refine ⟨(some (A,c),(p,q)),[0],by rw [show ax.args cl (some (A,c),(p,q))=[.slice (some ⟨0,0,none⟩) na c,p.v,q.v] from by rw [a8]; rfl]; rfl,⟨cT hA,sp,sq⟩,?_⟩
        rw [show ax.ae cl (some (A,c),(p,q))=[.flat false na 6 ga] from by rw [a8,bw]; rfl,show ax.val cl (some (A,c),(p,q))=.tuple ⟨[.slice (some ⟨1,0,none⟩) 0 cu,.int .i64 e]⟩ from by rw [cL]; exact hh.2.2.1,show ax.new cl (some (A,c),(p,q))=some (.flat true 0 6 z0) from by rw [im]; exact hh.2.2.2]
        conv=>whnf
        refine ⟨aq.aO (fun h=>h) (fun r hr=>by rw [bw]; rfl),?_⟩
        conv=>whnf
        refine ⟨_,rfl,?_⟩;conv=>whnf
        refine ⟨(some (A,c),some (B,d)),[0,1],by rw [show ax.args cF (some (A,c),some (B,d))=[.slice (some ⟨0,0,none⟩) na c,.slice (some ⟨1,0,none⟩) nb d] from by rw [a8,bJ]; rfl]; rfl,⟨⟨cT hA,cT hB⟩,jZ (eh hA).2 (eh hB).2⟩,?_⟩
        rw [show ax.ae cF (some (A,c),some (B,d))=[.flat false na 6 ga,.flat false nb 6 gb] from by rw [a8,bw,bJ,cD]; rfl,show ax.val cF (some (A,c),some (B,d))=.tuple ⟨[.slice none 0 0,.int .i64 f]⟩ from hg.1,show ax.new cF (some (A,c),some (B,d))=none from hg.2.1]
        conv=>whnf
        refine ⟨aq.aO (fun h=>h) (fun r hr=>by rw [bw]; rfl),aq.aO (fun h=>h) (fun r hr=>by rw [cD]; rfl),?_⟩
        conv=>whnf
        refine ⟨_,rfl,?_⟩;conv=>whnf
        refine ⟨(some (A,c),some (B,d)),[0,1],by rw [show ax.args cm (some (A,c),some (B,d))=[.slice (some ⟨0,0,none⟩) na c,.slice (some ⟨1,0,none⟩) nb d] from by rw [a8,bJ]; rfl]; rfl,⟨⟨cT hA,cT hB⟩,jZ (eh hA).2 (eh hB).2⟩,?_⟩
        rw [show ax.ae cm (some (A,c),some (B,d))=[.flat false na 6 ga,.flat false nb 6 gb] from by rw [a8,bw,bJ,cD]; rfl,show ax.val cm (some (A,c),some (B,d))=.tuple ⟨[.slice (some ⟨2,0,none⟩) 0 cu,.int .i64 f]⟩ from by rw [cL]; exact hg.2.2.1,show ax.new cm (some (A,c),some (B,d))=some (.flat true 0 6 z0) from by rw [im]; exact hg.2.2.2]
        conv=>whnf
        refine ⟨aq.aO (fun h=>h) (fun r hr=>by rw [bw]; rfl),aq.aO (fun h=>h) (fun r hr=>by rw [cD]; rfl),?_⟩
        conv=>whnf
        refine ⟨_,rfl,?_⟩;conv=>whnf
        refine ⟨((none:PL),(some ([],cu):PL)),[6],rfl,⟨Nat.zero_le _,Nat.zero_le _⟩,?_⟩;rw [show cU.ae ((none:PL),(some ([],cu):PL))=[.flat false 0 6 (bF [])] from rfl]
        conv=>whnf
        refine ⟨aq.dz (fun h=>by cases h) (fun r hr=>absurd hr (Nat.not_lt_zero r)) (fun r hr=>rfl),?_⟩
        conv=>whnf
        refine ⟨.bool true,rfl,?_⟩;conv=>whnf
        rw [show (e == e)=true from by simp]
        conv=>whnf
        refine ⟨((none:PL),(some ([],cu):PL)),[7],rfl,⟨Nat.zero_le _,Nat.zero_le _⟩,?_⟩;rw [show cU.ae ((none:PL),(some ([],cu):PL))=[.flat false 0 6 (bF [])] from rfl]
        conv=>whnf
        refine ⟨aq.dz (fun h=>by cases h) (fun r hr=>absurd hr (Nat.not_lt_zero r)) (fun r hr=>rfl),?_⟩
        conv=>whnf
        refine ⟨.bool true,rfl,?_⟩;conv=>whnf
        rw [show (f == f)=true from by simp]
        conv=>whnf
        refine ⟨(),rfl,trivial,?_⟩;conv=>whnf
        exact fin _
       | succ n =>
        obtain ⟨F,hF⟩:∃ F,F=aX Q:=⟨_,rfl⟩;refine ⟨(some (A,c),(p,q)),[0],by rw [show ax.args c6 (some (A,c),(p,q))=[.slice (some ⟨0,0,none⟩) na c,p.v,q.v] from by rw [a8]; rfl]; rfl,⟨cT hA,sp,sq⟩,?_⟩
        rw [show ax.ae c6 (some (A,c),(p,q))=[.flat false na 6 ga] from by rw [a8,bw]; rfl,show ax.val c6 (some (A,c),(p,q))=.tuple ⟨[.slice none 0 0,.int .i64 e]⟩ from hh.1,show ax.new c6 (some (A,c),(p,q))=none from hh.2.1]
        conv=>whnf
        refine ⟨aq.aO (fun h=>h) (fun r hr=>by rw [bw]; rfl),?_⟩
        conv=>whnf
        refine ⟨_,rfl,?_⟩;conv=>whnf
        refine ⟨(some (A,c),(p,q)),[0],by rw [show ax.args cl (some (A,c),(p,q))=[.slice (some ⟨0,0,none⟩) na c,p.v,q.v] from by rw [a8]; rfl]; rfl,⟨cT hA,sp,sq⟩,?_⟩
        rw [show ax.ae cl (some (A,c),(p,q))=[.flat false na 6 ga] from by rw [a8,bw]; rfl,show ax.val cl (some (A,c),(p,q))=.tuple ⟨[.slice (some ⟨1,0,none⟩) 0 cu,.int .i64 e]⟩ from by rw [cL]; exact hh.2.2.1,show ax.new cl (some (A,c),(p,q))=some (.flat true 0 6 z0) from by rw [im]; exact hh.2.2.2]
        conv=>whnf
        refine ⟨aq.aO (fun h=>h) (fun r hr=>by rw [bw]; rfl),?_⟩
        conv=>whnf
        refine ⟨_,rfl,?_⟩;conv=>whnf
        refine ⟨(some (A,c),some (B,d)),[0,1],by rw [show ax.args cF (some (A,c),some (B,d))=[.slice (some ⟨0,0,none⟩) na c,.slice (some ⟨1,0,none⟩) nb d] from by rw [a8,bJ]; rfl]; rfl,⟨⟨cT hA,cT hB⟩,jZ (eh hA).2 (eh hB).2⟩,?_⟩
        rw [show ax.ae cF (some (A,c),some (B,d))=[.flat false na 6 ga,.flat false nb 6 gb] from by rw [a8,bw,bJ,cD]; rfl,show ax.val cF (some (A,c),some (B,d))=.tuple ⟨[.slice (some ⟨2,0,none⟩) (n+1) cu,.int .i64 f]⟩ from by rw [cL,hg.1,← hn]; rfl,show ax.new cF (some (A,c),some (B,d))=some (.flat true (n+1) 6 F) from by rw [hg.2.1]; unfold bW; rw [← hn,hF]]
        conv=>whnf
        refine ⟨aq.aO (fun h=>h) (fun r hr=>by rw [bw]; rfl),aq.aO (fun h=>h) (fun r hr=>by rw [cD]; rfl),?_⟩
        conv=>whnf
        refine ⟨_,rfl,?_⟩;conv=>whnf
        refine ⟨(some (A,c),some (B,d)),[0,1],by rw [show ax.args cm (some (A,c),some (B,d))=[.slice (some ⟨0,0,none⟩) na c,.slice (some ⟨1,0,none⟩) nb d] from by rw [a8,bJ]; rfl]; rfl,⟨⟨cT hA,cT hB⟩,jZ (eh hA).2 (eh hB).2⟩,?_⟩
        rw [show ax.ae cm (some (A,c),some (B,d))=[.flat false na 6 ga,.flat false nb 6 gb] from by rw [a8,bw,bJ,cD]; rfl,show ax.val cm (some (A,c),some (B,d))=.tuple ⟨[.slice (some ⟨2,0,none⟩) (n+1) cu,.int .i64 f]⟩ from by rw [cL,hg.2.2.1,← hn]; rfl,show ax.new cm (some (A,c),some (B,d))=some (.flat true (n+1) 6 F) from by rw [hg.2.2.2,← hn,hF]]
        conv=>whnf
        refine ⟨aq.aO (fun h=>h) (fun r hr=>by rw [bw]; rfl),aq.aO (fun h=>h) (fun r hr=>by rw [cD]; rfl),?_⟩
        conv=>whnf
        refine ⟨_,rfl,?_⟩;conv=>whnf
        refine ⟨((none:PL),(some ([],cu):PL)),[6],rfl,⟨Nat.zero_le _,Nat.zero_le _⟩,?_⟩;rw [show cU.ae ((none:PL),(some ([],cu):PL))=[.flat false 0 6 (bF [])] from rfl]
        conv=>whnf
        refine ⟨aq.dz (fun h=>by cases h) (fun r hr=>absurd hr (Nat.not_lt_zero r)) (fun r hr=>rfl),?_⟩
        conv=>whnf
        refine ⟨.bool true,rfl,?_⟩;conv=>whnf
        rw [show (e == e)=true from by simp]
        conv=>whnf
        have hl:(aQ Q).length=n+1:=by rw [oR,← hn]
        refine ⟨(some (aQ Q,cu),some (aQ Q,cu)),[7,8],by rw [show cU.args (some (aQ Q,cu),some (aQ Q,cu))=[.slice (some ⟨0,0,none⟩) (n+1) cu,.slice (some ⟨1,0,none⟩) (n+1) cu] from by rw [← hl]; rfl]; rfl,⟨by show (aQ Q).length≤_; have:=CN hQ; omega,by show (aQ Q).length≤_; have:=CN hQ; omega⟩,?_⟩
        rw [show cU.ae (some (aQ Q,cu),some (aQ Q,cu))=[.flat false (n+1) 6 F,.flat false (n+1) 6 F] from by rw [← hl,hF]; rfl,show cU.val (some (aQ Q,cu),some (aQ Q,cu))=.bool true from congrArg Value.bool (decide_eq_true rfl),show cU.new (some (aQ Q,cu),some (aQ Q,cu))=none from rfl]
        conv=>whnf
        refine ⟨aq.aO (fun h=>by cases h) (fun r hr=>by rw [hF]; rfl),aq.aO (fun h=>by cases h) (fun r hr=>by rw [hF]; rfl),?_⟩
        conv=>whnf
        refine ⟨.bool true,rfl,?_⟩;conv=>whnf
        rw [show (f == f)=true from by simp]
        conv=>whnf
        refine ⟨(),rfl,trivial,?_⟩;conv=>whnf
        exact fin _
      | succ m =>
       obtain ⟨E,hE⟩:∃ F,F=aX R:=⟨_,rfl⟩;obtain ⟨⟨Q,f⟩,hQ⟩:∃ x,x=bH A B:=⟨_,rfl⟩;obtain ⟨n,hn⟩:∃ n,n=Q.length:=⟨_,rfl⟩;have hg:=xE (i:=some (A,c)) (k:=some (B,d)) hQ;cases n with
       | zero =>
        obtain rfl:Q=[]:=List.eq_nil_of_length_eq_zero hn.symm;refine ⟨(some (A,c),(p,q)),[0],by rw [show ax.args c6 (some (A,c),(p,q))=[.slice (some ⟨0,0,none⟩) na c,p.v,q.v] from by rw [a8]; rfl]; rfl,⟨cT hA,sp,sq⟩,?_⟩
        rw [show ax.ae c6 (some (A,c),(p,q))=[.flat false na 6 ga] from by rw [a8,bw]; rfl,show ax.val c6 (some (A,c),(p,q))=.tuple ⟨[.slice (some ⟨1,0,none⟩) (m+1) cu,.int .i64 e]⟩ from by rw [cL,hh.1,← hm]; rfl,show ax.new c6 (some (A,c),(p,q))=some (.flat true (m+1) 6 E) from by rw [hh.2.1]; unfold bW; rw [← hm,hE]]
        conv=>whnf
        refine ⟨aq.aO (fun h=>h) (fun r hr=>by rw [bw]; rfl),?_⟩
        conv=>whnf
        refine ⟨_,rfl,?_⟩;conv=>whnf
        refine ⟨(some (A,c),(p,q)),[0],by rw [show ax.args cl (some (A,c),(p,q))=[.slice (some ⟨0,0,none⟩) na c,p.v,q.v] from by rw [a8]; rfl]; rfl,⟨cT hA,sp,sq⟩,?_⟩
        rw [show ax.ae cl (some (A,c),(p,q))=[.flat false na 6 ga] from by rw [a8,bw]; rfl,show ax.val cl (some (A,c),(p,q))=.tuple ⟨[.slice (some ⟨1,0,none⟩) (m+1) cu,.int .i64 e]⟩ from by rw [cL,hh.2.2.1,← hm]; rfl,show ax.new cl (some (A,c),(p,q))=some (.flat true (m+1) 6 E) from by rw [hh.2.2.2,← hm,hE]]
        conv=>whnf
        refine ⟨aq.aO (fun h=>h) (fun r hr=>by rw [bw]; rfl),?_⟩
        conv=>whnf
        refine ⟨_,rfl,?_⟩;conv=>whnf
        refine ⟨(some (A,c),some (B,d)),[0,1],by rw [show ax.args cF (some (A,c),some (B,d))=[.slice (some ⟨0,0,none⟩) na c,.slice (some ⟨1,0,none⟩) nb d] from by rw [a8,bJ]; rfl]; rfl,⟨⟨cT hA,cT hB⟩,jZ (eh hA).2 (eh hB).2⟩,?_⟩
        rw [show ax.ae cF (some (A,c),some (B,d))=[.flat false na 6 ga,.flat false nb 6 gb] from by rw [a8,bw,bJ,cD]; rfl,show ax.val cF (some (A,c),some (B,d))=.tuple ⟨[.slice none 0 0,.int .i64 f]⟩ from hg.1,show ax.new cF (some (A,c),some (B,d))=none from hg.2.1]
        conv=>whnf
        refine ⟨aq.aO (fun h=>h) (fun r hr=>by rw [bw]; rfl),aq.aO (fun h=>h) (fun r hr=>by rw [cD]; rfl),?_⟩
        conv=>whnf
        refine ⟨_,rfl,?_⟩;conv=>whnf
        refine ⟨(some (A,c),some (B,d)),[0,1],by rw [show ax.args cm (some (A,c),some (B,d))=[.slice (some ⟨0,0,none⟩) na c,.slice (some ⟨1,0,none⟩) nb d] from by rw [a8,bJ]; rfl]; rfl,⟨⟨cT hA,cT hB⟩,jZ (eh hA).2 (eh hB).2⟩,?_⟩
        rw [show ax.ae cm (some (A,c),some (B,d))=[.flat false na 6 ga,.flat false nb 6 gb] from by rw [a8,bw,bJ,cD]; rfl,show ax.val cm (some (A,c),some (B,d))=.tuple ⟨[.slice (some ⟨2,0,none⟩) 0 cu,.int .i64 f]⟩ from by rw [cL]; exact hg.2.2.1,show ax.new cm (some (A,c),some (B,d))=some (.flat true 0 6 z0) from by rw [im]; exact hg.2.2.2]
        conv=>whnf
        refine ⟨aq.aO (fun h=>h) (fun r hr=>by rw [bw]; rfl),aq.aO (fun h=>h) (fun r hr=>by rw [cD]; rfl),?_⟩
        conv=>whnf
        refine ⟨_,rfl,?_⟩;conv=>whnf
        have hl:(aQ R).length=m+1:=by rw [oR,← hm]
        refine ⟨(some (aQ R,cu),some (aQ R,cu)),[6,7],by rw [show cU.args (some (aQ R,cu),some (aQ R,cu))=[.slice (some ⟨0,0,none⟩) (m+1) cu,.slice (some ⟨1,0,none⟩) (m+1) cu] from by rw [← hl]; rfl]; rfl,⟨by show (aQ R).length≤_; have:=xk hR; omega,by show (aQ R).length≤_; have:=xk hR; omega⟩,?_⟩
        rw [show cU.ae (some (aQ R,cu),some (aQ R,cu))=[.flat false (m+1) 6 E,.flat false (m+1) 6 E] from by rw [← hl,hE]; rfl,show cU.val (some (aQ R,cu),some (aQ R,cu))=.bool true from congrArg Value.bool (decide_eq_true rfl),show cU.new (some (aQ R,cu),some (aQ R,cu))=none from rfl]
        conv=>whnf
        refine ⟨aq.aO (fun h=>by cases h) (fun r hr=>by rw [hE]; rfl),aq.aO (fun h=>by cases h) (fun r hr=>by rw [hE]; rfl),?_⟩
        conv=>whnf
        refine ⟨.bool true,rfl,?_⟩;conv=>whnf
        rw [show (e == e)=true from by simp]
        conv=>whnf
        refine ⟨((none:PL),(some ([],cu):PL)),[8],rfl,⟨Nat.zero_le _,Nat.zero_le _⟩,?_⟩;rw [show cU.ae ((none:PL),(some ([],cu):PL))=[.flat false 0 6 (bF [])] from rfl]
        conv=>whnf
        refine ⟨aq.dz (fun h=>by cases h) (fun r hr=>absurd hr (Nat.not_lt_zero r)) (fun r hr=>rfl),?_⟩
        conv=>whnf
        refine ⟨.bool true,rfl,?_⟩;conv=>whnf
        rw [show (f == f)=true from by simp]
        conv=>whnf
        refine ⟨(),rfl,trivial,?_⟩;conv=>whnf
        exact fin _
       | succ n =>
        obtain ⟨F,hF⟩:∃ F,F=aX Q:=⟨_,rfl⟩;refine ⟨(some (A,c),(p,q)),[0],by rw [show ax.args c6 (some (A,c),(p,q))=[.slice (some ⟨0,0,none⟩) na c,p.v,q.v] from by rw [a8]; rfl]; rfl,⟨cT hA,sp,sq⟩,?_⟩
        rw [show ax.ae c6 (some (A,c),(p,q))=[.flat false na 6 ga] from by rw [a8,bw]; rfl,show ax.val c6 (some (A,c),(p,q))=.tuple ⟨[.slice (some ⟨1,0,none⟩) (m+1) cu,.int .i64 e]⟩ from by rw [cL,hh.1,← hm]; rfl,show ax.new c6 (some (A,c),(p,q))=some (.flat true (m+1) 6 E) from by rw [hh.2.1]; unfold bW; rw [← hm,hE]]
        conv=>whnf
        refine ⟨aq.aO (fun h=>h) (fun r hr=>by rw [bw]; rfl),?_⟩
        conv=>whnf
        refine ⟨_,rfl,?_⟩;conv=>whnf
        refine ⟨(some (A,c),(p,q)),[0],by rw [show ax.args cl (some (A,c),(p,q))=[.slice (some ⟨0,0,none⟩) na c,p.v,q.v] from by rw [a8]; rfl]; rfl,⟨cT hA,sp,sq⟩,?_⟩
        rw [show ax.ae cl (some (A,c),(p,q))=[.flat false na 6 ga] from by rw [a8,bw]; rfl,show ax.val cl (some (A,c),(p,q))=.tuple ⟨[.slice (some ⟨1,0,none⟩) (m+1) cu,.int .i64 e]⟩ from by rw [cL,hh.2.2.1,← hm]; rfl,show ax.new cl (some (A,c),(p,q))=some (.flat true (m+1) 6 E) from by rw [hh.2.2.2,← hm,hE]]
        conv=>whnf
        refine ⟨aq.aO (fun h=>h) (fun r hr=>by rw [bw]; rfl),?_⟩
        conv=>whnf
        refine ⟨_,rfl,?_⟩;conv=>whnf
        refine ⟨(some (A,c),some (B,d)),[0,1],by rw [show ax.args cF (some (A,c),some (B,d))=[.slice (some ⟨0,0,none⟩) na c,.slice (some ⟨1,0,none⟩) nb d] from by rw [a8,bJ]; rfl]; rfl,⟨⟨cT hA,cT hB⟩,jZ (eh hA).2 (eh hB).2⟩,?_⟩
        rw [show ax.ae cF (some (A,c),some (B,d))=[.flat false na 6 ga,.flat false nb 6 gb] from by rw [a8,bw,bJ,cD]; rfl,show ax.val cF (some (A,c),some (B,d))=.tuple ⟨[.slice (some ⟨2,0,none⟩) (n+1) cu,.int .i64 f]⟩ from by rw [cL,hg.1,← hn]; rfl,show ax.new cF (some (A,c),some (B,d))=some (.flat true (n+1) 6 F) from by rw [hg.2.1]; unfold bW; rw [← hn,hF]]
        conv=>whnf
        refine ⟨aq.aO (fun h=>h) (fun r hr=>by rw [bw]; rfl),aq.aO (fun h=>h) (fun r hr=>by rw [cD]; rfl),?_⟩
        conv=>whnf
        refine ⟨_,rfl,?_⟩;conv=>whnf
        refine ⟨(some (A,c),some (B,d)),[0,1],by rw [show ax.args cm (some (A,c),some (B,d))=[.slice (some ⟨0,0,none⟩) na c,.slice (some ⟨1,0,none⟩) nb d] from by rw [a8,bJ]; rfl]; rfl,⟨⟨cT hA,cT hB⟩,jZ (eh hA).2 (eh hB).2⟩,?_⟩
        rw [show ax.ae cm (some (A,c),some (B,d))=[.flat false na 6 ga,.flat false nb 6 gb] from by rw [a8,bw,bJ,cD]; rfl,show ax.val cm (some (A,c),some (B,d))=.tuple ⟨[.slice (some ⟨2,0,none⟩) (n+1) cu,.int .i64 f]⟩ from by rw [cL,hg.2.2.1,← hn]; rfl,show ax.new cm (some (A,c),some (B,d))=some (.flat true (n+1) 6 F) from by rw [hg.2.2.2,← hn,hF]]
        conv=>whnf
        refine ⟨aq.aO (fun h=>h) (fun r hr=>by rw [bw]; rfl),aq.aO (fun h=>h) (fun r hr=>by rw [cD]; rfl),?_⟩
        conv=>whnf
        refine ⟨_,rfl,?_⟩;conv=>whnf
        have hl:(aQ R).length=m+1:=by rw [oR,← hm]
        refine ⟨(some (aQ R,cu),some (aQ R,cu)),[6,7],by rw [show cU.args (some (aQ R,cu),some (aQ R,cu))=[.slice (some ⟨0,0,none⟩) (m+1) cu,.slice (some ⟨1,0,none⟩) (m+1) cu] from by rw [← hl]; rfl]; rfl,⟨by show (aQ R).length≤_; have:=xk hR; omega,by show (aQ R).length≤_; have:=xk hR; omega⟩,?_⟩
        rw [show cU.ae (some (aQ R,cu),some (aQ R,cu))=[.flat false (m+1) 6 E,.flat false (m+1) 6 E] from by rw [← hl,hE]; rfl,show cU.val (some (aQ R,cu),some (aQ R,cu))=.bool true from congrArg Value.bool (decide_eq_true rfl),show cU.new (some (aQ R,cu),some (aQ R,cu))=none from rfl]
        conv=>whnf
        refine ⟨aq.aO (fun h=>by cases h) (fun r hr=>by rw [hE]; rfl),aq.aO (fun h=>by cases h) (fun r hr=>by rw [hE]; rfl),?_⟩
        conv=>whnf
        refine ⟨.bool true,rfl,?_⟩;conv=>whnf
        rw [show (e == e)=true from by simp]
        conv=>whnf
        have hl:(aQ Q).length=n+1:=by rw [oR,← hn]
        refine ⟨(some (aQ Q,cu),some (aQ Q,cu)),[8,9],by rw [show cU.args (some (aQ Q,cu),some (aQ Q,cu))=[.slice (some ⟨0,0,none⟩) (n+1) cu,.slice (some ⟨1,0,none⟩) (n+1) cu] from by rw [← hl]; rfl]; rfl,⟨by show (aQ Q).length≤_; have:=CN hQ; omega,by show (aQ Q).length≤_; have:=CN hQ; omega⟩,?_⟩
        rw [show cU.ae (some (aQ Q,cu),some (aQ Q,cu))=[.flat false (n+1) 6 F,.flat false (n+1) 6 F] from by rw [← hl,hF]; rfl,show cU.val (some (aQ Q,cu),some (aQ Q,cu))=.bool true from congrArg Value.bool (decide_eq_true rfl),show cU.new (some (aQ Q,cu),some (aQ Q,cu))=none from rfl]
        conv=>whnf
        refine ⟨aq.aO (fun h=>by cases h) (fun r hr=>by rw [hF]; rfl),aq.aO (fun h=>by cases h) (fun r hr=>by rw [hF]; rfl),?_⟩
        conv=>whnf
        refine ⟨.bool true,rfl,?_⟩;conv=>whnf
        rw [show (f == f)=true from by simp]
        conv=>whnf
        refine ⟨(),rfl,trivial,?_⟩;conv=>whnf
        exact fin _
open Go Go.Ae Go.ChangeShapes Go.WideShapes Go.ChangeAt Go.RowKit
theorem own:ownKnob Tryz.prog.godebug=none:=by kernel_rfl
theorem laidOut:laidOutB Tryz.prog=true:=by kernel_rfl
set_option maxRecDepth 100000 in
theorem Qo:Du Tryz.prog 24 26 4 9 :=
 ⟨⟨_,_,_,Tryz.underlying24,⟨rfl,rfl⟩,⟨rfl,rfl⟩,rfl,rfl⟩,⟨_,_,Tryz.underlying26,⟨rfl,rfl⟩,rfl,rfl⟩,Tryz.underlying4,Tryz.underlying9,by kernel_rfl,by kernel_rfl,by kernel_rfl,by kernel_rfl⟩
def zP:Value:=.agg #[.bool false,.string ⟨#[]⟩,.string ⟨#[]⟩,.bool false,.string ⟨#[]⟩,.string ⟨#[]⟩]
set_option maxRecDepth 100000 in
theorem LY {w:World} {r:Reach} {base:Nat} {v:Value} (h:Value.okWide Tryz.prog w r base 26 v):∃ p:PV,v=p.v :=
 X0 Tryz.underlying26 (b:=4) (s:=9) (by kernel_rfl) (by kernel_rfl) Tryz.underlying4 Tryz.underlying9 h
set_option maxRecDepth 100000 in
set_option maxRecDepth 100000 in
set_option maxRecDepth 100000 in
theorem RJ (os:Os) (started:os.Started) (H:Type) (enc:TypeId × Value→H) :
  ReturnsInHanded {} Tryz.checked os 3 .any (Rows.convexCutsSpec.pre6 enc Tryz.prog Tryz.f3 Rows.convexCutsRow.domain false) (Rows.convexCutsSpec.post enc Tryz.prog Tryz.f3 false true false false):=by
 refine returnsInHanded_of_change_sized (C:=Tryz.checked) own started (by kernel_rfl) Tryz.func3
  (ChangeSpec.witness6 (enc:=enc) (C:=Tryz.checked) false ⟨#[],#[.slice none 0 0,.slice none 0 0,zP,zP],[]⟩ 8 (by kernel_rfl) (by kernel_rfl) (by kernel_rfl) (by kernel_rfl)) ?_
 intro W base args ds gs before Px hW ae6 im _;have vr:∀ (j:Nat) t v,Tryz.f3.params[j]?=some t→args[j]?=some v→Value.okWide Tryz.prog W .any base t v:=Px;have hW':=hW;obtain ⟨p,q,x4,hV,rfl,Jo,kc⟩:=hW;have hA:DataW.TrodAll enc Tryz.prog W 0 (fun _=>true) true Tryz.f3.params.toList args.toList ds p:=x4
 have hz:(DataW.weightsEach Tryz.prog (Tryz.f3.params.toList++Rows.convexCutsSpec.plain.varTypes Tryz.prog) (ds++gs)).all (·≤reachBytes)=true:=im;rw [Tryz.params3] at hA vr hz;obtain ⟨v0,vs0,d0,ds0,p0,q0,od,rfl,rfl,h0,r0⟩:=trodAll_cons hA;obtain ⟨v1,vs1,d1,ds1,p1,q1,rfl,rfl,rfl,h1,r1⟩:=trodAll_cons r0;obtain ⟨v2,vs2,d2,ds2,p2,q2,rfl,rfl,rfl,J,r2⟩:=trodAll_cons r1;obtain ⟨v3,vs3,d3,ds3,p3,q3,rfl,rfl,rfl,h3,r3⟩:=trodAll_cons r2;obtain ⟨rfl,rfl,rfl⟩:=trodAll_nil r3;obtain rfl:args=#[v0,v1,v2,v3]:=by cases args; simp_all
 obtain ⟨rfl,rfl⟩:=trodVars_none hV;obtain ⟨a0,bz,i0,z0,hv0,Jv,aeO⟩:=KK Qo Tryz.underlying22 (vr 0 22 v0 rfl rfl) h0;have z0:=z0 80 reachBytes (fun elems spare e=>sized_slice (e:=26) hz (j:=0) (t:=22) rfl (by rw [e]; rfl) Tryz.underlying22)
 obtain ⟨a1,eF,i1,z1,nW,kF,vf⟩:=KK Qo Tryz.underlying22 (vr 1 22 v1 rfl rfl) h1;have z1:=z1 80 reachBytes (fun elems spare e=>sized_slice (e:=26) hz (j:=1) (t:=22) rfl (by rw [e]; rfl) Tryz.underlying22)
 obtain ⟨a2,rfl⟩:=LY (vr 2 26 v2 rfl rfl);obtain ⟨a3,rfl⟩:=LY (vr 3 26 v3 rfl rfl);have lt0:∀ x∈p0,x.block < W.heap.size:=by obtain ⟨m,hm⟩:=h0; exact DataW.trod_lt m _ _ _ hm
 have lt1:∀ x∈p1,x.block < W.heap.size:=by obtain ⟨m,hm⟩:=h1; exact DataW.trod_lt m _ _ _ hm
 have lt2:∀ x∈p2,x.block < W.heap.size:=by obtain ⟨m,hm⟩:=J; exact DataW.trod_lt m _ _ _ hm
 have lt3:∀ x∈p3,x.block < W.heap.size:=by obtain ⟨m,hm⟩:=h3; exact DataW.trod_lt m _ _ _ hm
 clear x4 Px;obtain ⟨ν,hH,hn,hu0,rf⟩:=acL hv0 Jv aeO nW kF vf;have ab5:bn ν (mH.args ((((a0,a1),(a2,a3)):kM × kf))) [v0,v1,a2.v,a3.v]:=.cons hu0 (.cons rf (.cons ((yg (v:=PV.v a2) rfl).1 ν) (.cons ((yg (v:=PV.v a3) rfl).1 ν) (.nil ν))));refine (R0 ZM (i:=(((a0,a1),(a2,a3)):kM × kf)) (⟨z0,z1⟩) ab5 hH hn (b:=true) rfl).mono fun e W' ⟨he,AY⟩=>?_
 subst he;exact ⟨_,rfl,_,_,_,[],_,[],hW',trodAll_mk1 (shut_bool Tryz.underlying4 _),(trodAll_cons_mk (Below.trod laidOut (by kernel_rfl) (of_decide_eq_true (by kernel_rfl)) h0 AY lt0) (trodAll_cons_mk (Below.trod laidOut (by kernel_rfl) (of_decide_eq_true (by kernel_rfl)) h1 AY lt1) (trodAll_cons_mk (Below.trod laidOut (by kernel_rfl) (of_decide_eq_true (by kernel_rfl)) J AY lt2) (trodAll_cons_mk (Below.trod laidOut (by kernel_rfl) (of_decide_eq_true (by kernel_rfl)) h3 AY lt3) trodAll_mk0)))),rfl,AY.frame _,fun h=>by cases h⟩
theorem RK:Rows.convexCutsRow.holds Tryz.pinned (OpenSpec.ofChange Rows.convexCutsSpec) :=
 OpenClaim.holds_of_wide 3 Tryz.f3 rfl rfl rfl rfl rfl rfl rfl ⟨rfl,rfl,rfl,rfl,rfl⟩ rfl rfl rfl rfl rfl (by kernel_rfl) Tryz.func3 (by kernel_rfl)
  (of_decide_eq_true (by kernel_rfl)) (by unfold Func.isWrapper; first | (rw [if_pos (by decide +kernel)]; kernel_rfl) | (rw [if_neg (by decide +kernel)]; exact ⟨rfl,rfl⟩))
  (fun os started H enc _=>RJ os started H enc)
theorem convexCuts_proved:Rows.ConvexCutsSaid:=RK
end Go.Proofs.YtlapbjdhekcipaaGreat
