import Derived.Test.YtlapbjdhekcipaaGreatRows
import Derived.Test.YtlapbjdhekcipaaGreatQK
set_option linter.unusedVariables false
set_option linter.unusedSimpArgs false
/- Equality of lists of points. -/
set_option maxRecDepth 20000
set_option maxHeartbeats 4000000
namespace Go.Proofs.YtlapbjdhekcipaaGreat
open Go Go.Ae
def Edz:Env:=sL [(33,.p mr)]
theorem abV:EnvOk Tryz.prog Edz:=uA ⟨yq,trivial⟩ trivial
theorem Vq:cZ Tryz.prog 18 kd:=by
 refine dt abV aO Tryz.func18 (enters_of Tryz.func18 (by kernel_rfl) rfl) ?_ ?_ ?_
 ·intro ⟨i,j⟩ b hb
  cases i <;> cases j <;> simp [kd,PL.ae] at hb <;> (try rcases hb with rfl | rfl) <;> (try subst hb) <;> first | rfl | skip
 ·intro i b hb; simp [kd] at hb
 intro ⟨i,j⟩ hp
 have hp:i.list.length≤1099511627776∧j.list.length≤1099511627776:=hp
 obtain ⟨P7,Po⟩:=hp
 cases i with
 | none =>
  cases j with
  | none =>
   conv=>whnf
   refine .inr ⟨1,?_⟩
   conv=>whnf
   exact ⟨.bool true,rfl,.refl _⟩
  | some j =>
   obtain ⟨m,c⟩:=j
   obtain ⟨n,hn⟩:∃ n,n=m.length:=⟨_,rfl⟩
   obtain ⟨g,hg⟩:∃ g,g=bS m:=⟨_,rfl⟩
   have fin:∀ b:Bool,b=decide ([]=m)→∃ v',cP (List.range 1) 3 (kd.val (none,some (m,c)))=some v'∧dT (.bool b) v':=fun b h=>⟨.bool b,by rw [h]; rfl,.refl _⟩
   rw [show kd.ae (none,some (m,c))=[.flat false n 6 g] from by rw [hn,hg]; rfl,show kd.args (none,some (m,c))=[.slice none 0 0,.slice (some ⟨0,0,none⟩) n c] from by rw [hn]; rfl]
   by_cases h0:n=0
   ·have hm:m=[]:=List.length_eq_zero_iff.1 (hn.symm.trans h0)
    subst h0
    conv=>whnf
    refine .inr ⟨1,?_⟩
    conv=>whnf
    exact fin true (by rw [hm]; rfl)
   ·conv=>whnf
    rw [show (((0:Nat):Int) != ((n:Nat):Int))=true from by simp; omega]
    conv=>whnf
    exact fin false (by cases m with | nil=>exact absurd hn h0 | cons a m=>rfl)
 | some i =>
  obtain ⟨l,c⟩:=i
  obtain ⟨k,hk⟩:∃ n,n=l.length:=⟨_,rfl⟩
  obtain ⟨f,hf⟩:∃ g,g=bS l:=⟨_,rfl⟩
  have P7:k≤1099511627776:=by rw [hk]; exact P7
  cases j with
  | none =>
   have fin:∀ b:Bool,b=decide (l=[])→∃ v',cP (List.range 1) 3 (kd.val (some (l,c),none))=some v'∧dT (.bool b) v':=fun b h=>⟨.bool b,by rw [h]; rfl,.refl _⟩
   rw [show kd.ae (some (l,c),none)=[.flat false k 6 f] from by rw [hk,hf]; rfl,show kd.args (some (l,c),none)=[.slice (some ⟨0,0,none⟩) k c,.slice none 0 0] from by rw [hk]; rfl]
   by_cases h0:k=0
   ·have hm:l=[]:=List.length_eq_zero_iff.1 (hk.symm.trans h0)
    subst h0
    conv=>whnf
    refine .inr ⟨1,?_⟩
    conv=>whnf
    exact fin true (by rw [hm]; rfl)
   ·conv=>whnf
    rw [show (((k:Nat):Int) != ((0:Nat):Int))=true from by simp; omega]
    conv=>whnf
    exact fin false (by cases l with | nil=>exact absurd hk h0 | cons a m=>rfl)
  | some j =>
   obtain ⟨m,d⟩:=j
   obtain ⟨n,hn⟩:∃ n,n=m.length:=⟨_,rfl⟩
   obtain ⟨g,hg⟩:∃ g,g=bS m:=⟨_,rfl⟩
   have fin:∀ b:Bool,b=decide (l=m)→∃ v',cP (List.range 2) 3 (kd.val (some (l,c),some (m,d)))=some v'∧dT (.bool b) v':=fun b h=>⟨.bool b,by rw [h]; rfl,.refl _⟩
   rw [show kd.ae (some (l,c),some (m,d))=[.flat false k 6 f,.flat false n 6 g] from by rw [hk,hf,hn,hg]; rfl,show kd.args (some (l,c),some (m,d))=[.slice (some ⟨0,0,none⟩) k c,.slice (some ⟨1,0,none⟩) n d] from by rw [hk,hn]; rfl]
   by_cases h0:k=n
   ·obtain rfl:=h0
    conv=>whnf
    rw [show ((k:Int) != (k:Int))=false from by simp]
    conv=>whnf
    refine .inl ⟨fun mm tz hz=>∃ (i:Nat),bE (some (.slice (some ⟨0,0,none⟩) k c)::some (.slice (some ⟨1,0,none⟩) k d)::aD 10 (some (.int .i64 k)::some (.int .i64 i)::aD 12 [])) tz∧hz=[some (.flat false k 6 f),some (.flat false k 6 g)]∧k - i=mm∧(i≤k∧uq l m i),.inr ⟨[0,1],[0,1,12,13],?_⟩,?_⟩
    ·conv=>whnf
     intro _
     conv=>whnf
     refine ⟨_,0,(.aa (.aa (.sk 10 (.aa (.aa (.sk 12 .nil rfl))) rfl))),rfl,rfl,?_⟩
     exact ⟨Nat.zero_le _,RX _ _⟩
    rintro mm aT _ ⟨i,ar,rfl,rfl,⟨hi,hN⟩⟩
    obtain ⟨az,rfl⟩:∃ az:Nat→Value,aT=.slice (some ⟨0,0,none⟩) k c::.slice (some ⟨1,0,none⟩) k d::zs az 2 10 (.int .i64 k::.int .i64 i::zs az 14 12 []):=bK ar
    clear ar
    conv=>whnf
    refine aL (fun h1=>?_) (fun h1=>?_)
    ·have h1:i < k:=by
      have:=of_decide_eq_true h1
      omega
     obtain ⟨p,kP,_,a9⟩:=qU (l:=l) (i:=i) (by omega)
     obtain ⟨q,I8,_,N5⟩:=qU (l:=m) (i:=i) (by omega)
     rw [← hf] at a9
     rw [← hg] at N5
     have e7:IntKind.i64.wrap ((i:Int)+1)=((i+1:Nat):Int):=by rw [au (by omega) (by omega)]; rfl
     conv=>whnf
     refine .inl ⟨8,[[],[],[0,1],[0,1,2],[],[],[4,5],[4,5,6],[0,1,2,3,4,5,6,7]],by kernel_rfl,?_⟩
     conv=>whnf
     refine ⟨⟨by omega,by omega⟩,?_⟩
     simp only [toNat_cast,aq,Nat.zero_add]
     conv=>whnf
     refine ⟨by show i < k; omega,?_⟩
     conv=>whnf
     rw [a9]
     conv=>whnf
     refine ⟨⟨by omega,by omega⟩,?_⟩
     simp only [toNat_cast,aq,Nat.zero_add]
     conv=>whnf
     refine ⟨by show i < k; omega,?_⟩
     conv=>whnf
     rw [N5]
     conv=>whnf
     rw [Cu p q]
     by_cases J:p=q
     ·rw [decide_eq_true J]
      conv=>whnf
      rw [e7]
      refine .inr ⟨[0,1],[0,1,12,13],?_⟩
      conv=>whnf
      intro _
      conv=>whnf
      refine ⟨_,?_,i+1,(.aa (.aa (.sk 10 (.aa (.aa (.sk 12 .nil rfl))) rfl))),rfl,rfl,?_⟩
      ·omega
      ·exact ⟨by omega,Tg hN kP I8 J⟩
     ·rw [decide_eq_false J]
      conv=>whnf
      exact fin false (decide_eq_false (aaZ kP I8 J)).symm
    ·have h1:i=k:=by
      have:=of_decide_eq_false h1
      omega
     subst h1
     conv=>whnf
     exact fin true (decide_eq_true (Uw (by rw [← hk]; exact hN) (hk.symm.trans hn))).symm
   ·conv=>whnf
    rw [show ((k:Int) != (n:Int))=true from by simp; omega]
    conv=>whnf
    exact fin false (decide_eq_false (fun e=>h0 (by rw [hk,hn,e]))).symm
end Go.Proofs.YtlapbjdhekcipaaGreat
/- Convex: the examples of the chapter. -/
set_option maxRecDepth 20000
set_option maxHeartbeats 4000000
namespace Go.Proofs.YtlapbjdhekcipaaGreat
open Go Go.Ae
def Ea2:Env:=sL [(54,.q ic),(16,.q jl),(44,.q bP),(21,.q mf),(55,.p pV),(30,.p FG),(33,.p mr),(38,.p gL),(18,.q kd)]
theorem abW:EnvOk Tryz.prog Ea2:=uA ⟨TP,Vm,M1,Yf,NA,TB,yq,wa,Vq,trivial⟩ trivial
theorem SC:bm Tryz.prog 13 Nn:=by
 refine bt abW aO Tryz.func13 (enters_of Tryz.func13 (by kernel_rfl) rfl) (fun _=>rfl) (fun _=>rfl) ?_
 intro _ hp
 obtain ⟨cu,fM⟩:∃ cu,cu=aN:=⟨_,rfl⟩
 obtain ⟨gS,vd⟩:∃ g,g=cc (bB dz):=⟨_,rfl⟩
 obtain ⟨gT,I9⟩:∃ g,g=cc (bB jA):=⟨_,rfl⟩
 obtain ⟨gU,Ja⟩:∃ g,g=cc (bB jY):=⟨_,rfl⟩
 obtain ⟨gM,z5⟩:∃ g,g=cc (bB jB):=⟨_,rfl⟩
 have fS:PL.fit (some (bJ (bB dz),cu)):=Gj (by decide) (by decide)
 have fT:PL.fit (some (bJ (bB jA),cu)):=Gj (by decide) (by decide)
 have fU:PL.fit (some (bJ (bB jY),cu)):=Gj (by decide) (by decide)
 conv=>whnf
 refine ⟨dz,[0],rfl,⟨by decide,by decide⟩,?_⟩
 rw [show ic.ae dz=[.flat false 8 1 (mU dz)] from rfl,show ic.val dz=.slice (some ⟨1,0,none⟩) 4 cu from by rw [fM]; rfl,show ic.new dz=some (.flat true 4 6 gS) from by rw [vd]; rfl]
 conv=>whnf
 refine ⟨A5 dz _ rfl,?_⟩
 conv=>whnf
 refine ⟨_,rfl,?_⟩
 conv=>whnf
 refine ⟨jA,[2],rfl,⟨by decide,by decide⟩,?_⟩
 rw [show ic.ae jA=[.flat false 6 1 (mU jA)] from rfl,show ic.val jA=.slice (some ⟨1,0,none⟩) 3 cu from by rw [fM]; rfl,show ic.new jA=some (.flat true 3 6 gT) from by rw [I9]; rfl]
 conv=>whnf
 refine ⟨A5 jA _ rfl,?_⟩
 conv=>whnf
 refine ⟨_,rfl,?_⟩
 conv=>whnf
 refine ⟨(some (bJ (bB dz),cu),some (bJ (bB jA),cu)),[1,3],rfl,⟨⟨fS,fT⟩,aa3 (GR (by decide)) (GR (by decide))⟩,?_⟩
 rw [show jl.ae (some (bJ (bB dz),cu),some (bJ (bB jA),cu))=[.flat false 4 6 gS,.flat false 3 6 gT] from by rw [vd,I9]; rfl,Mi.1,Mi.2,← z5,← fM]
 conv=>whnf
 refine ⟨aA.aM (fun h=>by cases h) (fun r hr=>by rw [vd]; rfl),aA.aM (fun h=>by cases h) (fun r hr=>by rw [I9]; rfl),?_⟩
 conv=>whnf
 refine ⟨_,rfl,?_⟩
 conv=>whnf
 refine ⟨jY,[5],rfl,⟨by decide,by decide⟩,?_⟩
 rw [show ic.ae jY=[.flat false 6 1 (mU jY)] from rfl,show ic.val jY=.slice (some ⟨1,0,none⟩) 3 cu from by rw [fM]; rfl,show ic.new jY=some (.flat true 3 6 gU) from by rw [Ja]; rfl]
 conv=>whnf
 refine ⟨A5 jY _ rfl,?_⟩
 conv=>whnf
 refine ⟨_,rfl,?_⟩
 conv=>whnf
 obtain ⟨sa,n7⟩:∃ u,u=cB (iq (4,0)):=⟨_,rfl⟩
 obtain ⟨sb,qM⟩:∃ u,u=cB (iq (4,4)):=⟨_,rfl⟩
 refine ⟨(some (bJ (bB dz),cu),some (bJ (bB jY),cu)),[1,6],rfl,⟨fS,fU⟩,?_⟩
 rw [show bP.ae (some (bJ (bB dz),cu),some (bJ (bB jY),cu))=[.flat false 4 6 gS,.flat false 3 6 gU] from by rw [vd,Ja]; rfl,Wp n7 qM,show bP.new (some (bJ (bB dz),cu),some (bJ (bB jY),cu))=none from rfl]
 conv=>whnf
 refine ⟨aA.aM (fun h=>by cases h) (fun r hr=>by rw [vd]; rfl),aA.aM (fun h=>by cases h) (fun r hr=>by rw [Ja]; rfl),?_⟩
 conv=>whnf
 refine ⟨_,rfl,?_⟩
 conv=>whnf
 obtain ⟨p1,cp1,ep1,pp1,sp1,qp1⟩:=wo (uo (-2) (1) (by decide) (by decide))
 refine ⟨(((-2:Int),(1:Int)):Int × Int),rfl,⟨⟨by decide,by decide⟩,⟨by decide,by decide⟩⟩,?_⟩
 rw [show pV.val (((-2:Int),(1:Int)):Int × Int)=p1.v from ep1]
 conv=>whnf
 obtain ⟨p2,cp2,ep2,pp2,sp2,qp2⟩:=wo (uo (6) (1) (by decide) (by decide))
 refine ⟨(((6:Int),(1:Int)):Int × Int),rfl,⟨⟨by decide,by decide⟩,⟨by decide,by decide⟩⟩,?_⟩
 rw [show pV.val (((6:Int),(1:Int)):Int × Int)=p2.v from ep2]
 conv=>whnf
 obtain ⟨lo,sN,elo,plo,sP,zY⟩:=Gf (q:=1 / 4) (k:=1) ⟨gJ (show _ < C ^ 1 by decide +kernel),gJ (show _ < C ^ 1 by decide +kernel)⟩
 obtain ⟨hi,sO,ehi,phi,u9,zZ⟩:=Gf (q:=3 / 4) (k:=1) ⟨gJ (show _ < C ^ 1 by decide +kernel),gJ (show _ < C ^ 1 by decide +kernel)⟩
 refine ⟨(some (bJ (bB dz),cu),(p1,p2)),[1],rfl,⟨fS,PV.a8 sp1 (by decide),PV.a8 sp2 (by decide)⟩,?_⟩
 rw [show mf.ae (some (bJ (bB dz),cu),(p1,p2))=[.flat false 4 6 gS] from by rw [vd]; rfl,Wq cp1 cp2 sN sO,show mf.new (some (bJ (bB dz),cu),(p1,p2))=none from rfl]
 conv=>whnf
 refine ⟨aA.aM (fun h=>by cases h) (fun r hr=>by rw [vd]; rfl),?_⟩
 conv=>whnf
 refine ⟨_,rfl,?_⟩
 conv=>whnf
 refine ⟨(1,4),rfl,⟨by show uU 1; decide,by show uU 4; decide⟩,?_⟩
 rw [show FG.val (1,4)=.tuple ⟨[lo.v,.int .i64 0]⟩ from by show lG 1 4=_; unfold lG; rw [show Rat.divInt 1 4=1 / 4 by decide +kernel,sN]; rfl]
 conv=>whnf
 refine .inl ⟨36,[[],[0],[0,1],[0,1,2],[0,1,2,3],[0,1,2,3,4],[0,1,2,3,4,5],[0,1,2,3,4,5,6],[0,1,2,3,4,5,6,7],[0,1,2,3,4,5,6,7,8],[0,1,2,3,4,5,6,7,8,9],[0,1,2,3,4,5,6,7,8,9,10],[0,1,2,3,4,5,6,7,8,9,10],[0,1,2,3,4,5,6,7,8,9,10,12],[0,1,2,3,4,5,6,7,8,9,10,11,12,13],[0,1,2,3,4,5,6,7,8,9,10,11,12,13,14],[0,1,2,3,4,5,6,7,8,9,10,11,12,13,14,15],[0,1,2,3,4,5,6,7,8,9,10,11,12,13,14,15,16],[0,1,2,3,4,5,6,7,8,9,10,11,12,13,14,15,16],[0,1,2,3,4,5,6,7,8,9,10,11,12,13,14,15,16,18],[0,1,2,3,4,5,6,7,8,9,10,11,12,13,14,15,16,18,19],[0,1,2,3,4,5,6,7,8,9,10,11,12,13,14,15,16,17,18,19,20],[0,1,2,3,4,5,6,7,8,9,10,11,12,13,14,15,16,17,18,19,20,21],[0,1,2,3,4,5,6,7,8,9,10,11,12,13,14,15,16,17,18,19,20,21,22],[0,1,2,3,4,5,6,7,8,9,10,11,12,13,14,15,16,17,18,19,20,21,22,23],[0,1,2,3,4,5,6,7,8,9,10,11,12,13,14,15,16,17,18,19,20,21,22,23,24],[0,1,2,3,4,5,6,7,8,9,10,11,12,13,14,15,16,17,18,19,20,21,22,23,24,25],[0,1,2,3,4,5,6,7,8,9,10,11,12,13,14,15,16,17,18,19,20,21,22,23,24,25,26],[0,1,2,3,4,5,6,7,8,9,10,11,12,13,14,15,16,17,18,19,20,21,22,23,24,25,26],[0,1,2,3,4,5,6,7,8,9,10,11,12,13,14,15,16,17,18,19,20,21,22,23,24,25,26,27,28],[0,1,2,3,4,5,6,7,8,9,10,11,12,13,14,15,16,17,18,19,20,21,22,23,24,25,26,27,28,29],[0,1,2,3,4,5,6,7,8,9,10,11,12,13,14,15,16,17,18,19,20,21,22,23,24,25,26,27,28,29,30],[0,1,2,3,4,5,6,7,8,9,10,11,12,13,14,15,16,17,18,19,20,21,22,23,24,25,26,27,28,29,30,31],[0,1,2,3,4,5,6,7,8,9,10,11,12,13,14,15,16,17,18,19,20,21,22,23,24,25,26,27,28,29,30,31],[0,1,2,3,4,5,6,7,8,9,10,11,12,13,14,15,16,17,18,19,20,21,22,23,24,25,26,27,28,29,30,31],[0,1,2,3,4,5,6,7,8,9,10,11,12,13,14,15,16,17,18,19,20,21,22,23,24,25,26,27,28,29,30,31,33,34],[0,1,2,3,4,5,6,7,8,9,10,11,12,13,14,15,16,17,18,19,20,21,22,23,24,25,26,27,28,29,30,31,32,33,34,35],[0,1,2,3,4,5,6,7,8,9,10,11,12,13,14,15,16,17,18,19,20,21,22,23,24,25,26,27,28,29,30,31,32,33,34,35,36],[0,1,2,3,4,5,6,7,8,9,10,11,12,13,14,15,16,17,18,19,20,21,22,23,24,25,26,27,28,29,30,31,32,33,34,35,36,37]],by kernel_rfl,?_⟩
 conv=>whnf
 refine ⟨jB,[23],rfl,⟨by decide,by decide⟩,?_⟩
 rw [show ic.ae jB=[.flat false 8 1 (mU jB)] from rfl,show ic.val jB=.slice (some ⟨1,0,none⟩) 4 cu from by rw [fM]; rfl,show ic.new jB=some (.flat true 4 6 gM) from by rw [z5]; rfl]
 conv=>whnf
 refine ⟨A5 jB _ rfl,?_⟩
 conv=>whnf
 refine ⟨_,rfl,?_⟩
 conv=>whnf
 refine ⟨(some (bJ (bB jB),cu),some (bJ (bB jB),cu)),[4,24],rfl,⟨by show 4≤1099511627776; decide,by show 4≤1099511627776; decide⟩,?_⟩
 rw [show kd.ae (some (bJ (bB jB),cu),some (bJ (bB jB),cu))=[.flat false 4 6 gM,.flat false 4 6 gM] from by rw [z5]; rfl,show kd.val (some (bJ (bB jB),cu),some (bJ (bB jB),cu))=.bool true from congrArg Value.bool (decide_eq_true rfl),show kd.new (some (bJ (bB jB),cu),some (bJ (bB jB),cu))=none from rfl]
 conv=>whnf
 refine ⟨aA.aM (fun h=>by cases h) (fun r hr=>by rw [z5]; rfl),aA.aM (fun h=>by cases h) (fun r hr=>by rw [z5]; rfl),?_⟩
 conv=>whnf
 refine ⟨.bool true,rfl,?_⟩
 conv=>whnf
 obtain ⟨q1,cq1,eq1,pq1,sq1,qq1⟩:=wo (uo (4) (0) (by decide) (by decide))
 refine ⟨(((4:Int),(0:Int)):Int × Int),rfl,⟨⟨by decide,by decide⟩,⟨by decide,by decide⟩⟩,?_⟩
 rw [show pV.val (((4:Int),(0:Int)):Int × Int)=q1.v from eq1]
 conv=>whnf
 obtain ⟨q2,cq2,eq2,pq2,sq2,qq2⟩:=wo (uo (4) (4) (by decide) (by decide))
 refine ⟨(((4:Int),(4:Int)):Int × Int),rfl,⟨⟨by decide,by decide⟩,⟨by decide,by decide⟩⟩,?_⟩
 rw [show pV.val (((4:Int),(4:Int)):Int × Int)=q2.v from eq2]
 conv=>whnf
 obtain rfl:sa=q1:=n7.trans cq1.symm
 obtain rfl:sb=q2:=qM.trans cq2.symm
 rw [zI (sa,sb)]
 conv=>whnf
 rw [Px lo]
 conv=>whnf
 obtain ⟨o,co,eo,po,so,qo⟩:=Gf (q:=((1:Int):Rat)) (QB.of_int (n:=1) (k:=1) (gJ (show Int.natAbs 1 < C ^ 1 by decide)) (by decide))
 refine ⟨(1:Int),rfl,⟨by decide,by decide⟩,?_⟩
 rw [show mr.val (1:Int)=o.v from eo]
 conv=>whnf
 refine ⟨(o,lo),rfl,⟨RV.b6 so (by decide),RV.b6 sP (by decide)⟩,?_⟩
 rw [show gL.val (o,lo)=hi.v from by show (RV.of (o.q - lo.q)).v=_; rw [po,plo,show ((1:Int):Rat) - 1 / 4=3 / 4 by decide +kernel,sO]]
 conv=>whnf
 show Value.bool (eT _ _)=Value.bool true
 exact congrArg Value.bool (Px hi)
end Go.Proofs.YtlapbjdhekcipaaGreat
/- Laws of convex against the reference: pairs of rings. -/
set_option maxRecDepth 20000
set_option maxHeartbeats 4000000
namespace Go.Proofs.YtlapbjdhekcipaaGreat
open Go Go.Ae
def Jb:Env:=En [(53,.q dg)]
theorem abX:EnvOk Tryz.prog Jb:=bL ⟨SB,trivial⟩ trivial
theorem TQ:gl Tryz.prog 107 (cI Jb cV Tryz.f107):=by
 exact jn abX aO Tryz.func107 (enters_of Tryz.func107 (by kernel_rfl) rfl)
def Jc:Env:=En [] [(107,cI Jb cV Tryz.f107)]
theorem abY:EnvOk Tryz.prog Jc:=bL trivial ⟨TQ,trivial⟩
theorem QJ:gl Tryz.prog 52 (cI Jc cV Tryz.f52):=by
 exact jn abY aO Tryz.func52 (enters_of Tryz.func52 (by kernel_rfl) rfl)
def Jd:Env:=En [] [(52,cI Jc cV Tryz.f52)]
theorem abZ:EnvOk Tryz.prog Jd:=bL trivial ⟨QJ,trivial⟩
theorem Vr:gl Tryz.prog 12 (cI Jd cV Tryz.f12):=by
 exact jn abZ aO Tryz.func12 (enters_of Tryz.func12 (by kernel_rfl) rfl)
def Ea6:Env:=sL [(13,.p Nn),(40,.q (ba true)),(41,.q (ba true)),(42,.q (ba false)),(43,.q (ba false)),(44,.q bP),(45,.q bP)] [(12,cI Jd cV Tryz.f12)]
theorem ab0:EnvOk Tryz.prog Ea6:=uA ⟨SC,Sy,Rf,Vn,TO,M1,Vp,trivial⟩ ⟨Vr,trivial⟩
theorem Vs:cZ Tryz.prog 8 mc:=by
 refine dt ab0 aO Tryz.func8 (enters_of Tryz.func8 (by kernel_rfl) rfl) ?_ ?_ ?_
 ·intro ⟨i,k⟩ B hb
  cases i <;> cases k <;> simp [mc,PL.ae] at hb
  ·rw [hb]; rfl
  ·rw [hb]; rfl
  ·rcases hb with rfl | rfl <;> rfl
 ·intro i b hb; simp [mc] at hb
 intro ⟨i,k⟩ hp
 have hp:i.list.length*80≤140737488351232∧k.list.length*80≤140737488351232:=hp
 obtain ⟨lR,dk⟩:=hp
 have fin:∀ n,∃ v',cP (List.range n) 3 (mc.val (i,k))=some v'∧dT (.bool true) v':=fun n=>⟨.bool true,rfl,.refl _⟩
 cases i with
 | none =>
  cases k with
  | none =>
   have lR:List.length ([]:List PV)*80≤140737488351232:=lR
   have dk:List.length ([]:List PV)*80≤140737488351232:=dk
   rw [show mc.ae (none,none)=[] from rfl,show mc.args (none,none)=[.slice none 0 0,.slice none 0 0] from rfl]
   conv=>whnf
   refine .inr ⟨3,?_⟩
   conv=>whnf
   refine ⟨⟨by decide,by decide⟩,?_⟩
   conv=>whnf
   obtain ⟨GA,n8⟩:∃ G,G=jm []:=⟨_,rfl⟩
   refine ⟨none,[],by rw [show dg.args (none)=[.slice none 0 0] from rfl]; rfl,by show List.length ([]:List PV)≤9223372036854775807; omega,?_⟩
   rw [show dg.ae (none)=[] from rfl,show dg.val (none)=.bool GA from by rw [n8]; rfl,show dg.new (none)=none from rfl]
   conv=>whnf
   skip
   conv=>whnf
   refine ⟨_,rfl,?_⟩
   conv=>whnf
   cases GA with
   | true =>
    conv=>whnf
    conv=>whnf
    refine ⟨(),rfl,trivial,?_⟩
    conv=>whnf
    exact fin _
   | false =>
    have hA:=n8.symm
    conv=>whnf
    refine ⟨⟨by decide,by decide⟩,?_⟩
    conv=>whnf
    obtain ⟨GB,n9⟩:∃ G,G=jm []:=⟨_,rfl⟩
    refine ⟨none,[],by rw [show dg.args (none)=[.slice none 0 0] from rfl]; rfl,by show List.length ([]:List PV)≤9223372036854775807; omega,?_⟩
    rw [show dg.ae (none)=[] from rfl,show dg.val (none)=.bool GB from by rw [n9]; rfl,show dg.new (none)=none from rfl]
    conv=>whnf
    skip
    conv=>whnf
    refine ⟨_,rfl,?_⟩
    conv=>whnf
    cases GB with
    | true =>
     conv=>whnf
     conv=>whnf
     refine ⟨(),rfl,trivial,?_⟩
     conv=>whnf
     exact fin _
    | false =>
     have hB:=n9.symm
     conv=>whnf
     obtain ⟨⟨x,e⟩,hx⟩:∃ x,x=ck true [] []:=⟨_,rfl⟩
     obtain ⟨⟨y,f⟩,hy⟩:∃ x,x=ck false [] []:=⟨_,rfl⟩
     obtain ⟨⟨s,g⟩,hs⟩:∃ x,x=dm [] []:=⟨_,rfl⟩
     refine ⟨(none,none),[],by rw [show aG.args (ba true) (none,none)=[.slice none 0 0,.slice none 0 0] from rfl]; rfl,⟨cN hA,cN hB⟩,?_⟩
     rw [show aG.ae (ba true) (none,none)=[] from rfl,show aG.val (ba true) (none,none)=.tuple ⟨[.bool x,.int .i64 e]⟩ from by show Value.tuple ⟨[.bool (ck true [] []).1,.int .i64 (ck true [] []).2]⟩=_; rw [← hx],show aG.new (ba true) (none,none)=none from rfl]
     conv=>whnf
     skip
     conv=>whnf
     refine ⟨_,rfl,?_⟩
     conv=>whnf
     refine ⟨(none,none),[],by rw [show aG.args (ba true) (none,none)=[.slice none 0 0,.slice none 0 0] from rfl]; rfl,⟨cN hA,cN hB⟩,?_⟩
     rw [show aG.ae (ba true) (none,none)=[] from rfl,show aG.val (ba true) (none,none)=.tuple ⟨[.bool x,.int .i64 e]⟩ from by show Value.tuple ⟨[.bool (ck true [] []).1,.int .i64 (ck true [] []).2]⟩=_; rw [← hx],show aG.new (ba true) (none,none)=none from rfl]
     conv=>whnf
     skip
     conv=>whnf
     refine ⟨_,rfl,?_⟩
     conv=>whnf
     refine ⟨(none,none),[],by rw [show aG.args (ba false) (none,none)=[.slice none 0 0,.slice none 0 0] from rfl]; rfl,⟨cN hA,cN hB⟩,?_⟩
     rw [show aG.ae (ba false) (none,none)=[] from rfl,show aG.val (ba false) (none,none)=.tuple ⟨[.bool y,.int .i64 f]⟩ from by show Value.tuple ⟨[.bool (ck false [] []).1,.int .i64 (ck false [] []).2]⟩=_; rw [← hy],show aG.new (ba false) (none,none)=none from rfl]
     conv=>whnf
     skip
     conv=>whnf
     refine ⟨_,rfl,?_⟩
     conv=>whnf
     refine ⟨(none,none),[],by rw [show aG.args (ba false) (none,none)=[.slice none 0 0,.slice none 0 0] from rfl]; rfl,⟨cN hA,cN hB⟩,?_⟩
     rw [show aG.ae (ba false) (none,none)=[] from rfl,show aG.val (ba false) (none,none)=.tuple ⟨[.bool y,.int .i64 f]⟩ from by show Value.tuple ⟨[.bool (ck false [] []).1,.int .i64 (ck false [] []).2]⟩=_; rw [← hy],show aG.new (ba false) (none,none)=none from rfl]
     conv=>whnf
     skip
     conv=>whnf
     refine ⟨_,rfl,?_⟩
     conv=>whnf
     refine ⟨(none,none),[],by rw [show aG.args bP (none,none)=[.slice none 0 0,.slice none 0 0] from rfl]; rfl,⟨cN hA,cN hB⟩,?_⟩
     rw [show aG.ae bP (none,none)=[] from rfl,show aG.val bP (none,none)=.tuple ⟨[s.v,.int .i64 g]⟩ from by show Value.tuple ⟨[(dm [] []).1.v,.int .i64 (dm [] []).2]⟩=_; rw [← hs],show aG.new bP (none,none)=none from rfl]
     conv=>whnf
     skip
     conv=>whnf
     refine ⟨_,rfl,?_⟩
     conv=>whnf
     refine ⟨(none,none),[],by rw [show aG.args bP (none,none)=[.slice none 0 0,.slice none 0 0] from rfl]; rfl,⟨cN hA,cN hB⟩,?_⟩
     rw [show aG.ae bP (none,none)=[] from rfl,show aG.val bP (none,none)=.tuple ⟨[s.v,.int .i64 g]⟩ from by show Value.tuple ⟨[(dm [] []).1.v,.int .i64 (dm [] []).2]⟩=_; rw [← hs],show aG.new bP (none,none)=none from rfl]
     conv=>whnf
     skip
     conv=>whnf
     refine ⟨_,rfl,?_⟩
     conv=>whnf
     rw [show (x == x)=true from by simp]
     conv=>whnf
     rw [show (e == e)=true from by simp]
     conv=>whnf
     rw [show (y == y)=true from by simp]
     conv=>whnf
     rw [show (f == f)=true from by simp]
     conv=>whnf
     rw [zI s]
     conv=>whnf
     rw [show (g == g)=true from by simp]
     conv=>whnf
     refine ⟨(),rfl,trivial,?_⟩
     conv=>whnf
     exact fin _
  | some k =>
   obtain ⟨B,d⟩:=k
   obtain ⟨nb,aZ⟩:∃ n,n=B.length:=⟨_,rfl⟩
   obtain ⟨gb,bA⟩:∃ g,g=bS B:=⟨_,rfl⟩
   have lR:List.length ([]:List PV)*80≤140737488351232:=lR
   have dk:List.length (B:List PV)*80≤140737488351232:=dk
   rw [show mc.ae (none,some (B,d))=[.flat false nb 6 gb] from by rw [aZ,bA]; rfl,show mc.args (none,some (B,d))=[.slice none 0 0,.slice (some ⟨0,0,none⟩) nb d] from by rw [aZ]; rfl]
   conv=>whnf
   refine .inr ⟨3,?_⟩
   conv=>whnf
   refine ⟨⟨by decide,by decide⟩,?_⟩
   conv=>whnf
   obtain ⟨GA,n8⟩:∃ G,G=jm []:=⟨_,rfl⟩
   refine ⟨none,[],by rw [show dg.args (none)=[.slice none 0 0] from rfl]; rfl,by show List.length ([]:List PV)≤9223372036854775807; omega,?_⟩
   rw [show dg.ae (none)=[] from rfl,show dg.val (none)=.bool GA from by rw [n8]; rfl,show dg.new (none)=none from rfl]
   conv=>whnf
   skip
   conv=>whnf
   refine ⟨_,rfl,?_⟩
   conv=>whnf
   cases GA with
   | true =>
    conv=>whnf
    conv=>whnf
    refine ⟨(),rfl,trivial,?_⟩
    conv=>whnf
    exact fin _
   | false =>
    have hA:=n8.symm
    conv=>whnf
    refine ⟨⟨by decide,by decide⟩,?_⟩
    conv=>whnf
    obtain ⟨GB,n9⟩:∃ G,G=jm B:=⟨_,rfl⟩
    refine ⟨some (B,d),[0],by rw [show dg.args (some (B,d))=[.slice (some ⟨0,0,none⟩) nb d] from by rw [aZ]; rfl]; rfl,by show List.length (B:List PV)≤9223372036854775807; omega,?_⟩
    rw [show dg.ae (some (B,d))=[.flat false nb 6 gb] from by rw [aZ,bA]; rfl,show dg.val (some (B,d))=.bool GB from by rw [n9]; rfl,show dg.new (some (B,d))=none from rfl]
    conv=>whnf
    refine ⟨aA.aM (fun h=>h) (fun r hr=>by rw [bA]; rfl),?_⟩
    conv=>whnf
    refine ⟨_,rfl,?_⟩
    conv=>whnf
    cases GB with
    | true =>
     conv=>whnf
     conv=>whnf
     refine ⟨(),rfl,trivial,?_⟩
     conv=>whnf
     exact fin _
    | false =>
     have hB:=n9.symm
     conv=>whnf
     obtain ⟨⟨x,e⟩,hx⟩:∃ x,x=ck true [] B:=⟨_,rfl⟩
     obtain ⟨⟨y,f⟩,hy⟩:∃ x,x=ck false [] B:=⟨_,rfl⟩
     obtain ⟨⟨s,g⟩,hs⟩:∃ x,x=dm [] B:=⟨_,rfl⟩
     refine ⟨(none,some (B,d)),[0],by rw [show aG.args (ba true) (none,some (B,d))=[.slice none 0 0,.slice (some ⟨0,0,none⟩) nb d] from by rw [aZ]; rfl]; rfl,⟨cN hA,cN hB⟩,?_⟩
     rw [show aG.ae (ba true) (none,some (B,d))=[.flat false nb 6 gb] from by rw [aZ,bA]; rfl,show aG.val (ba true) (none,some (B,d))=.tuple ⟨[.bool x,.int .i64 e]⟩ from by show Value.tuple ⟨[.bool (ck true [] B).1,.int .i64 (ck true [] B).2]⟩=_; rw [← hx],show aG.new (ba true) (none,some (B,d))=none from rfl]
     conv=>whnf
     refine ⟨aA.aM (fun h=>h) (fun r hr=>by rw [bA]; rfl),?_⟩
     conv=>whnf
     refine ⟨_,rfl,?_⟩
     conv=>whnf
     refine ⟨(none,some (B,d)),[0],by rw [show aG.args (ba true) (none,some (B,d))=[.slice none 0 0,.slice (some ⟨0,0,none⟩) nb d] from by rw [aZ]; rfl]; rfl,⟨cN hA,cN hB⟩,?_⟩
     rw [show aG.ae (ba true) (none,some (B,d))=[.flat false nb 6 gb] from by rw [aZ,bA]; rfl,show aG.val (ba true) (none,some (B,d))=.tuple ⟨[.bool x,.int .i64 e]⟩ from by show Value.tuple ⟨[.bool (ck true [] B).1,.int .i64 (ck true [] B).2]⟩=_; rw [← hx],show aG.new (ba true) (none,some (B,d))=none from rfl]
     conv=>whnf
     refine ⟨aA.aM (fun h=>h) (fun r hr=>by rw [bA]; rfl),?_⟩
     conv=>whnf
     refine ⟨_,rfl,?_⟩
     conv=>whnf
     refine ⟨(none,some (B,d)),[0],by rw [show aG.args (ba false) (none,some (B,d))=[.slice none 0 0,.slice (some ⟨0,0,none⟩) nb d] from by rw [aZ]; rfl]; rfl,⟨cN hA,cN hB⟩,?_⟩
     rw [show aG.ae (ba false) (none,some (B,d))=[.flat false nb 6 gb] from by rw [aZ,bA]; rfl,show aG.val (ba false) (none,some (B,d))=.tuple ⟨[.bool y,.int .i64 f]⟩ from by show Value.tuple ⟨[.bool (ck false [] B).1,.int .i64 (ck false [] B).2]⟩=_; rw [← hy],show aG.new (ba false) (none,some (B,d))=none from rfl]
     conv=>whnf
     refine ⟨aA.aM (fun h=>h) (fun r hr=>by rw [bA]; rfl),?_⟩
     conv=>whnf
     refine ⟨_,rfl,?_⟩
     conv=>whnf
     refine ⟨(none,some (B,d)),[0],by rw [show aG.args (ba false) (none,some (B,d))=[.slice none 0 0,.slice (some ⟨0,0,none⟩) nb d] from by rw [aZ]; rfl]; rfl,⟨cN hA,cN hB⟩,?_⟩
     rw [show aG.ae (ba false) (none,some (B,d))=[.flat false nb 6 gb] from by rw [aZ,bA]; rfl,show aG.val (ba false) (none,some (B,d))=.tuple ⟨[.bool y,.int .i64 f]⟩ from by show Value.tuple ⟨[.bool (ck false [] B).1,.int .i64 (ck false [] B).2]⟩=_; rw [← hy],show aG.new (ba false) (none,some (B,d))=none from rfl]
     conv=>whnf
     refine ⟨aA.aM (fun h=>h) (fun r hr=>by rw [bA]; rfl),?_⟩
     conv=>whnf
     refine ⟨_,rfl,?_⟩
     conv=>whnf
     refine ⟨(none,some (B,d)),[0],by rw [show aG.args bP (none,some (B,d))=[.slice none 0 0,.slice (some ⟨0,0,none⟩) nb d] from by rw [aZ]; rfl]; rfl,⟨cN hA,cN hB⟩,?_⟩
     rw [show aG.ae bP (none,some (B,d))=[.flat false nb 6 gb] from by rw [aZ,bA]; rfl,show aG.val bP (none,some (B,d))=.tuple ⟨[s.v,.int .i64 g]⟩ from by show Value.tuple ⟨[(dm [] B).1.v,.int .i64 (dm [] B).2]⟩=_; rw [← hs],show aG.new bP (none,some (B,d))=none from rfl]
     conv=>whnf
     refine ⟨aA.aM (fun h=>h) (fun r hr=>by rw [bA]; rfl),?_⟩
     conv=>whnf
     refine ⟨_,rfl,?_⟩
     conv=>whnf
     refine ⟨(none,some (B,d)),[0],by rw [show aG.args bP (none,some (B,d))=[.slice none 0 0,.slice (some ⟨0,0,none⟩) nb d] from by rw [aZ]; rfl]; rfl,⟨cN hA,cN hB⟩,?_⟩
     rw [show aG.ae bP (none,some (B,d))=[.flat false nb 6 gb] from by rw [aZ,bA]; rfl,show aG.val bP (none,some (B,d))=.tuple ⟨[s.v,.int .i64 g]⟩ from by show Value.tuple ⟨[(dm [] B).1.v,.int .i64 (dm [] B).2]⟩=_; rw [← hs],show aG.new bP (none,some (B,d))=none from rfl]
     conv=>whnf
     refine ⟨aA.aM (fun h=>h) (fun r hr=>by rw [bA]; rfl),?_⟩
     conv=>whnf
     refine ⟨_,rfl,?_⟩
     conv=>whnf
     rw [show (x == x)=true from by simp]
     conv=>whnf
     rw [show (e == e)=true from by simp]
     conv=>whnf
     rw [show (y == y)=true from by simp]
     conv=>whnf
     rw [show (f == f)=true from by simp]
     conv=>whnf
     rw [zI s]
     conv=>whnf
     rw [show (g == g)=true from by simp]
     conv=>whnf
     refine ⟨(),rfl,trivial,?_⟩
     conv=>whnf
     exact fin _
 | some i =>
  obtain ⟨A,c⟩:=i
  cases k with
  | none =>
   obtain ⟨na,aV⟩:∃ n,n=A.length:=⟨_,rfl⟩
   obtain ⟨ga,bo⟩:∃ g,g=bS A:=⟨_,rfl⟩
   have lR:List.length (A:List PV)*80≤140737488351232:=lR
   have dk:List.length ([]:List PV)*80≤140737488351232:=dk
   rw [show mc.ae (some (A,c),none)=[.flat false na 6 ga] from by rw [aV,bo]; rfl,show mc.args (some (A,c),none)=[.slice (some ⟨0,0,none⟩) na c,.slice none 0 0] from by rw [aV]; rfl]
   conv=>whnf
   refine .inr ⟨3,?_⟩
   conv=>whnf
   refine ⟨⟨by decide,by decide⟩,?_⟩
   conv=>whnf
   obtain ⟨GA,n8⟩:∃ G,G=jm A:=⟨_,rfl⟩
   refine ⟨some (A,c),[0],by rw [show dg.args (some (A,c))=[.slice (some ⟨0,0,none⟩) na c] from by rw [aV]; rfl]; rfl,by show List.length (A:List PV)≤9223372036854775807; omega,?_⟩
   rw [show dg.ae (some (A,c))=[.flat false na 6 ga] from by rw [aV,bo]; rfl,show dg.val (some (A,c))=.bool GA from by rw [n8]; rfl,show dg.new (some (A,c))=none from rfl]
   conv=>whnf
   refine ⟨aA.aM (fun h=>h) (fun r hr=>by rw [bo]; rfl),?_⟩
   conv=>whnf
   refine ⟨_,rfl,?_⟩
   conv=>whnf
   cases GA with
   | true =>
    conv=>whnf
    conv=>whnf
    refine ⟨(),rfl,trivial,?_⟩
    conv=>whnf
    exact fin _
   | false =>
    have hA:=n8.symm
    conv=>whnf
    refine ⟨⟨by decide,by decide⟩,?_⟩
    conv=>whnf
    obtain ⟨GB,n9⟩:∃ G,G=jm []:=⟨_,rfl⟩
    refine ⟨none,[],by rw [show dg.args (none)=[.slice none 0 0] from rfl]; rfl,by show List.length ([]:List PV)≤9223372036854775807; omega,?_⟩
    rw [show dg.ae (none)=[] from rfl,show dg.val (none)=.bool GB from by rw [n9]; rfl,show dg.new (none)=none from rfl]
    conv=>whnf
    skip
    conv=>whnf
    refine ⟨_,rfl,?_⟩
    conv=>whnf
    cases GB with
    | true =>
     conv=>whnf
     conv=>whnf
     refine ⟨(),rfl,trivial,?_⟩
     conv=>whnf
     exact fin _
    | false =>
     have hB:=n9.symm
     conv=>whnf
     obtain ⟨⟨x,e⟩,hx⟩:∃ x,x=ck true A []:=⟨_,rfl⟩
     obtain ⟨⟨y,f⟩,hy⟩:∃ x,x=ck false A []:=⟨_,rfl⟩
     obtain ⟨⟨s,g⟩,hs⟩:∃ x,x=dm A []:=⟨_,rfl⟩
     refine ⟨(some (A,c),none),[0],by rw [show aG.args (ba true) (some (A,c),none)=[.slice (some ⟨0,0,none⟩) na c,.slice none 0 0] from by rw [aV]; rfl]; rfl,⟨cN hA,cN hB⟩,?_⟩
     rw [show aG.ae (ba true) (some (A,c),none)=[.flat false na 6 ga] from by rw [aV,bo]; rfl,show aG.val (ba true) (some (A,c),none)=.tuple ⟨[.bool x,.int .i64 e]⟩ from by show Value.tuple ⟨[.bool (ck true A []).1,.int .i64 (ck true A []).2]⟩=_; rw [← hx],show aG.new (ba true) (some (A,c),none)=none from rfl]
     conv=>whnf
     refine ⟨aA.aM (fun h=>h) (fun r hr=>by rw [bo]; rfl),?_⟩
     conv=>whnf
     refine ⟨_,rfl,?_⟩
     conv=>whnf
     refine ⟨(some (A,c),none),[0],by rw [show aG.args (ba true) (some (A,c),none)=[.slice (some ⟨0,0,none⟩) na c,.slice none 0 0] from by rw [aV]; rfl]; rfl,⟨cN hA,cN hB⟩,?_⟩
     rw [show aG.ae (ba true) (some (A,c),none)=[.flat false na 6 ga] from by rw [aV,bo]; rfl,show aG.val (ba true) (some (A,c),none)=.tuple ⟨[.bool x,.int .i64 e]⟩ from by show Value.tuple ⟨[.bool (ck true A []).1,.int .i64 (ck true A []).2]⟩=_; rw [← hx],show aG.new (ba true) (some (A,c),none)=none from rfl]
     conv=>whnf
     refine ⟨aA.aM (fun h=>h) (fun r hr=>by rw [bo]; rfl),?_⟩
     conv=>whnf
     refine ⟨_,rfl,?_⟩
     conv=>whnf
     refine ⟨(some (A,c),none),[0],by rw [show aG.args (ba false) (some (A,c),none)=[.slice (some ⟨0,0,none⟩) na c,.slice none 0 0] from by rw [aV]; rfl]; rfl,⟨cN hA,cN hB⟩,?_⟩
     rw [show aG.ae (ba false) (some (A,c),none)=[.flat false na 6 ga] from by rw [aV,bo]; rfl,show aG.val (ba false) (some (A,c),none)=.tuple ⟨[.bool y,.int .i64 f]⟩ from by show Value.tuple ⟨[.bool (ck false A []).1,.int .i64 (ck false A []).2]⟩=_; rw [← hy],show aG.new (ba false) (some (A,c),none)=none from rfl]
     conv=>whnf
     refine ⟨aA.aM (fun h=>h) (fun r hr=>by rw [bo]; rfl),?_⟩
     conv=>whnf
     refine ⟨_,rfl,?_⟩
     conv=>whnf
     refine ⟨(some (A,c),none),[0],by rw [show aG.args (ba false) (some (A,c),none)=[.slice (some ⟨0,0,none⟩) na c,.slice none 0 0] from by rw [aV]; rfl]; rfl,⟨cN hA,cN hB⟩,?_⟩
     rw [show aG.ae (ba false) (some (A,c),none)=[.flat false na 6 ga] from by rw [aV,bo]; rfl,show aG.val (ba false) (some (A,c),none)=.tuple ⟨[.bool y,.int .i64 f]⟩ from by show Value.tuple ⟨[.bool (ck false A []).1,.int .i64 (ck false A []).2]⟩=_; rw [← hy],show aG.new (ba false) (some (A,c),none)=none from rfl]
     conv=>whnf
     refine ⟨aA.aM (fun h=>h) (fun r hr=>by rw [bo]; rfl),?_⟩
     conv=>whnf
     refine ⟨_,rfl,?_⟩
     conv=>whnf
     refine ⟨(some (A,c),none),[0],by rw [show aG.args bP (some (A,c),none)=[.slice (some ⟨0,0,none⟩) na c,.slice none 0 0] from by rw [aV]; rfl]; rfl,⟨cN hA,cN hB⟩,?_⟩
     rw [show aG.ae bP (some (A,c),none)=[.flat false na 6 ga] from by rw [aV,bo]; rfl,show aG.val bP (some (A,c),none)=.tuple ⟨[s.v,.int .i64 g]⟩ from by show Value.tuple ⟨[(dm A []).1.v,.int .i64 (dm A []).2]⟩=_; rw [← hs],show aG.new bP (some (A,c),none)=none from rfl]
     conv=>whnf
     refine ⟨aA.aM (fun h=>h) (fun r hr=>by rw [bo]; rfl),?_⟩
     conv=>whnf
     refine ⟨_,rfl,?_⟩
     conv=>whnf
     refine ⟨(some (A,c),none),[0],by rw [show aG.args bP (some (A,c),none)=[.slice (some ⟨0,0,none⟩) na c,.slice none 0 0] from by rw [aV]; rfl]; rfl,⟨cN hA,cN hB⟩,?_⟩
     rw [show aG.ae bP (some (A,c),none)=[.flat false na 6 ga] from by rw [aV,bo]; rfl,show aG.val bP (some (A,c),none)=.tuple ⟨[s.v,.int .i64 g]⟩ from by show Value.tuple ⟨[(dm A []).1.v,.int .i64 (dm A []).2]⟩=_; rw [← hs],show aG.new bP (some (A,c),none)=none from rfl]
     conv=>whnf
     refine ⟨aA.aM (fun h=>h) (fun r hr=>by rw [bo]; rfl),?_⟩
     conv=>whnf
     refine ⟨_,rfl,?_⟩
     conv=>whnf
     rw [show (x == x)=true from by simp]
     conv=>whnf
     rw [show (e == e)=true from by simp]
     conv=>whnf
     rw [show (y == y)=true from by simp]
     conv=>whnf
     rw [show (f == f)=true from by simp]
     conv=>whnf
     rw [zI s]
     conv=>whnf
     rw [show (g == g)=true from by simp]
     conv=>whnf
     refine ⟨(),rfl,trivial,?_⟩
     conv=>whnf
     exact fin _
  | some k =>
   obtain ⟨B,d⟩:=k
   obtain ⟨na,aV⟩:∃ n,n=A.length:=⟨_,rfl⟩
   obtain ⟨ga,bo⟩:∃ g,g=bS A:=⟨_,rfl⟩
   obtain ⟨nb,aZ⟩:∃ n,n=B.length:=⟨_,rfl⟩
   obtain ⟨gb,bA⟩:∃ g,g=bS B:=⟨_,rfl⟩
   have lR:List.length (A:List PV)*80≤140737488351232:=lR
   have dk:List.length (B:List PV)*80≤140737488351232:=dk
   rw [show mc.ae (some (A,c),some (B,d))=[.flat false na 6 ga,.flat false nb 6 gb] from by rw [aV,bo,aZ,bA]; rfl,show mc.args (some (A,c),some (B,d))=[.slice (some ⟨0,0,none⟩) na c,.slice (some ⟨1,0,none⟩) nb d] from by rw [aV,aZ]; rfl]
   conv=>whnf
   refine .inr ⟨3,?_⟩
   conv=>whnf
   refine ⟨⟨by decide,by decide⟩,?_⟩
   conv=>whnf
   obtain ⟨GA,n8⟩:∃ G,G=jm A:=⟨_,rfl⟩
   refine ⟨some (A,c),[0],by rw [show dg.args (some (A,c))=[.slice (some ⟨0,0,none⟩) na c] from by rw [aV]; rfl]; rfl,by show List.length (A:List PV)≤9223372036854775807; omega,?_⟩
   rw [show dg.ae (some (A,c))=[.flat false na 6 ga] from by rw [aV,bo]; rfl,show dg.val (some (A,c))=.bool GA from by rw [n8]; rfl,show dg.new (some (A,c))=none from rfl]
   conv=>whnf
   refine ⟨aA.aM (fun h=>h) (fun r hr=>by rw [bo]; rfl),?_⟩
   conv=>whnf
   refine ⟨_,rfl,?_⟩
   conv=>whnf
   cases GA with
   | true =>
    conv=>whnf
    conv=>whnf
    refine ⟨(),rfl,trivial,?_⟩
    conv=>whnf
    exact fin _
   | false =>
    have hA:=n8.symm
    conv=>whnf
    refine ⟨⟨by decide,by decide⟩,?_⟩
    conv=>whnf
    obtain ⟨GB,n9⟩:∃ G,G=jm B:=⟨_,rfl⟩
    refine ⟨some (B,d),[1],by rw [show dg.args (some (B,d))=[.slice (some ⟨0,0,none⟩) nb d] from by rw [aZ]; rfl]; rfl,by show List.length (B:List PV)≤9223372036854775807; omega,?_⟩
    rw [show dg.ae (some (B,d))=[.flat false nb 6 gb] from by rw [aZ,bA]; rfl,show dg.val (some (B,d))=.bool GB from by rw [n9]; rfl,show dg.new (some (B,d))=none from rfl]
    conv=>whnf
    refine ⟨aA.aM (fun h=>h) (fun r hr=>by rw [bA]; rfl),?_⟩
    conv=>whnf
    refine ⟨_,rfl,?_⟩
    conv=>whnf
    cases GB with
    | true =>
     conv=>whnf
     conv=>whnf
     refine ⟨(),rfl,trivial,?_⟩
     conv=>whnf
     exact fin _
    | false =>
     have hB:=n9.symm
     conv=>whnf
     obtain ⟨⟨x,e⟩,hx⟩:∃ x,x=ck true A B:=⟨_,rfl⟩
     obtain ⟨⟨y,f⟩,hy⟩:∃ x,x=ck false A B:=⟨_,rfl⟩
     obtain ⟨⟨s,g⟩,hs⟩:∃ x,x=dm A B:=⟨_,rfl⟩
     refine ⟨(some (A,c),some (B,d)),[0,1],by rw [show aG.args (ba true) (some (A,c),some (B,d))=[.slice (some ⟨0,0,none⟩) na c,.slice (some ⟨1,0,none⟩) nb d] from by rw [aV,aZ]; rfl]; rfl,⟨cN hA,cN hB⟩,?_⟩
     rw [show aG.ae (ba true) (some (A,c),some (B,d))=[.flat false na 6 ga,.flat false nb 6 gb] from by rw [aV,bo,aZ,bA]; rfl,show aG.val (ba true) (some (A,c),some (B,d))=.tuple ⟨[.bool x,.int .i64 e]⟩ from by show Value.tuple ⟨[.bool (ck true A B).1,.int .i64 (ck true A B).2]⟩=_; rw [← hx],show aG.new (ba true) (some (A,c),some (B,d))=none from rfl]
     conv=>whnf
     refine ⟨aA.aM (fun h=>h) (fun r hr=>by rw [bo]; rfl),aA.aM (fun h=>h) (fun r hr=>by rw [bA]; rfl),?_⟩
     conv=>whnf
     refine ⟨_,rfl,?_⟩
     conv=>whnf
     refine ⟨(some (A,c),some (B,d)),[0,1],by rw [show aG.args (ba true) (some (A,c),some (B,d))=[.slice (some ⟨0,0,none⟩) na c,.slice (some ⟨1,0,none⟩) nb d] from by rw [aV,aZ]; rfl]; rfl,⟨cN hA,cN hB⟩,?_⟩
     rw [show aG.ae (ba true) (some (A,c),some (B,d))=[.flat false na 6 ga,.flat false nb 6 gb] from by rw [aV,bo,aZ,bA]; rfl,show aG.val (ba true) (some (A,c),some (B,d))=.tuple ⟨[.bool x,.int .i64 e]⟩ from by show Value.tuple ⟨[.bool (ck true A B).1,.int .i64 (ck true A B).2]⟩=_; rw [← hx],show aG.new (ba true) (some (A,c),some (B,d))=none from rfl]
     conv=>whnf
     refine ⟨aA.aM (fun h=>h) (fun r hr=>by rw [bo]; rfl),aA.aM (fun h=>h) (fun r hr=>by rw [bA]; rfl),?_⟩
     conv=>whnf
     refine ⟨_,rfl,?_⟩
     conv=>whnf
     refine ⟨(some (A,c),some (B,d)),[0,1],by rw [show aG.args (ba false) (some (A,c),some (B,d))=[.slice (some ⟨0,0,none⟩) na c,.slice (some ⟨1,0,none⟩) nb d] from by rw [aV,aZ]; rfl]; rfl,⟨cN hA,cN hB⟩,?_⟩
     rw [show aG.ae (ba false) (some (A,c),some (B,d))=[.flat false na 6 ga,.flat false nb 6 gb] from by rw [aV,bo,aZ,bA]; rfl,show aG.val (ba false) (some (A,c),some (B,d))=.tuple ⟨[.bool y,.int .i64 f]⟩ from by show Value.tuple ⟨[.bool (ck false A B).1,.int .i64 (ck false A B).2]⟩=_; rw [← hy],show aG.new (ba false) (some (A,c),some (B,d))=none from rfl]
     conv=>whnf
     refine ⟨aA.aM (fun h=>h) (fun r hr=>by rw [bo]; rfl),aA.aM (fun h=>h) (fun r hr=>by rw [bA]; rfl),?_⟩
     conv=>whnf
     refine ⟨_,rfl,?_⟩
     conv=>whnf
     refine ⟨(some (A,c),some (B,d)),[0,1],by rw [show aG.args (ba false) (some (A,c),some (B,d))=[.slice (some ⟨0,0,none⟩) na c,.slice (some ⟨1,0,none⟩) nb d] from by rw [aV,aZ]; rfl]; rfl,⟨cN hA,cN hB⟩,?_⟩
     rw [show aG.ae (ba false) (some (A,c),some (B,d))=[.flat false na 6 ga,.flat false nb 6 gb] from by rw [aV,bo,aZ,bA]; rfl,show aG.val (ba false) (some (A,c),some (B,d))=.tuple ⟨[.bool y,.int .i64 f]⟩ from by show Value.tuple ⟨[.bool (ck false A B).1,.int .i64 (ck false A B).2]⟩=_; rw [← hy],show aG.new (ba false) (some (A,c),some (B,d))=none from rfl]
     conv=>whnf
     refine ⟨aA.aM (fun h=>h) (fun r hr=>by rw [bo]; rfl),aA.aM (fun h=>h) (fun r hr=>by rw [bA]; rfl),?_⟩
     conv=>whnf
     refine ⟨_,rfl,?_⟩
     conv=>whnf
     refine ⟨(some (A,c),some (B,d)),[0,1],by rw [show aG.args bP (some (A,c),some (B,d))=[.slice (some ⟨0,0,none⟩) na c,.slice (some ⟨1,0,none⟩) nb d] from by rw [aV,aZ]; rfl]; rfl,⟨cN hA,cN hB⟩,?_⟩
     rw [show aG.ae bP (some (A,c),some (B,d))=[.flat false na 6 ga,.flat false nb 6 gb] from by rw [aV,bo,aZ,bA]; rfl,show aG.val bP (some (A,c),some (B,d))=.tuple ⟨[s.v,.int .i64 g]⟩ from by show Value.tuple ⟨[(dm A B).1.v,.int .i64 (dm A B).2]⟩=_; rw [← hs],show aG.new bP (some (A,c),some (B,d))=none from rfl]
     conv=>whnf
     refine ⟨aA.aM (fun h=>h) (fun r hr=>by rw [bo]; rfl),aA.aM (fun h=>h) (fun r hr=>by rw [bA]; rfl),?_⟩
     conv=>whnf
     refine ⟨_,rfl,?_⟩
     conv=>whnf
     refine ⟨(some (A,c),some (B,d)),[0,1],by rw [show aG.args bP (some (A,c),some (B,d))=[.slice (some ⟨0,0,none⟩) na c,.slice (some ⟨1,0,none⟩) nb d] from by rw [aV,aZ]; rfl]; rfl,⟨cN hA,cN hB⟩,?_⟩
     rw [show aG.ae bP (some (A,c),some (B,d))=[.flat false na 6 ga,.flat false nb 6 gb] from by rw [aV,bo,aZ,bA]; rfl,show aG.val bP (some (A,c),some (B,d))=.tuple ⟨[s.v,.int .i64 g]⟩ from by show Value.tuple ⟨[(dm A B).1.v,.int .i64 (dm A B).2]⟩=_; rw [← hs],show aG.new bP (some (A,c),some (B,d))=none from rfl]
     conv=>whnf
     refine ⟨aA.aM (fun h=>h) (fun r hr=>by rw [bo]; rfl),aA.aM (fun h=>h) (fun r hr=>by rw [bA]; rfl),?_⟩
     conv=>whnf
     refine ⟨_,rfl,?_⟩
     conv=>whnf
     rw [show (x == x)=true from by simp]
     conv=>whnf
     rw [show (e == e)=true from by simp]
     conv=>whnf
     rw [show (y == y)=true from by simp]
     conv=>whnf
     rw [show (f == f)=true from by simp]
     conv=>whnf
     rw [zI s]
     conv=>whnf
     rw [show (g == g)=true from by simp]
     conv=>whnf
     refine ⟨(),rfl,trivial,?_⟩
     conv=>whnf
     exact fin _
end Go.Proofs.YtlapbjdhekcipaaGreat
/- The statement ConvexPairs. -/
namespace Go.Proofs.YtlapbjdhekcipaaGreat
open Go Go.Ae Go.ChangeShapes Go.WideShapes Go.ChangeAt Go.RowKit
theorem own:ownKnob Tryz.prog.godebug=none:=by kernel_rfl
theorem laidOut:laidOutB Tryz.prog=true:=by kernel_rfl
set_option maxRecDepth 100000 in
theorem OV:Cx Tryz.prog 24 26 4 9 :=
 ⟨⟨_,_,_,Tryz.underlying24,⟨rfl,rfl⟩,⟨rfl,rfl⟩,rfl,rfl⟩,⟨_,_,Tryz.underlying26,⟨rfl,rfl⟩,rfl,rfl⟩,Tryz.underlying4,Tryz.underlying9,by kernel_rfl,by kernel_rfl,by kernel_rfl,by kernel_rfl⟩
set_option maxRecDepth 100000 in
theorem P8 (os:Os) (started:os.Started) (H:Type) (enc:TypeId × Value→H) :
  ReturnsInHanded {} Tryz.checked os 8 .any (Rows.convexPairsSpec.pre6 enc Tryz.prog Tryz.f8 Rows.convexPairsRow.domain false) (Rows.convexPairsSpec.post enc Tryz.prog Tryz.f8 false true false false):=by
 refine returnsInHanded_of_change_sized (C:=Tryz.checked) own started (by kernel_rfl) Tryz.func8
  (ChangeSpec.witness6 (enc:=enc) (C:=Tryz.checked) false ⟨#[],#[.slice none 0 0,.slice none 0 0],[]⟩ 8 (by kernel_rfl) (by kernel_rfl) (by kernel_rfl) (by kernel_rfl)) ?_
 intro W base args ds gs before N6 hW adi oK _
 have yY:∀ (j:Nat) t v,Tryz.f8.params[j]?=some t→args[j]?=some v→Value.okWide Tryz.prog W .any base t v:=N6
 have hW':=hW
 obtain ⟨p,q,xm,hV,rfl,Ik,my⟩:=hW
 have hA:DataW.TrodAll enc Tryz.prog W 0 (fun _=>true) true Tryz.f8.params.toList args.toList ds p:=xm
 have hz:(DataW.weightsEach Tryz.prog (Tryz.f8.params.toList++Rows.convexPairsSpec.plain.varTypes Tryz.prog) (ds++gs)).all (·≤reachBytes)=true:=oK
 rw [Tryz.params8] at hA yY hz
 obtain ⟨v0,vs0,d0,ds0,p0,q0,ny,rfl,rfl,h0,r0⟩:=trodAll_cons hA
 obtain ⟨v1,vs1,d1,ds1,p1,q1,rfl,rfl,rfl,h1,r1⟩:=trodAll_cons r0
 obtain ⟨rfl,rfl,rfl⟩:=trodAll_nil r1
 obtain rfl:args=#[v0,v1]:=by cases args; simp_all
 obtain ⟨rfl,rfl⟩:=trodVars_none hV
 obtain ⟨a0,bw,i0,z0,hv0,Is,acY⟩:=JI OV Tryz.underlying22 (yY 0 22 v0 rfl rfl) h0
 have z0:=z0 80 reachBytes (fun elems spare e=>sized_slice (e:=26) hz (j:=0) (t:=22) rfl (by rw [e]; rfl) Tryz.underlying22)
 obtain ⟨a1,dR,i1,z1,nc,kl,ui⟩:=JI OV Tryz.underlying22 (yY 1 22 v1 rfl rfl) h1
 have z1:=z1 80 reachBytes (fun elems spare e=>sized_slice (e:=26) hz (j:=1) (t:=22) rfl (by rw [e]; rfl) Tryz.underlying22)
 have lt0:∀ x∈p0,x.block < W.heap.size:=by obtain ⟨m,hm⟩:=h0; exact DataW.trod_lt m _ _ _ hm
 have lt1:∀ x∈p1,x.block < W.heap.size:=by obtain ⟨m,hm⟩:=h1; exact DataW.trod_lt m _ _ _ hm
 clear xm N6
 obtain ⟨ν,hH,hn,hu0,uF⟩:=aa5 hv0 Is acY nc kl ui
 have aar:bh ν (mc.args (((a0,a1):lO))) [v0,v1]:=.cons hu0 (.cons uF (.nil ν))
 refine (Qo Vs (i:=((a0,a1):lO)) (⟨z0,z1⟩) aar hH hn (b:=true) rfl).mono fun e W' ⟨he,Je⟩=>?_
 subst he
 exact ⟨_,rfl,_,_,_,[],_,[],hW',trodAll_mk1 (shut_bool Tryz.underlying4 _),(trodAll_cons_mk (Below.trod laidOut (by kernel_rfl) (of_decide_eq_true (by kernel_rfl)) h0 Je lt0) (trodAll_cons_mk (Below.trod laidOut (by kernel_rfl) (of_decide_eq_true (by kernel_rfl)) h1 Je lt1) trodAll_mk0)),rfl,Je.frame _,fun h=>by cases h⟩
theorem P9:Rows.convexPairsRow.holds Tryz.pinned (OpenSpec.ofChange Rows.convexPairsSpec) :=
 OpenClaim.holds_of_wide 8 Tryz.f8 rfl rfl rfl rfl rfl rfl rfl ⟨rfl,rfl,rfl,rfl,rfl⟩ rfl rfl rfl rfl rfl (by kernel_rfl) Tryz.func8 (by kernel_rfl)
  (of_decide_eq_true (by kernel_rfl)) (by unfold Func.isWrapper; first | (rw [if_pos (by decide +kernel)]; kernel_rfl) | (rw [if_neg (by decide +kernel)]; exact ⟨rfl,rfl⟩))
  (fun os started H enc _=>P8 os started H enc)
theorem convexPairs_proved:Rows.ConvexPairsSaid:=P9
end Go.Proofs.YtlapbjdhekcipaaGreat
