import Derived.Test.YtlapbjdhekcipaaGreatHJ
set_option linter.unusedVariables false
set_option linter.unusedSimpArgs false
set_option maxRecDepth 20000
set_option maxHeartbeats 4000000
namespace Go.Proofs.YtlapbjdhekcipaaGreat
open Go Go.Ae
theorem aaB:bg Tryz.prog 101 (rk true):=by
 refine bk qW aN Tryz.func101 (enters_of Tryz.func101 (by kernel_rfl) rfl) (fun _=>rfl) (fun _=>rfl) ?_
 intro (z:Int) hp;conv=>whnf
 rfl
theorem aaC:bg Tryz.prog 103 (rk false):=by
 refine bk qW aN Tryz.func103 (enters_of Tryz.func103 (by kernel_rfl) rfl) (fun _=>rfl) (fun _=>rfl) ?_
 intro (z:Int) hp;conv=>whnf
 rfl
theorem aaD:bg Tryz.prog 105 (rk true):=by
 refine bk qW aN Tryz.func105 (enters_of Tryz.func105 (by kernel_rfl) rfl) (fun _=>rfl) (fun _=>rfl) ?_
 intro (z:Int) hp;conv=>whnf
 rfl
def Ko:Env:=En [(32,.p jL),(101,.p (rk true)),(103,.p (rk false)),(105,.p (rk true))]
theorem aei:EnvOk Tryz.prog Ko:=bF ⟨Cg,aaB,aaC,aaD,trivial⟩ trivial
theorem U3:gj Tryz.prog 168 (b9 Ko cF Tryz.f168):=by
 exact js aei aN Tryz.func168 (enters_of Tryz.func168 (by kernel_rfl) rfl)
def Kp:Env:=En [] [(168,b9 Ko cF Tryz.f168)]
theorem aej:EnvOk Tryz.prog Kp:=bF trivial ⟨U3,trivial⟩
theorem V9:gj Tryz.prog 106 (b9 Kp cF Tryz.f106):=by
 exact js aej aN Tryz.func106 (enters_of Tryz.func106 (by kernel_rfl) rfl)
def Kq:Env:=En [] [(106,b9 Kp cF Tryz.f106)]
theorem aek:EnvOk Tryz.prog Kq:=bF trivial ⟨V9,trivial⟩
theorem Ta:gj Tryz.prog 49 (b9 Kq cF Tryz.f49):=by
 exact js aek aN Tryz.func49 (enters_of Tryz.func49 (by kernel_rfl) rfl)
def Sp:Env:=En [] [(49,b9 Kq cF Tryz.f49),(64,b9 lh cF Tryz.f64)] [(118,uN)]
theorem ael:EnvOk Tryz.prog Sp:=bF trivial ⟨Ta,xl,trivial⟩
theorem acV:gV Tryz.prog Sp:=wa ⟨wX,trivial⟩
abbrev j6:cl:=yp 101 103 105 iA
abbrev nO:cl:=yp 101 103 105 kt
theorem Wa:di Tryz.prog 144 j6:=by
 refine dQ ael aN Tryz.func144 (enters_of Tryz.func144 (by kernel_rfl) rfl) ?_ ?_ ?_ (hI:=acV)
 ·intro i b hb; simp [j6,yp] at hb; rcases hb with rfl | rfl <;> rfl
 ·intro i b hb; simp [j6,yp] at hb
 intro ⟨⟨⟨A,c⟩,⟨B,d⟩⟩,f,s⟩ hp;have hp:((f,s)=(101,true)∨(f,s)=(103,false)∨(f,s)=(105,true))∧(A.length≤1073741824∧∀ v∈A,Q2.sz 2048 v)∧B.length≤1073741824∧∀ v∈B,Q2.sz 2048 v:=hp;obtain ⟨v5,⟨hla,Bi⟩,hlb,EY⟩:=hp;obtain ⟨n,hn⟩:∃ n,n=A.length:=⟨_,rfl⟩;obtain ⟨g,hg⟩:∃ g,g=bG A:=⟨_,rfl⟩;obtain ⟨m,hm⟩:∃ n,n=B.length:=⟨_,rfl⟩;obtain ⟨g2,tS⟩:∃ g,g=bG B:=⟨_,rfl⟩;obtain ⟨K,hK⟩:∃ K,K=gz j6 (((A,c),(B,d)),(f,s)):=⟨_,rfl⟩;have fin:∀ (x:XV) (z:Bool) (H:ay),gN (iA s A B)=(x,z)→K (.tuple ⟨[x.v,.bool z]⟩) H:=fun x z H h=>by
  rw [hK];unfold gz;rw [show j6.new (((A,c),(B,d)),(f,s))=none from rfl,show j6.val (((A,c),(B,d)),(f,s))=.tuple ⟨[x.v,.bool z]⟩ from by show Value.tuple ⟨[(gN (iA s A B)).1.v,.bool (gN (iA s A B)).2]⟩=_; rw [h]]
  exact ⟨_,rfl,.refl _⟩
 rw [show j6.ah (((A,c),(B,d)),(f,s))=[.flat false n 6 g,.flat false m 6 g2] from by rw [hn,hg,hm,tS]; rfl,show j6.args (((A,c),(B,d)),(f,s))=[.slice (some ⟨0,0,none⟩) n c,.slice (some ⟨1,0,none⟩) m d,.func (.func f) #[] #[]] from by rw [hn,hm]; rfl,← hK]
 rw [← hn] at hla;rw [← hm] at hlb;conv=>whnf
 intro yl nu fn tm df;conv=>whnf
 refine .inl ⟨fun mm tz hz=>∃ (j:Nat),bw (some (.func (.yield yl) #[] #[])::some (.pointer (some ⟨6,0,none⟩))::aF 3 (some (.slice (some ⟨0,0,none⟩) n c)::some (.int .i64 n)::some (.int .i64 j)::aF 17 [])) tz∧hz=[some (.flat false n 6 g),some (.flat false m 6 g2),some (.aP true 1 [[.slice (some ⟨1,0,none⟩) m d]]),some (.aP true 1 [[.func (.func f) #[] #[]]]),some (.aP true 12 [nj.cells]),some (.aP true 1 [[.bool false]]),some (.aP true 1 [[.slice (some ⟨0,0,none⟩) n c]]),some (.b6 (re Tryz.f144 fn tm df))]∧n - j=mm∧(j≤n∧nY (nt s B) (aY A) j),.inr ⟨[0,1,2,3,4,5,6,7],[0,1,5,6,7],?_⟩,?_⟩
 ·conv=>whnf
  intro _;conv=>whnf
  refine ⟨_,0,(.aa (.aa (.sk 3 (.aa (.aa (.aa (.sk 17 .nil rfl)))) rfl))),rfl,rfl,?_⟩;exact ⟨Nat.zero_le _,Fg _ _⟩
 rintro mm aV _ ⟨j,aA,rfl,rfl,⟨hj,hU⟩⟩
 obtain ⟨az,rfl⟩:∃ az:Nat→Value,aV=.func (.yield yl) #[] #[]::.pointer (some ⟨6,0,none⟩)::zs az 2 3 (.slice (some ⟨0,0,none⟩) n c::.int .i64 n::.int .i64 j::zs az 8 17 []):=bI aA;clear aA;conv=>whnf
 refine aM (fun h3=>?_) (fun h3=>?_)
 ·have h3:j < n:=by
   have:=of_decide_eq_true h3;omega
  have e7:IntKind.i64.wrap ((j:Int)+1)=((j+1:Nat):Int):=by rw [ax (by omega) (by omega)]; rfl
  obtain ⟨a,ca,ra,pa,sa,qa⟩:=ik (L:=A) (k:=j) (by omega) Bi
  obtain ⟨b,cb,rb,pb,sb,qb⟩:=ik (L:=A) (k:=aX n j) (by rw [hn]; exact cI (by omega)) Bi
  have cK:=kR h3 (by omega)
  have ck:=cI h3;have gr:(aY A)[j]?=some (a.p,b.p):=by rw [pa,pb]; rw [hn] at ck ⊢; exact qf (ig (by omega)) (ig ck)
  rw [← pa] at ca;rw [← pb] at cb;obtain ⟨u,hu⟩:∃ u,u=aX n j:=⟨_,rfl⟩;rw [← hu] at cK ck rb;rw [← hg] at ra rb;conv=>whnf
  refine ⟨⟨by omega,by omega⟩,?_⟩
  simp only [toNat_cast,aw,Nat.zero_add];conv=>whnf
  refine ⟨by show j < n; omega,?_⟩
  conv=>whnf
  rw [ra];conv=>whnf
  refine .inl ⟨10,[[],[],[],[],[3],[],[5],[3,4,5,6],[2,3,4,5,6,7],[2,3,4,5,6,7,8],[0,1,2,3,4,5,6,7,8,9],[0,1,2,3,4,5,6,7,8,9,10]],by kernel_rfl,?_⟩
  conv=>whnf
  rw [show decide ((n:Int)≠0)=true from decide_eq_true (by omega)]
  conv=>whnf
  rw [cK];refine ⟨⟨by omega,by omega⟩,?_⟩
  simp only [toNat_cast,aw,Nat.zero_add];conv=>whnf
  refine ⟨by show u < n; omega,?_⟩
  conv=>whnf
  rw [rb];conv=>whnf
  refine ⟨rfl,?_⟩;conv=>whnf
  refine ⟨rfl,?_⟩;conv=>whnf
  refine ⟨rfl,?_⟩;conv=>whnf
  refine .inl ⟨fun mm tz hz=>∃ (i:Nat),bw (some (.slice (some ⟨1,0,none⟩) m d)::some (.func (.func 168) #[] #[.pointer (some ⟨3,0,none⟩),.pointer (some ⟨19,0,none⟩),.pointer (some ⟨20,0,none⟩)])::aF 5 (some (.int .i64 m)::some (.int .i64 i)::aF 10 [])) tz∧hz=[some (.flat false n 6 g),some (.flat false m 6 g2),some (.aP true 1 [[.slice (some ⟨1,0,none⟩) m d]]),some (.aP true 1 [[.func (.func f) #[] #[]]]),some (.aP true 12 [nj.cells]),some (.aP true 1 [[.bool false]]),some (.aP true 1 [[.slice (some ⟨0,0,none⟩) n c]]),some (.b6 { re Tryz.f144 fn tm df with state:=.busy }),some (.aP true 6 [a.cells]),none,none,none,none,none,none,none,none,none,none,some (.aP true 6 [a.cells]),some (.aP true 6 [b.cells])]∧m - i=mm∧(i≤m∧nY (tv s a.p b.p) B i),.inr ⟨[0,1,2,3,4,5,6,7,8,9,10,11,12,13,14,15,16,17,18,19,20],[0,1,7,8],?_⟩,?_⟩
  ·conv=>whnf
   intro _;conv=>whnf
   refine ⟨_,0,(.aa (.aa (.sk 5 (.aa (.aa (.sk 10 .nil rfl))) rfl))),rfl,rfl,?_⟩;exact ⟨Nat.zero_le _,Fg _ _⟩
  rintro mm aV _ ⟨i,aA,rfl,rfl,⟨hi,hV⟩⟩
  obtain ⟨az,rfl⟩:∃ az:Nat→Value,aV=.slice (some ⟨1,0,none⟩) m d::.func (.func 168) #[] #[.pointer (some ⟨3,0,none⟩),.pointer (some ⟨19,0,none⟩),.pointer (some ⟨20,0,none⟩)]::zs az 2 5 (.int .i64 m::.int .i64 i::zs az 9 10 []):=bI aA;clear aA;conv=>whnf
  refine aM (fun h4=>?_) (fun h4=>?_)
  ·have h4:i < m:=by
    have:=of_decide_eq_true h4;omega
   have e8:IntKind.i64.wrap ((i:Int)+1)=((i+1:Nat):Int):=by rw [ax (by omega) (by omega)]; rfl
   obtain ⟨x,cx,rx,px,sx,qx⟩:=ik (L:=B) (k:=i) (by omega) EY
   rw [← tS] at rx;have Kr:x.p∈B:=by rw [px]; exact eO (by omega)
   have Ks:B[i]?=some x.p:=by rw [px]; exact ig (by omega)
   conv=>whnf
   refine ⟨⟨by omega,by omega⟩,?_⟩
   simp only [toNat_cast,aw,Nat.zero_add];conv=>whnf
   refine ⟨by show i < m; omega,?_⟩
   conv=>whnf
   rw [rx];conv=>whnf
   refine .inl ⟨5,[[],[],[],[],[1,2,3],[0,1,2,3,4],[0,1,2,3,4,5],[0,1,2,3,4,5,6]],by kernel_rfl,?_⟩
   conv=>whnf
   obtain ⟨z,ez,pz⟩:=dS (aZ (ao a.p b.p x.p) 0);refine ⟨(a,b,x),rfl,⟨PV.aO sa (by decide),PV.aO sb (by decide),PV.aO sx (by decide)⟩,?_⟩
   rw [show jL.val (a,b,x)=.int .i64 z from ez]
   conv=>whnf
   obtain ⟨w,hw⟩:∃ w,w=rM s z:=⟨_,rfl⟩;have gX:tv s a.p b.p x.p=!w:=by unfold tv; rw [← pz,← hw]
   rcases v5 with h | h | h
   ·obtain ⟨rfl,rfl⟩:=Prod.mk.inj h;refine ⟨(z:Int),rfl,trivial,?_⟩;rw [show (rk true).val z=.bool w from by rw [hw]; rfl]
    conv=>whnf
    cases w with
    | true =>
     conv=>whnf
     rw [e8];refine .inr ⟨[0,1,2,3,4,5,6,7,8,9,10,11,12,13,14,15,16,17,18,19,20],[0,1,7,8],?_⟩;conv=>whnf
     intro _;conv=>whnf
     refine ⟨_,?_,i+1,(.aa (.aa (.sk 5 (.aa (.aa (.sk 10 .nil rfl))) rfl))),rfl,rfl,?_⟩
     ·omega
     ·exact ⟨by omega,uh hV Ks gX⟩
    | false =>
     conv=>whnf
     refine ⟨rfl,?_⟩;conv=>whnf
     rw [e7];refine .inr ⟨[0,1,2,3,4,5,6,7],[0,1,5,6,7],?_⟩;conv=>whnf
     intro _;conv=>whnf
     refine ⟨_,?_,j+1,(.aa (.aa (.sk 3 (.aa (.aa (.aa (.sk 17 .nil rfl)))) rfl))),rfl,rfl,?_⟩
     ·omega
     ·exact ⟨by omega,uh hU gr (Hg Kr gX)⟩
   ·obtain ⟨rfl,rfl⟩:=Prod.mk.inj h;refine ⟨(z:Int),rfl,trivial,?_⟩;rw [show (rk false).val z=.bool w from by rw [hw]; rfl]
    conv=>whnf
    cases w with
    | true =>
     conv=>whnf
     rw [e8];refine .inr ⟨[0,1,2,3,4,5,6,7,8,9,10,11,12,13,14,15,16,17,18,19,20],[0,1,7,8],?_⟩;conv=>whnf
     intro _;conv=>whnf
     refine ⟨_,?_,i+1,(.aa (.aa (.sk 5 (.aa (.aa (.sk 10 .nil rfl))) rfl))),rfl,rfl,?_⟩
     ·omega
     ·exact ⟨by omega,uh hV Ks gX⟩
    | false =>
     conv=>whnf
     refine ⟨rfl,?_⟩;conv=>whnf
     rw [e7];refine .inr ⟨[0,1,2,3,4,5,6,7],[0,1,5,6,7],?_⟩;conv=>whnf
     intro _;conv=>whnf
     refine ⟨_,?_,j+1,(.aa (.aa (.sk 3 (.aa (.aa (.aa (.sk 17 .nil rfl)))) rfl))),rfl,rfl,?_⟩
     ·omega
     ·exact ⟨by omega,uh hU gr (Hg Kr gX)⟩
   ·obtain ⟨rfl,rfl⟩:=Prod.mk.inj h;refine ⟨(z:Int),rfl,trivial,?_⟩;rw [show (rk true).val z=.bool w from by rw [hw]; rfl]
    conv=>whnf
    cases w with
    | true =>
     conv=>whnf
     rw [e8];refine .inr ⟨[0,1,2,3,4,5,6,7,8,9,10,11,12,13,14,15,16,17,18,19,20],[0,1,7,8],?_⟩;conv=>whnf
     intro _;conv=>whnf
     refine ⟨_,?_,i+1,(.aa (.aa (.sk 5 (.aa (.aa (.sk 10 .nil rfl))) rfl))),rfl,rfl,?_⟩
     ·omega
     ·exact ⟨by omega,uh hV Ks gX⟩
    | false =>
     conv=>whnf
     refine ⟨rfl,?_⟩;conv=>whnf
     rw [e7];refine .inr ⟨[0,1,2,3,4,5,6,7],[0,1,5,6,7],?_⟩;conv=>whnf
     intro _;conv=>whnf
     refine ⟨_,?_,j+1,(.aa (.aa (.sk 3 (.aa (.aa (.aa (.sk 17 .nil rfl)))) rfl))),rfl,rfl,?_⟩
     ·omega
     ·exact ⟨by omega,uh hU gr (Hg Kr gX)⟩
  ·have h4:i=m:=by
    have:=of_decide_eq_false h4;omega
   subst h4;conv=>whnf
   refine ⟨rfl,?_⟩;conv=>whnf
   refine fin (a,b) true _ ?_;rw [Xk hU gr (Yx (FG (by rw [← hm]; exact hV)))]
   show ((cc a.p,cc b.p),true)=((a,b),true)
   rw [← ca,← cb]
 ·have h3:j=n:=by
   have:=of_decide_eq_false h3;omega
  subst h3;conv=>whnf
  exact fin nj false _ (by rw [Xl hn hU]; rfl)
open Go Go.Ae
def Eu5:Env:=En [(144,.q j6)]
theorem aem:EnvOk Tryz.prog Eu5:=bF ⟨Wa,trivial⟩ trivial
theorem Tb:di Tryz.prog 100 nO:=by
 refine dQ aem aN Tryz.func100 (enters_of Tryz.func100 (by kernel_rfl) rfl) ?_ ?_ ?_
 ·intro i b hb; simp [nO,yp] at hb; rcases hb with rfl | rfl <;> rfl
 ·intro i b hb; simp [nO,yp] at hb
 intro ⟨⟨⟨A,c⟩,⟨B,d⟩⟩,f,s⟩ hp;have hp:((f,s)=(101,true)∨(f,s)=(103,false)∨(f,s)=(105,true))∧(A.length≤1073741824∧∀ v∈A,Q2.sz 2048 v)∧B.length≤1073741824∧∀ v∈B,Q2.sz 2048 v:=hp;obtain ⟨v5,Sq,dM⟩:=hp;obtain ⟨n,hn⟩:∃ n,n=A.length:=⟨_,rfl⟩;obtain ⟨g,hg⟩:∃ g,g=bG A:=⟨_,rfl⟩;obtain ⟨m,hm⟩:∃ n,n=B.length:=⟨_,rfl⟩;obtain ⟨k,hk⟩:∃ g,g=bG B:=⟨_,rfl⟩;have fin:∀ (x:XV) (z:Bool),gN (kt s A B)=(x,z)→∃ v',cR (List.range 2) 3 (nO.val (((A,c),(B,d)),(f,s)))=some v'∧fj (.tuple ⟨[x.v,.bool z]⟩) v':=fun x z h=>⟨_,by rw [show nO.val (((A,c),(B,d)),(f,s))=.tuple ⟨[x.v,.bool z]⟩ from by show Value.tuple ⟨[(gN (kt s A B)).1.v,.bool (gN (kt s A B)).2]⟩=_; rw [h]]; rfl,.refl _⟩
 rw [show nO.ah (((A,c),(B,d)),(f,s))=[.flat false n 6 g,.flat false m 6 k] from by rw [hn,hg,hm,hk]; rfl,show nO.args (((A,c),(B,d)),(f,s))=[.slice (some ⟨0,0,none⟩) n c,.slice (some ⟨1,0,none⟩) m d,.func (.func f) #[] #[]] from by rw [hn,hm]; rfl]
 conv=>whnf
 obtain ⟨⟨x,z⟩,hx⟩:∃ x,gN (iA s A B)=x:=⟨_,rfl⟩;refine ⟨(((A,c),(B,d)),(f,s)),[0,1],by rw [show j6.args (((A,c),(B,d)),(f,s))=[.slice (some ⟨0,0,none⟩) n c,.slice (some ⟨1,0,none⟩) m d,.func (.func f) #[] #[]] from by rw [hn,hm]; rfl]; rfl,⟨v5,Sq,dM⟩,?_⟩
 rw [show j6.ah (((A,c),(B,d)),(f,s))=[.flat false n 6 g,.flat false m 6 k] from by rw [hn,hm,hg,hk]; rfl,show j6.val (((A,c),(B,d)),(f,s))=.tuple ⟨[x.v,.bool z]⟩ from by show Value.tuple ⟨[(gN (iA s A B)).1.v,.bool (gN (iA s A B)).2]⟩=_; rw [hx],show j6.new (((A,c),(B,d)),(f,s))=none from rfl]
 conv=>whnf
 refine ⟨aH.aT (fun h=>h) (fun r hr=>by rw [hg]; rfl),aH.aT (fun h=>h) (fun r hr=>by rw [hk]; rfl),?_⟩
 conv=>whnf
 refine ⟨_,rfl,?_⟩;conv=>whnf
 cases z with
 | true =>
  conv=>whnf
  exact fin x true (Yy hx)
 | false =>
  conv=>whnf
  obtain ⟨⟨y,w⟩,hy⟩:∃ x,gN (iA s B A)=x:=⟨_,rfl⟩;refine ⟨(((B,d),(A,c)),(f,s)),[1,0],by rw [show j6.args (((B,d),(A,c)),(f,s))=[.slice (some ⟨0,0,none⟩) m d,.slice (some ⟨1,0,none⟩) n c,.func (.func f) #[] #[]] from by rw [hm,hn]; rfl]; rfl,⟨v5,dM,Sq⟩,?_⟩
  rw [show j6.ah (((B,d),(A,c)),(f,s))=[.flat false m 6 k,.flat false n 6 g] from by rw [hm,hn,hk,hg]; rfl,show j6.val (((B,d),(A,c)),(f,s))=.tuple ⟨[y.v,.bool w]⟩ from by show Value.tuple ⟨[(gN (iA s B A)).1.v,.bool (gN (iA s B A)).2]⟩=_; rw [hy],show j6.new (((B,d),(A,c)),(f,s))=none from rfl]
  conv=>whnf
  refine ⟨aH.aT (fun h=>h) (fun r hr=>by rw [hk]; rfl),aH.aT (fun h=>h) (fun r hr=>by rw [hg]; rfl),?_⟩
  conv=>whnf
  refine ⟨_,rfl,?_⟩;conv=>whnf
  exact fin y w ((Yz hx).trans hy)
def Eu6:Env:=En [(23,.q bd),(100,.q nO)]
theorem aen:EnvOk Tryz.prog Eu6:=bF ⟨xm,Tb,trivial⟩ trivial
theorem aaE:di Tryz.prog 44 mN:=by
 refine dQ aen aN Tryz.func44 (enters_of Tryz.func44 (by kernel_rfl) rfl) ?_ ?_ ?_
 ·intro ⟨i,k⟩ B hb;cases i <;> cases k <;> simp [P8,mN,PL.ah] at hb
  ·rw [hb]; rfl
  ·rw [hb]; rfl
  ·rcases hb with rfl | rfl <;> rfl
 ·intro i b hb; simp [P8,mN] at hb
 intro ⟨i,k⟩ hp;have hp:(i.list.length≤1099511627776∧∀ v∈i.list,v.sz 2048)∧k.list.length≤1099511627776∧∀ v∈k.list,v.sz 2048:=hp;obtain ⟨⟨qX,pN⟩,vr,l6⟩:=hp;cases i with
 | none =>
  cases k with
  | none =>
   conv=>whnf
   refine ⟨none,[],rfl,⟨Nat.zero_le _,fun v hv=>nomatch hv⟩,?_⟩
   rw [show bd.ah none=[] from rfl,show bd.val none=.int .i64 4 from rfl,show bd.new none=none from rfl]
   conv=>whnf
   refine ⟨_,rfl,?_⟩;conv=>whnf
   exact ⟨_,rfl,.refl _⟩
  | some k =>
   conv=>whnf
   refine ⟨none,[],rfl,⟨Nat.zero_le _,fun v hv=>nomatch hv⟩,?_⟩
   rw [show bd.ah none=[] from rfl,show bd.val none=.int .i64 4 from rfl,show bd.new none=none from rfl]
   conv=>whnf
   refine ⟨_,rfl,?_⟩;conv=>whnf
   exact ⟨_,rfl,.refl _⟩
 | some i =>
  obtain ⟨A,c⟩:=i;have qX:A.length≤1099511627776:=qX;have pN:∀ v∈A,PV.sz 2048 v:=pN;obtain ⟨na,gC⟩:∃ n,n=A.length:=⟨_,rfl⟩;obtain ⟨ga,kF⟩:∃ g,g=cW A:=⟨_,rfl⟩;have fin:∀ (k:PL) (B:List PV) (x:XV) (e:Int) (n:Nat),k.list=B→nr A B=(x,e)→∃ v',cR (List.range n) 3 (cl.val mN (some (A,c),k))=some v'∧fj (.tuple ⟨[x.v,.int .i64 e]⟩) v':=fun k B x e n hk h=>⟨.tuple ⟨[x.v,.int .i64 e]⟩,by
   subst hk;rw [show cl.val mN (some (A,c),k)=.tuple ⟨[x.v,.int .i64 e]⟩ from by show Value.tuple ⟨[(nr A k.list).1.v,.int .i64 (nr A k.list).2]⟩=_; rw [h]]; rfl,.refl _⟩
  cases k with
  | none =>
   rw [show cl.ah mN (some (A,c),none)=[.flat false na 6 ga] from by rw [gC,kF]; rfl,show cl.args mN (some (A,c),none)=[.slice (some ⟨0,0,none⟩) na c,.slice none 0 0] from by rw [gC]; rfl]
   rw [← gC] at qX;conv=>whnf
   refine ⟨some (A,c),[0],by rw [show bd.args (some (A,c))=[.slice (some ⟨0,0,none⟩) na c] from by rw [gC]; rfl]; rfl,⟨by show A.length≤_; omega,pN⟩,?_⟩
   rw [show bd.ah (some (A,c))=[.flat false na 6 ga] from by rw [gC,kF]; rfl,show bd.val (some (A,c))=.int .i64 (bo A) from rfl,show bd.new (some (A,c))=none from rfl]
   conv=>whnf
   refine ⟨aH.aT (fun h=>h) (fun r hr=>by rw [kF]; rfl),?_⟩
   conv=>whnf
   refine ⟨_,rfl,?_⟩;obtain ⟨e,he⟩:∃ z,z=bo A:=⟨_,rfl⟩;rw [← he];conv=>whnf
   by_cases h1:e=0
   ·rw [show (e != 0)=false from by simp [h1]]
    conv=>whnf
    refine ⟨none,[],rfl,⟨Nat.zero_le _,fun v hv=>nomatch hv⟩,?_⟩
    rw [show bd.ah none=[] from rfl,show bd.val none=.int .i64 4 from rfl,show bd.new none=none from rfl]
    conv=>whnf
    refine ⟨_,rfl,?_⟩;conv=>whnf
    exact fin none [] nj 1 _ rfl (Dg fun e=>by have:=e.2; cases this)
   ·rw [show (e != 0)=true from by simp [h1]]
    conv=>whnf
    exact fin none [] nj 1 _ rfl (Dg fun e=>by have:=e.2; cases this)
  | some k =>
   obtain ⟨B,d⟩:=k;have vr:B.length≤1099511627776:=vr;have l6:∀ v∈B,PV.sz 2048 v:=l6;obtain ⟨nb,gB⟩:∃ n,n=B.length:=⟨_,rfl⟩;obtain ⟨gb,nN⟩:∃ g,g=cW B:=⟨_,rfl⟩;rw [show cl.ah mN (some (A,c),some (B,d))=[.flat false na 6 ga,.flat false nb 6 gb] from by rw [gC,kF,gB,nN]; rfl,show cl.args mN (some (A,c),some (B,d))=[.slice (some ⟨0,0,none⟩) na c,.slice (some ⟨1,0,none⟩) nb d] from by rw [gC,gB]; rfl]
   rw [← gC] at qX;rw [← gB] at vr;have fin:=fun (x:XV) (e:Int)=>fin (some (B,d)) B x e 2 rfl
   conv=>whnf
   refine ⟨some (A,c),[0],by rw [show bd.args (some (A,c))=[.slice (some ⟨0,0,none⟩) na c] from by rw [gC]; rfl]; rfl,⟨by show A.length≤_; omega,pN⟩,?_⟩
   rw [show bd.ah (some (A,c))=[.flat false na 6 ga] from by rw [gC,kF]; rfl,show bd.val (some (A,c))=.int .i64 (bo A) from rfl,show bd.new (some (A,c))=none from rfl]
   conv=>whnf
   refine ⟨aH.aT (fun h=>h) (fun r hr=>by rw [kF]; rfl),?_⟩
   conv=>whnf
   refine ⟨_,rfl,?_⟩;obtain ⟨e,he⟩:∃ z,z=bo A:=⟨_,rfl⟩;rw [← he];conv=>whnf
   by_cases h1:e=0
   ·rw [show (e != 0)=false from by simp [h1]]
    conv=>whnf
    refine ⟨some (B,d),[1],by rw [show bd.args (some (B,d))=[.slice (some ⟨0,0,none⟩) nb d] from by rw [gB]; rfl]; rfl,⟨by show B.length≤_; omega,l6⟩,?_⟩
    rw [show bd.ah (some (B,d))=[.flat false nb 6 gb] from by rw [gB,nN]; rfl,show bd.val (some (B,d))=.int .i64 (bo B) from rfl,show bd.new (some (B,d))=none from rfl]
    conv=>whnf
    refine ⟨aH.aT (fun h=>h) (fun r hr=>by rw [nN]; rfl),?_⟩
    conv=>whnf
    refine ⟨_,rfl,?_⟩;obtain ⟨e2,cg⟩:∃ z,z=bo B:=⟨_,rfl⟩;rw [← cg];conv=>whnf
    by_cases J:e2=0
    ·rw [show (e2 != 0)=false from by simp [J]]
     have hk:bo A=0∧bo B=0:=⟨by rw [← he]; exact h1,by rw [← cg]; exact J⟩
     have hzA:=nQ hk.1;have hzB:=nQ hk.2;conv=>whnf
     obtain ⟨⟨x,z⟩,hx⟩:∃ x,gN (kt true (aR A) (aR B))=x:=⟨_,rfl⟩;refine ⟨(((aR A,c),(aR B,d)),(105,true)),[0,1],by rw [show nO.args (((aR A,c),(aR B,d)),(105,true))=[.slice (some ⟨0,0,none⟩) na c,.slice (some ⟨1,0,none⟩) nb d,.func (.func 105) #[] #[]] from by rw [gC,gB,← c0 A,← c0 B]; rfl]; rfl,⟨by simp,⟨by show (aR A).length≤_; rw [c0]; omega,sK pN (by decide)⟩,by show (aR B).length≤_; rw [c0]; omega,sK l6 (by decide)⟩,?_⟩
     rw [show nO.ah (((aR A,c),(aR B,d)),(105,true))=[.flat false na 6 ga,.flat false nb 6 gb] from by rw [gC,gB,kF,nN,← c0 A,← c0 B,← Cu hk.1,← Cu hk.2]; rfl,show nO.val (((aR A,c),(aR B,d)),(105,true))=.tuple ⟨[x.v,.bool z]⟩ from by show Value.tuple ⟨[(gN (kt true (aR A) (aR B))).1.v,.bool (gN (kt true (aR A) (aR B))).2]⟩=_; rw [hx],show nO.new (((aR A,c),(aR B,d)),(105,true))=none from rfl]
     conv=>whnf
     refine ⟨aH.aT (fun h=>h) (fun r hr=>by rw [kF]; rfl),aH.aT (fun h=>h) (fun r hr=>by rw [nN]; rfl),?_⟩
     conv=>whnf
     refine ⟨_,rfl,?_⟩;conv=>whnf
     have hv:=YA hk hx;cases z with
     | false =>
      conv=>whnf
      exact fin _ _ hv
     | true =>
      conv=>whnf
      exact fin _ _ hv
    ·rw [show (e2 != 0)=true from by simp [J]]
     conv=>whnf
     exact fin nj 1 (Dg fun h=>J (by rw [cg]; exact h.2))
   ·rw [show (e != 0)=true from by simp [h1]]
    conv=>whnf
    exact fin nj 1 (Dg fun h=>h1 (by rw [he]; exact h.1))
open Go Go.Ae
def Sr:Env:=En [(23,.q bd),(56,.q dF),(70,.p qC),(34,.p iJ),(38,.p gW),(71,.p qR),(33,.p mL),(35,.p jR)] [(64,b9 lh cF Tryz.f64)] [(118,uN)]
theorem aeo:EnvOk Tryz.prog Sr:=bF ⟨xm,By,Nl,GK,xF,OZ,zM,OW,trivial⟩ ⟨xl,trivial⟩
theorem acW:gV Tryz.prog Sr:=wa ⟨wX,trivial⟩
theorem aaF:di Tryz.prog 21 mC:=by
 refine dQ aeo aN Tryz.func21 (enters_of Tryz.func21 (by kernel_rfl) rfl) ?_ ?_ ?_ (hI:=acW)
 ·intro ⟨i,_⟩ b hb;cases i with
  | none=>simp [mC,PL.ah] at hb
  | some i=>simp [mC,PL.ah] at hb; rw [hb]; rfl
 ·intro i b hb; simp [mC] at hb
 intro ⟨i,⟨p,q⟩⟩ hp;have hp:(i.list.length≤1099511627776∧∀ v∈i.list,v.sz 2048)∧p.sz 2048∧q.sz 2048:=hp;obtain ⟨⟨hlen,aW⟩,sp,sq⟩:=hp;have qp:=PV.cL sp (by decide)
 have qq:=PV.cL sq (by decide)
 cases i with
 | none =>
  conv=>whnf
  refine ⟨none,[],rfl,⟨Nat.zero_le _,fun v hv=>nomatch hv⟩,?_⟩
  rw [show bd.ah none=[] from rfl,show bd.val none=.int .i64 4 from rfl,show bd.new none=none from rfl]
  conv=>whnf
  refine ⟨_,rfl,?_⟩;conv=>whnf
  exact ⟨_,rfl,.refl _⟩
 | some i =>
  obtain ⟨L,c⟩:=i;have hlen:L.length≤1099511627776:=hlen;have aW:∀ v∈L,PV.sz 2048 v:=aW;obtain ⟨n,hn⟩:∃ n,n=L.length:=⟨_,rfl⟩;obtain ⟨g,hg⟩:∃ g,g=cW L:=⟨_,rfl⟩;obtain ⟨K,hK⟩:∃ K,K=gz mC (some (L,c),(p,q)):=⟨_,rfl⟩;have fin:∀ (x y:RV) (z:Bool) (e:Int) (H:ay),g7 L (p,q)=((x,y),z,e)→K (.tuple ⟨[x.v,y.v,.bool z,.int .i64 e]⟩) H:=fun x y z e H h=>by
   rw [hK];unfold gz;rw [show mC.new (some (L,c),(p,q))=none from rfl,show mC.val (some (L,c),(p,q))=.tuple ⟨[x.v,y.v,.bool z,.int .i64 e]⟩ from by show Value.tuple ⟨[(g7 L (p,q)).1.1.v,(g7 L (p,q)).1.2.v,.bool (g7 L (p,q)).2.1,.int .i64 (g7 L (p,q)).2.2]⟩=_; rw [h]]
   exact ⟨_,rfl,.refl _⟩
  rw [show mC.ah (some (L,c),(p,q))=[.flat false n 6 g] from by rw [hn,hg]; rfl,show mC.args (some (L,c),(p,q))=[.slice (some ⟨0,0,none⟩) n c,XV.v (p,q)] from by rw [hn]; rfl,← hK]
  rw [← hn] at hlen;conv=>whnf
  refine ⟨some (L,c),[0],by rw [show bd.args (some (L,c))=[.slice (some ⟨0,0,none⟩) n c] from by rw [hn]; rfl]; rfl,⟨by show L.length≤_; omega,aW⟩,?_⟩
  rw [show bd.ah (some (L,c))=[.flat false n 6 g] from by rw [hn,hg]; rfl,show bd.val (some (L,c))=.int .i64 (bo L) from rfl,show bd.new (some (L,c))=none from rfl]
  conv=>whnf
  refine ⟨aH.aT (fun h=>h) (fun r hr=>by rw [hg]; rfl),?_⟩
  conv=>whnf
  refine ⟨_,rfl,?_⟩;obtain ⟨e,he⟩:∃ z,z=bo L:=⟨_,rfl⟩;rw [← he];conv=>whnf
  by_cases h1:e=0
  ·rw [show (e != 0)=false from by simp [h1]]
   conv=>whnf
   refine ⟨some ([p,q],2),[6],rfl,⟨by show 2≤1099511627776; decide,(fun v hv=>by rcases List.mem_cons.1 hv with rfl | hv; exact sp; rw [List.mem_singleton.1 hv]; exact sq)⟩,?_⟩
   rw [show dF.ah (some ([p,q],2))=[.flat false 2 6 (cW [p,q])] from rfl,show dF.val (some ([p,q],2))=.bool (!dB [p,q]) from rfl,show dF.new (some ([p,q],2))=none from rfl]
   conv=>whnf
   refine ⟨Hb [p,q],?_⟩;conv=>whnf
   refine ⟨_,rfl,?_⟩;obtain ⟨r,hr⟩:∃ z,z=dB [p,q]:=⟨_,rfl⟩;rw [← hr];conv=>whnf
   cases r with
   | true =>
    conv=>whnf
    exact fin c4 c4 false 1 _ (Pz fun h=>QY hr h.2.1 h.2.2)
   | false =>
    conv=>whnf
    have hk:bo L=0∧p.canon∧q.canon:=⟨by rw [← he]; exact h1,P9 hr⟩
    have hz:=nQ hk.1;obtain ⟨o,eo,po,so,qo⟩:=fH (q:=(0:Rat)) (RT (Nat.le_refl 1));refine ⟨(0:Int),rfl,⟨by decide,by decide⟩,?_⟩
    rw [show mL.val (0:Int)=o.v from eo]
    conv=>whnf
    obtain ⟨l,el,pl,sl,ql⟩:=fH (q:=(1:Rat)) (Go.Ae.qb1 (Nat.le_refl 1));refine ⟨(1:Int),rfl,⟨by decide,by decide⟩,?_⟩
    rw [show mL.val (1:Int)=l.v from el]
    conv=>whnf
    intro yl nu fn tm df;conv=>whnf
    refine .inl ⟨fun mm tz hz=>∃ (j:Nat) (lo:RV) (hi:RV),bw (some (.func (.yield yl) #[] #[])::some (.pointer (some ⟨9,0,none⟩))::aF 3 (some (.slice (some ⟨0,0,none⟩) n c)::some (.int .i64 n)::some (.int .i64 j)::aF 17 [])) tz∧hz=[some (.flat false n 6 g),some (.aP true 12 [XV.cells (p,q)]),some (.aP true 3 [c4.c1]),some (.aP true 3 [c4.c1]),some (.aP true 1 [[.bool false]]),some (.aP true 1 [[.int .i64 0]]),some (.aP true 6 [p.cells,q.cells]),some (.aP true 3 [lo.c1]),some (.aP true 3 [hi.c1]),some (.aP true 1 [[.slice (some ⟨0,0,none⟩) n c]]),some (.b6 (re Tryz.f21 fn tm df))]∧n - j=mm∧((j≤n∧vm (aR L) p.p q.p j=some (lo.q,hi.q))∧(lo=RV.of lo.q∧hi=RV.of hi.q)∧(lo.sz 65536∧hi.sz 65536)∧QB lo.q 65536∧QB hi.q 65536),.inr ⟨[0,1,2,3,4,5,6,7,8,9,10],[0,1,5,6,7],?_⟩,?_⟩
    ·conv=>whnf
     intro _;conv=>whnf
     refine ⟨_,0,o,l,(.aa (.aa (.sk 3 (.aa (.aa (.aa (.sk 17 .nil rfl)))) rfl))),rfl,rfl,?_⟩;exact ⟨⟨Nat.zero_le _,by rw [po,pl]; rfl⟩,⟨by rw [po]; exact (RV.ko eo).symm,by rw [pl]; exact (RV.ko el).symm⟩,⟨RV.aO so (by decide),RV.aO sl (by decide)⟩,qo.mono (by decide),ql.mono (by decide)⟩
    rintro mm aV _ ⟨j,lo,hi,aA,rfl,rfl,⟨⟨hj,hU⟩,⟨tZ,ua⟩,⟨ub,wx⟩,Bj,Bk⟩⟩
    obtain ⟨az,rfl⟩:∃ az:Nat→Value,aV=.func (.yield yl) #[] #[]::.pointer (some ⟨9,0,none⟩)::zs az 2 3 (.slice (some ⟨0,0,none⟩) n c::.int .i64 n::.int .i64 j::zs az 8 17 []):=bI aA;clear aA;conv=>whnf
    refine aM (fun h3=>?_) (fun h3=>?_)
    ·have h3:j < n:=by
      have:=of_decide_eq_true h3;omega
     have e7:IntKind.i64.wrap ((j:Int)+1)=((j+1:Nat):Int):=by rw [ax (by omega) (by omega)]; rfl
     obtain ⟨a,b,ra,rb,⟨ma,mb⟩,gr,ck,_,_⟩:=si hn h3;have sa:=aW a ma;have sb:=aW b mb;have qa:=PV.cL sa (by decide)
     have qb:=PV.cL sb (by decide)
     have cK:=kR h3 (by omega)
     obtain ⟨u,hu⟩:∃ u,u=aX n j:=⟨_,rfl⟩;rw [← hu] at cK ck rb;rw [← hg] at ra rb;conv=>whnf
     refine ⟨⟨by omega,by omega⟩,?_⟩
     simp only [toNat_cast,aw,Nat.zero_add];conv=>whnf
     refine ⟨by show j < n; omega,?_⟩
     conv=>whnf
     rw [ra];conv=>whnf
     refine .inl ⟨10,[[],[],[],[],[3],[],[5],[3,4,5,6],[2,3,4,5,6,7],[2,3,4,5,6,7,8],[0,1,2,3,4,5,6,7,8,9],[0,1,2,3,4,5,6,7,8,9,10]],by kernel_rfl,?_⟩
     conv=>whnf
     rw [show decide ((n:Int)≠0)=true from decide_eq_true (by omega)]
     conv=>whnf
     rw [cK];refine ⟨⟨by omega,by omega⟩,?_⟩
     simp only [toNat_cast,aw,Nat.zero_add];conv=>whnf
     refine ⟨by show u < n; omega,?_⟩
     conv=>whnf
     rw [rb];conv=>whnf
     refine ⟨rfl,?_⟩;conv=>whnf
     refine ⟨rfl,?_⟩;conv=>whnf
     refine ⟨rfl,?_⟩;conv=>whnf
     refine .inl ⟨12,[[],[],[],[2],[0,1,2,3],[],[],[],[7],[0,1,2,3,4,5,6,7,8],[],[],[0,1,2,3,4,5,6,7,8,9,10,11],[0,1,2,3,4,5,6,7,8,9,10,11,12]],by kernel_rfl,?_⟩
     conv=>whnf
     obtain ⟨x,ex,px,sx,qx⟩:=fH (yc qa qb qp);refine ⟨(a,b,p),rfl,⟨PV.aO sa (by decide),PV.aO sb (by decide),PV.aO sp (by decide)⟩,?_⟩
     rw [show qC.val (a,b,p)=x.v from ex]
     conv=>whnf
     obtain ⟨y,ey,py,sy,qy⟩:=fH (yc qa qb qq);refine ⟨(a,b,q),rfl,⟨PV.aO sa (by decide),PV.aO sb (by decide),PV.aO sq (by decide)⟩,?_⟩
     rw [show qC.val (a,b,q)=y.v from ey]
     conv=>whnf
     have ar:=UL hU gr px py;refine .inl ⟨7,[[],[0],[0,1],[],[0,1,3],[0,1,3,4],[0,1,2,3,4],[0,1,2,3,4,5,6]],by kernel_rfl,?_⟩
     conv=>whnf
     obtain ⟨zx,ezx,pzx⟩:=dS (aZ x.q 0);refine ⟨x,rfl,RV.bJ sx (by decide),?_⟩
     rw [show iJ.val x=.int .i64 zx from ezx]
     conv=>whnf
     obtain ⟨zy,ezy,pzy⟩:=dS (aZ y.q 0);refine ⟨y,rfl,RV.bJ sy (by decide),?_⟩
     rw [show iJ.val y=.int .i64 zy from ezy]
     conv=>whnf
     have cx:zx > 0↔0 < x.q:=by rw [pzx]; exact uB
     have cy:zy > 0↔0 < y.q:=by rw [pzy]; exact uB
     by_cases hx:zx > 0
     ·rw [show decide (zx > 0)=true from decide_eq_true hx]
      have hx:=cx.1 hx;by_cases hy:zy > 0
      ·rw [show decide (zy > 0)=true from decide_eq_true hy]
       have hy:=cy.1 hy;rw [if_neg (fun e=>Rat.not_lt.2 e.1 hx),if_pos ⟨hx,hy⟩] at ar
       conv=>whnf
       refine ⟨rfl,?_⟩;conv=>whnf
       rw [e7];refine .inr ⟨[0,1,2,3,4,5,6,7,8,9,10],[0,1,5,6,7],?_⟩;conv=>whnf
       intro _;conv=>whnf
       refine ⟨_,?_,j+1,lo,hi,(.aa (.aa (.sk 3 (.aa (.aa (.aa (.sk 17 .nil rfl)))) rfl))),rfl,rfl,?_⟩
       ·omega
       ·exact ⟨⟨by omega,ar⟩,⟨tZ,ua⟩,⟨ub,wx⟩,Bj,Bk⟩
      ·rw [show decide (zy > 0)=false from decide_eq_false hy]
       have hy:¬ 0 < y.q:=fun e=>hy (cy.2 e)
       rw [if_neg (fun e=>Rat.not_lt.2 e.1 hx),if_neg (fun e=>hy e.2),if_neg hy] at ar
       conv=>whnf
       refine .inr (.inr (.inl ⟨9,1,[[],[],[],[1,2],[0,1,2,3],[0,1,2,3,4],[0,1,2,3,4,5],[0,1,2,3,4,5],[],[0,1,2,3,4,5,6,8],[0,1,2,3,4,5,6,7,8,9]],[7],by kernel_rfl,?_⟩))
       conv=>whnf
       obtain ⟨d,ed,pd,sd,qd⟩:=fH (QB.sub qx qy);refine ⟨(x,y),rfl,⟨RV.bJ sx (by decide),RV.bJ sy (by decide)⟩,?_⟩
       rw [show gW.val (x,y)=d.v from ed]
       conv=>whnf
       obtain ⟨t,et,pt,st,qt⟩:=fH (QB.div qx qd (by decide))
       obtain ⟨e3,Kt,pe3⟩:=dS (if d.q=0 then 10 else 0)
       refine ⟨(x,d),rfl,⟨RV.bJ sx (by decide),RV.bJ sd (by decide)⟩,?_⟩
       rw [show qR.val (x,d)=.tuple ⟨[t.v,.int .i64 e3]⟩ from by rw [← et,← Kt]; rfl]
       conv=>whnf
       have ct:=(RV.ko et).symm;rw [← pt] at ct;rw [pd] at pt;rw [← pt] at ar;obtain ⟨z,ez,pz⟩:=dS (aZ t.q hi.q);refine ⟨(t,hi),rfl,⟨RV.bJ st (by decide),RV.bJ wx (by decide)⟩,?_⟩
       rw [show jR.val (t,hi)=.int .i64 z from ez]
       conv=>whnf
       have cz:z < 0↔t.q < hi.q:=by rw [pz]; exact GA
       by_cases h5:z < 0
       ·rw [show decide (z < 0)=true from decide_eq_true h5]
        conv=>whnf
        refine ⟨rfl,?_⟩;conv=>whnf
        rw [e7];refine .inr ⟨[0,1,2,3,4,5,6,7,8,9,10],[0,1,5,6,7],?_⟩;conv=>whnf
        intro _;conv=>whnf
        refine ⟨_,?_,j+1,lo,t,(.aa (.aa (.sk 3 (.aa (.aa (.aa (.sk 17 .nil rfl)))) rfl))),rfl,rfl,?_⟩
        ·omega
        ·exact ⟨⟨by omega,by rw [ar]; unfold lX; rw [if_pos (cz.1 h5)]⟩,⟨tZ,ct⟩,⟨ub,RV.aO st (by decide)⟩,Bj,qt.mono (by decide)⟩
       ·rw [show decide (z < 0)=false from decide_eq_false h5]
        conv=>whnf
        refine ⟨rfl,?_⟩;conv=>whnf
        rw [e7];refine .inr ⟨[0,1,2,3,4,5,6,7,8,9,10],[0,1,5,6,7],?_⟩;conv=>whnf
        intro _;conv=>whnf
        refine ⟨_,?_,j+1,lo,hi,(.aa (.aa (.sk 3 (.aa (.aa (.aa (.sk 17 .nil rfl)))) rfl))),rfl,rfl,?_⟩
        ·omega
        ·exact ⟨⟨by omega,by rw [ar]; unfold lX; rw [if_neg (fun e=>h5 (cz.2 e))]⟩,⟨tZ,ua⟩,⟨ub,wx⟩,Bj,Bk⟩
     ·rw [show decide (zx > 0)=false from decide_eq_false hx]
      have hx:¬ 0 < x.q:=fun e=>hx (cx.2 e)
      by_cases hy:zy > 0
      ·rw [show decide (zy > 0)=true from decide_eq_true hy]
       have hy:=cy.1 hy;rw [if_neg (fun e=>Rat.not_lt.2 e.2 hy),if_neg (fun e=>hx e.1),if_pos hy] at ar
       conv=>whnf
       refine .inr (.inr (.inl ⟨9,1,[[],[],[],[1,2],[0,1,2,3],[0,1,2,3,4],[0,1,2,3,4,5],[0,1,2,3,4,5],[],[0,1,2,3,4,5,6,8],[0,1,2,3,4,5,6,7,8,9]],[7],by kernel_rfl,?_⟩))
       conv=>whnf
       obtain ⟨d,ed,pd,sd,qd⟩:=fH (QB.sub qx qy);refine ⟨(x,y),rfl,⟨RV.bJ sx (by decide),RV.bJ sy (by decide)⟩,?_⟩
       rw [show gW.val (x,y)=d.v from ed]
       conv=>whnf
       obtain ⟨t,et,pt,st,qt⟩:=fH (QB.div qx qd (by decide))
       obtain ⟨e3,Kt,pe3⟩:=dS (if d.q=0 then 10 else 0)
       refine ⟨(x,d),rfl,⟨RV.bJ sx (by decide),RV.bJ sd (by decide)⟩,?_⟩
       rw [show qR.val (x,d)=.tuple ⟨[t.v,.int .i64 e3]⟩ from by rw [← et,← Kt]; rfl]
       conv=>whnf
       have ct:=(RV.ko et).symm;rw [← pt] at ct;rw [pd] at pt;rw [← pt] at ar;obtain ⟨z,ez,pz⟩:=dS (aZ t.q lo.q);refine ⟨(t,lo),rfl,⟨RV.bJ st (by decide),RV.bJ ub (by decide)⟩,?_⟩
       rw [show jR.val (t,lo)=.int .i64 z from ez]
       conv=>whnf
       have cz:z > 0↔lo.q < t.q:=by rw [pz]; exact uB
       by_cases h5:z > 0
       ·rw [show decide (z > 0)=true from decide_eq_true h5]
        conv=>whnf
        refine ⟨rfl,?_⟩;conv=>whnf
        rw [e7];refine .inr ⟨[0,1,2,3,4,5,6,7,8,9,10],[0,1,5,6,7],?_⟩;conv=>whnf
        intro _;conv=>whnf
        refine ⟨_,?_,j+1,t,hi,(.aa (.aa (.sk 3 (.aa (.aa (.aa (.sk 17 .nil rfl)))) rfl))),rfl,rfl,?_⟩
        ·omega
        ·exact ⟨⟨by omega,by rw [ar]; unfold lW; rw [if_pos (cz.1 h5)]⟩,⟨ct,ua⟩,⟨RV.aO st (by decide),wx⟩,qt.mono (by decide),Bk⟩
       ·rw [show decide (z > 0)=false from decide_eq_false h5]
        conv=>whnf
        refine ⟨rfl,?_⟩;conv=>whnf
        rw [e7];refine .inr ⟨[0,1,2,3,4,5,6,7,8,9,10],[0,1,5,6,7],?_⟩;conv=>whnf
        intro _;conv=>whnf
        refine ⟨_,?_,j+1,lo,hi,(.aa (.aa (.sk 3 (.aa (.aa (.aa (.sk 17 .nil rfl)))) rfl))),rfl,rfl,?_⟩
        ·omega
        ·exact ⟨⟨by omega,by rw [ar]; unfold lW; rw [if_neg (fun e=>h5 (cz.2 e))]⟩,⟨tZ,ua⟩,⟨ub,wx⟩,Bj,Bk⟩
      ·rw [show decide (zy > 0)=false from decide_eq_false hy]
       have hy:¬ 0 < y.q:=fun e=>hy (cy.2 e)
       rw [if_pos ⟨Rat.not_lt.1 hx,Rat.not_lt.1 hy⟩] at ar;conv=>whnf
       refine ⟨rfl,?_⟩;conv=>whnf
       exact fin c4 c4 false 0 _ (OO hk (UM ar))
    ·have h3:j=n:=by
      have:=of_decide_eq_false h3;omega
     subst h3;have hE:=VT (a:=p.p) (b:=q.p) (show j=(aR L).length by rw [c0]; exact hn)
     rw [hU] at hE;conv=>whnf
     obtain ⟨z,ez,pz⟩:=dS (aZ lo.q hi.q);refine ⟨(lo,hi),rfl,⟨RV.bJ ub (by decide),RV.bJ wx (by decide)⟩,?_⟩
     rw [show jR.val (lo,hi)=.int .i64 z from ez]
     conv=>whnf
     by_cases h5:hi.q≤lo.q
     ·rw [show decide (z ≥ 0)=true from decide_eq_true (by rw [pz]; exact lC.2 h5)]
      conv=>whnf
      exact fin c4 c4 false 0 _ (OO hk (hE.symm.trans (Xm h5)))
     ·rw [show decide (z ≥ 0)=false from decide_eq_false (by rw [pz]; exact fun e=>h5 (lC.1 e))]
      conv=>whnf
      have gk:g7 L (p,q)=((lo,hi),true,0):=YE hk (hE.symm.trans (Xn h5)) tZ ua;refine .inr (.inl ⟨(.br 0 (.br 1 (.br 2 (.br 3 (.br 4 (.br 5 .leaf .leaf) .leaf) .leaf) .leaf) (.br 2 (.br 1 (.br 3 (.br 4 (.br 5 .leaf .leaf) .leaf) .leaf) .leaf) .leaf)) (.br 1 (.br 0 (.br 2 (.br 3 (.br 4 (.br 5 .leaf .leaf) .leaf) .leaf) .leaf) .leaf) .leaf)),by kernel_rfl,?_⟩)
      repeat' ((conv=>whnf); first | exact True.intro | refine And.intro ?_ ?_)
      all_goals conv=>whnf
      all_goals exact fin lo hi true 0 _ gk
  ·rw [show (e != 0)=true from by simp [h1]]
   conv=>whnf
   exact fin c4 c4 false 1 _ (Pz fun h=>h1 (by rw [he]; exact h.1))
set_option maxHeartbeats 1000000
open Go Go.Ae
open Go Go.Ae
def Eqs:Env:=En [(128,.p jR),(157,.p nX),(156,.p lK)]
theorem aep:EnvOk Tryz.prog Eqs:=bF ⟨GL,N8,Oa,trivial⟩ trivial
theorem Wb:bg Tryz.prog 123 iJ:=by
 refine bk aep aN Tryz.func123 (enters_of Tryz.func123 (by kernel_rfl) rfl) (fun _=>rfl) (fun _=>rfl) ?_
 intro (r:RV) hp;have hp:r.ok:=hp;obtain ⟨x,hx⟩:∃ x,x=aZ r.q 0:=⟨_,rfl⟩;conv=>whnf
 refine ⟨(r,c4),rfl,⟨hp,RV.bJ (sB 0) (by decide)⟩,?_⟩
 rw [show jR.val (r,c4)=.int .i64 x from by rw [hx]; show Value.int .i64 (aZ r.q c4.q)=_; rw [G9]]
 conv=>whnf
 show Value.int .i64 x=Value.int .i64 (aZ r.q 0)
 rw [hx]
open Go Go.Ae
set_option maxHeartbeats 4000000
open Go Go.Ae
open Go Go.Ae
open Go Go.Ae
def Er0:Env:=En [(121,.p kQ),(122,.p nS),(123,.p iJ)]
theorem aeq:EnvOk Tryz.prog Er0:=bF ⟨XL,U0,Wb,trivial⟩ trivial
theorem Mo:bg Tryz.prog 77 jL:=by
 refine bk aeq aN Tryz.func77 (enters_of Tryz.func77 (by kernel_rfl) rfl) (fun _=>rfl) (fun _=>rfl) ?_
 intro ⟨a,b,c⟩ hp;have hp:a.sz 1048576∧b.sz 1048576∧c.sz 1048576:=hp;obtain ⟨sa,sb,sc⟩:=hp;have qa:=PV.cL sa (by decide)
 have qb:=PV.cL sb (by decide)
 have qc:=PV.cL sc (by decide)
 conv=>whnf
 refine .inl ⟨5,[[],[],[0,1],[],[],[0,1,2,3,4],[0,1,2,3,4,5],[0,1,2,3,4,5,6],[0,1,2,3,4,5,6,7]],by kernel_rfl,?_⟩
 conv=>whnf
 obtain ⟨u,eu,pu,su,qu⟩:=sY (pg qb qa);refine ⟨(b,a),rfl,⟨PV.aO sb (by decide),PV.aO sa (by decide)⟩,?_⟩
 rw [show kQ.val (b,a)=u.v from eu]
 conv=>whnf
 obtain ⟨v,ev,pv,sv,qv⟩:=sY (pg qc qa);refine ⟨(c,a),rfl,⟨PV.aO sc (by decide),PV.aO sa (by decide)⟩,?_⟩
 rw [show kQ.val (c,a)=v.v from ev]
 conv=>whnf
 obtain ⟨w,ew,pw,sw,qw⟩:=fH (uC qu qv);refine ⟨(u,v),rfl,⟨PV.aO su (by decide),PV.aO sv (by decide)⟩,?_⟩
 rw [show nS.val (u,v)=w.v from ew]
 conv=>whnf
 obtain ⟨n,en,pn⟩:=dS (aZ w.q 0);refine ⟨w,rfl,RV.bJ sw (by decide),?_⟩
 rw [show iJ.val w=.int .i64 n from en]
 conv=>whnf
 show Value.int .i64 n=Value.int .i64 (aZ (ao a.p b.p c.p) 0)
 rw [pn,pw,pu,pv]
 rfl
def Er1:Env:=En [(68,.p j8)]
theorem aer:EnvOk Tryz.prog Er1:=bF ⟨U1,trivial⟩ trivial
theorem U4:di Tryz.prog 61 dF:=by
 refine dQ aer aN Tryz.func61 (enters_of Tryz.func61 (by kernel_rfl) rfl) ?_ ?_ ?_
 ·intro i b hb;cases i with
  | none=>simp [dF,PL.ah] at hb
  | some i=>simp [dF,PL.ah] at hb; rw [hb]; rfl
 ·intro i b hb; simp [dF] at hb
 intro i hp;have hp:i.list.length≤1099511627776∧∀ v∈i.list,v.sz 2048:=hp;obtain ⟨hlen,aW⟩:=hp;cases i with
 | none =>
  conv=>whnf
  refine .inr ⟨1,?_⟩;conv=>whnf
  exact ⟨.bool true,rfl,.refl _⟩
 | some i =>
  obtain ⟨L,c⟩:=i;have hlen:L.length≤1099511627776:=hlen;have aW:∀ v∈L,PV.sz 2048 v:=aW;obtain ⟨n,hn⟩:∃ n,n=L.length:=⟨_,rfl⟩;obtain ⟨g,hg⟩:∃ g,g=cW L:=⟨_,rfl⟩;have fin:∀ z:Bool,z=!dB L→∃ v',cR (List.range 1) 3 (dF.val (some (L,c)))=some v'∧fj (.bool z) v':=fun z h=>⟨.bool z,by rw [h]; rfl,.refl _⟩
  rw [show dF.ah (some (L,c))=[.flat false n 6 g] from by rw [hn,hg]; rfl,show dF.args (some (L,c))=[.slice (some ⟨0,0,none⟩) n c] from by rw [hn]; rfl]
  rw [← hn] at hlen;conv=>whnf
  refine .inl ⟨fun mm tz hz=>∃ (i:Nat),bw (some (.slice (some ⟨0,0,none⟩) n c)::aF 2 (some (.int .i64 i)::aF 12 [])) tz∧hz=[some (.flat false n 6 g)]∧n - i=mm∧(i≤n∧vl L i),.inr ⟨[0],[0,3],?_⟩,?_⟩
  ·conv=>whnf
   intro _;conv=>whnf
   refine ⟨_,0,(.aa (.sk 2 (.aa (.sk 12 .nil rfl)) rfl)),rfl,rfl,?_⟩;exact ⟨Nat.zero_le _,Lq _⟩
  rintro mm aV _ ⟨i,aA,rfl,rfl,⟨hi,hU⟩⟩
  obtain ⟨az,rfl⟩:∃ az:Nat→Value,aV=.slice (some ⟨0,0,none⟩) n c::zs az 1 2 (.int .i64 i::zs az 4 12 []):=bI aA;clear aA;conv=>whnf
  refine aM (fun h3=>?_) (fun h3=>?_)
  ·have h3:i < n:=by
    have:=of_decide_eq_true h3;omega
   have e7:IntKind.i64.wrap ((i:Int)+1)=((i+1:Nat):Int):=by rw [ax (by omega) (by omega)]; rfl
   obtain ⟨m,lg,mS,a8⟩:=r9 (l:=L) (i:=i) (by omega)
   rw [← hg] at a8;conv=>whnf
   refine ⟨⟨by omega,by omega⟩,?_⟩
   simp only [toNat_cast,aw,Nat.zero_add];conv=>whnf
   refine ⟨by show i < n; omega,?_⟩
   conv=>whnf
   rw [a8];conv=>whnf
   refine ⟨m,rfl,PV.aO (aW m mS) (by decide),?_⟩
   by_cases h4:m.canon
   ·rw [show j8.val m=.int .i64 0 from congrArg (Value.int .i64) (if_pos h4)]
    conv=>whnf
    rw [e7];refine .inr ⟨[0],[0,3],?_⟩;conv=>whnf
    intro _;conv=>whnf
    refine ⟨_,?_,i+1,(.aa (.sk 2 (.aa (.sk 12 .nil rfl)) rfl)),rfl,rfl,?_⟩
    ·omega
    ·exact ⟨by omega,Me hU lg h4⟩
   ·rw [show j8.val m=.int .i64 1 from congrArg (Value.int .i64) (if_neg h4)]
    conv=>whnf
    exact fin false (by rw [show dB L=true from List.any_eq_true.2 ⟨m,mS,decide_eq_true h4⟩]; rfl)
  ·have h3:i=n:=by
    have:=of_decide_eq_false h3;omega
   subst h3;conv=>whnf
   exact fin true (by rw [M0 (by rw [← hn]; exact hU)]; rfl)
def Er2:Env:=En [(61,.q dF),(76,.p pE),(77,.p jL)]
theorem aes:EnvOk Tryz.prog Er2:=bF ⟨U4,XM,Mo,trivial⟩ trivial
theorem U5:di Tryz.prog 24 bd:=by
 refine dQ aes aN Tryz.func24 (enters_of Tryz.func24 (by kernel_rfl) rfl) ?_ ?_ ?_
 ·intro i b hb;cases i with
  | none=>simp [bd,PL.ah] at hb
  | some i=>simp [bd,PL.ah] at hb; rw [hb]; rfl
 ·intro i b hb; simp [bd] at hb
 intro i hp;have hp:i.list.length≤1099511627776∧∀ v∈i.list,v.sz 2048:=hp;obtain ⟨hlen,aW⟩:=hp;cases i with
 | none =>
  conv=>whnf
  exact ⟨.int .i64 4,rfl,.refl _⟩
 | some i =>
  obtain ⟨L,c⟩:=i;have hlen:L.length≤1099511627776:=hlen;have aW:∀ v∈L,PV.sz 2048 v:=aW;obtain ⟨n,hn⟩:∃ n,n=L.length:=⟨_,rfl⟩;obtain ⟨g,hg⟩:∃ g,g=cW L:=⟨_,rfl⟩;have fin:∀ z:Int,bo L=z→∃ v',cR (List.range 1) 3 (bd.val (some (L,c)))=some v'∧fj (.int .i64 z) v':=fun z h=>⟨.int .i64 z,by rw [← h]; rfl,.refl _⟩
  rw [show bd.ah (some (L,c))=[.flat false n 6 g] from by rw [hn,hg]; rfl,show bd.args (some (L,c))=[.slice (some ⟨0,0,none⟩) n c] from by rw [hn]; rfl]
  rw [← hn] at hlen;conv=>whnf
  by_cases h1:n < 3
  ·rw [show decide ((n:Int) < 3)=true from decide_eq_true (by omega)]
   conv=>whnf
   exact fin 4 (CO (.inl (by omega)))
  rw [show decide ((n:Int) < 3)=false from decide_eq_false (by omega)]
  conv=>whnf
  by_cases J:64 < n
  ·rw [show decide ((n:Int) > 64)=true from decide_eq_true (by omega)]
   conv=>whnf
   exact fin 4 (CO (.inr (by omega)))
  rw [show decide ((n:Int) > 64)=false from decide_eq_false (by omega)]
  conv=>whnf
  obtain ⟨z,hz⟩:∃ z,z=dB L:=⟨_,rfl⟩;refine ⟨some (L,c),[0],by rw [show dF.args (some (L,c))=[.slice (some ⟨0,0,none⟩) n c] from by rw [hn]; rfl]; rfl,⟨by show L.length≤_; omega,aW⟩,?_⟩
  rw [show dF.ah (some (L,c))=[.flat false n 6 g] from by rw [hn,hg]; rfl,show dF.val (some (L,c))=.bool (!z) from by rw [hz]; rfl,show dF.new (some (L,c))=none from rfl]
  conv=>whnf
  refine ⟨aH.aT (fun h=>h) (fun r hr=>by rw [hg]; rfl),?_⟩
  conv=>whnf
  refine ⟨_,rfl,?_⟩;conv=>whnf
  cases z with
  | true =>
   conv=>whnf
   exact fin 1 (OH (by omega) hz.symm)
  | false =>
   conv=>whnf
   have rl:dB L=false:=hz.symm;have h0:=sh (L:=L) (k:=0) (by omega)
   have so:=aW _ (o7 (L:=L) (k:=0) (by omega))
   have po:=kh (L:=L) (k:=0) (by omega)
   obtain ⟨o,ho⟩:∃ o,o=jg L 0:=⟨_,rfl⟩;rw [← ho] at h0 so po;rw [← hg] at h0;have qo:=PV.cL so (by decide)
   have Az:g (Int.toNat 0)=o.cells:=h0;refine .inl ⟨fun mm tz hz=>∃ (i:Nat),bw (some (.slice (some ⟨0,0,none⟩) n c)::aF 2 (some (.int .i64 n)::some (.int .i64 ((i+1:Nat):Int))::aF 79 [])) tz∧hz=[some (.flat false n 6 g)]∧n - i=mm∧(i+1≤n∧x9 (aR L) i),.inr ⟨[0],[0,3,4],?_⟩,?_⟩
   ·conv=>whnf
    intro _;conv=>whnf
    refine ⟨_,0,(.aa (.sk 2 (.aa (.aa (.sk 79 .nil rfl))) rfl)),rfl,rfl,?_⟩;exact ⟨by omega,Lr _⟩
   rintro mm aV _ ⟨i,aA,rfl,rfl,⟨hi,hU⟩⟩
   obtain ⟨az,rfl⟩:∃ az:Nat→Value,aV=.slice (some ⟨0,0,none⟩) n c::zs az 1 2 (.int .i64 n::.int .i64 ((i+1:Nat):Int)::zs az 5 79 []):=bI aA;clear aA;conv=>whnf
   refine aM (fun h3=>?_) (fun h3=>?_)
   ·have h3:i+1 < n:=by
     have:=of_decide_eq_true h3;omega
    have e7:IntKind.i64.wrap (((i+1:Nat):Int)+1)=((i+1+1:Nat):Int):=by rw [ax (by omega) (by omega)]; rfl
    have ra:=sh (L:=L) (k:=i+1) (by omega)
    have sa:=aW _ (o7 (L:=L) (k:=i+1) (by omega))
    have pa:=kh (L:=L) (k:=i+1) (by omega)
    obtain ⟨a,ha⟩:∃ o,o=jg L (i+1):=⟨_,rfl⟩;rw [← ha] at ra sa pa;rw [← hg] at ra;have qa:=PV.cL sa (by decide)
    obtain ⟨k,hk⟩:∃ k,k=i+1:=⟨_,rfl⟩;rw [← hk] at ra e7 h3 ⊢;conv=>whnf
    refine .inl ⟨7,[[],[0],[0,1],[],[],[3,4],[3,4,5],[0,1,2,3,4,5,6],[0,1,2,3,4,5,6,7]],by kernel_rfl,?_⟩
    conv=>whnf
    refine ⟨⟨by omega,by omega⟩,?_⟩
    simp only [toNat_cast,aw,Nat.zero_add];conv=>whnf
    refine ⟨by show 0 < n; omega,?_⟩
    conv=>whnf
    rw [Az];conv=>whnf
    refine ⟨⟨by omega,by omega⟩,?_⟩
    simp only [toNat_cast,aw,Nat.zero_add];conv=>whnf
    refine ⟨by show k < n; omega,?_⟩
    conv=>whnf
    rw [ra];conv=>whnf
    obtain ⟨z,ez,pz⟩:=dS (fI o.p a.p);refine ⟨(o,a),rfl,⟨PV.aO so (by decide),PV.aO sa (by decide)⟩,?_⟩
    rw [show pE.val (o,a)=.int .i64 z from ez]
    conv=>whnf
    rw [pa,po] at pz;by_cases h4:gq (aq (aR L) 0) (aq (aR L) (i+1))
    ·have:=zo.2 h4;rw [show decide (z ≥ 0)=false from decide_eq_false (by omega)]
     conv=>whnf
     rw [e7,hk];refine .inr ⟨[0],[0,3,4],?_⟩;conv=>whnf
     intro _;conv=>whnf
     refine ⟨_,?_,i+1,(.aa (.sk 2 (.aa (.aa (.sk 79 .nil rfl))) rfl)),rfl,rfl,?_⟩
     ·omega
     ·exact ⟨by omega,Mf hU h4⟩
    ·have:¬ fI (aq (aR L) 0) (aq (aR L) (i+1)) < 0:=fun e=>h4 (zo.1 e)
     rw [show decide (z ≥ 0)=true from decide_eq_true (by omega)]
     conv=>whnf
     exact fin 8 (OI (by omega) rl fun e=>h4 (e (i+1) (by omega) (by rw [c0]; omega)))
   ·have h3:i+1=n:=by
     have:=of_decide_eq_false h3;omega
    have oh:=M3 hU (by rw [c0]; omega)
    have yG:3≤(aR L).length:=by rw [c0]; omega
    conv=>whnf
    skip
    refine .inl ⟨fun mm tz hz=>∃ (j:Nat),bw (some (.slice (some ⟨0,0,none⟩) n c)::aF 2 (some (.int .i64 n)::aF 1 (some (.int .i64 j)::aF 78 []))) tz∧hz=[some (.flat false n 6 g)]∧n - j=mm∧(j≤n∧∀ k,k < j→¬ pj (aR L) k),.inr ⟨[0],[0,3,5],?_⟩,?_⟩
    ·conv=>whnf
     intro _;conv=>whnf
     refine ⟨_,0,(.aa (.sk 2 (.aa (.sk 1 (.aa (.sk 78 .nil rfl)) rfl)) rfl)),rfl,rfl,?_⟩;exact ⟨Nat.zero_le _,fun k hk=>absurd hk (Nat.not_lt_zero k)⟩
    rintro mm aV _ ⟨j,aA,rfl,rfl,⟨hj,hB⟩⟩
    obtain ⟨az,rfl⟩:∃ az:Nat→Value,aV=.slice (some ⟨0,0,none⟩) n c::zs az 1 2 (.int .i64 n::zs az 4 1 (.int .i64 j::zs az 6 78 [])):=bI aA;clear aA;conv=>whnf
    refine aM (fun h3=>?_) (fun h3=>?_)
    ·have h3:j < n:=by
      have:=of_decide_eq_true h3;omega
     have e7:IntKind.i64.wrap ((j:Int)+1)=((j+1:Nat):Int):=by rw [ax (by omega) (by omega)]; rfl
     obtain ⟨a,b,ra,rb,⟨ma,mb⟩,_,ck,ha,hb⟩:=si hn h3;have sa:=aW a ma;have sb:=aW b mb;have qa:=PV.cL sa (by decide)
     have qb:=PV.cL sb (by decide)
     have Rc:=cI ck;have rd:=sh (L:=L) (k:=aX n (aX n j)) (by omega)
     have sd:=aW _ (o7 (L:=L) (k:=aX n (aX n j)) (by omega))
     have pd:=kh (L:=L) (k:=aX n (aX n j)) (by omega)
     obtain ⟨d,hd⟩:∃ o,o=jg L (aX n (aX n j)):=⟨_,rfl⟩;rw [← hd] at rd sd pd;have qd:=PV.cL sd (by decide)
     have pa:a.p=aq (aR L) j:=by rw [ha]; exact kh (by omega)
     have pb:b.p=aq (aR L) (aX n j):=by rw [hb]; exact kh (by omega)
     have cK:=kR h3 (by omega)
     have Jg:=abd h3 (by omega)
     have fZ:n=(aR L).length:=by rw [c0,hn]
     have Aw:pj (aR L) j↔ao a.p b.p d.p≤0∨(0 < j∧j+1 < n∧ao (aq (aR L) 0) (aq (aR L) j) (aq (aR L) (j+1))≤0):=by
      unfold pj;rw [← fZ,pa,pb,pd]
     obtain ⟨u,hu⟩:∃ u,u=aX n j:=⟨_,rfl⟩;rw [← hu] at cK ck rb Rc Jg rd;obtain ⟨w,hw⟩:∃ w,w=aX n u:=⟨_,rfl⟩;rw [← hw] at Rc Jg rd;rw [← hg] at ra rb rd;conv=>whnf
     refine .inl ⟨42,[[],[],[0,1],[0,1,2],[],[],[5],[],[5,6,7],[4,5,6,7,8],[4,5,6,7,8,9],[],[],[12],[],[12,13,14],[11,12,13,14,15],[11,12,13,14,15,16],[0,1,2,3,4,5,6,7,8,9,10,11,12,13,14,15,16,17],[0,1,2,3,4,5,6,7,8,9,10,11,12,13,14,15,16,17,18],[0,1,2,3,4,5,6,7,8,9,10,11,12,13,14,15,16,17,18,19],[0,1,2,3,4,5,6,7,8,9,10,11,12,13,14,15,16,17,18,19,20],[0,1,2,3,4,5,6,7,8,9,10,11,12,13,14,15,16,17,18,19,20,21],[0,1,2,3,4,5,6,7,8,9,10,11,12,13,14,15,16,17,18,19,20,21,22],[0,1,2,3,4,5,6,7,8,9,10,11,12,13,14,15,16,17,18,19,20,21,22,23],[0,1,2,3,4,5,6,7,8,9,10,11,12,13,14,15,16,17,18,19,20,21,22,23,24],[0,1,2,3,4,5,6,7,8,9,10,11,12,13,14,15,16,17,18,19,20,21,22,23],[0,1,2,3,4,5,6,7,8,9,10,11,12,13,14,15,16,17,18,19,20,21,22,23,24,25,26],[0,1,2,3,4,5,6,7,8,9,10,11,12,13,14,15,16,17,18,19,20,21,22,23,24,25,26,27],[0,1,2,3,4,5,6,7,8,9,10,11,12,13,14,15,16,17,18,19,20,21,22,23,24,25,26,27,28],[0,1,2,3,4,5,6,7,8,9,10,11,12,13,14,15,16,17,18,19,20,21,22,23,24,25,26,27,28,29],[0,1,2,3,4,5,6,7,8,9,10,11,12,13,14,15,16,17,18,19,20,21,22,23,24,25,26,27,28,29,30],[0,1,2,3,4,5,6,7,8,9,10,11,12,13,14,15,16,17,18,19,20,21,22,23,24,25,26,27,28,29,30,31],[0,1,2,3,4,5,6,7,8,9,10,11,12,13,14,15,16,17,18,19,20,21,22,23,24,25,26,27,28,29],[0,1,2,3,4,5,6,7,8,9,10,11,12,13,14,15,16,17,18,19,20,21,22,23,24,25,26,27,28,29],[0,1,2,3,4,5,6,7,8,9,10,11,12,13,14,15,16,17,18,19,20,21,22,23,24,25,26,27,28,29,33,34],[0,1,2,3,4,5,6,7,8,9,10,11,12,13,14,15,16,17,18,19,20,21,22,23,24,25,26,27,28,29,33,34,35],[0,1,2,3,4,5,6,7,8,9,10,11,12,13,14,15,16,17,18,19,20,21,22,23,24,25,26,27,28,29],[0,1,2,3,4,5,6,7,8,9,10,11,12,13,14,15,16,17,18,19,20,21,22,23,24,25,26,27,28,29],[0,1,2,3,4,5,6,7,8,9,10,11,12,13,14,15,16,17,18,19,20,21,22,23,24,25,26,27,28,29,38],[0,1,2,3,4,5,6,7,8,9,10,11,12,13,14,15,16,17,18,19,20,21,22,23,24,25,26,27,28,29,37,38,39],[0,1,2,3,4,5,6,7,8,9,10,11,12,13,14,15,16,17,18,19,20,21,22,23,24,25,26,27,28,29,37,38,39,40],[0,1,2,3,4,5,6,7,8,9,10,11,12,13,14,15,16,17,18,19,20,21,22,23,24,25,26,27,28,29,30,31,32,33,34,35,36,37,38,39,40,41],[0,1,2,3,4,5,6,7,8,9,10,11,12,13,14,15,16,17,18,19,20,21,22,23,24,25,26,27,28,29,30,31,32,33,34,35,36,37,38,39,40,41,42],[0,1,2,3,4,5,6,7,8,9,10,11,12,13,14,15,16,17,18,19,20,21,22,23,24,25,26,27,28,29,30,31,32,33,34,35,36,37,38,39,40,41,42,43],[0,1,2,3,4,5,6,7,8,9,10,11,12,13,14,15,16,17,18,19,20,21,22,23,24,25,26,27,28,29,30,31,32,33,34,35,36,37,38,39,40,41,42,43,44]],by kernel_rfl,?_⟩
     conv=>whnf
     refine ⟨⟨by omega,by omega⟩,?_⟩
     simp only [toNat_cast,aw,Nat.zero_add];conv=>whnf
     refine ⟨by show j < n; omega,?_⟩
     conv=>whnf
     rw [ra];conv=>whnf
     rw [show decide ((n:Int)≠0)=true from decide_eq_true (by omega)]
     conv=>whnf
     rw [cK];refine ⟨⟨by omega,by omega⟩,?_⟩
     simp only [toNat_cast,aw,Nat.zero_add];conv=>whnf
     refine ⟨by show u < n; omega,?_⟩
     conv=>whnf
     rw [rb];conv=>whnf
     rw [show decide ((n:Int)≠0)=true from decide_eq_true (by omega)]
     conv=>whnf
     rw [Jg];refine ⟨⟨by omega,by omega⟩,?_⟩
     simp only [toNat_cast,aw,Nat.zero_add];conv=>whnf
     refine ⟨by show w < n; omega,?_⟩
     conv=>whnf
     rw [rd];conv=>whnf
     obtain ⟨z,ez,pz⟩:=dS (aZ (ao a.p b.p d.p) 0);refine ⟨(a,b,d),rfl,⟨PV.aO sa (by decide),PV.aO sb (by decide),PV.aO sd (by decide)⟩,?_⟩
     rw [show jL.val (a,b,d)=.int .i64 z from ez]
     conv=>whnf
     have cz:z≤0↔ao a.p b.p d.p≤0:=by rw [pz]; exact xy
     by_cases h4:z≤0
     ·rw [show decide (z≤0)=true from decide_eq_true h4]
      conv=>whnf
      exact fin 15 (He (by omega) rl oh fun e=>(zf yG oh).1 e j (by rw [c0]; omega) (Aw.2 (.inl (cz.1 h4))))
     ·rw [show decide (z≤0)=false from decide_eq_false h4]
      have next:¬ pj (aR L) j→∀ k,k < j+1→¬ pj (aR L) k:=fun hb k hk=>by
       rcases Nat.lt_or_eq_of_le (Nat.le_of_lt_succ hk) with e | e
       ·exact hB k e
       ·rw [e]; exact hb
      conv=>whnf
      by_cases h5:0 < j
      ·rw [show decide ((j:Int) > 0)=true from decide_eq_true (by omega)]
       conv=>whnf
       rw [e7];by_cases h6:j+1 < n
       ·rw [show decide (((j+1:Nat):Int) < (n:Int))=true from decide_eq_true (by omega)]
        have rv:=sh (L:=L) (k:=j+1) (by omega)
        have sv:=aW _ (o7 (L:=L) (k:=j+1) (by omega))
        have pv:=kh (L:=L) (k:=j+1) (by omega)
        obtain ⟨v,hv⟩:∃ o,o=jg L (j+1):=⟨_,rfl⟩;rw [← hv] at rv sv pv;rw [← hg] at rv;have qv:=PV.cL sv (by decide)
        obtain ⟨k,hk⟩:∃ k,k=j+1:=⟨_,rfl⟩;rw [← hk] at rv;conv=>whnf
        refine ⟨⟨by omega,by omega⟩,?_⟩
        simp only [toNat_cast,aw,Nat.zero_add];conv=>whnf
        refine ⟨by show 0 < n; omega,?_⟩
        conv=>whnf
        rw [Az];conv=>whnf
        refine ⟨⟨by omega,by omega⟩,?_⟩
        simp only [toNat_cast,aw,Nat.zero_add];conv=>whnf
        refine ⟨by show j < n; omega,?_⟩
        conv=>whnf
        rw [ra];conv=>whnf
        rw [e7,← hk];refine ⟨⟨by omega,by omega⟩,?_⟩
        simp only [toNat_cast,aw,Nat.zero_add];conv=>whnf
        refine ⟨by show k < n; omega,?_⟩
        conv=>whnf
        rw [rv];conv=>whnf
        obtain ⟨y,ey,py⟩:=dS (aZ (ao o.p a.p v.p) 0);refine ⟨(o,a,v),rfl,⟨PV.aO so (by decide),PV.aO sa (by decide),PV.aO sv (by decide)⟩,?_⟩
        rw [show jL.val (o,a,v)=.int .i64 y from ey]
        conv=>whnf
        have cy:y≤0↔ao o.p a.p v.p≤0:=by rw [py]; exact xy
        rw [pa,po,pv] at cy;by_cases h7:y≤0
        ·rw [show decide (y≤0)=true from decide_eq_true h7]
         conv=>whnf
         exact fin 15 (He (by omega) rl oh fun e=>(zf yG oh).1 e j (by rw [c0]; omega) (Aw.2 (.inr ⟨h5,h6,cy.1 h7⟩)))
        ·rw [show decide (y≤0)=false from decide_eq_false h7]
         conv=>whnf
         rw [e7];refine .inr ⟨[0],[0,3,5],?_⟩;conv=>whnf
         intro _;conv=>whnf
         refine ⟨_,?_,j+1,(.aa (.sk 2 (.aa (.sk 1 (.aa (.sk 78 .nil rfl)) rfl)) rfl)),rfl,rfl,?_⟩
         ·omega
         ·exact ⟨by omega,next fun e=>(Aw.1 e).elim (fun e=>h4 (cz.2 e)) fun e=>h7 (cy.2 e.2.2)⟩
       ·rw [show decide (((j+1:Nat):Int) < (n:Int))=false from decide_eq_false (by omega)]
        conv=>whnf
        rw [e7];refine .inr ⟨[0],[0,3,5],?_⟩;conv=>whnf
        intro _;conv=>whnf
        refine ⟨_,?_,j+1,(.aa (.sk 2 (.aa (.sk 1 (.aa (.sk 78 .nil rfl)) rfl)) rfl)),rfl,rfl,?_⟩
        ·omega
        ·exact ⟨by omega,next fun e=>(Aw.1 e).elim (fun e=>h4 (cz.2 e)) fun e=>h6 e.2.1⟩
      ·rw [show decide ((j:Int) > 0)=false from decide_eq_false (by omega)]
       conv=>whnf
       rw [e7];refine .inr ⟨[0],[0,3,5],?_⟩;conv=>whnf
       intro _;conv=>whnf
       refine ⟨_,?_,j+1,(.aa (.sk 2 (.aa (.sk 1 (.aa (.sk 78 .nil rfl)) rfl)) rfl)),rfl,rfl,?_⟩
       ·omega
       ·exact ⟨by omega,next fun e=>(Aw.1 e).elim (fun e=>h4 (cz.2 e)) fun e=>h5 e.1⟩
    ·have h3:j=n:=by
      have:=of_decide_eq_false h3;omega
     subst h3;conv=>whnf
     exact fin 0 (NP (by omega) rl oh ((zf yG oh).2 fun k hk=>hB k (by rw [c0] at hk; omega)))
def Er3:Env:=En [(77,.p jL)]
theorem aet:EnvOk Tryz.prog Er3:=bF ⟨Mo,trivial⟩ trivial
open Go Go.Ae
theorem PG:bg Tryz.prog 79 oc:=by
 refine bk aet aN Tryz.func79 (enters_of Tryz.func79 (by kernel_rfl) rfl) (fun _=>rfl) (fun _=>rfl) ?_
 intro ⟨⟨n1,a1,b1⟩,⟨n2,a2,b2⟩⟩ _;have A1:∀ x:ByteArray,12 < x.size→decide ((x.size:Int) > 12)=true:=fun x h=>decide_eq_true (by omega)
 have small:∀ x:ByteArray,¬ 12 < x.size→decide ((x.size:Int) > 12)=false:=fun x h=>decide_eq_false (by omega)
 conv=>whnf
 by_cases h1:12 < a1.size
 ·rw [A1 _ h1];conv=>whnf
  exact CP (by omega)
 rw [small _ h1];conv=>whnf
 by_cases J:12 < b1.size
 ·rw [A1 _ J];conv=>whnf
  exact CP (by omega)
 rw [small _ J];conv=>whnf
 by_cases h3:12 < a2.size
 ·rw [A1 _ h3];conv=>whnf
  exact CP (by omega)
 rw [small _ h3];conv=>whnf
 by_cases h4:12 < b2.size
 ·rw [A1 _ h4];exact CP (by omega)
 rw [small _ h4];exact abh (by omega)
def Es1:Env:=En [(79,.p oc)]
theorem aeu:EnvOk Tryz.prog Es1:=bF ⟨PG,trivial⟩ trivial
theorem U6:di Tryz.prog 53 kK:=by
 refine dQ aeu aN Tryz.func53 (enters_of Tryz.func53 (by kernel_rfl) rfl) ?_ ?_ ?_
 ·intro i b hb;cases i with
  | none=>simp [kK,PL.ah] at hb
  | some i=>simp [kK,PL.ah] at hb; rw [hb]; rfl
 ·intro i b hb; simp [kK] at hb
 intro i hp;have hp:i.list.length≤9223372036854775807:=hp;cases i with
 | none =>
  conv=>whnf
  refine .inr ⟨1,?_⟩;conv=>whnf
  exact ⟨.bool false,rfl,.refl _⟩
 | some i =>
  obtain ⟨L,c⟩:=i;have hlen:L.length≤9223372036854775807:=hp;obtain ⟨n,hn⟩:∃ n,n=L.length:=⟨_,rfl⟩;obtain ⟨g,hg⟩:∃ g,g=cW L:=⟨_,rfl⟩;have fin:∀ z:Bool,m9 L=z→∃ v',cR (List.range 1) 3 (kK.val (some (L,c)))=some v'∧fj (.bool z) v':=fun z h=>⟨.bool z,by rw [← h]; rfl,.refl _⟩
  rw [show kK.ah (some (L,c))=[.flat false n 6 g] from by rw [hn,hg]; rfl,show kK.args (some (L,c))=[.slice (some ⟨0,0,none⟩) n c] from by rw [hn]; rfl]
  rw [← hn] at hlen;conv=>whnf
  by_cases J:66 < n
  ·rw [show decide ((n:Int) > 10)=true from decide_eq_true (by omega)]
   conv=>whnf
   rw [show decide ((n:Int) < 63)=false from decide_eq_false (by omega)]
   conv=>whnf
   rw [show decide ((n:Int) > 66)=true from decide_eq_true (by omega)]
   conv=>whnf
   exact fin true (Mg (.inr (by omega)))
  by_cases h1:10 < n∧n < 63
  ·rw [show decide ((n:Int) > 10)=true from decide_eq_true (by omega)]
   conv=>whnf
   rw [show decide ((n:Int) < 63)=true from decide_eq_true (by omega)]
   conv=>whnf
   exact fin true (Mg (.inl (by omega)))
  have afB:=UK (L:=L) (by omega)
  have fin:=fun (z:Bool) (h:uW 12 L=z)=>fin z (afB.trans h)
  by_cases h3:10 < n
  ·rw [show decide ((n:Int) > 10)=true from decide_eq_true (by omega)]
   conv=>whnf
   rw [show decide ((n:Int) < 63)=false from decide_eq_false (by omega)]
   conv=>whnf
   rw [show decide ((n:Int) > 66)=false from decide_eq_false (by omega)]
   conv=>whnf
   refine .inl ⟨fun mm tz hz=>∃ (i:Nat),bw (some (.slice (some ⟨0,0,none⟩) n c)::aF 2 (some (.int .i64 i)::aF 24 [])) tz∧hz=[some (.flat false n 6 g)]∧n - i=mm∧(i≤n∧uL 12 L i),.inr ⟨[0],[0,3],?_⟩,?_⟩
   ·conv=>whnf
    intro _;conv=>whnf
    refine ⟨_,0,(.aa (.sk 2 (.aa (.sk 24 .nil rfl)) rfl)),rfl,rfl,?_⟩;exact ⟨Nat.zero_le _,KK _ _⟩
   rintro mm aV _ ⟨i,aA,rfl,rfl,⟨hi,hU⟩⟩
   obtain ⟨az,rfl⟩:∃ az:Nat→Value,aV=.slice (some ⟨0,0,none⟩) n c::zs az 1 2 (.int .i64 i::zs az 4 24 []):=bI aA;clear aA;conv=>whnf
   refine aM (fun h3=>?_) (fun h3=>?_)
   ·have h3:i < n:=by
     have:=of_decide_eq_true h3;omega
    have e7:IntKind.i64.wrap ((i:Int)+1)=((i+1:Nat):Int):=by rw [ax (by omega) (by omega)]; rfl
    obtain ⟨m,lg,mS,a8⟩:=r9 (l:=L) (i:=i) (by omega)
    rw [← hg] at a8;conv=>whnf
    refine ⟨⟨by omega,by omega⟩,?_⟩
    simp only [toNat_cast,aw,Nat.zero_add];conv=>whnf
    refine ⟨by show i < n; omega,?_⟩
    conv=>whnf
    rw [a8];conv=>whnf
    refine ⟨m,rfl,trivial,?_⟩;by_cases h4:m.sz 12
    ·rw [show oc.val m=.bool false from congrArg Value.bool (decide_eq_false fun e=>e h4)]
     conv=>whnf
     rw [e7];refine .inr ⟨[0],[0,3],?_⟩;conv=>whnf
     intro _;conv=>whnf
     refine ⟨_,?_,i+1,(.aa (.sk 2 (.aa (.sk 24 .nil rfl)) rfl)),rfl,rfl,?_⟩
     ·omega
     ·exact ⟨by omega,K0 hU lg h4⟩
    ·rw [show oc.val m=.bool true from congrArg Value.bool (decide_eq_true h4)]
     conv=>whnf
     exact fin true (Fl mS h4)
   ·have h3:i=n:=by
     have:=of_decide_eq_false h3;omega
    subst h3;conv=>whnf
    exact fin false (Lm (by rw [← hn]; exact hU))
  ·rw [show decide ((n:Int) > 10)=false from decide_eq_false (by omega)]
   conv=>whnf
   rw [show decide ((n:Int) > 66)=false from decide_eq_false (by omega)]
   conv=>whnf
   refine .inl ⟨fun mm tz hz=>∃ (i:Nat),bw (some (.slice (some ⟨0,0,none⟩) n c)::aF 2 (some (.int .i64 i)::aF 24 [])) tz∧hz=[some (.flat false n 6 g)]∧n - i=mm∧(i≤n∧uL 12 L i),.inr ⟨[0],[0,3],?_⟩,?_⟩
   ·conv=>whnf
    intro _;conv=>whnf
    refine ⟨_,0,(.aa (.sk 2 (.aa (.sk 24 .nil rfl)) rfl)),rfl,rfl,?_⟩;exact ⟨Nat.zero_le _,KK _ _⟩
   rintro mm aV _ ⟨i,aA,rfl,rfl,⟨hi,hU⟩⟩
   obtain ⟨az,rfl⟩:∃ az:Nat→Value,aV=.slice (some ⟨0,0,none⟩) n c::zs az 1 2 (.int .i64 i::zs az 4 24 []):=bI aA;clear aA;conv=>whnf
   refine aM (fun h3=>?_) (fun h3=>?_)
   ·have h3:i < n:=by
     have:=of_decide_eq_true h3;omega
    have e7:IntKind.i64.wrap ((i:Int)+1)=((i+1:Nat):Int):=by rw [ax (by omega) (by omega)]; rfl
    obtain ⟨m,lg,mS,a8⟩:=r9 (l:=L) (i:=i) (by omega)
    rw [← hg] at a8;conv=>whnf
    refine ⟨⟨by omega,by omega⟩,?_⟩
    simp only [toNat_cast,aw,Nat.zero_add];conv=>whnf
    refine ⟨by show i < n; omega,?_⟩
    conv=>whnf
    rw [a8];conv=>whnf
    refine ⟨m,rfl,trivial,?_⟩;by_cases h4:m.sz 12
    ·rw [show oc.val m=.bool false from congrArg Value.bool (decide_eq_false fun e=>e h4)]
     conv=>whnf
     rw [e7];refine .inr ⟨[0],[0,3],?_⟩;conv=>whnf
     intro _;conv=>whnf
     refine ⟨_,?_,i+1,(.aa (.sk 2 (.aa (.sk 24 .nil rfl)) rfl)),rfl,rfl,?_⟩
     ·omega
     ·exact ⟨by omega,K0 hU lg h4⟩
    ·rw [show oc.val m=.bool true from congrArg Value.bool (decide_eq_true h4)]
     conv=>whnf
     exact fin true (Fl mS h4)
   ·have h3:i=n:=by
     have:=of_decide_eq_false h3;omega
    subst h3;conv=>whnf
    exact fin false (Lm (by rw [← hn]; exact hU))
open Go Go.Ae
open Go Go.Ae
open Go Go.Ae
def Ea1:Env:=En [(55,.p rf)]
theorem aev:EnvOk Tryz.prog Ea1:=bF ⟨PD,trivial⟩ trivial
theorem Wc:di Tryz.prog 54 il:=by
 refine dQ aev aN Tryz.func54 (enters_of Tryz.func54 (by kernel_rfl) rfl) ?_ ?_ ?_
 ·intro i b hb; simp [il] at hb; rw [hb]; rfl
 ·intro i b hb; simp [il] at hb; rw [← hb]; rfl
 intro (L:II) hp;have hp:(0 < L.length∧L.length≤1000000)∧∀ x∈L,x.1.natAbs < 256∧x.2.natAbs < 256:=hp;obtain ⟨⟨h0,hlen⟩,Ss⟩:=hp;obtain ⟨n,hn⟩:∃ n,n=L.length:=⟨_,rfl⟩;obtain ⟨m,hm⟩:∃ m,m=2*n:=⟨_,rfl⟩;obtain ⟨g,hg⟩:∃ g,g=nm L:=⟨_,rfl⟩;obtain ⟨K,hK⟩:∃ K,K=gz il L:=⟨_,rfl⟩;rw [show il.ah L=[.flat false m 1 g] from by rw [hm,hn,hg]; rfl,show il.args L=[.slice (some ⟨0,0,none⟩) m m] from by rw [hm,hn]; rfl,← hK]
 rw [← hn] at hlen h0;conv=>whnf
 refine .inl ⟨fun mm tz hz=>∃ (j:Nat) (i:Nat) (O:List Q2) (q:Nat) (F:Nat→List Value),bw (some (.slice (some ⟨0,0,none⟩) m m)::aF 2 (some (dn 1 q)::some (.int .i64 i)::aF 21 [])) tz∧hz=[some (.flat false m 1 g)]++Ao 6 F q∧n - j=mm∧((j≤n∧q=j∧i=2*j∧q=O.length)∧O=bt (L.take j)∧(∀ r,r < q→F r=bG O r)),.inr ⟨[0],[0,3,4],?_⟩,?_⟩
 ·conv=>whnf
  intro _;conv=>whnf
  refine ⟨_,0,0,[],0,fun _=>[],(.aa (.sk 2 (.aa (.aa (.sk 21 .nil rfl))) rfl)),rfl,rfl,?_⟩
  exact ⟨⟨Nat.zero_le _,rfl,rfl,rfl⟩,rfl,fun r hr=>absurd hr (Nat.not_lt_zero r)⟩
 rintro mm aV _ ⟨j,i,O,q,F,aA,rfl,rfl,⟨⟨hj,St,hi,hq⟩,hO,hF⟩⟩
 obtain ⟨az,rfl⟩:∃ az:Nat→Value,aV=.slice (some ⟨0,0,none⟩) m m::zs az 1 2 (dn 1 q::.int .i64 i::zs az 5 21 []):=bI aA;clear aA;obtain ⟨k,hk⟩:∃ k,k=i+1:=⟨_,rfl⟩;have e1:IntKind.i64.wrap ((i:Int)+1)=(k:Int):=by rw [ax (by omega) (by omega),hk]; rfl
 have e2:IntKind.i64.wrap ((i:Int)+2)=((i+2:Nat):Int):=by rw [ax (by omega) (by omega)]; rfl
 cases q with
 | zero =>
  obtain rfl:O=[]:=List.eq_nil_of_length_eq_zero hq.symm;conv=>whnf
  rw [e1];refine aM (fun h1=>?_) (fun h1=>?_)
  ·have h1:j < n:=by
    have:=of_decide_eq_true h1;omega
   obtain ⟨x,hx⟩:∃ x,x=rN L j:=⟨_,rfl⟩;have gL:=OP (l:=L) (j:=j) (by omega)
   rw [← hx] at gL;have ra:g i=[.int .i64 x.1]:=by rw [hg,hi]; exact NV hx
   have rb:g k=[.int .i64 x.2]:=by rw [hk,hg,hi]; exact NW hx
   have ar:=NX gL.2;rw [← hO] at ar;have hs:=Ss x gL.1;conv=>whnf
   refine .inl ⟨12,[[],[],[],[1,2],[1,2,3],[],[],[6],[5,6,7],[5,6,7,8],[1,2,3,4,5,6,7,8,9],[1,2,3,4,5,6,7,8,9,10],[0,1,2,3,4,5,6,7,8,9,10,11],[0,1,2,3,4,5,6,7,8,9,10,11,12]],by kernel_rfl,?_⟩
   conv=>whnf
   refine ⟨⟨by omega,by omega⟩,?_⟩
   simp only [toNat_cast,aw,Nat.zero_add];conv=>whnf
   refine ⟨by show i < m; omega,?_⟩
   conv=>whnf
   rw [ra];conv=>whnf
   rw [e1];refine ⟨⟨by omega,by omega⟩,?_⟩
   simp only [toNat_cast,aw,Nat.zero_add];conv=>whnf
   refine ⟨by show k < m; omega,?_⟩
   conv=>whnf
   rw [rb];conv=>whnf
   obtain ⟨u,cu,eu,pu,su,qu⟩:=xN (vB x.1 x.2 hs.1 hs.2);refine ⟨(x.1,x.2),rfl,⟨⟨by show -9223372036854775808≤x.1; omega,by show x.1 < 9223372036854775808; omega⟩,⟨by show -9223372036854775808≤x.2; omega,by show x.2 < 9223372036854775808; omega⟩⟩,?_⟩
   rw [show rf.val (x.1,x.2)=u.v from eu]
   conv=>whnf
   refine ⟨by show (0+1)*80≤140737488355328; decide,?_⟩
   conv=>whnf
   rw [e2];refine .inr ⟨[0,13],[0,3,4],?_⟩;conv=>whnf
   intro _;conv=>whnf
   refine ⟨_,?_,j+1,i+2,[iq x],1,_,(.aa (.sk 2 (.aa (.aa (.sk 21 .nil rfl))) rfl)),rfl,rfl,?_⟩
   ·omega
   ·exact ⟨⟨by omega,by omega,by omega,rfl⟩,by rw [ar]; rfl,xi cu rfl⟩
  ·exfalso;have:=of_decide_eq_false h1;omega
 | succ q =>
  have e0:i≠0:=by omega
  conv=>whnf
  rw [e1];refine aM (fun h1=>?_) (fun h1=>?_)
  ·have h1:j < n:=by
    have:=of_decide_eq_true h1;omega
   obtain ⟨x,hx⟩:∃ x,x=rN L j:=⟨_,rfl⟩;have gL:=OP (l:=L) (j:=j) (by omega)
   rw [← hx] at gL;have ra:g i=[.int .i64 x.1]:=by rw [hg,hi]; exact NV hx
   have rb:g k=[.int .i64 x.2]:=by rw [hk,hg,hi]; exact NW hx
   have ar:=NX gL.2;rw [← hO] at ar;have hs:=Ss x gL.1;conv=>whnf
   refine .inl ⟨12,[[],[],[],[1,2],[1,2,3],[],[],[6],[5,6,7],[5,6,7,8],[1,2,3,4,5,6,7,8,9],[1,2,3,4,5,6,7,8,9,10],[0,1,2,3,4,5,6,7,8,9,10,11],[0,1,2,3,4,5,6,7,8,9,10,11,12]],by kernel_rfl,?_⟩
   conv=>whnf
   refine ⟨⟨by omega,by omega⟩,?_⟩
   simp only [toNat_cast,aw,Nat.zero_add];conv=>whnf
   refine ⟨by show i < m; omega,?_⟩
   conv=>whnf
   rw [ra];conv=>whnf
   rw [e1];refine ⟨⟨by omega,by omega⟩,?_⟩
   simp only [toNat_cast,aw,Nat.zero_add];conv=>whnf
   refine ⟨by show k < m; omega,?_⟩
   conv=>whnf
   rw [rb];conv=>whnf
   obtain ⟨u,cu,eu,pu,su,qu⟩:=xN (vB x.1 x.2 hs.1 hs.2);refine ⟨(x.1,x.2),rfl,⟨⟨by show -9223372036854775808≤x.1; omega,by show x.1 < 9223372036854775808; omega⟩,⟨by show -9223372036854775808≤x.2; omega,by show x.2 < 9223372036854775808; omega⟩⟩,?_⟩
   rw [show rf.val (x.1,x.2)=u.v from eu]
   conv=>whnf
   refine ⟨⟨by show 1≤1; decide,rfl,by show (q+1+1)*80≤140737488355328; omega⟩,?_⟩
   conv=>whnf
   refine ⟨[0,4],?_⟩;conv=>whnf
   intro _;conv=>whnf
   rw [e2];refine .inr ⟨[0,1],[0,3,4],?_⟩;conv=>whnf
   intro _;conv=>whnf
   refine ⟨_,?_,j+1,i+2,O++[iq x],q+1+1,_,(.aa (.sk 2 (.aa (.aa (.sk 21 .nil rfl))) rfl)),rfl,rfl,?_⟩
   ·omega
   ·exact ⟨⟨by omega,by omega,by omega,by rw [List.length_append,← hq]; rfl⟩,ar.symm,sD hq hF cu rfl⟩
  ·have h1:j=n:=by
    have:=of_decide_eq_false h1;omega
   subst h1;have hE:bt L=O:=by rw [hO,hn,List.take_length]
   have Ku:O.length=(bt L).length:=by rw [hE]
   conv=>whnf
   rw [hK];unfold gz;rw [show il.new L=some (.flat true (q+1) 6 (bG O)) from by show some (ai.flat true L.length 6 (bG (bt L)))=_; rw [← hn,hE,← St],show il.val L=.slice (some ⟨1,0,none⟩) (q+1) aI from by show Value.slice (some ⟨1,0,none⟩) L.length aI=_; rw [← hn,← St]]
   refine ⟨1,?_⟩;conv=>whnf
   exact ⟨⟨rfl,aH.sf (fun h=>h) hF (fun r hr=>rfl)⟩,_,rfl,.refl _⟩
open Go Go.Ae
def Edz:Env:=rS [(33,.p mL)]
theorem aew:EnvOk Tryz.prog Edz:=tC ⟨zM,trivial⟩ trivial
theorem Ob:di Tryz.prog 18 fo:=by
 refine dQ aew aN Tryz.func18 (enters_of Tryz.func18 (by kernel_rfl) rfl) ?_ ?_ ?_
 ·intro ⟨i,j⟩ b hb;cases i <;> cases j <;> simp [fo,PL.ah] at hb <;> (try rcases hb with rfl | rfl) <;> (try subst hb) <;> first | rfl | skip
 ·intro i b hb; simp [fo] at hb
 intro ⟨i,j⟩ hp;have hp:i.list.length≤1099511627776∧j.list.length≤1099511627776:=hp;obtain ⟨Su,RE⟩:=hp;cases i with
 | none =>
  cases j with
  | none =>
   conv=>whnf
   refine .inr ⟨1,?_⟩;conv=>whnf
   exact ⟨.bool true,rfl,.refl _⟩
  | some j =>
   obtain ⟨m,c⟩:=j;obtain ⟨n,hn⟩:∃ n,n=m.length:=⟨_,rfl⟩;obtain ⟨g,hg⟩:∃ g,g=cW m:=⟨_,rfl⟩;have fin:∀ b:Bool,b=decide ([]=m)→∃ v',cR (List.range 1) 3 (fo.val (none,some (m,c)))=some v'∧fj (.bool b) v':=fun b h=>⟨.bool b,by rw [h]; rfl,.refl _⟩
   rw [show fo.ah (none,some (m,c))=[.flat false n 6 g] from by rw [hn,hg]; rfl,show fo.args (none,some (m,c))=[.slice none 0 0,.slice (some ⟨0,0,none⟩) n c] from by rw [hn]; rfl]
   by_cases h0:n=0
   ·have hm:m=[]:=List.length_eq_zero_iff.1 (hn.symm.trans h0);subst h0;conv=>whnf
    refine .inr ⟨1,?_⟩;conv=>whnf
    exact fin true (by rw [hm]; rfl)
   ·conv=>whnf
    rw [show (((0:Nat):Int) != ((n:Nat):Int))=true from by simp; omega]
    conv=>whnf
    exact fin false (by cases m with | nil=>exact absurd hn h0 | cons a m=>rfl)
 | some i =>
  obtain ⟨l,c⟩:=i;obtain ⟨k,hk⟩:∃ n,n=l.length:=⟨_,rfl⟩;obtain ⟨f,hf⟩:∃ g,g=cW l:=⟨_,rfl⟩;have Su:k≤1099511627776:=by rw [hk]; exact Su
  cases j with
  | none =>
   have fin:∀ b:Bool,b=decide (l=[])→∃ v',cR (List.range 1) 3 (fo.val (some (l,c),none))=some v'∧fj (.bool b) v':=fun b h=>⟨.bool b,by rw [h]; rfl,.refl _⟩
   rw [show fo.ah (some (l,c),none)=[.flat false k 6 f] from by rw [hk,hf]; rfl,show fo.args (some (l,c),none)=[.slice (some ⟨0,0,none⟩) k c,.slice none 0 0] from by rw [hk]; rfl]
   by_cases h0:k=0
   ·have hm:l=[]:=List.length_eq_zero_iff.1 (hk.symm.trans h0);subst h0;conv=>whnf
    refine .inr ⟨1,?_⟩;conv=>whnf
    exact fin true (by rw [hm]; rfl)
   ·conv=>whnf
    rw [show (((k:Nat):Int) != ((0:Nat):Int))=true from by simp; omega]
    conv=>whnf
    exact fin false (by cases l with | nil=>exact absurd hk h0 | cons a m=>rfl)
  | some j =>
   obtain ⟨m,d⟩:=j;obtain ⟨n,hn⟩:∃ n,n=m.length:=⟨_,rfl⟩;obtain ⟨g,hg⟩:∃ g,g=cW m:=⟨_,rfl⟩;have fin:∀ b:Bool,b=decide (l=m)→∃ v',cR (List.range 2) 3 (fo.val (some (l,c),some (m,d)))=some v'∧fj (.bool b) v':=fun b h=>⟨.bool b,by rw [h]; rfl,.refl _⟩
   rw [show fo.ah (some (l,c),some (m,d))=[.flat false k 6 f,.flat false n 6 g] from by rw [hk,hf,hn,hg]; rfl,show fo.args (some (l,c),some (m,d))=[.slice (some ⟨0,0,none⟩) k c,.slice (some ⟨1,0,none⟩) n d] from by rw [hk,hn]; rfl]
   by_cases h0:k=n
   ·obtain rfl:=h0;conv=>whnf
    rw [show ((k:Int) != (k:Int))=false from by simp]
    conv=>whnf
    refine .inl ⟨fun mm tz hz=>∃ (i:Nat),bw (some (.slice (some ⟨0,0,none⟩) k c)::some (.slice (some ⟨1,0,none⟩) k d)::aF 10 (some (.int .i64 k)::some (.int .i64 i)::aF 12 [])) tz∧hz=[some (.flat false k 6 f),some (.flat false k 6 g)]∧k - i=mm∧(i≤k∧vC l m i),.inr ⟨[0,1],[0,1,12,13],?_⟩,?_⟩
    ·conv=>whnf
     intro _;conv=>whnf
     refine ⟨_,0,(.aa (.aa (.sk 10 (.aa (.aa (.sk 12 .nil rfl))) rfl))),rfl,rfl,?_⟩;exact ⟨Nat.zero_le _,Uq _ _⟩
    rintro mm aV _ ⟨i,aA,rfl,rfl,⟨hi,hN⟩⟩
    obtain ⟨az,rfl⟩:∃ az:Nat→Value,aV=.slice (some ⟨0,0,none⟩) k c::.slice (some ⟨1,0,none⟩) k d::zs az 2 10 (.int .i64 k::.int .i64 i::zs az 14 12 []):=bI aA;clear aA;conv=>whnf
    refine aM (fun h1=>?_) (fun h1=>?_)
    ·have h1:i < k:=by
      have:=of_decide_eq_true h1;omega
     obtain ⟨p,lf,_,a8⟩:=r9 (l:=l) (i:=i) (by omega)
     obtain ⟨q,Ku,_,Qi⟩:=r9 (l:=m) (i:=i) (by omega)
     rw [← hf] at a8;rw [← hg] at Qi;have e7:IntKind.i64.wrap ((i:Int)+1)=((i+1:Nat):Int):=by rw [ax (by omega) (by omega)]; rfl
     conv=>whnf
     refine .inl ⟨8,[[],[],[0,1],[0,1,2],[],[],[4,5],[4,5,6],[0,1,2,3,4,5,6,7]],by kernel_rfl,?_⟩
     conv=>whnf
     refine ⟨⟨by omega,by omega⟩,?_⟩
     simp only [toNat_cast,aw,Nat.zero_add];conv=>whnf
     refine ⟨by show i < k; omega,?_⟩
     conv=>whnf
     rw [a8];conv=>whnf
     refine ⟨⟨by omega,by omega⟩,?_⟩
     simp only [toNat_cast,aw,Nat.zero_add];conv=>whnf
     refine ⟨by show i < k; omega,?_⟩
     conv=>whnf
     rw [Qi];conv=>whnf
     rw [th p q];by_cases J:p=q
     ·rw [decide_eq_true J];conv=>whnf
      rw [e7];refine .inr ⟨[0,1],[0,1,12,13],?_⟩;conv=>whnf
      intro _;conv=>whnf
      refine ⟨_,?_,i+1,(.aa (.aa (.sk 10 (.aa (.aa (.sk 12 .nil rfl))) rfl))),rfl,rfl,?_⟩
      ·omega
      ·exact ⟨by omega,VH hN lf Ku J⟩
     ·rw [decide_eq_false J];conv=>whnf
      exact fin false (decide_eq_false (adz lf Ku J)).symm
    ·have h1:i=k:=by
      have:=of_decide_eq_false h1;omega
     subst h1;conv=>whnf
     exact fin true (decide_eq_true (WT (by rw [← hk]; exact hN) (hk.symm.trans hn))).symm
   ·conv=>whnf
    rw [show ((k:Int) != (n:Int))=true from by simp; omega]
    conv=>whnf
    exact fin false (decide_eq_false (fun e=>h0 (by rw [hk,hn,e]))).symm
open Go Go.Ae
def Ea2:Env:=rS [(54,.q il),(16,.q jr),(44,.q mN),(21,.q mC),(55,.p rf),(30,.p G7),(33,.p mL),(38,.p gW),(18,.q fo)]
theorem aex:EnvOk Tryz.prog Ea2:=tC ⟨Wc,XP,aaE,aaF,PD,V3,zM,xF,Ob,trivial⟩ trivial
theorem U7:bg Tryz.prog 13 Pm:=by
 refine bk aex aN Tryz.func13 (enters_of Tryz.func13 (by kernel_rfl) rfl) (fun _=>rfl) (fun _=>rfl) ?_
 intro _ hp;obtain ⟨cu,eJ⟩:∃ cu,cu=aI:=⟨_,rfl⟩;obtain ⟨gS,wz⟩:∃ g,g=bG (bt dw):=⟨_,rfl⟩;obtain ⟨gT,Kv⟩:∃ g,g=bG (bt jE):=⟨_,rfl⟩;obtain ⟨gU,Kw⟩:∃ g,g=bG (bt j5):=⟨_,rfl⟩;obtain ⟨gM,Bl⟩:∃ g,g=bG (bt jF):=⟨_,rfl⟩;have fS:PL.fit (some (aC (bt dw),cu)):=HI (by decide) (by decide)
 have fT:PL.fit (some (aC (bt jE),cu)):=HI (by decide) (by decide)
 have fU:PL.fit (some (aC (bt j5),cu)):=HI (by decide) (by decide)
 conv=>whnf
 refine ⟨dw,[0],rfl,⟨by decide,by decide⟩,?_⟩
 rw [show il.ah dw=[.flat false 8 1 (nm dw)] from rfl,show il.val dw=.slice (some ⟨1,0,none⟩) 4 cu from by rw [eJ]; rfl,show il.new dw=some (.flat true 4 6 gS) from by rw [wz]; rfl]
 conv=>whnf
 refine ⟨Cw dw _ rfl,?_⟩;conv=>whnf
 refine ⟨_,rfl,?_⟩;conv=>whnf
 refine ⟨jE,[2],rfl,⟨by decide,by decide⟩,?_⟩
 rw [show il.ah jE=[.flat false 6 1 (nm jE)] from rfl,show il.val jE=.slice (some ⟨1,0,none⟩) 3 cu from by rw [eJ]; rfl,show il.new jE=some (.flat true 3 6 gT) from by rw [Kv]; rfl]
 conv=>whnf
 refine ⟨Cw jE _ rfl,?_⟩;conv=>whnf
 refine ⟨_,rfl,?_⟩;conv=>whnf
 refine ⟨(some (aC (bt dw),cu),some (aC (bt jE),cu)),[1,3],rfl,⟨⟨fS,fT⟩,adD (Il (by decide)) (Il (by decide))⟩,?_⟩
 rw [show jr.ah (some (aC (bt dw),cu),some (aC (bt jE),cu))=[.flat false 4 6 gS,.flat false 3 6 gT] from by rw [wz,Kv]; rfl,NY.1,NY.2,← Bl,← eJ]
 conv=>whnf
 refine ⟨aH.aT (fun h=>by cases h) (fun r hr=>by rw [wz]; rfl),aH.aT (fun h=>by cases h) (fun r hr=>by rw [Kv]; rfl),?_⟩
 conv=>whnf
 refine ⟨_,rfl,?_⟩;conv=>whnf
 refine ⟨j5,[5],rfl,⟨by decide,by decide⟩,?_⟩
 rw [show il.ah j5=[.flat false 6 1 (nm j5)] from rfl,show il.val j5=.slice (some ⟨1,0,none⟩) 3 cu from by rw [eJ]; rfl,show il.new j5=some (.flat true 3 6 gU) from by rw [Kw]; rfl]
 conv=>whnf
 refine ⟨Cw j5 _ rfl,?_⟩;conv=>whnf
 refine ⟨_,rfl,?_⟩;conv=>whnf
 obtain ⟨sa,Bi⟩:∃ u,u=cc (iq (4,0)):=⟨_,rfl⟩;obtain ⟨sb,EY⟩:∃ u,u=cc (iq (4,4)):=⟨_,rfl⟩;refine ⟨(some (aC (bt dw),cu),some (aC (bt j5),cu)),[1,6],rfl,⟨fS,fU⟩,?_⟩;rw [show mN.ah (some (aC (bt dw),cu),some (aC (bt j5),cu))=[.flat false 4 6 gS,.flat false 3 6 gU] from by rw [wz,Kw]; rfl,YH Bi EY,show mN.new (some (aC (bt dw),cu),some (aC (bt j5),cu))=none from rfl]
 conv=>whnf
 refine ⟨aH.aT (fun h=>by cases h) (fun r hr=>by rw [wz]; rfl),aH.aT (fun h=>by cases h) (fun r hr=>by rw [Kw]; rfl),?_⟩
 conv=>whnf
 refine ⟨_,rfl,?_⟩;conv=>whnf
 obtain ⟨p1,cp1,ep1,pp1,sp1,qp1⟩:=xN (vB (-2) (1) (by decide) (by decide))
 refine ⟨(((-2:Int),(1:Int)):Int × Int),rfl,⟨⟨by decide,by decide⟩,⟨by decide,by decide⟩⟩,?_⟩
 rw [show rf.val (((-2:Int),(1:Int)):Int × Int)=p1.v from ep1]
 conv=>whnf
 obtain ⟨p2,cp2,ep2,pp2,sp2,qp2⟩:=xN (vB (6) (1) (by decide) (by decide))
 refine ⟨(((6:Int),(1:Int)):Int × Int),rfl,⟨⟨by decide,by decide⟩,⟨by decide,by decide⟩⟩,?_⟩
 rw [show rf.val (((6:Int),(1:Int)):Int × Int)=p2.v from ep2]
 conv=>whnf
 obtain ⟨lo,tZ,elo,plo,ub,Bj⟩:=xO (q:=1 / 4) (k:=1) ⟨gR (show _ < C ^ 1 by decide +kernel),gR (show _ < C ^ 1 by decide +kernel)⟩
 obtain ⟨hi,ua,ehi,dx,wx,Bk⟩:=xO (q:=3 / 4) (k:=1) ⟨gR (show _ < C ^ 1 by decide +kernel),gR (show _ < C ^ 1 by decide +kernel)⟩
 refine ⟨(some (aC (bt dw),cu),(p1,p2)),[1],rfl,⟨fS,PV.aO sp1 (by decide),PV.aO sp2 (by decide)⟩,?_⟩
 rw [show mC.ah (some (aC (bt dw),cu),(p1,p2))=[.flat false 4 6 gS] from by rw [wz]; rfl,YI cp1 cp2 tZ ua,show mC.new (some (aC (bt dw),cu),(p1,p2))=none from rfl]
 conv=>whnf
 refine ⟨aH.aT (fun h=>by cases h) (fun r hr=>by rw [wz]; rfl),?_⟩
 conv=>whnf
 refine ⟨_,rfl,?_⟩;conv=>whnf
 refine ⟨(1,4),rfl,⟨by show v8 1; decide,by show v8 4; decide⟩,?_⟩
 rw [show G7.val (1,4)=.tuple ⟨[lo.v,.int .i64 0]⟩ from by show lV 1 4=_; unfold lV; rw [show Rat.divInt 1 4=1 / 4 by decide +kernel,tZ]; rfl]
 conv=>whnf
 refine .inl ⟨36,[[],[0],[0,1],[0,1,2],[0,1,2,3],[0,1,2,3,4],[0,1,2,3,4,5],[0,1,2,3,4,5,6],[0,1,2,3,4,5,6,7],[0,1,2,3,4,5,6,7,8],[0,1,2,3,4,5,6,7,8,9],[0,1,2,3,4,5,6,7,8,9,10],[0,1,2,3,4,5,6,7,8,9,10],[0,1,2,3,4,5,6,7,8,9,10,12],[0,1,2,3,4,5,6,7,8,9,10,11,12,13],[0,1,2,3,4,5,6,7,8,9,10,11,12,13,14],[0,1,2,3,4,5,6,7,8,9,10,11,12,13,14,15],[0,1,2,3,4,5,6,7,8,9,10,11,12,13,14,15,16],[0,1,2,3,4,5,6,7,8,9,10,11,12,13,14,15,16],[0,1,2,3,4,5,6,7,8,9,10,11,12,13,14,15,16,18],[0,1,2,3,4,5,6,7,8,9,10,11,12,13,14,15,16,18,19],[0,1,2,3,4,5,6,7,8,9,10,11,12,13,14,15,16,17,18,19,20],[0,1,2,3,4,5,6,7,8,9,10,11,12,13,14,15,16,17,18,19,20,21],[0,1,2,3,4,5,6,7,8,9,10,11,12,13,14,15,16,17,18,19,20,21,22],[0,1,2,3,4,5,6,7,8,9,10,11,12,13,14,15,16,17,18,19,20,21,22,23],[0,1,2,3,4,5,6,7,8,9,10,11,12,13,14,15,16,17,18,19,20,21,22,23,24],[0,1,2,3,4,5,6,7,8,9,10,11,12,13,14,15,16,17,18,19,20,21,22,23,24,25],[0,1,2,3,4,5,6,7,8,9,10,11,12,13,14,15,16,17,18,19,20,21,22,23,24,25,26],[0,1,2,3,4,5,6,7,8,9,10,11,12,13,14,15,16,17,18,19,20,21,22,23,24,25,26],[0,1,2,3,4,5,6,7,8,9,10,11,12,13,14,15,16,17,18,19,20,21,22,23,24,25,26,27,28],[0,1,2,3,4,5,6,7,8,9,10,11,12,13,14,15,16,17,18,19,20,21,22,23,24,25,26,27,28,29],[0,1,2,3,4,5,6,7,8,9,10,11,12,13,14,15,16,17,18,19,20,21,22,23,24,25,26,27,28,29,30],[0,1,2,3,4,5,6,7,8,9,10,11,12,13,14,15,16,17,18,19,20,21,22,23,24,25,26,27,28,29,30,31],[0,1,2,3,4,5,6,7,8,9,10,11,12,13,14,15,16,17,18,19,20,21,22,23,24,25,26,27,28,29,30,31],[0,1,2,3,4,5,6,7,8,9,10,11,12,13,14,15,16,17,18,19,20,21,22,23,24,25,26,27,28,29,30,31],[0,1,2,3,4,5,6,7,8,9,10,11,12,13,14,15,16,17,18,19,20,21,22,23,24,25,26,27,28,29,30,31,33,34],[0,1,2,3,4,5,6,7,8,9,10,11,12,13,14,15,16,17,18,19,20,21,22,23,24,25,26,27,28,29,30,31,32,33,34,35],[0,1,2,3,4,5,6,7,8,9,10,11,12,13,14,15,16,17,18,19,20,21,22,23,24,25,26,27,28,29,30,31,32,33,34,35,36],[0,1,2,3,4,5,6,7,8,9,10,11,12,13,14,15,16,17,18,19,20,21,22,23,24,25,26,27,28,29,30,31,32,33,34,35,36,37]],by kernel_rfl,?_⟩
 conv=>whnf
 refine ⟨jF,[23],rfl,⟨by decide,by decide⟩,?_⟩
 rw [show il.ah jF=[.flat false 8 1 (nm jF)] from rfl,show il.val jF=.slice (some ⟨1,0,none⟩) 4 cu from by rw [eJ]; rfl,show il.new jF=some (.flat true 4 6 gM) from by rw [Bl]; rfl]
 conv=>whnf
 refine ⟨Cw jF _ rfl,?_⟩;conv=>whnf
 refine ⟨_,rfl,?_⟩;conv=>whnf
 refine ⟨(some (aC (bt jF),cu),some (aC (bt jF),cu)),[4,24],rfl,⟨by show 4≤1099511627776; decide,by show 4≤1099511627776; decide⟩,?_⟩
 rw [show fo.ah (some (aC (bt jF),cu),some (aC (bt jF),cu))=[.flat false 4 6 gM,.flat false 4 6 gM] from by rw [Bl]; rfl,show fo.val (some (aC (bt jF),cu),some (aC (bt jF),cu))=.bool true from congrArg Value.bool (decide_eq_true rfl),show fo.new (some (aC (bt jF),cu),some (aC (bt jF),cu))=none from rfl]
 conv=>whnf
 refine ⟨aH.aT (fun h=>by cases h) (fun r hr=>by rw [Bl]; rfl),aH.aT (fun h=>by cases h) (fun r hr=>by rw [Bl]; rfl),?_⟩
 conv=>whnf
 refine ⟨.bool true,rfl,?_⟩;conv=>whnf
 obtain ⟨q1,cq1,eq1,pq1,sq1,qq1⟩:=xN (vB (4) (0) (by decide) (by decide))
 refine ⟨(((4:Int),(0:Int)):Int × Int),rfl,⟨⟨by decide,by decide⟩,⟨by decide,by decide⟩⟩,?_⟩
 rw [show rf.val (((4:Int),(0:Int)):Int × Int)=q1.v from eq1]
 conv=>whnf
 obtain ⟨q2,cq2,eq2,pq2,sq2,qq2⟩:=xN (vB (4) (4) (by decide) (by decide))
 refine ⟨(((4:Int),(4:Int)):Int × Int),rfl,⟨⟨by decide,by decide⟩,⟨by decide,by decide⟩⟩,?_⟩
 rw [show rf.val (((4:Int),(4:Int)):Int × Int)=q2.v from eq2]
 conv=>whnf
 obtain rfl:sa=q1:=Bi.trans cq1.symm;obtain rfl:sb=q2:=EY.trans cq2.symm;rw [eqX (sa,sb)];conv=>whnf
 rw [RO lo];conv=>whnf
 obtain ⟨o,co,eo,po,so,qo⟩:=xO (q:=((1:Int):Rat)) (QB.of_int (n:=1) (k:=1) (gR (show Int.natAbs 1 < C ^ 1 by decide)) (by decide))
 refine ⟨(1:Int),rfl,⟨by decide,by decide⟩,?_⟩
 rw [show mL.val (1:Int)=o.v from eo]
 conv=>whnf
 refine ⟨(o,lo),rfl,⟨RV.bJ so (by decide),RV.bJ ub (by decide)⟩,?_⟩
 rw [show gW.val (o,lo)=hi.v from by show (RV.of (o.q - lo.q)).v=_; rw [po,plo,show ((1:Int):Rat) - 1 / 4=3 / 4 by decide +kernel,ua]]
 conv=>whnf
 show Value.bool (eL _ _)=Value.bool true
 exact congrArg Value.bool (RO hi)
open Go Go.Ae
def Ee1:Env:=En [(53,.q kK),(24,.q bd)]
theorem aey:EnvOk Tryz.prog Ee1:=bF ⟨U6,U5,trivial⟩ trivial
theorem XQ:di Tryz.prog 78 kN:=by
 refine dQ aey aN Tryz.func78 (enters_of Tryz.func78 (by kernel_rfl) rfl) ?_ ?_ ?_
 ·intro i b hb;cases i <;> simp [kN,PL.ah] at hb
  rw [hb]; rfl
 ·intro i b hb; simp [kN] at hb
 intro i hp;have hp:i.list.length≤9223372036854775807:=hp;have fin:∀ (z:Bool) n,z=lN i.list→∃ v',cR (List.range n) 3 (kN.val i)=some v'∧fj (.bool z) v':=fun z n h=>⟨.bool z,by rw [h]; rfl,.refl _⟩
 cases i with
 | none =>
  conv=>whnf
  refine ⟨none,[],rfl,hp,?_⟩;rw [show kK.ah none=[] from rfl,show kK.val none=.bool false from rfl,show kK.new none=none from rfl]
  conv=>whnf
  refine ⟨_,rfl,?_⟩;conv=>whnf
  refine ⟨none,[],rfl,⟨Nat.zero_le _,fun v hv=>nomatch hv⟩,?_⟩
  rw [show bd.ah none=[] from rfl,show bd.val none=.int .i64 4 from rfl,show bd.new none=none from rfl]
  conv=>whnf
  refine ⟨_,rfl,?_⟩;conv=>whnf
  exact fin true _ rfl
 | some i =>
  obtain ⟨A,c⟩:=i;have hp:A.length≤9223372036854775807:=hp;have fin:=fun z=>fin z 1
  have fin:∀ z:Bool,z=lN A→∃ v',cR (List.range 1) 3 (kN.val (some (A,c)))=some v'∧fj (.bool z) v':=fin;obtain ⟨n,hn⟩:∃ n,n=A.length:=⟨_,rfl⟩;obtain ⟨g,hg⟩:∃ g,g=cW A:=⟨_,rfl⟩;obtain ⟨G,hG⟩:∃ G,G=m9 A:=⟨_,rfl⟩;rw [show kN.ah (some (A,c))=[.flat false n 6 g] from by rw [hn,hg]; rfl,show kN.args (some (A,c))=[.slice (some ⟨0,0,none⟩) n c] from by rw [hn]; rfl]
  conv=>whnf
  refine ⟨some (A,c),[0],by rw [show kK.args (some (A,c))=[.slice (some ⟨0,0,none⟩) n c] from by rw [hn]; rfl]; rfl,hp,?_⟩
  rw [show kK.ah (some (A,c))=[.flat false n 6 g] from by rw [hn,hg]; rfl,show kK.val (some (A,c))=.bool G from by rw [hG]; rfl,show kK.new (some (A,c))=none from rfl]
  conv=>whnf
  refine ⟨aH.aT (fun h=>h) (fun r hr=>by rw [hg]; rfl),?_⟩
  conv=>whnf
  refine ⟨_,rfl,?_⟩;conv=>whnf
  cases G with
  | true =>
   conv=>whnf
   exact fin true (YK hG.symm).symm
  | false =>
   have hs:=M7 hG.symm;conv=>whnf
   by_cases J:10 < n
   ·rw [show decide ((n:Int) > 10)=true from decide_eq_true (by omega)]
    conv=>whnf
    exact fin true (Xp (by omega)).symm
   ·rw [show decide ((n:Int) > 10)=false from decide_eq_false (by omega)]
    conv=>whnf
    obtain ⟨e,he⟩:∃ z,z=bo A:=⟨_,rfl⟩;refine ⟨some (A,c),[0],by rw [show bd.args (some (A,c))=[.slice (some ⟨0,0,none⟩) n c] from by rw [hn]; rfl]; rfl,⟨by show A.length≤_; omega,I5 hs.2⟩,?_⟩
    rw [show bd.ah (some (A,c))=[.flat false n 6 g] from by rw [hn,hg]; rfl,show bd.val (some (A,c))=.int .i64 e from by rw [he]; rfl,show bd.new (some (A,c))=none from rfl]
    conv=>whnf
    refine ⟨aH.aT (fun h=>h) (fun r hr=>by rw [hg]; rfl),?_⟩
    conv=>whnf
    refine ⟨_,rfl,?_⟩;conv=>whnf
    by_cases h3:e=0
    ·rw [show (e != 0)=false from by simp [h3]]
     exact fin false (YL hG.symm (by omega) (by rw [← he]; exact h3)).symm
    ·rw [show (e != 0)=true from by simp [h3]]
     exact fin true (Xq (by rw [← he]; exact h3)).symm
def Ee2:Env:=En [(79,.p oc),(80,.p j8)]
theorem aez:EnvOk Tryz.prog Ee2:=bF ⟨PG,Nk,trivial⟩ trivial
theorem U8:bg Tryz.prog 26 yq:=by
 refine bk aez aN Tryz.func26 (enters_of Tryz.func26 (by kernel_rfl) rfl) (fun _=>rfl) (fun _=>rfl) ?_
 intro ((a,b):PV) _;have fin:∀ z:Bool,(z=true↔PV.sz 12 (a,b)∧PV.canon (a,b))→Value.bool z=yq.val (a,b):=fun z h=>congrArg Value.bool (by rw [Bool.eq_iff_iff,h,decide_eq_true_eq])
 conv=>whnf
 refine ⟨((a,b):PV),rfl,trivial,?_⟩;by_cases h1:PV.sz 12 (a,b)
 ·rw [show oc.val (a,b)=.bool false from congrArg Value.bool (decide_eq_false fun h=>h h1)]
  conv=>whnf
  obtain ⟨e,he⟩:∃ e:Int,e=if PV.canon (a,b) then 0 else 1:=⟨_,rfl⟩
  refine ⟨((a,b):PV),rfl,PV.aO h1 (by decide),?_⟩
  rw [show j8.val (a,b)=.int .i64 e from by rw [he]; rfl]
  conv=>whnf
  refine fin _ ?_;by_cases J:PV.canon (a,b)
  ·rw [he,if_pos J]; exact ⟨fun _=>⟨h1,J⟩,fun _=>rfl⟩
  ·rw [he,if_neg J]; exact ⟨(fun h=>nomatch h),fun h=>absurd h.2 J⟩
 ·rw [show oc.val (a,b)=.bool true from congrArg Value.bool (decide_eq_true h1)]
  conv=>whnf
  exact fin _ ⟨(fun h=>nomatch h),fun h=>absurd h.1 h1⟩
def Ee3:Env:=En [(19,.q kI)]
theorem aeA:EnvOk Tryz.prog Ee3:=bF ⟨V8,trivial⟩ trivial
theorem TG:di Tryz.prog 27 dL:=by
 refine dQ aeA aN Tryz.func27 (enters_of Tryz.func27 (by kernel_rfl) rfl) ?_ ?_ ?_
 ·intro ⟨i,_⟩ b hb;cases i <;> simp [dL,PL.ah] at hb
  rw [hb]; rfl
 ·intro i b hb; simp [dL] at hb
 intro ⟨i,p⟩ hp;have hp:i.fit∧p.sz 2048:=hp;obtain ⟨⟨a,e⟩,ha⟩:∃ x,x=ri i.list p:=⟨_,rfl⟩;have fin:∀ (z:Int) n,z=nv i.list p→∃ v',cR (List.range n) 3 (dL.val (i,p))=some v'∧fj (.int .i64 z) v':=fun z n h=>⟨.int .i64 z,by rw [h]; rfl,.refl _⟩
 have h5:e≠0→(5:Int)=nv i.list p:=fun h=>by unfold nv; rw [← ha]; exact (if_pos h).symm
 have h0:e=0→a=nv i.list p:=fun h=>by unfold nv; rw [← ha]; exact (if_neg (fun e=>e h)).symm
 have hv:kI.val (i,p)=.tuple ⟨[.int .i64 a,.int .i64 e]⟩:=by show ZE.v (ri i.list p)=_; rw [← ha]; rfl
 cases i with
 | none =>
  conv=>whnf
  refine ⟨(none,p),[],rfl,hp,?_⟩;rw [show kI.ah (none,p)=[] from rfl,hv,show kI.new (none,p)=none from rfl]
  conv=>whnf
  refine ⟨_,rfl,?_⟩;conv=>whnf
  by_cases h1:e=0
  ·rw [show (e != 0)=false from by simp [h1]]
   conv=>whnf
   exact fin a _ (h0 h1)
  ·rw [show (e != 0)=true from by simp [h1]]
   conv=>whnf
   exact fin 5 _ (h5 h1)
 | some i =>
  obtain ⟨A,c⟩:=i;obtain ⟨n,hn⟩:∃ n,n=A.length:=⟨_,rfl⟩;obtain ⟨g,hg⟩:∃ g,g=cW A:=⟨_,rfl⟩;rw [show dL.ah (some (A,c),p)=[.flat false n 6 g] from by rw [hn,hg]; rfl,show dL.args (some (A,c),p)=[.slice (some ⟨0,0,none⟩) n c,p.v] from by rw [hn]; rfl]
  conv=>whnf
  refine ⟨(some (A,c),p),[0],by rw [show kI.args (some (A,c),p)=[.slice (some ⟨0,0,none⟩) n c,p.v] from by rw [hn]; rfl]; rfl,hp,?_⟩
  rw [show kI.ah (some (A,c),p)=[.flat false n 6 g] from by rw [hn,hg]; rfl,hv,show kI.new (some (A,c),p)=none from rfl]
  conv=>whnf
  refine ⟨aH.aT (fun h=>h) (fun r hr=>by rw [hg]; rfl),?_⟩
  conv=>whnf
  refine ⟨_,rfl,?_⟩;conv=>whnf
  by_cases h1:e=0
  ·rw [show (e != 0)=false from by simp [h1]]
   conv=>whnf
   exact fin a _ (h0 h1)
  ·rw [show (e != 0)=true from by simp [h1]]
   conv=>whnf
   exact fin 5 _ (h5 h1)
open Go Go.Ae
def Kx:Env:=En [(78,.q kN)]
theorem aeB:EnvOk Tryz.prog Kx:=bF ⟨XQ,trivial⟩ trivial
theorem Wd:gj Tryz.prog 107 (b9 Kx cF Tryz.f107):=by
 exact js aeB aN Tryz.func107 (enters_of Tryz.func107 (by kernel_rfl) rfl)
def Ky:Env:=En [] [(107,b9 Kx cF Tryz.f107)]
theorem aeC:EnvOk Tryz.prog Ky:=bF trivial ⟨Wd,trivial⟩
theorem Tc:gj Tryz.prog 52 (b9 Ky cF Tryz.f52):=by
 exact js aeC aN Tryz.func52 (enters_of Tryz.func52 (by kernel_rfl) rfl)
def Kz:Env:=En [] [(52,b9 Ky cF Tryz.f52)]
theorem aeD:EnvOk Tryz.prog Kz:=bF trivial ⟨Tc,trivial⟩
theorem aaG:gj Tryz.prog 25 (b9 Kz cF Tryz.f25):=by
 exact js aeD aN Tryz.func25 (enters_of Tryz.func25 (by kernel_rfl) rfl)
end Go.Proofs.YtlapbjdhekcipaaGreat
