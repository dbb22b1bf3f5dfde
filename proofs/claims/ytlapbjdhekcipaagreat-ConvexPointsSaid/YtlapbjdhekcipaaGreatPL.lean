import Derived.Test.YtlapbjdhekcipaaGreatRows
import Derived.Test.YtlapbjdhekcipaaGreatPK
set_option linter.unusedVariables false
set_option linter.unusedSimpArgs false
/- The statement ConvexPoints. -/
namespace Go.Proofs.YtlapbjdhekcipaaGreat
open Go Go.Ae Go.ChangeShapes Go.WideShapes Go.ChangeAt Go.RowKit
theorem own:ownKnob Tryz.prog.godebug=none:=by kernel_rfl
theorem laidOut:laidOutB Tryz.prog=true:=by kernel_rfl
set_option maxRecDepth 100000 in
theorem adm:CF Tryz.prog 24 26 4 9 :=
 ⟨⟨_,_,_,Tryz.underlying24,⟨rfl,rfl⟩,⟨rfl,rfl⟩,rfl,rfl⟩,⟨_,_,Tryz.underlying26,⟨rfl,rfl⟩,rfl,rfl⟩,Tryz.underlying4,Tryz.underlying9,by kernel_rfl,by kernel_rfl,by kernel_rfl,by kernel_rfl⟩
def zP:Value:=.agg #[.bool false,.string ⟨#[]⟩,.string ⟨#[]⟩,.bool false,.string ⟨#[]⟩,.string ⟨#[]⟩]
set_option maxRecDepth 100000 in
theorem KZ {w:World} {r:Reach} {base:Nat} {v:Value} (h:Value.okWide Tryz.prog w r base 26 v):∃ p:PV,v=p.v :=
 WE Tryz.underlying26 (b:=4) (s:=9) (by kernel_rfl) (by kernel_rfl) Tryz.underlying4 Tryz.underlying9 h
set_option maxRecDepth 100000 in
set_option maxRecDepth 100000 in
theorem Qv (os:Os) (started:os.Started) (H:Type) (enc:TypeId × Value→H) :
  ReturnsInHanded {} Tryz.checked os 4 .any (Rows.convexPointsSpec.pre6 enc Tryz.prog Tryz.f4 Rows.convexPointsRow.domain false) (Rows.convexPointsSpec.post enc Tryz.prog Tryz.f4 false true false false):=by
 refine returnsInHanded_of_change_sized (C:=Tryz.checked) own started (by kernel_rfl) Tryz.func4
  (ChangeSpec.witness6 (enc:=enc) (C:=Tryz.checked) false ⟨#[],#[.slice none 0 0,zP,zP],[]⟩ 8 (by kernel_rfl) (by kernel_rfl) (by kernel_rfl) (by kernel_rfl)) ?_
 intro W base args ds gs before Om hW adF oH _
 have xd:∀ (j:Nat) t v,Tryz.f4.params[j]?=some t→args[j]?=some v→Value.okWide Tryz.prog W .any base t v:=Om
 have hW':=hW
 obtain ⟨p,q,xq,hV,rfl,Is,jH⟩:=hW
 have hA:DataW.TrodAll enc Tryz.prog W 0 (fun _=>true) true Tryz.f4.params.toList args.toList ds p:=xq
 have hz:(DataW.weightsEach Tryz.prog (Tryz.f4.params.toList++Rows.convexPointsSpec.plain.varTypes Tryz.prog) (ds++gs)).all (·≤reachBytes)=true:=oH
 rw [Tryz.params4] at hA xd hz
 obtain ⟨v0,vs0,d0,ds0,p0,q0,nr,rfl,rfl,h0,r0⟩:=trodAll_cons hA
 obtain ⟨v1,vs1,d1,ds1,p1,q1,rfl,rfl,rfl,h1,r1⟩:=trodAll_cons r0
 obtain ⟨v2,vs2,d2,ds2,p2,q2,rfl,rfl,rfl,J,r2⟩:=trodAll_cons r1
 obtain ⟨rfl,rfl,rfl⟩:=trodAll_nil r2
 obtain rfl:args=#[v0,v1,v2]:=by cases args; simp_all
 obtain ⟨rfl,rfl⟩:=trodVars_none hV
 obtain ⟨a0,bh,i0,z0,hv0,IA,adn⟩:=Q9 adm Tryz.underlying22 (xd 0 22 v0 rfl rfl) h0
 have z0:=z0 80 reachBytes (fun elems spare e=>sized_slice (e:=26) hz (j:=0) (t:=22) rfl (by rw [e]; rfl) Tryz.underlying22)
 obtain ⟨a1,rfl⟩:=KZ (xd 1 26 v1 rfl rfl)
 obtain ⟨a2,rfl⟩:=KZ (xd 2 26 v2 rfl rfl)
 have lt0:∀ x∈p0,x.block < W.heap.size:=by obtain ⟨m,hm⟩:=h0; exact DataW.trod_lt m _ _ _ hm
 have lt1:∀ x∈p1,x.block < W.heap.size:=by obtain ⟨m,hm⟩:=h1; exact DataW.trod_lt m _ _ _ hm
 have lt2:∀ x∈p2,x.block < W.heap.size:=by obtain ⟨m,hm⟩:=J; exact DataW.trod_lt m _ _ _ hm
 clear xq Om
 have aaK:bc bh (pk.args (((a0,(a1,a2)):PL × nf))) [v0,a1.v,a2.v]:=.cons hv0 (.cons ((xC (v:=PV.v a1) rfl).1 bh) (.cons ((xC (v:=PV.v a2) rfl).1 bh) (.nil bh)))
 refine (QO Ub (i:=((a0,(a1,a2)):PL × nf)) (z0) aaK IA adn (b:=true) rfl).mono fun e W' ⟨he,Dl⟩=>?_
 subst he
 exact ⟨_,rfl,_,_,_,[],_,[],hW',trodAll_mk1 (shut_bool Tryz.underlying4 _),(trodAll_cons_mk (Below.trod laidOut (by kernel_rfl) (of_decide_eq_true (by kernel_rfl)) h0 Dl lt0) (trodAll_cons_mk (Below.trod laidOut (by kernel_rfl) (of_decide_eq_true (by kernel_rfl)) h1 Dl lt1) (trodAll_cons_mk (Below.trod laidOut (by kernel_rfl) (of_decide_eq_true (by kernel_rfl)) J Dl lt2) trodAll_mk0))),rfl,Dl.frame _,fun h=>by cases h⟩
theorem Qw:Rows.convexPointsRow.holds Tryz.pinned (OpenSpec.ofChange Rows.convexPointsSpec) :=
 OpenClaim.holds_of_wide 4 Tryz.f4 rfl rfl rfl rfl rfl rfl rfl ⟨rfl,rfl,rfl,rfl,rfl⟩ rfl rfl rfl rfl rfl (by kernel_rfl) Tryz.func4 (by kernel_rfl)
  (of_decide_eq_true (by kernel_rfl)) (by unfold Func.isWrapper; first | (rw [if_pos (by decide +kernel)]; kernel_rfl) | (rw [if_neg (by decide +kernel)]; exact ⟨rfl,rfl⟩))
  (fun os started H enc _=>Qv os started H enc)
theorem convexPoints_proved:Rows.ConvexPointsSaid:=Qw
end Go.Proofs.YtlapbjdhekcipaaGreat
