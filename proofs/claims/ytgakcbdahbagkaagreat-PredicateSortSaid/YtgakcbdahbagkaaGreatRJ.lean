import Derived.Test.YtgakcbdahbagkaaGreatRows
import Derived.Test.YtgakcbdahbagkaaGreatRI
/- The example of the chapter on predicates. -/
set_option linter.unusedVariables false
set_option linter.unusedSimpArgs false
set_option maxRecDepth 20000
set_option maxHeartbeats 4000000
namespace Go.Proofs.YtgakcbdahbagkaaGreat
open Go Go.Ae

def Epj : Env := { tt := tt, eqs := eqsL, Φ := fun g => match g with
  | 26 => some (.p vofS)
  | 8 => some (.p centerS)
  | 10 => some (.p orientS)
  | 14 => some (.p betweenS)
  | 12 => some (.p incircleS)
  | 21 => some (.p wedgeS)
  | 16 => some (.q predSortS)
  | 18 => some (.q sameS)
  | _ => none }
theorem Epjok : EnvOk Tryz.prog Epj := ⟨tt_ok, eqs_ok, (fun g S h => by
  simp only [Epj] at h
  split at h
  · cases h; exact vof_ok
  · cases h; exact center_ok
  · cases h; exact orient_ok
  · cases h; exact between_ok
  · cases h; exact incircle_ok
  · cases h; exact wedge_ok
  · cases h; exact predSort_ok
  · cases h; exact same_ok
  · cases h), fun g F h => by simp [Epj] at h⟩
theorem awake7_ok : Snd Tryz.prog 7 awakeS := by
  refine snd_of Epjok Dok Tryz.func7 (enters_of Tryz.func7 (by kernel_rfl) rfl) (fun _ => rfl) (fun _ => rfl) ?_
  intro _ hp
  conv => whnf
  obtain ⟨o, co, eo, po, so, qo⟩ := hidePc (ofsz (0) (0) (by decide) (by decide))
  refine ⟨(((0 : Int), (0 : Int)) : Int × Int), rfl, ⟨⟨by decide, by decide⟩, ⟨by decide, by decide⟩⟩, ?_⟩
  rw [show vofS.val (((0 : Int), (0 : Int)) : Int × Int) = o.v from eo]
  conv => whnf
  obtain ⟨a, ca, ea, pa, sa, qa⟩ := hidePc (ofsz (2) (0) (by decide) (by decide))
  refine ⟨(((2 : Int), (0 : Int)) : Int × Int), rfl, ⟨⟨by decide, by decide⟩, ⟨by decide, by decide⟩⟩, ?_⟩
  rw [show vofS.val (((2 : Int), (0 : Int)) : Int × Int) = a.v from ea]
  conv => whnf
  obtain ⟨b, cb, eb, pb, sb, qb⟩ := hidePc (ofsz (0) (2) (by decide) (by decide))
  refine ⟨(((0 : Int), (2 : Int)) : Int × Int), rfl, ⟨⟨by decide, by decide⟩, ⟨by decide, by decide⟩⟩, ?_⟩
  rw [show vofS.val (((0 : Int), (2 : Int)) : Int × Int) = b.v from eb]
  conv => whnf
  obtain ⟨c, cc, ec, pc, sc, qc⟩ := hidePc (ofsz 1 1 (by decide) (by decide))
  have hc : cenV o.p a.p b.p = (ptV (((1 : Int) : Rat), ((1 : Int) : Rat)), 0) := by
    rw [po, pa, pb]
    unfold cenV
    rw [if_neg (by decide +kernel)]
    congr 2
    decide +kernel
  refine ⟨(o, a, b), rfl, ⟨PV.sz_mono so (by decide), PV.sz_mono sa (by decide), PV.sz_mono sb (by decide)⟩, ?_⟩
  rw [show centerS.val (o, a, b) = .tuple ⟨[c.v, .int .i64 0]⟩ from by
    show Value.tuple ⟨[(cenV o.p a.p b.p).1.v, .int .i64 (cenV o.p a.p b.p).2]⟩ = _
    rw [hc, ← ec]]
  conv => whnf
  refine .inl ⟨23, [[], [], [], [0, 1, 2], [0, 1, 2, 3], [0, 1, 2, 3, 4], [0, 1, 2, 3, 4, 5], [0, 1, 2, 3, 4, 5], [0, 1, 2, 3, 4, 5], [0, 1, 2, 3, 4, 5, 6, 7, 8], [0, 1, 2, 3, 4, 5, 6, 7, 8, 9], [0, 1, 2, 3, 4, 5, 6, 7, 8, 9, 10], [0, 1, 2, 3, 4, 5, 6, 7, 8, 9, 10, 11], [0, 1, 2, 3, 4, 5, 6, 7, 8, 9, 10, 11, 12], [0, 1, 2, 3, 4, 5, 6, 7, 8, 9, 10, 11, 12, 13], [0, 1, 2, 3, 4, 5, 6, 7, 8, 9, 10, 11, 12, 13, 14], [0, 1, 2, 3, 4, 5, 6, 7, 8, 9, 10, 11, 12, 13, 14, 15], [0, 1, 2, 3, 4, 5, 6, 7, 8, 9, 10, 11, 12, 13, 14, 15], [0, 1, 2, 3, 4, 5, 6, 7, 8, 9, 10, 11, 12, 13, 14, 15, 16, 17], [0, 1, 2, 3, 4, 5, 6, 7, 8, 9, 10, 11, 12, 13, 14, 15, 16, 17, 18], [0, 1, 2, 3, 4, 5, 6, 7, 8, 9, 10, 11, 12, 13, 14, 15, 16, 17, 18, 19], [0, 1, 2, 3, 4, 5, 6, 7, 8, 9, 10, 11, 12, 13, 14, 15, 16, 17, 18, 19, 20], [0, 1, 2, 3, 4, 5, 6, 7, 8, 9, 10, 11, 12, 13, 14, 15, 16, 17, 18, 19, 20], [0, 1, 2, 3, 4, 5, 6, 7, 8, 9, 10, 11, 12, 13, 14, 15, 16, 17, 18, 19, 20, 21, 22], [0, 1, 2, 3, 4, 5, 6, 7, 8, 9, 10, 11, 12, 13, 14, 15, 16, 17, 18, 19, 20, 21, 22, 23], [0, 1, 2, 3, 4, 5, 6, 7, 8, 9, 10, 11, 12, 13, 14, 15, 16, 17, 18, 19, 20, 21, 22, 23, 24]], by kernel_rfl, ?_⟩
  conv => whnf
  refine ⟨(o, a, b), rfl, ⟨PV.sz_mono so (by decide), PV.sz_mono sa (by decide), PV.sz_mono sb (by decide)⟩, ?_⟩
  rw [show orientS.val (o, a, b) = .int .i64 (1) from congrArg (Value.int .i64) (show cmpQ (orR o.p a.p b.p) 0 = 1 from by rw [po, pa, pb]; decide +kernel)]
  conv => whnf
  obtain ⟨u, cu, eu, pu, su, qu⟩ := hidePc (ofsz (1) (1) (by decide) (by decide))
  refine ⟨(((1 : Int), (1 : Int)) : Int × Int), rfl, ⟨⟨by decide, by decide⟩, ⟨by decide, by decide⟩⟩, ?_⟩
  rw [show vofS.val (((1 : Int), (1 : Int)) : Int × Int) = u.v from eu]
  conv => whnf
  refine ⟨(a, b, u), rfl, ⟨PV.sz_mono sa (by decide), PV.sz_mono sb (by decide), PV.sz_mono su (by decide)⟩, ?_⟩
  rw [show betweenS.val (a, b, u) = .bool (true) from congrArg (Value.bool) (show decide (betR a.p b.p u.p) = true from by rw [pa, pb, pu]; decide +kernel)]
  conv => whnf
  obtain ⟨w, cw, ew, pw, sw, qw⟩ := hidePc (ofsz (1) (1) (by decide) (by decide))
  refine ⟨(((1 : Int), (1 : Int)) : Int × Int), rfl, ⟨⟨by decide, by decide⟩, ⟨by decide, by decide⟩⟩, ?_⟩
  rw [show vofS.val (((1 : Int), (1 : Int)) : Int × Int) = w.v from ew]
  conv => whnf
  rw [eqPQ c w, show decide (c = w) = true from decide_eq_true (cc.trans cw.symm)]
  conv => whnf
  rw [eqPQ c o, show decide (c = o) = false from decide_eq_false (fun h => by
    have := congrArg PV.p h
    rw [pc, po] at this
    exact absurd this (by decide +kernel))]
  conv => whnf
  refine .inl ⟨22, [[], [0], [0, 1], [0, 1], [0, 1], [0, 1], [0, 1, 2, 3, 4, 5], [0, 1, 2, 3, 4, 5, 6], [0, 1, 2, 3, 4, 5, 6, 7], [0, 1, 2, 3, 4, 5, 6, 7, 8], [0, 1, 2, 3, 4, 5, 6, 7, 8, 9], [0, 1, 2, 3, 4, 5, 6, 7, 8, 9], [0, 1, 2, 3, 4, 5, 6, 7, 8, 9], [0, 1, 2, 3, 4, 5, 6, 7, 8, 9], [0, 1, 2, 3, 4, 5, 6, 7, 8, 9, 10, 11, 12, 13], [0, 1, 2, 3, 4, 5, 6, 7, 8, 9, 10, 11, 12, 13, 14], [0, 1, 2, 3, 4, 5, 6, 7, 8, 9, 10, 11, 12, 13, 14, 15], [0, 1, 2, 3, 4, 5, 6, 7, 8, 9, 10, 11, 12, 13, 14, 15, 16], [0, 1, 2, 3, 4, 5, 6, 7, 8, 9, 10, 11, 12, 13, 14, 15, 16, 17], [0, 1, 2, 3, 4, 5, 6, 7, 8, 9, 10, 11, 12, 13, 14, 15, 16, 17], [0, 1, 2, 3, 4, 5, 6, 7, 8, 9, 10, 11, 12, 13, 14, 15, 16, 17], [0, 1, 2, 3, 4, 5, 6, 7, 8, 9, 10, 11, 12, 13, 14, 15, 16, 17], [0, 1, 2, 3, 4, 5, 6, 7, 8, 9, 10, 11, 12, 13, 14, 15, 16, 17, 18, 19, 20, 21], [0, 1, 2, 3, 4, 5, 6, 7, 8, 9, 10, 11, 12, 13, 14, 15, 16, 17, 18, 19, 20, 21, 22], [0, 1, 2, 3, 4, 5, 6, 7, 8, 9, 10, 11, 12, 13, 14, 15, 16, 17, 18, 19, 20, 21, 22, 23], [0, 1, 2, 3, 4, 5, 6, 7, 8, 9, 10, 11, 12, 13, 14, 15, 16, 17, 18, 19, 20, 21, 22, 23, 24]], by kernel_rfl, ?_⟩
  conv => whnf
  obtain ⟨v2, cv2, ev2, pv2, sv2, qv2⟩ := hidePc (ofsz (2) (2) (by decide) (by decide))
  refine ⟨(((2 : Int), (2 : Int)) : Int × Int), rfl, ⟨⟨by decide, by decide⟩, ⟨by decide, by decide⟩⟩, ?_⟩
  rw [show vofS.val (((2 : Int), (2 : Int)) : Int × Int) = v2.v from ev2]
  conv => whnf
  refine ⟨(o, a, b, v2), rfl, ⟨PV.sz_mono so (by decide), PV.sz_mono sa (by decide), PV.sz_mono sb (by decide), PV.sz_mono sv2 (by decide)⟩, ?_⟩
  rw [show incircleS.val (o, a, b, v2) = .int .i64 (0) from congrArg (Value.int .i64) (show cmpQ (icR o.p a.p b.p v2.p) 0 = 0 from by rw [po, pa, pb, pv2]; decide +kernel)]
  conv => whnf
  obtain ⟨v3, cv3, ev3, pv3, sv3, qv3⟩ := hidePc (ofsz (3) (3) (by decide) (by decide))
  refine ⟨(((3 : Int), (3 : Int)) : Int × Int), rfl, ⟨⟨by decide, by decide⟩, ⟨by decide, by decide⟩⟩, ?_⟩
  rw [show vofS.val (((3 : Int), (3 : Int)) : Int × Int) = v3.v from ev3]
  conv => whnf
  refine ⟨(o, a, b, v3), rfl, ⟨PV.sz_mono so (by decide), PV.sz_mono sa (by decide), PV.sz_mono sb (by decide), PV.sz_mono sv3 (by decide)⟩, ?_⟩
  rw [show incircleS.val (o, a, b, v3) = .int .i64 ((-1)) from congrArg (Value.int .i64) (show cmpQ (icR o.p a.p b.p v3.p) 0 = (-1) from by rw [po, pa, pb, pv3]; decide +kernel)]
  conv => whnf
  refine ⟨(o, a, b, c), rfl, ⟨PV.sz_mono so (by decide), PV.sz_mono sa (by decide), PV.sz_mono sb (by decide), PV.sz_mono sc (by decide)⟩, ?_⟩
  rw [show incircleS.val (o, a, b, c) = .int .i64 (1) from congrArg (Value.int .i64) (show cmpQ (icR o.p a.p b.p c.p) 0 = 1 from by rw [po, pa, pb, pc]; decide +kernel)]
  conv => whnf
  obtain ⟨p1, cp1, ep1, pp1, sp1, qp1⟩ := hidePc (ofsz (0) (-1) (by decide) (by decide))
  refine ⟨(((0 : Int), (-1 : Int)) : Int × Int), rfl, ⟨⟨by decide, by decide⟩, ⟨by decide, by decide⟩⟩, ?_⟩
  rw [show vofS.val (((0 : Int), (-1 : Int)) : Int × Int) = p1.v from ep1]
  conv => whnf
  obtain ⟨p2, cp2, ep2, pp2, sp2, qp2⟩ := hidePc (ofsz (-1) (0) (by decide) (by decide))
  refine ⟨(((-1 : Int), (0 : Int)) : Int × Int), rfl, ⟨⟨by decide, by decide⟩, ⟨by decide, by decide⟩⟩, ?_⟩
  rw [show vofS.val (((-1 : Int), (0 : Int)) : Int × Int) = p2.v from ep2]
  conv => whnf
  obtain ⟨p3, cp3, ep3, pp3, sp3, qp3⟩ := hidePc (ofsz (0) (5) (by decide) (by decide))
  refine ⟨(((0 : Int), (5 : Int)) : Int × Int), rfl, ⟨⟨by decide, by decide⟩, ⟨by decide, by decide⟩⟩, ?_⟩
  rw [show vofS.val (((0 : Int), (5 : Int)) : Int × Int) = p3.v from ep3]
  conv => whnf
  obtain ⟨p4, cp4, ep4, pp4, sp4, qp4⟩ := hidePc (ofsz (1) (0) (by decide) (by decide))
  refine ⟨(((1 : Int), (0 : Int)) : Int × Int), rfl, ⟨⟨by decide, by decide⟩, ⟨by decide, by decide⟩⟩, ?_⟩
  rw [show vofS.val (((1 : Int), (0 : Int)) : Int × Int) = p4.v from ep4]
  conv => whnf
  obtain ⟨p5, cp5, ep5, pp5, sp5, qp5⟩ := hidePc (ofsz (1) (1) (by decide) (by decide))
  refine ⟨(((1 : Int), (1 : Int)) : Int × Int), rfl, ⟨⟨by decide, by decide⟩, ⟨by decide, by decide⟩⟩, ?_⟩
  rw [show vofS.val (((1 : Int), (1 : Int)) : Int × Int) = p5.v from ep5]
  conv => whnf
  have hS : sortR [p1, p2, p3, p4, p5] = [p4, p5, p3, p2, p1] := by
    unfold sortR
    have hcan : List.map canonP [p1, p2, p3, p4, p5] = [p1, p2, p3, p4, p5] := by
      show [ptV p1.p, ptV p2.p, ptV p3.p, ptV p4.p, ptV p5.p] = _
      rw [pp1, pp2, pp3, pp4, pp5, ← cp1, ← cp2, ← cp3, ← cp4, ← cp5]
    rw [hcan]
    have e : ∀ (x y : PV) (q r : Q2), x.p = q → y.p = r → cmpV x y = cmp2 q r := fun x y q r h1 h2 => by rw [← h1, ← h2]; rfl
    have c12 : cmpV p2 p1 < 0 := by rw [e _ _ _ _ pp2 pp1]; decide +kernel
    have c31 : cmpV p3 p1 < 0 := by rw [e _ _ _ _ pp3 pp1]; decide +kernel
    have c32 : cmpV p3 p2 < 0 := by rw [e _ _ _ _ pp3 pp2]; decide +kernel
    have c41 : cmpV p4 p1 < 0 := by rw [e _ _ _ _ pp4 pp1]; decide +kernel
    have c42 : cmpV p4 p2 < 0 := by rw [e _ _ _ _ pp4 pp2]; decide +kernel
    have c43 : cmpV p4 p3 < 0 := by rw [e _ _ _ _ pp4 pp3]; decide +kernel
    have c51 : cmpV p5 p1 < 0 := by rw [e _ _ _ _ pp5 pp1]; decide +kernel
    have c52 : cmpV p5 p2 < 0 := by rw [e _ _ _ _ pp5 pp2]; decide +kernel
    have c53 : cmpV p5 p3 < 0 := by rw [e _ _ _ _ pp5 pp3]; decide +kernel
    have c54 : ¬ cmpV p5 p4 < 0 := by rw [e _ _ _ _ pp5 pp4]; decide +kernel
    simp [sortL, srtB, insB, c12, c31, c32, c41, c42, c43, c51, c52, c53, c54]
  obtain ⟨cu, hcu⟩ : ∃ cu, cu = capU := ⟨_, rfl⟩
  obtain ⟨gs, hgs⟩ : ∃ g, g = rowsP [p4, p5, p3, p2, p1] := ⟨_, rfl⟩
  refine ⟨some ([p1, p2, p3, p4, p5], 5), [_], rfl, ⟨.inl (by show 5 ≤ 12; decide), by show 5 ≤ 1099511627776; decide, fun p hp => ?_⟩, ?_⟩
  · have hp : p ∈ [p1, p2, p3, p4, p5] := hp
    simp only [List.mem_cons, List.mem_nil_iff, or_false] at hp
    rcases hp with rfl | rfl | rfl | rfl | rfl
    · exact PV.sz_mono sp1 (by decide)
    · exact PV.sz_mono sp2 (by decide)
    · exact PV.sz_mono sp3 (by decide)
    · exact PV.sz_mono sp4 (by decide)
    · exact PV.sz_mono sp5 (by decide)
  rw [show predSortS.blks (some ([p1, p2, p3, p4, p5], 5)) = [.flat false 5 6 (rowsP [p1, p2, p3, p4, p5])] from rfl, show predSortS.val (some ([p1, p2, p3, p4, p5], 5)) = .tuple ⟨[.slice (some ⟨1, 0, none⟩) 5 cu, .int .i64 0]⟩ from by rw [hcu]; rfl, show predSortS.new (some ([p1, p2, p3, p4, p5], 5)) = some (.flat true 5 6 gs) from by
    rw [hgs, ← hS]; rfl]
  conv => whnf
  refine ⟨lit_blk [p1, p2, p3, p4, p5], ?_⟩
  conv => whnf
  refine ⟨_, rfl, ?_⟩
  conv => whnf
  obtain ⟨x, cx, ex, px, sx, qx⟩ := hidePc (ofsz (1) (0) (by decide) (by decide))
  refine ⟨(((1 : Int), (0 : Int)) : Int × Int), rfl, ⟨⟨by decide, by decide⟩, ⟨by decide, by decide⟩⟩, ?_⟩
  rw [show vofS.val (((1 : Int), (0 : Int)) : Int × Int) = x.v from ex]
  conv => whnf
  obtain ⟨y, cy, ey, py, sy, qy⟩ := hidePc (ofsz (0) (1) (by decide) (by decide))
  refine ⟨(((0 : Int), (1 : Int)) : Int × Int), rfl, ⟨⟨by decide, by decide⟩, ⟨by decide, by decide⟩⟩, ?_⟩
  rw [show vofS.val (((0 : Int), (1 : Int)) : Int × Int) = y.v from ey]
  conv => whnf
  refine .inl ⟨18, [[], [0], [0, 1], [0, 1], [0, 1], [0, 1, 2, 3, 4], [0, 1, 2, 3, 4, 5], [0, 1, 2, 3, 4, 5, 6], [0, 1, 2, 3, 4, 5, 6, 7], [0, 1, 2, 3, 4, 5, 6, 7], [0, 1, 2, 3, 4, 5, 6, 7], [0, 1, 2, 3, 4, 5, 6, 7, 8, 9, 10], [0, 1, 2, 3, 4, 5, 6, 7, 8, 9, 10, 11], [0, 1, 2, 3, 4, 5, 6, 7, 8, 9, 10, 11, 12], [0, 1, 2, 3, 4, 5, 6, 7, 8, 9, 10, 11, 12, 13], [0, 1, 2, 3, 4, 5, 6, 7, 8, 9, 10, 11, 12, 13, 14], [0, 1, 2, 3, 4, 5, 6, 7, 8, 9, 10, 11, 12, 13, 14], [0, 1, 2, 3, 4, 5, 6, 7, 8, 9, 10, 11, 12, 13, 14], [0, 1, 2, 3, 4, 5, 6, 7, 8, 9, 10, 11, 12, 13, 14, 15, 16, 17], [0, 1, 2, 3, 4, 5, 6, 7, 8, 9, 10, 11, 12, 13, 14, 15, 16, 17, 18], [0, 1, 2, 3, 4, 5, 6, 7, 8, 9, 10, 11, 12, 13, 14, 15, 16, 17, 18, 19]], by kernel_rfl, ?_⟩
  conv => whnf
  obtain ⟨u1, cu1, eu1, pu1, su1, qu1⟩ := hidePc (ofsz (1) (1) (by decide) (by decide))
  refine ⟨(((1 : Int), (1 : Int)) : Int × Int), rfl, ⟨⟨by decide, by decide⟩, ⟨by decide, by decide⟩⟩, ?_⟩
  rw [show vofS.val (((1 : Int), (1 : Int)) : Int × Int) = u1.v from eu1]
  conv => whnf
  refine ⟨(x, y, u1), rfl, ⟨PV.sz_mono sx (by decide), PV.sz_mono sy (by decide), PV.sz_mono su1 (by decide)⟩, ?_⟩
  rw [show wedgeS.val (x, y, u1) = .bool (true) from congrArg (Value.bool) (show decide (wedR x.p y.p u1.p) = true from by rw [px, py, pu1]; decide +kernel)]
  conv => whnf
  obtain ⟨u2, cu2, eu2, pu2, su2, qu2⟩ := hidePc (ofsz (1) (1) (by decide) (by decide))
  refine ⟨(((1 : Int), (1 : Int)) : Int × Int), rfl, ⟨⟨by decide, by decide⟩, ⟨by decide, by decide⟩⟩, ?_⟩
  rw [show vofS.val (((1 : Int), (1 : Int)) : Int × Int) = u2.v from eu2]
  conv => whnf
  refine ⟨(y, x, u2), rfl, ⟨PV.sz_mono sy (by decide), PV.sz_mono sx (by decide), PV.sz_mono su2 (by decide)⟩, ?_⟩
  rw [show wedgeS.val (y, x, u2) = .bool (false) from congrArg (Value.bool) (show decide (wedR y.p x.p u2.p) = false from by rw [px, py, pu2]; decide +kernel)]
  conv => whnf
  obtain ⟨u3, cu3, eu3, pu3, su3, qu3⟩ := hidePc (ofsz (-1) (-1) (by decide) (by decide))
  refine ⟨(((-1 : Int), (-1 : Int)) : Int × Int), rfl, ⟨⟨by decide, by decide⟩, ⟨by decide, by decide⟩⟩, ?_⟩
  rw [show vofS.val (((-1 : Int), (-1 : Int)) : Int × Int) = u3.v from eu3]
  conv => whnf
  refine ⟨(y, x, u3), rfl, ⟨PV.sz_mono sy (by decide), PV.sz_mono sx (by decide), PV.sz_mono su3 (by decide)⟩, ?_⟩
  rw [show wedgeS.val (y, x, u3) = .bool (true) from congrArg (Value.bool) (show decide (wedR y.p x.p u3.p) = true from by rw [px, py, pu3]; decide +kernel)]
  conv => whnf
  refine .inl ⟨13, [[], [0], [0, 1], [0, 1, 2], [0, 1, 2, 3], [0, 1, 2, 3, 4], [0, 1, 2, 3, 4, 5], [0, 1, 2, 3, 4, 5], [0, 1, 2, 3, 4, 5], [0, 1, 2, 3, 4, 5, 8], [0, 1, 2, 3, 4, 5, 8, 9], [0, 1, 2, 3, 4, 5, 8, 9, 10], [0, 1, 2, 3, 4, 5, 7, 8, 9, 10, 11], [0, 1, 2, 3, 4, 5, 6, 7, 8, 9, 10, 11, 12], [0, 1, 2, 3, 4, 5, 6, 7, 8, 9, 10, 11, 12, 13], [0, 1, 2, 3, 4, 5, 6, 7, 8, 9, 10, 11, 12, 13, 14]], by kernel_rfl, ?_⟩
  conv => whnf
  obtain ⟨r1, cr1, er1, pr1, sr1, qr1⟩ := hidePc (ofsz (1) (1) (by decide) (by decide))
  refine ⟨(((1 : Int), (1 : Int)) : Int × Int), rfl, ⟨⟨by decide, by decide⟩, ⟨by decide, by decide⟩⟩, ?_⟩
  rw [show vofS.val (((1 : Int), (1 : Int)) : Int × Int) = r1.v from er1]
  conv => whnf
  obtain ⟨r2, cr2, er2, pr2, sr2, qr2⟩ := hidePc (ofsz (0) (5) (by decide) (by decide))
  refine ⟨(((0 : Int), (5 : Int)) : Int × Int), rfl, ⟨⟨by decide, by decide⟩, ⟨by decide, by decide⟩⟩, ?_⟩
  rw [show vofS.val (((0 : Int), (5 : Int)) : Int × Int) = r2.v from er2]
  conv => whnf
  obtain ⟨r3, cr3, er3, pr3, sr3, qr3⟩ := hidePc (ofsz (-1) (0) (by decide) (by decide))
  refine ⟨(((-1 : Int), (0 : Int)) : Int × Int), rfl, ⟨⟨by decide, by decide⟩, ⟨by decide, by decide⟩⟩, ?_⟩
  rw [show vofS.val (((-1 : Int), (0 : Int)) : Int × Int) = r3.v from er3]
  conv => whnf
  obtain ⟨r4, cr4, er4, pr4, sr4, qr4⟩ := hidePc (ofsz (0) (-1) (by decide) (by decide))
  refine ⟨(((0 : Int), (-1 : Int)) : Int × Int), rfl, ⟨⟨by decide, by decide⟩, ⟨by decide, by decide⟩⟩, ?_⟩
  rw [show vofS.val (((0 : Int), (-1 : Int)) : Int × Int) = r4.v from er4]
  conv => whnf
  have hL : [p4, p5, p3, p2, p1] = [x, r1, r2, r3, r4] := by rw [cp1, cp2, cp3, cp4, cp5, cx, cr1, cr2, cr3, cr4]
  refine ⟨(some ([p4, p5, p3, p2, p1], cu), some ([x, r1, r2, r3, r4], 5)), [_, _], rfl, ⟨by show 5 ≤ 1099511627776; decide, by show 5 ≤ 1099511627776; decide⟩, ?_⟩
  rw [show sameS.blks (some ([p4, p5, p3, p2, p1], cu), some ([x, r1, r2, r3, r4], 5)) = [.flat false 5 6 (rowsP [p4, p5, p3, p2, p1]), .flat false 5 6 (rowsP [x, r1, r2, r3, r4])] from rfl, show sameS.val (some ([p4, p5, p3, p2, p1], cu), some ([x, r1, r2, r3, r4], 5)) = .bool true from congrArg Value.bool (decide_eq_true hL), show sameS.new (some ([p4, p5, p3, p2, p1], cu), some ([x, r1, r2, r3, r4], 5)) = none from rfl]
  conv => whnf
  refine ⟨BlkLe.flat_rows (fun h => by cases h) (fun r hr => by rw [hgs]) (fun r hr => rfl), lit_blk [x, r1, r2, r3, r4], ?_⟩
  conv => whnf
  refine ⟨.bool true, rfl, ?_⟩
  conv => whnf
  rfl
end Go.Proofs.YtgakcbdahbagkaaGreat
/- Contracts of the reference rationals: signs, quotients. -/
set_option linter.unusedVariables false
set_option linter.unusedSimpArgs false
set_option maxRecDepth 20000
set_option maxHeartbeats 1000000
namespace Go.Proofs.YtgakcbdahbagkaaGreat
open Go Go.Ae

def Eqs : Env := { tt := tt, eqs := [], Φ := fun g => match g with
  | 81 => some (.p qcmpS)
  | 76 => some (.p partsS)
  | 38 => some (.p qmulS)
  | _ => none }
theorem Eqsok : EnvOk Tryz.prog Eqs := ⟨tt_ok, fun t h => by simp [Eqs] at h, (fun g S h => by
  simp only [Eqs] at h
  split at h
  · cases h; exact rqcmp_ok
  · cases h; exact parts_ok
  · cases h; exact rqmul_ok
  · cases h), fun g F h => by simp [Eqs] at h⟩
theorem rqsign_ok : Snd Tryz.prog 46 qsignS := by
  refine snd_of Eqsok Dok Tryz.func46 (enters_of Tryz.func46 (by kernel_rfl) rfl) (fun _ => rfl) (fun _ => rfl) ?_
  intro (r : RV) hp
  have hp : r.ok := hp
  obtain ⟨x, hx⟩ : ∃ x, x = cmpQ r.q 0 := ⟨_, rfl⟩
  conv => whnf
  refine ⟨(r, zeroR), rfl, ⟨hp, RV.sz_ok (zeroR_sz 0) (by decide)⟩, ?_⟩
  rw [show qcmpS.val (r, zeroR) = .int .i64 x from by rw [hx]; show Value.int .i64 (cmpQ r.q zeroR.q) = _; rw [zeroR_q]]
  conv => whnf
  show Value.int .i64 x = Value.int .i64 (cmpQ r.q 0)
  rw [hx]
theorem rquo_ok : Snd Tryz.prog 42 qquoS := by
  refine snd_of Eqsok Dok Tryz.func42 (enters_of Tryz.func42 (by kernel_rfl) rfl) (fun _ => rfl) (fun _ => rfl) ?_
  intro ⟨a, b⟩ hp
  have hp : a.ok ∧ b.ok := hp
  obtain ⟨B, hB⟩ : ∃ B, B = decide (b.n < 0) := ⟨_, rfl⟩
  obtain ⟨N, hN⟩ : ∃ N, N = b.n.natAbs := ⟨_, rfl⟩
  obtain ⟨D, hD⟩ : ∃ D, D = b.d := ⟨_, rfl⟩
  obtain ⟨w, hw⟩ : ∃ w, w = a.q / b.q := ⟨_, rfl⟩
  obtain ⟨e, he⟩ : ∃ e : Int, e = if b.q = 0 then 10 else 0 := ⟨_, rfl⟩
  have hfin : qquoS.val (a, b) = .tuple ⟨[(RV.of w).v, .int .i64 e]⟩ := by rw [hw, he]; rfl
  have hv : partsS.val b = .tuple ⟨[.agg ⟨[.bool B, .string (nb N)]⟩, .agg ⟨[.bool false, .string (nb D)]⟩]⟩ := by
    show Value.tuple ⟨[encI b.n, encI ((b.d : Nat) : Int)]⟩ = _
    rw [hB, hN, hD, encI_of_pos (n := ((b.d : Nat) : Int)) (by omega), Int.natAbs_natCast]; rfl
  have hi : invV b = (B, nb D, nb N) := by rw [hB, hD, hN]; rfl
  have hz := q_zero_iff b
  have hio := inv_ok hp.2
  obtain ⟨nd, hnd⟩ : ∃ nd, nd = nb D := ⟨_, rfl⟩
  obtain ⟨nn, hnn⟩ : ∃ nn, nn = nb N := ⟨_, rfl⟩
  rw [← hnd, ← hnn] at hv
  conv => whnf
  refine ⟨b, rfl, hp.2, ?_⟩
  rw [hv]
  conv => whnf
  by_cases h0 : N = 0
  · have hb0 : b.q = 0 := hz.2 (by omega)
    rw [show (nn.toList == (⟨#[]⟩ : ByteArray).toList) = true from by
      have := mag_zero h0
      rw [← hnn] at this
      simpa using this]
    conv => whnf
    rw [hfin, he, if_pos hb0, hw, hb0, show a.q / 0 = 0 from by rw [Rat.div_def]; simp]
    show Value.tuple ⟨[zeroR.v, .int .i64 10]⟩ = Value.tuple ⟨[encQ 0, .int .i64 10]⟩
    rw [enc0]
  · rw [show (nn.toList == (⟨#[]⟩ : ByteArray).toList) = false from by
      have := mag_pos h0
      rw [← hnn] at this
      simpa using this]
    have hbn : b.n ≠ 0 := by omega
    rw [hi, ← hnd, ← hnn] at hio
    conv => whnf
    refine ⟨(a, (B, nd, nn)), rfl, ⟨hp.1, hio⟩, ?_⟩
    rw [show qmulS.val (a, (B, nd, nn)) = (RV.of w).v from by
      show encQ (a.q * RV.q (B, nd, nn)) = encQ w
      rw [hnd, hnn, ← hi, inv_q b hbn, hw, Rat.div_def]]
    conv => whnf
    rw [hfin, he, if_neg (fun h => hbn (hz.1 h))]
    rfl
end Go.Proofs.YtgakcbdahbagkaaGreat
/- Contracts of the reference predicates. -/
set_option linter.unusedVariables false
set_option linter.unusedSimpArgs false
set_option maxRecDepth 20000
set_option maxHeartbeats 2000000
namespace Go.Proofs.YtgakcbdahbagkaaGreat
open Go Go.Ae

def Ep5a : Env := { tt := tt, eqs := [], Φ := fun g => match g with
  | 37 => some (.p vsubS)
  | 44 => some (.p vaddS)
  | 40 => some (.p vcrossS)
  | 41 => some (.p vdotS)
  | 46 => some (.p qsignS)
  | 38 => some (.p qmulS)
  | 43 => some (.p qsubS)
  | 49 => some (.p qaddS)
  | 42 => some (.p qquoS)
  | 39 => some (.p qofS)
  | 81 => some (.p qcmpS)
  | _ => none }
theorem Ep5aok : EnvOk Tryz.prog Ep5a := ⟨tt_ok, fun t h => by simp [Ep5a] at h, (fun g S h => by
  simp only [Ep5a] at h
  split at h
  · cases h; exact rvsub_ok
  · cases h; exact rvadd_ok
  · cases h; exact rvcross_ok
  · cases h; exact rvdot_ok
  · cases h; exact rqsign_ok
  · cases h; exact rqmul_ok
  · cases h; exact rqsub_ok
  · cases h; exact rqadd_ok
  · cases h; exact rquo_ok
  · cases h; exact rqof_ok
  · cases h; exact rqcmp_ok
  · cases h), fun g F h => by simp [Ep5a] at h⟩

theorem rorient_ok : Snd Tryz.prog 11 orientS := by
  refine snd_of Ep5aok Dok Tryz.func11 (enters_of Tryz.func11 (by kernel_rfl) rfl) (fun _ => rfl) (fun _ => rfl) ?_
  intro ⟨a, b, c⟩ hp
  have hp : a.sz 1048576 ∧ b.sz 1048576 ∧ c.sz 1048576 := hp
  obtain ⟨sa, sb, sc⟩ := hp
  have qa := PV.psz sa (by decide)
  have qb := PV.psz sb (by decide)
  have qc := PV.psz sc (by decide)
  conv => whnf
  refine .inl ⟨5, [[], [], [0, 1], [], [], [0, 1, 2, 3, 4], [0, 1, 2, 3, 4, 5], [0, 1, 2, 3, 4, 5, 6], [0, 1, 2, 3, 4, 5, 6, 7]], by kernel_rfl, ?_⟩
  conv => whnf
  obtain ⟨u, eu, pu, su, qu⟩ := hideP (sub_sz qb qa)
  refine ⟨(b, a), rfl, ⟨PV.sz_mono sb (by decide), PV.sz_mono sa (by decide)⟩, ?_⟩
  rw [show vsubS.val (b, a) = u.v from eu]
  conv => whnf
  obtain ⟨v, ev, pv, sv, qv⟩ := hideP (sub_sz qc qa)
  refine ⟨(c, a), rfl, ⟨PV.sz_mono sc (by decide), PV.sz_mono sa (by decide)⟩, ?_⟩
  rw [show vsubS.val (c, a) = v.v from ev]
  conv => whnf
  obtain ⟨w, ew, pw, sw, qw⟩ := hideR (cross_sz qu qv)
  refine ⟨(u, v), rfl, ⟨PV.sz_mono su (by decide), PV.sz_mono sv (by decide)⟩, ?_⟩
  rw [show vcrossS.val (u, v) = w.v from ew]
  conv => whnf
  obtain ⟨n, en, pn⟩ := hideZ (cmpQ w.q 0)
  refine ⟨w, rfl, RV.sz_ok sw (by decide), ?_⟩
  rw [show qsignS.val w = .int .i64 n from en]
  conv => whnf
  show Value.int .i64 n = Value.int .i64 (cmpQ (orR a.p b.p c.p) 0)
  rw [pn, pw, pu, pv]
  rfl
def Ep5b : Env := { tt := tt, eqs := [], Φ := fun g => match g with
  | 37 => some (.p vsubS)
  | 41 => some (.p vdotS)
  | 46 => some (.p qsignS)
  | 11 => some (.p orientS)
  | _ => none }
theorem Ep5bok : EnvOk Tryz.prog Ep5b := ⟨tt_ok, fun t h => by simp [Ep5b] at h, (fun g S h => by
  simp only [Ep5b] at h
  split at h
  · cases h; exact rvsub_ok
  · cases h; exact rvdot_ok
  · cases h; exact rqsign_ok
  · cases h; exact rorient_ok
  · cases h), fun g F h => by simp [Ep5b] at h⟩
theorem rbetween_ok : Snd Tryz.prog 15 betweenS := by
  refine snd_of Ep5bok Dok Tryz.func15 (enters_of Tryz.func15 (by kernel_rfl) rfl) (fun _ => rfl) (fun _ => rfl) ?_
  intro ⟨a, b, p⟩ hp
  have hp : a.sz 1048576 ∧ b.sz 1048576 ∧ p.sz 1048576 := hp
  obtain ⟨sa, sb, sp⟩ := hp
  have qa := PV.psz sa (by decide)
  have qb := PV.psz sb (by decide)
  have qp := PV.psz sp (by decide)
  have fin : ∀ (z : Bool) (P : Prop) [Decidable P], z = decide P → (P ↔ betR a.p b.p p.p) → Value.bool z = betweenS.val (a, b, p) := fun z P _ h h2 => by
    show _ = Value.bool (decide (betR a.p b.p p.p))
    rw [h]
    congr 1
    exact decide_eq_decide.2 h2
  conv => whnf
  obtain ⟨o, eo, po⟩ := hideZ (cmpQ (orR a.p b.p p.p) 0)
  refine ⟨(a, b, p), rfl, ⟨PV.sz_mono sa (by decide), PV.sz_mono sb (by decide), PV.sz_mono sp (by decide)⟩, ?_⟩
  rw [show orientS.val (a, b, p) = .int .i64 o from eo]
  conv => whnf
  refine br_intro (fun h => ?_) (fun h => ?_)
  · have h : o ≠ 0 := by intro e; subst e; simp at h
    conv => whnf
    exact fin _ False rfl ⟨False.elim, fun e => h (by rw [po]; exact cmpQ_eq e.1)⟩
  · have h : o = 0 := by simpa using h
    have h0 : orR a.p b.p p.p = 0 := cmpQ_zero.1 (by rw [← po]; exact h)
    conv => whnf
    refine .inl ⟨5, [[], [], [0, 1], [], [], [0, 1, 2, 3, 4], [0, 1, 2, 3, 4, 5], [0, 1, 2, 3, 4, 5, 6], [0, 1, 2, 3, 4, 5, 6, 7], [0, 1, 2, 3, 4, 5, 6, 7, 8]], by kernel_rfl, ?_⟩
    conv => whnf
    obtain ⟨u, eu, pu, su, qu⟩ := hideP (sub_sz qa qp)
    refine ⟨(a, p), rfl, ⟨PV.sz_mono sa (by decide), PV.sz_mono sp (by decide)⟩, ?_⟩
    rw [show vsubS.val (a, p) = u.v from eu]
    conv => whnf
    obtain ⟨v, ev, pv, sv, qv⟩ := hideP (sub_sz qb qp)
    refine ⟨(b, p), rfl, ⟨PV.sz_mono sb (by decide), PV.sz_mono sp (by decide)⟩, ?_⟩
    rw [show vsubS.val (b, p) = v.v from ev]
    conv => whnf
    obtain ⟨w, ew, pw, sw, qw⟩ := hideR (dot_sz qu qv)
    refine ⟨(u, v), rfl, ⟨PV.sz_mono su (by decide), PV.sz_mono sv (by decide)⟩, ?_⟩
    rw [show vdotS.val (u, v) = w.v from ew]
    conv => whnf
    obtain ⟨n, en, pn⟩ := hideZ (cmpQ w.q 0)
    refine ⟨w, rfl, RV.sz_ok sw (by decide), ?_⟩
    rw [show qsignS.val w = .int .i64 n from en]
    conv => whnf
    exact fin _ (n ≤ 0) rfl ⟨fun h => ⟨h0, by rw [pn, pw, pu, pv] at h; exact cmpQ_le.1 h⟩, fun h => by rw [pn, pw, pu, pv]; exact cmpQ_le.2 h.2⟩
theorem rzero_ok : Snd Tryz.prog 60 zeroPS := by
  refine snd_of Ep5aok Dok Tryz.func60 (enters_of Tryz.func60 (by kernel_rfl) rfl) (fun _ => rfl) (fun _ => rfl) ?_
  intro ⟨x, y⟩ hp
  have hp : x.sz 8589934592 ∧ y.sz 8589934592 := hp
  obtain ⟨sx, sy⟩ := hp
  have fin : ∀ (z : Bool) (P : Prop) [Decidable P], z = decide P → (P ↔ x.q = 0 ∧ y.q = 0) → Value.bool z = zeroPS.val (x, y) := fun z P _ h h2 => by
    show _ = Value.bool (decide (x.q = 0 ∧ y.q = 0))
    rw [h]
    congr 1
    exact decide_eq_decide.2 h2
  conv => whnf
  obtain ⟨m, em, pm⟩ := hideZ (cmpQ x.q 0)
  refine ⟨x, rfl, RV.sz_ok sx (by decide), ?_⟩
  rw [show qsignS.val x = .int .i64 m from em]
  conv => whnf
  by_cases h1 : m = 0
  · subst h1
    conv => whnf
    obtain ⟨n, en, pn⟩ := hideZ (cmpQ y.q 0)
    refine ⟨y, rfl, RV.sz_ok sy (by decide), ?_⟩
    rw [show qsignS.val y = .int .i64 n from en]
    conv => whnf
    show Value.bool (n == 0) = _
    exact fin _ (n = 0) (by simp [BEq.beq]) ⟨fun h => ⟨cmpQ_zero.1 pm.symm, cmpQ_zero.1 (pn.symm.trans h)⟩, fun h => by rw [pn]; exact cmpQ_zero.2 h.2⟩
  · rw [show (m == 0) = false from by simp [h1]]
    conv => whnf
    exact fin _ False rfl ⟨False.elim, fun h => h1 (by rw [pm]; exact cmpQ_zero.2 h.1)⟩
def Ep5c : Env := { tt := tt, eqs := [], Φ := fun g => match g with
  | 60 => some (.p zeroPS)
  | 46 => some (.p qsignS)
  | _ => none }
theorem Ep5cok : EnvOk Tryz.prog Ep5c := ⟨tt_ok, fun t h => by simp [Ep5c] at h, (fun g S h => by
  simp only [Ep5c] at h
  split at h
  · cases h; exact rzero_ok
  · cases h; exact rqsign_ok
  · cases h), fun g F h => by simp [Ep5c] at h⟩
theorem rhalf_ok : Snd Tryz.prog 58 halfS := by
  refine snd_of Ep5cok Dok Tryz.func58 (enters_of Tryz.func58 (by kernel_rfl) rfl) (fun _ => rfl) (fun _ => rfl) ?_
  intro ⟨x, y⟩ hp
  have hp : x.sz 8589934592 ∧ y.sz 8589934592 := hp
  obtain ⟨sx, sy⟩ := hp
  have sv : PV.sz 8589934592 (x, y) := ⟨sx, sy⟩
  have fin : ∀ z : Int, z = halfR (x.q, y.q) → Value.int .i64 z = halfS.val (x, y) := fun z h => by rw [h]; rfl
  conv => whnf
  by_cases h0 : x.q = 0 ∧ y.q = 0
  · refine ⟨(x, y), rfl, sv, ?_⟩
    rw [show zeroPS.val (x, y) = .bool true from congrArg Value.bool (decide_eq_true h0)]
    conv => whnf
    exact fin 0 (by unfold halfR; rw [if_pos h0])
  · refine ⟨(x, y), rfl, sv, ?_⟩
    rw [show zeroPS.val (x, y) = .bool false from congrArg Value.bool (decide_eq_false h0)]
    have fin2 : ∀ z : Int, z = (if 0 < y.q ∨ y.q = 0 ∧ 0 < x.q then 1 else 2) → Value.int .i64 z = halfS.val (x, y) := fun z h => fin z (by
      rw [h]
      unfold halfR
      rw [if_neg (show ¬ ((x.q, y.q).1 = 0 ∧ (x.q, y.q).2 = 0) from h0)])
    conv => whnf
    obtain ⟨n, en, pn⟩ := hideZ (cmpQ y.q 0)
    refine ⟨y, rfl, RV.sz_ok sy (by decide), ?_⟩
    rw [show qsignS.val y = .int .i64 n from en]
    conv => whnf
    by_cases h1 : 0 < y.q
    · rw [show decide (n > 0) = true from decide_eq_true (by rw [pn]; exact cmpQ_pos.2 h1)]
      conv => whnf
      exact fin2 1 (by rw [if_pos (.inl h1)])
    · rw [show decide (n > 0) = false from decide_eq_false (by rw [pn]; exact fun h => h1 (cmpQ_pos.1 h))]
      conv => whnf
      by_cases h2 : y.q = 0
      · rw [show (n == 0) = true from by simp only [beq_iff_eq]; rw [pn]; exact cmpQ_zero.2 h2]
        conv => whnf
        obtain ⟨m, em, pm⟩ := hideZ (cmpQ x.q 0)
        refine ⟨x, rfl, RV.sz_ok sx (by decide), ?_⟩
        rw [show qsignS.val x = .int .i64 m from em]
        conv => whnf
        by_cases h3 : 0 < x.q
        · rw [show decide (m > 0) = true from decide_eq_true (by rw [pm]; exact cmpQ_pos.2 h3)]
          conv => whnf
          exact fin2 1 (by rw [if_pos (.inr ⟨h2, h3⟩)])
        · rw [show decide (m > 0) = false from decide_eq_false (by rw [pm]; exact fun h => h3 (cmpQ_pos.1 h))]
          conv => whnf
          exact fin2 2 (by rw [if_neg]; rintro (h | h); exact h1 h; exact h3 h.2)
      · rw [show (n == 0) = false from by simp only [beq_eq_false_iff_ne]; rw [pn]; exact fun h => h2 (cmpQ_zero.1 h)]
        conv => whnf
        exact fin2 2 (by rw [if_neg]; rintro (h | h); exact h1 h; exact h2 h.1)
def Ep5d : Env := { tt := tt, eqs := [], Φ := fun g => match g with
  | 58 => some (.p halfS)
  | 40 => some (.p vcrossS)
  | 46 => some (.p qsignS)
  | _ => none }
theorem Ep5dok : EnvOk Tryz.prog Ep5d := ⟨tt_ok, fun t h => by simp [Ep5d] at h, (fun g S h => by
  simp only [Ep5d] at h
  split at h
  · cases h; exact rhalf_ok
  · cases h; exact rvcross_ok
  · cases h; exact rqsign_ok
  · cases h), fun g F h => by simp [Ep5d] at h⟩
theorem rangle_ok : Snd Tryz.prog 20 angleS := by
  refine snd_of Ep5dok Dok Tryz.func20 (enters_of Tryz.func20 (by kernel_rfl) rfl) (fun _ => rfl) (fun _ => rfl) ?_
  intro ⟨u, v⟩ hp
  have hp : u.sz 67108864 ∧ v.sz 67108864 := hp
  obtain ⟨su, sv⟩ := hp
  have qu := PV.psz su (by decide)
  have qv := PV.psz sv (by decide)
  have fin : ∀ z : Int, z = angR u.p v.p → Value.int .i64 z = angleS.val (u, v) := fun z h => by rw [h]; rfl
  conv => whnf
  refine .inl ⟨3, [[], [0], [], [0, 1, 2], [0, 1, 2, 3]], by kernel_rfl, ?_⟩
  conv => whnf
  obtain ⟨m, em, pm⟩ := hideZ (halfR u.p)
  refine ⟨u, rfl, PV.sz_mono su (by decide), ?_⟩
  rw [show halfS.val u = .int .i64 m from em]
  conv => whnf
  obtain ⟨n, en, pn⟩ := hideZ (halfR v.p)
  refine ⟨v, rfl, PV.sz_mono sv (by decide), ?_⟩
  rw [show halfS.val v = .int .i64 n from en]
  conv => whnf
  refine br_intro (fun h => ?_) (fun h => ?_)
  · have h : m ≠ n := by simpa using h
    conv => whnf
    refine .inl ⟨3, [[], [0], [], [0, 1, 2], [0, 1, 2, 3]], by kernel_rfl, ?_⟩
    conv => whnf
    refine ⟨u, rfl, PV.sz_mono su (by decide), ?_⟩
    rw [show halfS.val u = .int .i64 (m) from congrArg (Value.int .i64) (show halfR u.p = m from pm.symm)]
    conv => whnf
    refine ⟨v, rfl, PV.sz_mono sv (by decide), ?_⟩
    rw [show halfS.val v = .int .i64 (n) from congrArg (Value.int .i64) (show halfR v.p = n from pn.symm)]
    conv => whnf
    by_cases h2 : m < n
    · rw [show decide (m < n) = true from decide_eq_true h2]
      conv => whnf
      exact fin (-1) (by unfold angR; rw [if_pos (by rw [← pm, ← pn]; exact h2)])
    · rw [show decide (m < n) = false from decide_eq_false h2]
      conv => whnf
      exact fin 1 (by unfold angR; rw [if_neg (by rw [← pm, ← pn]; exact h2), if_pos (by rw [← pm, ← pn]; omega)])
  · have h : m = n := by simpa using h
    conv => whnf
    obtain ⟨w, ew, pw, sw, qw⟩ := hideR (cross_sz qu qv)
    refine ⟨(u, v), rfl, ⟨PV.sz_mono su (by decide), PV.sz_mono sv (by decide)⟩, ?_⟩
    rw [show vcrossS.val (u, v) = w.v from ew]
    conv => whnf
    obtain ⟨l, el, pl⟩ := hideZ (cmpQ w.q 0)
    refine ⟨w, rfl, RV.sz_ok sw (by decide), ?_⟩
    rw [show qsignS.val w = .int .i64 l from el]
    conv => whnf
    rw [pw] at pl
    have hl := cmpQ_range (crossR u.p v.p) 0
    rw [← pl] at hl
    exact fin _ (by
      unfold angR
      rw [if_neg (by rw [← pm, ← pn]; omega), if_neg (by rw [← pm, ← pn]; omega), ← pl]
      rcases hl with rfl | rfl | rfl <;> rfl)
end Go.Proofs.YtgakcbdahbagkaaGreat
/- Contracts of the reference predicates: triangles, wedges, sorting. -/
set_option linter.unusedVariables false
set_option linter.unusedSimpArgs false
set_option maxRecDepth 20000
set_option maxHeartbeats 4000000
namespace Go.Proofs.YtgakcbdahbagkaaGreat
open Go Go.Ae

def Ep6a : Env := { tt := tt, eqs := [], Φ := fun g => match g with
  | 15 => some (.p betweenS)
  | 11 => some (.p orientS)
  | 60 => some (.p zeroPS)
  | 20 => some (.p angleS)
  | 41 => some (.p vdotS)
  | 81 => some (.p qcmpS)
  | _ => none }
theorem Ep6aok : EnvOk Tryz.prog Ep6a := ⟨tt_ok, fun t h => by simp [Ep6a] at h, (fun g S h => by
  simp only [Ep6a] at h
  split at h
  · cases h; exact rbetween_ok
  · cases h; exact rorient_ok
  · cases h; exact rzero_ok
  · cases h; exact rangle_ok
  · cases h; exact rvdot_ok
  · cases h; exact rqcmp_ok
  · cases h), fun g F h => by simp [Ep6a] at h⟩
theorem behind_ok : Snd Tryz.prog 55 behindS := by
  refine snd_of Ep6aok Dok Tryz.func55 (enters_of Tryz.func55 (by kernel_rfl) rfl) (fun _ => rfl) (fun _ => rfl) ?_
  intro ⟨u, v⟩ hp
  have hp : u.sz 1048576 ∧ v.sz 1048576 := hp
  obtain ⟨su, sv⟩ := hp
  have qu := PV.psz su (by decide)
  have qv := PV.psz sv (by decide)
  have fin : ∀ (n : Int), n = cmpV u v → Value.bool (decide (n > 0)) = behindS.val (u, v) := fun n h => by rw [h]; rfl
  conv => whnf
  obtain ⟨a, ea, pa⟩ := hideZ (angR u.p v.p)
  refine ⟨(u, v), rfl, ⟨PV.sz_mono su (by decide), PV.sz_mono sv (by decide)⟩, ?_⟩
  rw [show angleS.val (u, v) = .int .i64 a from ea]
  conv => whnf
  by_cases h : a = 0
  · subst h
    conv => whnf
    refine .inl ⟨5, [[], [], [0, 1], [], [], [0, 1, 2, 3, 4], [0, 1, 2, 3, 4, 5], [0, 1, 2, 3, 4, 5, 6], [0, 1, 2, 3, 4, 5, 6, 7]], by kernel_rfl, ?_⟩
    conv => whnf
    obtain ⟨x, ex, px, sx, qx⟩ := hideR (dot_sz qu qu)
    refine ⟨(u, u), rfl, ⟨PV.sz_mono su (by decide), PV.sz_mono su (by decide)⟩, ?_⟩
    rw [show vdotS.val (u, u) = x.v from ex]
    conv => whnf
    obtain ⟨y, ey, py, sy, qy⟩ := hideR (dot_sz qv qv)
    refine ⟨(v, v), rfl, ⟨PV.sz_mono sv (by decide), PV.sz_mono sv (by decide)⟩, ?_⟩
    rw [show vdotS.val (v, v) = y.v from ey]
    conv => whnf
    obtain ⟨b, eb, pb⟩ := hideZ (cmpQ x.q y.q)
    refine ⟨(x, y), rfl, ⟨RV.sz_ok sx (by decide), RV.sz_ok sy (by decide)⟩, ?_⟩
    rw [show qcmpS.val (x, y) = .int .i64 b from eb]
    conv => whnf
    exact fin _ (by unfold cmpV; rw [if_neg (by rw [← pa]; simp), pb, px, py])
  · rw [show (a != 0) = true from by simp [h]]
    conv => whnf
    exact fin _ (by unfold cmpV; rw [if_pos (by rw [← pa]; exact h), pa])
end Go.Proofs.YtgakcbdahbagkaaGreat
/- Contracts of the reference predicates: sorting. -/
set_option linter.unusedVariables false
set_option linter.unusedSimpArgs false
set_option maxRecDepth 20000
set_option maxHeartbeats 4000000
namespace Go.Proofs.YtgakcbdahbagkaaGreat
open Go Go.Ae

def Ep6b : Env := { tt := tt, eqs := [], Φ := fun g => match g with
  | 55 => some (.p behindS)
  | 44 => some (.p vaddS)
  | _ => none }
theorem Ep6bok : EnvOk Tryz.prog Ep6b := ⟨tt_ok, fun t h => by simp [Ep6b] at h, (fun g S h => by
  simp only [Ep6b] at h
  split at h
  · cases h; exact behind_ok
  · cases h; exact rvadd_ok
  · cases h), fun g F h => by simp [Ep6b] at h⟩
theorem rsort_ok : QSnd Tryz.prog 17 rsortS := by
  refine qsnd_of Ep6bok Dok Tryz.func17 (enters_of Tryz.func17 (by kernel_rfl) rfl) ?_ ?_ ?_
  · intro i b hb
    cases i with
    | none => simp [rsortS, PL.blks] at hb
    | some i => simp [rsortS, PL.blks] at hb; rw [hb]; rfl
  · intro i b hb; simp [rsortS] at hb; rw [← hb]; rfl
  intro i hp
  have hp : (i.list.length ≤ 12 ∨ 1000 < i.list.length) ∧ i.list.length ≤ 1099511627776 ∧ ∀ p ∈ i.list, p.sz 524288 := hp
  obtain ⟨hp1, hp2, hsz⟩ := hp
  cases i with
  | none =>
    conv => whnf
    refine .inr ⟨1, ?_⟩
    conv => whnf
    refine ⟨0, ?_⟩
    conv => whnf
    exact ⟨⟨rfl, BlkLe.flat_rows (fun h => h) (fun r hr => absurd hr (Nat.not_lt_zero r)) (fun r hr => absurd hr (Nat.not_lt_zero r))⟩, _, rfl, .two (.cap _ _ _ rfl) (.refl _)⟩
  | some i =>
    obtain ⟨l, c⟩ := i
    obtain ⟨n, hn⟩ : ∃ n, n = l.length := ⟨_, rfl⟩
    obtain ⟨g, hg⟩ : ∃ g, g = rowsP l := ⟨_, rfl⟩
    obtain ⟨gs, hgs⟩ : ∃ g, g = rowsP (sortR l) := ⟨_, rfl⟩
    obtain ⟨cu, hcu⟩ : ∃ cu, cu = capU := ⟨_, rfl⟩
    have hp1 : n ≤ 12 ∨ 1000 < n := by rw [hn]; exact hp1
    have hp2 : n ≤ 1099511627776 := by rw [hn]; exact hp2
    have hsz : ∀ p ∈ l, p.sz 524288 := hsz
    have eb : rsortS.blks (some (l, c)) = [.flat false n 6 g] := by rw [hn, hg]; rfl
    have ea : rsortS.args (some (l, c)) = [.slice (some ⟨0, 0, none⟩) n c] := by rw [hn]; rfl
    unfold qRes
    by_cases h1 : 1000 < n
    · rw [eb, ea, show rsortS.val (some (l, c)) = .tuple ⟨[.slice (some ⟨1, 0, none⟩) 0 cu, .int .i64 4]⟩ from by
        show Value.tuple ⟨[.slice _ (if 1000 < l.length then _ else _) _, .int .i64 (if 1000 < l.length then _ else _)]⟩ = _
        rw [if_pos (by omega), if_pos (by omega), hcu]; rfl, show rsortS.new (some (l, c)) = some (.flat true 0 6 (rowsP [])) from by
        show some (Blk.flat true (if 1000 < l.length then _ else _) 6 (rowsP (if 1000 < l.length then _ else _))) = _
        rw [if_pos (by omega), if_pos (by omega)]]
      conv => whnf
      rw [show decide (((n : Nat) : Int) > 1000) = true from decide_eq_true (by omega)]
      conv => whnf
      refine ⟨1, ?_⟩
      conv => whnf
      exact ⟨⟨rfl, BlkLe.flat_rows (fun h => h) (fun r hr => absurd hr (Nat.not_lt_zero r)) (fun r hr => absurd hr (Nat.not_lt_zero r))⟩, _, rfl, by rw [hcu]; exact .two (.cap _ _ _ rfl) (.refl _)⟩
    · rw [eb, ea, show rsortS.val (some (l, c)) = .tuple ⟨[.slice (some ⟨1, 0, none⟩) n cu, .int .i64 0]⟩ from by
        show Value.tuple ⟨[.slice _ (if 1000 < l.length then _ else _) _, .int .i64 (if 1000 < l.length then _ else _)]⟩ = _
        rw [if_neg (by omega), if_neg (by omega), hcu, hn]; rfl, show rsortS.new (some (l, c)) = some (.flat true n 6 gs) from by
        show some (Blk.flat true (if 1000 < l.length then _ else _) 6 (rowsP (if 1000 < l.length then _ else _))) = _
        rw [if_neg (by omega), if_neg (by omega), hgs, hn]; rfl]
      conv => whnf
      rw [show decide (((n : Nat) : Int) > 1000) = false from decide_eq_false (by omega)]
      conv => whnf
      refine .inl ⟨fun mm tz hz => ∃ (i : Nat) (f : Nat → List Value) (c2 : Nat), Pat [some (.slice (some ⟨0, 0, none⟩) n c), none, none, none, some (.slice (some ⟨1, 0, none⟩) i c2), some (.int .i64 i), none, none, none, none, none, none, none, none, none, none, none, none, none, none, none, none, none, none, none, none, none, none, none, none, none, none, none, none, none, none, none, none, none, none, none, none, none, none, none, none, none, none, none, none, none, none] tz ∧ hz = [some (.flat false n 6 g), some (.flat true i 6 f)] ∧ n - i = mm ∧ (i ≤ n ∧ ∀ r, r < i → f r = rowsP (outL l i) r), .inr ⟨[0, 1], [0, 4, 5], ?_⟩, ?_⟩
      · conv => whnf
        intro _
        conv => whnf
        refine ⟨_, 0, _, _, (.keep (.skip (.skip (.skip (.keep (.keep (.skip (.skip (.skip (.skip (.skip (.skip (.skip (.skip (.skip (.skip (.skip (.skip (.skip (.skip (.skip (.skip (.skip (.skip (.skip (.skip (.skip (.skip (.skip (.skip (.skip (.skip (.skip (.skip (.skip (.skip (.skip (.skip (.skip (.skip (.skip (.skip (.skip (.skip (.skip (.skip (.skip (.skip (.skip (.skip (.skip (.skip (.nil))))))))))))))))))))))))))))))))))))))))))))))))))))), rfl, rfl, ?_⟩
        exact ⟨Nat.zero_le _, fun r hr => absurd hr (Nat.not_lt_zero r)⟩
      rintro mm tms _ ⟨i, f, c2, hpat, rfl, rfl, ⟨hi, hF⟩⟩
      obtain ⟨az, rfl⟩ : ∃ az : Nat → Value, tms = [.slice (some ⟨0, 0, none⟩) n c, az 1, az 2, az 3, .slice (some ⟨1, 0, none⟩) i c2, .int .i64 i, az 6, az 7, az 8, az 9, az 10, az 11, az 12, az 13, az 14, az 15, az 16, az 17, az 18, az 19, az 20, az 21, az 22, az 23, az 24, az 25, az 26, az 27, az 28, az 29, az 30, az 31, az 32, az 33, az 34, az 35, az 36, az 37, az 38, az 39, az 40, az 41, az 42, az 43, az 44, az 45, az 46, az 47, az 48, az 49, az 50, az 51] := pat_fill hpat
      clear hpat
      conv => whnf
      refine br_intro (fun h3 => ?_) (fun h3 => ?_)
      · have h3 : i < n := by
          have := of_decide_eq_true h3
          omega
        obtain ⟨p, hpl, hpm, hrow⟩ := rowsP_get (l := l) (i := i) (by omega)
        rw [← hg] at hrow
        have sp := hsz p hpm
        obtain ⟨lc, hlc⟩ : ∃ lc, lc = l.map canonP := ⟨_, rfl⟩
        obtain ⟨q, hq⟩ : ∃ q, q = canonP p := ⟨_, rfl⟩
        have hql : lc[i]? = some q := by rw [hlc, List.getElem?_map, hpl, hq]; rfl
        have sq : q.sz 1048576 := by rw [hq]; exact ptV_sz (PV.psz sp (by decide)) (by decide)
        have hcs : ∀ p ∈ lc, PV.sz 1048576 p := fun p hp => by
          rw [hlc] at hp
          obtain ⟨x, hx, rfl⟩ := List.mem_map.1 hp
          exact ptV_sz (PV.psz (hsz x hx) (by decide)) (by decide)
        have eq : vaddS.val (p, (zeroR, zeroR)) = q.v := by rw [hq, add_val, add_zeroP]; rfl
        have e7 : IntKind.i64.wrap ((i : Int) + 1) = ((i + 1 : Nat) : Int) := by rw [wrapi64 (by omega) (by omega)]; rfl
        have hlen : (srtB cmpV (lc.take i)).length = i := by rw [srtB_length, List.length_take, hlc, List.length_map]; omega
        have hF : ∀ r, r < i → f r = rowsP (srtB cmpV (lc.take i)).reverse r := by rw [hlc]; exact hF
        conv => whnf
        refine ⟨⟨by omega, by omega⟩, ?_⟩
        simp only [toNat_cast, rowAdd_eq, Nat.zero_add]
        conv => whnf
        refine ⟨by show i < n; omega, ?_⟩
        conv => whnf
        rw [hrow]
        conv => whnf
        refine ⟨(p, (zeroR, zeroR)), rfl, ⟨PV.sz_mono sp (by decide), zeroR_sz _, zeroR_sz _⟩, ?_⟩
        rw [eq]
        conv => whnf
        refine .inl ⟨fun mm tz hz => ∃ (k : Nat) (r : List PV) (B : List PV), Pat [some (.slice (some ⟨0, 0, none⟩) n c), none, none, none, some (.slice (some ⟨1, 0, none⟩) i c2), some (.int .i64 i), some (.pointer (some ⟨2, 0, none⟩)), some (.int .i64 k), none, none, none, none, none, none, none, none, none, none, none, none, none, none, none, none, none, none, none, none, none, none, none, none, none, none, none, none, none, none, none, none, none, none, none, none, none, none, none, none, none, none, none, none] tz ∧ hz = [some (.flat false n 6 g), some (.flat true i 6 f), some (.expl true 6 [q.cells])] ∧ k = mm ∧ (∃ L, Mid cmpV lc i k q r B L), .inr ⟨[0, 1, 2], [0, 4, 5, 6, 7], ?_⟩, ?_⟩
        · conv => whnf
          intro _
          conv => whnf
          refine ⟨_, i, srtB cmpV (lc.take i), [], (.keep (.skip (.skip (.skip (.keep (.keep (.keep (.keep (.skip (.skip (.skip (.skip (.skip (.skip (.skip (.skip (.skip (.skip (.skip (.skip (.skip (.skip (.skip (.skip (.skip (.skip (.skip (.skip (.skip (.skip (.skip (.skip (.skip (.skip (.skip (.skip (.skip (.skip (.skip (.skip (.skip (.skip (.skip (.skip (.skip (.skip (.skip (.skip (.skip (.skip (.skip (.skip (.nil))))))))))))))))))))))))))))))))))))))))))))))))))))), rfl, rfl, ?_⟩
          exact ⟨_, Mid.start hql⟩
        rintro mm tms _ ⟨k, r, B, hpat, rfl, rfl, ⟨L, hM⟩⟩
        obtain ⟨az, rfl⟩ : ∃ az : Nat → Value, tms = [.slice (some ⟨0, 0, none⟩) n c, az 1, az 2, az 3, .slice (some ⟨1, 0, none⟩) i c2, .int .i64 i, .pointer (some ⟨2, 0, none⟩), .int .i64 k, az 8, az 9, az 10, az 11, az 12, az 13, az 14, az 15, az 16, az 17, az 18, az 19, az 20, az 21, az 22, az 23, az 24, az 25, az 26, az 27, az 28, az 29, az 30, az 31, az 32, az 33, az 34, az 35, az 36, az 37, az 38, az 39, az 40, az 41, az 42, az 43, az 44, az 45, az 46, az 47, az 48, az 49, az 50, az 51] := pat_fill hpat
        clear hpat
        have hacc := hM.acc
        have hkl := hM.len
        have hki : k ≤ i := by
          have := congrArg List.length hacc
          rw [hlen, List.length_append] at this; omega
        conv => whnf
        refine .inl ⟨9, [[], [0], [0, 1], [0, 1, 2], [0, 1, 2], [0, 1, 2, 4], [0, 1, 2, 3, 4, 5], [0, 1, 2, 3, 4, 5, 6], [0, 1, 2], [0, 1, 2, 3, 4, 5, 6, 7, 8], [0, 1, 2, 3, 4, 5, 6, 7, 8, 9]], by kernel_rfl, ?_⟩
        conv => whnf
        have hkr : ∀ rr : List PV, srtB cmpV (lc.take i) = B ++ rr → insB cmpV q (srtB cmpV (lc.take i)) = B ++ insB cmpV q rr → insB cmpV q rr = q :: rr → (srtB cmpV (lc.take (i + 1))).reverse = rr.reverse ++ q :: B.reverse := fun rr h1 h2 h3 => by
          rw [List.take_add_one, hql]
          simp only [Option.toList_some]
          rw [srtB_snoc, h2, h3]
          simp
        cases r with
        | nil =>
          have hfin := hkr [] hacc hM.ins rfl
          obtain ⟨rr, hrr⟩ : ∃ rr : List PV, rr = [] := ⟨_, rfl⟩
          rw [← hrr] at hfin hacc hkl
          have hk0 : k = 0 := by rw [← hkl, hrr]; rfl
          rw [show decide (((k : Nat) : Int) > 0) = false from decide_eq_false (by omega)]
          conv => whnf
          have hBl : B.length + k = i := by
            have := congrArg List.length hacc
            rw [hlen, List.length_append] at this; omega
          refine .inr (.inr ⟨9, 1, [[], [], [], [0, 1, 2], [], [4], [], [], [6, 7], [4, 5, 6, 7, 8], [0, 1, 2, 3, 4, 5, 6, 7, 8, 9], [0, 1, 2, 3, 4, 5, 6, 7, 8, 9, 10]], [0, 1, 2, 3], by kernel_rfl, ?_⟩)
          conv => whnf
          refine ⟨⟨by omega, by omega, by omega, by omega⟩, ?_⟩
          conv => whnf
          refine ⟨⟨by omega, by omega, by omega⟩, ?_⟩
          conv => whnf
          obtain ⟨m, hm⟩ : ∃ m, m = i - k := ⟨_, rfl⟩
          have e8 : IntKind.i64.wrap ((i : Int) + 1) = ((k + (1 + m) : Nat) : Int) := by rw [wrapi64 (by omega) (by omega)]; omega
          have hout : outL l (k + (1 + m)) = rr.reverse ++ q :: B.reverse := by
            rw [show k + (1 + m) = i + 1 from by omega]
            unfold outL
            rw [← hlc]
            exact hfin
          simp only [toNat_cast, rowAdd_eq, Nat.zero_add]
          rw [← hm]
          refine ⟨by omega, ?_⟩
          conv => whnf
          refine br_intro (fun h5 => ?_) (fun h5 => ?_)
          · have h5 : m = 0 := by
              have := Nat.le_of_ble_eq_true h5
              have : 1 + m ≤ 1 := this
              omega
            refine ⟨rfl, ?_⟩
            conv => whnf
            simp only [toNat_cast, rowAdd_eq, Nat.zero_add]
            refine ⟨by show 1 + m ≤ 1 + m; exact Nat.le_refl _, ?_⟩
            conv => whnf
            rw [show k - Int.toNat 0 = k from rfl, show decide (k = capU) = false from decide_eq_false (by unfold capU; omega)]
            conv => whnf
            refine br_intro (fun h6 => ?_) (fun h6 => ?_)
            · exfalso
              have := Nat.le_of_ble_eq_true h6
              have : k + (1 + m) ≤ k := this
              omega
            · refine ⟨⟨by show 0 + k ≤ i; omega, by show (k + (1 + m)) * 80 ≤ 140737488355328; omega⟩, ?_⟩
              conv => whnf
              rw [e8]
              refine .inr ⟨[0, 21], [0, 4, 5], ?_⟩
              conv => whnf
              intro _
              conv => whnf
              refine ⟨_, ?_, k + (1 + m), _, _, (.keep (.skip (.skip (.skip (.keep (.keep (.skip (.skip (.skip (.skip (.skip (.skip (.skip (.skip (.skip (.skip (.skip (.skip (.skip (.skip (.skip (.skip (.skip (.skip (.skip (.skip (.skip (.skip (.skip (.skip (.skip (.skip (.skip (.skip (.skip (.skip (.skip (.skip (.skip (.skip (.skip (.skip (.skip (.skip (.skip (.skip (.skip (.skip (.skip (.skip (.skip (.skip (.nil))))))))))))))))))))))))))))))))))))))))))))))))))))), rfl, rfl, ?_⟩
              · omega
              · refine ⟨by omega, fun r hr => ?_⟩
                rw [hout]
                exact put_rows (B := B) (f := f) (h := fun j => [q.cells].getD j []) hkl (by omega) (fun r hr => by rw [hF r (by omega), hacc, List.reverse_append]) rfl r hr
          · refine ⟨⟨by show 1 ≤ 1; decide, by show (1 + m) * 80 ≤ 140737488355328; omega⟩, ?_⟩
            conv => whnf
            simp only [toNat_cast, rowAdd_eq, Nat.zero_add]
            refine ⟨by show 1 + m ≤ 1 + m; exact Nat.le_refl _, ?_⟩
            conv => whnf
            rw [show k - Int.toNat 0 = k from rfl, show decide (k = capU) = false from decide_eq_false (by unfold capU; omega)]
            conv => whnf
            refine br_intro (fun h6 => ?_) (fun h6 => ?_)
            · exfalso
              have := Nat.le_of_ble_eq_true h6
              have : k + (1 + m) ≤ k := this
              omega
            · refine ⟨⟨by show 0 + k ≤ i; omega, by show (k + (1 + m)) * 80 ≤ 140737488355328; omega⟩, ?_⟩
              conv => whnf
              rw [e8]
              refine .inr ⟨[0, 22], [0, 4, 5], ?_⟩
              conv => whnf
              intro _
              conv => whnf
              refine ⟨_, ?_, k + (1 + m), _, _, (.keep (.skip (.skip (.skip (.keep (.keep (.skip (.skip (.skip (.skip (.skip (.skip (.skip (.skip (.skip (.skip (.skip (.skip (.skip (.skip (.skip (.skip (.skip (.skip (.skip (.skip (.skip (.skip (.skip (.skip (.skip (.skip (.skip (.skip (.skip (.skip (.skip (.skip (.skip (.skip (.skip (.skip (.skip (.skip (.skip (.skip (.skip (.skip (.skip (.skip (.skip (.skip (.nil))))))))))))))))))))))))))))))))))))))))))))))))))))), rfl, rfl, ?_⟩
              · omega
              · refine ⟨by omega, fun r hr => ?_⟩
                rw [hout]
                exact put_rows (B := B) (f := f) (h := fun j => [q.cells].getD j []) hkl (by omega) (fun r hr => by rw [hF r (by omega), hacc, List.reverse_append]) rfl r hr
        | cons y r =>
          obtain ⟨j, hj⟩ : ∃ j, k = j + 1 := ⟨r.length, hkl.symm⟩
          have hjl : r.length = j := by simp at hkl; omega
          have ry : f j = y.cells := by rw [hF j (by omega), hacc, rowsP_at (A := r.reverse) (p := y) (R := B.reverse) (by simp) (by simp; omega)]
          have hym : y ∈ lc := by
            have : y ∈ srtB cmpV (lc.take i) := by rw [hacc]; simp
            exact List.mem_of_mem_take ((srtB_perm cmpV _).mem_iff.1 this)
          have sy := hcs y hym
          have ej : IntKind.i64.wrap ((k : Int) - 1) = (j : Int) := by rw [wrapi64 (by omega) (by omega)]; omega
          rw [show decide (((k : Nat) : Int) > 0) = true from decide_eq_true (by omega)]
          conv => whnf
          rw [ej]
          refine ⟨⟨by omega, by omega⟩, ?_⟩
          simp only [toNat_cast, rowAdd_eq, Nat.zero_add]
          conv => whnf
          refine ⟨by show j < i; omega, ?_⟩
          conv => whnf
          rw [ry]
          conv => whnf
          refine ⟨(y, q), rfl, ⟨sy, sq⟩, ?_⟩
          by_cases h2 : cmpV y q > 0
          · rw [show behindS.val (y, q) = .bool true from congrArg Value.bool (decide_eq_true h2)]
            conv => whnf
            rw [ej]
            refine .inr ⟨[0, 1, 2], [0, 4, 5, 6, 7], ?_⟩
            conv => whnf
            intro _
            conv => whnf
            refine ⟨_, ?_, j, r, B ++ [y], (.keep (.skip (.skip (.skip (.keep (.keep (.keep (.keep (.skip (.skip (.skip (.skip (.skip (.skip (.skip (.skip (.skip (.skip (.skip (.skip (.skip (.skip (.skip (.skip (.skip (.skip (.skip (.skip (.skip (.skip (.skip (.skip (.skip (.skip (.skip (.skip (.skip (.skip (.skip (.skip (.skip (.skip (.skip (.skip (.skip (.skip (.skip (.skip (.skip (.skip (.skip (.skip (.nil))))))))))))))))))))))))))))))))))))))))))))))))))))), rfl, rfl, ?_⟩
            · omega
            · exact ⟨_, by have := hM.step ((behind_anti q y).1 h2); rw [show k - 1 = j from by omega] at this; exact this⟩
          · rw [show behindS.val (y, q) = .bool false from congrArg Value.bool (decide_eq_false h2)]
            have hfin := hkr (y :: r) hacc hM.ins (ins_stop (fun h => h2 ((behind_anti q y).2 h)))
            obtain ⟨rr, hrr⟩ : ∃ rr : List PV, rr = y :: r := ⟨_, rfl⟩
            rw [← hrr] at hfin hacc hkl
            conv => whnf
            have hBl : B.length + k = i := by
              have := congrArg List.length hacc
              rw [hlen, List.length_append] at this; omega
            refine .inr (.inr ⟨9, 1, [[], [], [], [0, 1, 2], [], [4], [], [], [6, 7], [4, 5, 6, 7, 8], [0, 1, 2, 3, 4, 5, 6, 7, 8, 9], [0, 1, 2, 3, 4, 5, 6, 7, 8, 9, 10]], [0, 1, 2, 3], by kernel_rfl, ?_⟩)
            conv => whnf
            refine ⟨⟨by omega, by omega, by omega, by omega⟩, ?_⟩
            conv => whnf
            refine ⟨⟨by omega, by omega, by omega⟩, ?_⟩
            conv => whnf
            obtain ⟨m, hm⟩ : ∃ m, m = i - k := ⟨_, rfl⟩
            have e8 : IntKind.i64.wrap ((i : Int) + 1) = ((k + (1 + m) : Nat) : Int) := by rw [wrapi64 (by omega) (by omega)]; omega
            have hout : outL l (k + (1 + m)) = rr.reverse ++ q :: B.reverse := by
              rw [show k + (1 + m) = i + 1 from by omega]
              unfold outL
              rw [← hlc]
              exact hfin
            simp only [toNat_cast, rowAdd_eq, Nat.zero_add]
            rw [← hm]
            refine ⟨by omega, ?_⟩
            conv => whnf
            refine br_intro (fun h5 => ?_) (fun h5 => ?_)
            · have h5 : m = 0 := by
                have := Nat.le_of_ble_eq_true h5
                have : 1 + m ≤ 1 := this
                omega
              refine ⟨rfl, ?_⟩
              conv => whnf
              simp only [toNat_cast, rowAdd_eq, Nat.zero_add]
              refine ⟨by show 1 + m ≤ 1 + m; exact Nat.le_refl _, ?_⟩
              conv => whnf
              rw [show k - Int.toNat 0 = k from rfl, show decide (k = capU) = false from decide_eq_false (by unfold capU; omega)]
              conv => whnf
              refine br_intro (fun h6 => ?_) (fun h6 => ?_)
              · exfalso
                have := Nat.le_of_ble_eq_true h6
                have : k + (1 + m) ≤ k := this
                omega
              · refine ⟨⟨by show 0 + k ≤ i; omega, by show (k + (1 + m)) * 80 ≤ 140737488355328; omega⟩, ?_⟩
                conv => whnf
                rw [e8]
                refine .inr ⟨[0, 21], [0, 4, 5], ?_⟩
                conv => whnf
                intro _
                conv => whnf
                refine ⟨_, ?_, k + (1 + m), _, _, (.keep (.skip (.skip (.skip (.keep (.keep (.skip (.skip (.skip (.skip (.skip (.skip (.skip (.skip (.skip (.skip (.skip (.skip (.skip (.skip (.skip (.skip (.skip (.skip (.skip (.skip (.skip (.skip (.skip (.skip (.skip (.skip (.skip (.skip (.skip (.skip (.skip (.skip (.skip (.skip (.skip (.skip (.skip (.skip (.skip (.skip (.skip (.skip (.skip (.skip (.skip (.skip (.nil))))))))))))))))))))))))))))))))))))))))))))))))))))), rfl, rfl, ?_⟩
                · omega
                · refine ⟨by omega, fun r hr => ?_⟩
                  rw [hout]
                  exact put_rows (B := B) (f := f) (h := fun j => [q.cells].getD j []) hkl (by omega) (fun r hr => by rw [hF r (by omega), hacc, List.reverse_append]) rfl r hr
            · refine ⟨⟨by show 1 ≤ 1; decide, by show (1 + m) * 80 ≤ 140737488355328; omega⟩, ?_⟩
              conv => whnf
              simp only [toNat_cast, rowAdd_eq, Nat.zero_add]
              refine ⟨by show 1 + m ≤ 1 + m; exact Nat.le_refl _, ?_⟩
              conv => whnf
              rw [show k - Int.toNat 0 = k from rfl, show decide (k = capU) = false from decide_eq_false (by unfold capU; omega)]
              conv => whnf
              refine br_intro (fun h6 => ?_) (fun h6 => ?_)
              · exfalso
                have := Nat.le_of_ble_eq_true h6
                have : k + (1 + m) ≤ k := this
                omega
              · refine ⟨⟨by show 0 + k ≤ i; omega, by show (k + (1 + m)) * 80 ≤ 140737488355328; omega⟩, ?_⟩
                conv => whnf
                rw [e8]
                refine .inr ⟨[0, 22], [0, 4, 5], ?_⟩
                conv => whnf
                intro _
                conv => whnf
                refine ⟨_, ?_, k + (1 + m), _, _, (.keep (.skip (.skip (.skip (.keep (.keep (.skip (.skip (.skip (.skip (.skip (.skip (.skip (.skip (.skip (.skip (.skip (.skip (.skip (.skip (.skip (.skip (.skip (.skip (.skip (.skip (.skip (.skip (.skip (.skip (.skip (.skip (.skip (.skip (.skip (.skip (.skip (.skip (.skip (.skip (.skip (.skip (.skip (.skip (.skip (.skip (.skip (.skip (.skip (.skip (.skip (.skip (.nil))))))))))))))))))))))))))))))))))))))))))))))))))))), rfl, rfl, ?_⟩
                · omega
                · refine ⟨by omega, fun r hr => ?_⟩
                  rw [hout]
                  exact put_rows (B := B) (f := f) (h := fun j => [q.cells].getD j []) hkl (by omega) (fun r hr => by rw [hF r (by omega), hacc, List.reverse_append]) rfl r hr
      · have h3 : i = n := by
          have := of_decide_eq_false h3
          omega
        subst h3
        conv => whnf
        refine ⟨1, ?_⟩
        conv => whnf
        exact ⟨⟨rfl, BlkLe.flat_rows (fun h => h) (fun r hr => by rw [hF r hr, hgs, hn, outL_end]) (fun r hr => by rw [hgs]; rfl)⟩, _, rfl, by rw [hcu]; exact .two (.cap _ _ _ rfl) (.refl _)⟩
end Go.Proofs.YtgakcbdahbagkaaGreat
/- The laws of predicates: what the reference answers. -/
set_option linter.unusedVariables false
set_option linter.unusedSimpArgs false
set_option maxRecDepth 20000
set_option maxHeartbeats 4000000
namespace Go.Proofs.YtgakcbdahbagkaaGreat
open Go Go.Ae

end Go.Proofs.YtgakcbdahbagkaaGreat
/- The laws of predicates: sorting. -/
set_option linter.unusedVariables false
set_option linter.unusedSimpArgs false
set_option maxRecDepth 20000
set_option maxHeartbeats 8000000
namespace Go.Proofs.YtgakcbdahbagkaaGreat
open Go Go.Ae

def Epn : Env := { tt := tt, eqs := eqsL, Φ := fun g => match g with
  | 7 => some (.p awakeS)
  | 6 => some (.q (bigS 12))
  | 16 => some (.q predSortS)
  | 17 => some (.q rsortS)
  | 18 => some (.q sameS)
  | _ => none }
theorem Epnok : EnvOk Tryz.prog Epn := ⟨tt_ok, eqs_ok, (fun g S h => by
  simp only [Epn] at h
  split at h
  · cases h; exact awake7_ok
  · cases h; exact big7l_ok
  · cases h; exact predSort_ok
  · cases h; exact rsort_ok
  · cases h; exact same_ok
  · cases h), fun g F h => by simp [Epn] at h⟩
theorem pSort_ok : QSnd Tryz.prog 4 lawLS := by
  refine qsnd_of Epnok Dok Tryz.func4 (enters_of Tryz.func4 (by kernel_rfl) rfl) ?_ ?_ ?_
  · intro i b hb
    cases i with
    | none => simp [lawLS, PL.blks] at hb
    | some i => simp [lawLS, PL.blks] at hb; rw [hb]; rfl
  · intro i b hb; simp [lawLS] at hb
  intro i hp
  have hp : i.ok := hp
  obtain ⟨cu, hcu⟩ : ∃ cu, cu = capU := ⟨_, rfl⟩
  cases i with
  | none =>
    conv => whnf
    refine ⟨none, [], rfl, by show 0 ≤ 1099511627776; decide, ?_⟩
    conv => whnf
    refine ⟨.bool false, rfl, ?_⟩
    conv => whnf
    obtain ⟨gz, hgz⟩ : ∃ gz, gz = rowsP (sortR []) := ⟨_, rfl⟩
    refine ⟨none, [], rfl, ⟨.inl (by decide), by decide, fun p hp => (by cases hp)⟩, ?_⟩
    rw [show predSortS.blks none = [] from rfl, show predSortS.val none = .tuple ⟨[.slice (some ⟨0, 0, none⟩) 0 cu, .int .i64 0]⟩ from by rw [hcu]; rfl, show predSortS.new none = some (.flat true 0 6 gz) from by rw [hgz]; rfl]
    conv => whnf
    refine ⟨_, rfl, ?_⟩
    conv => whnf
    refine ⟨none, [], rfl, ⟨.inl (by decide), by decide, fun p hp => (by cases hp)⟩, ?_⟩
    rw [show rsortS.blks none = [] from rfl, show rsortS.val none = .tuple ⟨[.slice (some ⟨0, 0, none⟩) 0 cu, .int .i64 0]⟩ from by rw [hcu]; rfl, show rsortS.new none = some (.flat true 0 6 gz) from by rw [hgz]; rfl]
    conv => whnf
    refine ⟨_, rfl, ?_⟩
    conv => whnf
    refine ⟨(some (sortR [], cu), some (sortR [], cu)), [0, 1], rfl, ⟨by show 0 ≤ 1099511627776; decide, by show 0 ≤ 1099511627776; decide⟩, ?_⟩
    rw [show sameS.blks (some (sortR [], cu), some (sortR [], cu)) = [.flat false 0 6 gz, .flat false 0 6 gz] from by rw [hgz]; rfl, show sameS.new (some (sortR [], cu), some (sortR [], cu)) = none from rfl]
    conv => whnf
    refine ⟨.flat_rows (fun h => nomatch h) (fun r hr => rfl) (fun r hr => by rw [hgz]; rfl), .flat_rows (fun h => nomatch h) (fun r hr => rfl) (fun r hr => by rw [hgz]; rfl), ?_⟩
    conv => whnf
    refine ⟨.bool true, rfl, ?_⟩
    conv => whnf
    refine ⟨(), rfl, trivial, ?_⟩
    conv => whnf
    exact ⟨.bool true, rfl, .refl _⟩
  | some i =>
    obtain ⟨l, c⟩ := i
    have hp : l.length ≤ 9223372036854775807 := hp
    obtain ⟨n, hn⟩ : ∃ n, n = l.length := ⟨_, rfl⟩
    obtain ⟨g, hg⟩ : ∃ g, g = rowsP l := ⟨_, rfl⟩
    obtain ⟨M, hM⟩ : ∃ M, M = sortR l := ⟨_, rfl⟩
    obtain ⟨gs, hgs⟩ : ∃ gs, gs = rowsP M := ⟨_, rfl⟩
    have hMn : M.length = n := by rw [hM, sortR_length, hn]
    rw [show lawLS.blks (some (l, c)) = [.flat false n 6 g] from by rw [hn, hg]; rfl, show lawLS.args (some (l, c)) = [.slice (some ⟨0, 0, none⟩) n c] from by rw [hn]; rfl]
    have e1 : (bigS 12).blks (some (l, c)) = [.flat false n 6 g] := by rw [hn, hg]; rfl
    have e2 : (bigS 12).args (some (l, c)) = [.slice (some ⟨0, 0, none⟩) n c] := by rw [hn]; rfl
    have e3 : predSortS.blks (some (l, c)) = [.flat false n 6 g] := by rw [hn, hg]; rfl
    have e4 : predSortS.args (some (l, c)) = [.slice (some ⟨0, 0, none⟩) n c] := by rw [hn]; rfl
    have e5 : rsortS.blks (some (l, c)) = [.flat false n 6 g] := by rw [hn, hg]; rfl
    have e6 : rsortS.args (some (l, c)) = [.slice (some ⟨0, 0, none⟩) n c] := by rw [hn]; rfl
    conv => whnf
    by_cases h1 : 12 < n ∧ n ≤ 1000
    · rw [show decide (((n : Nat) : Int) > 12) = true from decide_eq_true (by omega)]
      conv => whnf
      rw [show decide (((n : Nat) : Int) ≤ 1000) = true from decide_eq_true (by omega)]
      conv => whnf
      refine ⟨(), rfl, trivial, ?_⟩
      conv => whnf
      exact ⟨.bool true, rfl, .refl _⟩
    · by_cases h2 : 1005 < n
      · rw [show decide (((n : Nat) : Int) > 12) = true from decide_eq_true (by omega)]
        conv => whnf
        rw [show decide (((n : Nat) : Int) ≤ 1000) = false from decide_eq_false (by omega)]
        conv => whnf
        rw [show decide (((n : Nat) : Int) > 1005) = true from decide_eq_true (by omega)]
        conv => whnf
        refine ⟨(), rfl, trivial, ?_⟩
        conv => whnf
        exact ⟨.bool true, rfl, .refl _⟩
      · by_cases h3 : 12 < n
        · rw [show decide (((n : Nat) : Int) > 12) = true from decide_eq_true (by omega)]
          conv => whnf
          rw [show decide (((n : Nat) : Int) ≤ 1000) = false from decide_eq_false (by omega)]
          conv => whnf
          rw [show decide (((n : Nat) : Int) > 1005) = false from decide_eq_false (by omega)]
          conv => whnf
          obtain ⟨G, hG⟩ : ∃ G, G = anyBig 12 l := ⟨_, rfl⟩
          refine ⟨some (l, c), [0], by rw [e2]; rfl, by show l.length ≤ 1099511627776; omega, ?_⟩
          rw [e1, show (bigS 12).val (some (l, c)) = .bool G from by rw [hG]; rfl, show (bigS 12).new (some (l, c)) = none from rfl]
          conv => whnf
          refine ⟨list_blk hg, ?_⟩
          conv => whnf
          refine ⟨.bool G, rfl, ?_⟩
          cases hG2 : G
          · have hsz := anyBig_false (hG.symm.trans hG2)
            conv => whnf
            refine ⟨some (l, c), [0], by rw [e4]; rfl, ⟨.inr (by show 1000 < l.length; omega), by show l.length ≤ 1099511627776; omega, fun p hp => PV.sz_mono (hsz p hp) (by decide)⟩, ?_⟩
            rw [e3, show predSortS.val (some (l, c)) = .tuple ⟨[.slice none 0 0, .int .i64 4]⟩ from by
              show (if 1000 < l.length then _ else _) = _
              rw [if_pos (by omega)], show predSortS.new (some (l, c)) = none from by
              show (if 1000 < l.length then _ else _) = _
              rw [if_pos (by omega)]]
            conv => whnf
            refine ⟨list_blk hg, ?_⟩
            conv => whnf
            refine ⟨_, rfl, ?_⟩
            conv => whnf
            refine ⟨some (l, c), [0], by rw [e6]; rfl, ⟨.inr (by show 1000 < l.length; omega), by show l.length ≤ 1099511627776; omega, fun p hp => PV.sz_mono (hsz p hp) (by decide)⟩, ?_⟩
            obtain ⟨gz, hgz⟩ : ∃ gz, gz = rowsP [] := ⟨_, rfl⟩
            rw [e5, show rsortS.val (some (l, c)) = .tuple ⟨[.slice (some ⟨1, 0, none⟩) 0 cu, .int .i64 4]⟩ from by
              show Value.tuple ⟨[.slice _ (if 1000 < l.length then _ else _) _, .int .i64 (if 1000 < l.length then _ else _)]⟩ = _
              rw [if_pos (by omega), if_pos (by omega), hcu]; rfl, show rsortS.new (some (l, c)) = some (.flat true 0 6 gz) from by
              show some (Blk.flat true (if 1000 < l.length then _ else _) 6 (rowsP (if 1000 < l.length then _ else _))) = _
              rw [if_pos (by omega), if_pos (by omega), hgz]]
            conv => whnf
            refine ⟨list_blk hg, ?_⟩
            conv => whnf
            refine ⟨_, rfl, ?_⟩
            conv => whnf
            refine ⟨(none, some ([], cu)), [1], rfl, ⟨by show 0 ≤ 1099511627776; decide, by show 0 ≤ 1099511627776; decide⟩, ?_⟩
            rw [show sameS.blks (none, some ([], cu)) = [.flat false 0 6 gz] from by rw [hgz]; rfl, show sameS.new (none, some ([], cu)) = none from rfl]
            conv => whnf
            refine ⟨.flat_rows (fun h => nomatch h) (fun r hr => rfl) (fun r hr => by rw [hgz]; rfl), ?_⟩
            conv => whnf
            refine ⟨.bool true, rfl, ?_⟩
            conv => whnf
            refine ⟨(), rfl, trivial, ?_⟩
            conv => whnf
            exact ⟨.bool true, rfl, .refl _⟩
          · conv => whnf
            refine ⟨(), rfl, trivial, ?_⟩
            conv => whnf
            exact ⟨.bool true, rfl, .refl _⟩
        · rw [show decide (((n : Nat) : Int) > 12) = false from decide_eq_false (by omega)]
          conv => whnf
          rw [show decide (((n : Nat) : Int) > 1005) = false from decide_eq_false (by omega)]
          conv => whnf
          obtain ⟨G, hG⟩ : ∃ G, G = anyBig 12 l := ⟨_, rfl⟩
          refine ⟨some (l, c), [0], by rw [e2]; rfl, by show l.length ≤ 1099511627776; omega, ?_⟩
          rw [e1, show (bigS 12).val (some (l, c)) = .bool G from by rw [hG]; rfl, show (bigS 12).new (some (l, c)) = none from rfl]
          conv => whnf
          refine ⟨list_blk hg, ?_⟩
          conv => whnf
          refine ⟨.bool G, rfl, ?_⟩
          cases hG2 : G
          · have hsz := anyBig_false (hG.symm.trans hG2)
            have hMs : ∀ p ∈ M, p.sz 12 := by rw [hM]; exact sortR_sz (by decide) hsz
            conv => whnf
            refine ⟨some (l, c), [0], by rw [e4]; rfl, ⟨.inl (by show l.length ≤ 12; omega), by show l.length ≤ 1099511627776; omega, fun p hp => PV.sz_mono (hsz p hp) (by decide)⟩, ?_⟩
            rw [e3, show predSortS.val (some (l, c)) = .tuple ⟨[.slice (some ⟨1, 0, none⟩) n cu, .int .i64 0]⟩ from by
              show (if 1000 < l.length then _ else _) = _
              rw [if_neg (by omega), hn, hcu]; rfl, show predSortS.new (some (l, c)) = some (.flat true n 6 gs) from by
              show (if 1000 < l.length then _ else _) = _
              rw [if_neg (by omega), hn, hgs, hM]; rfl]
            conv => whnf
            refine ⟨list_blk hg, ?_⟩
            conv => whnf
            refine ⟨_, rfl, ?_⟩
            conv => whnf
            refine ⟨some (l, c), [0], by rw [e6]; rfl, ⟨.inl (by show l.length ≤ 12; omega), by show l.length ≤ 1099511627776; omega, fun p hp => PV.sz_mono (hsz p hp) (by decide)⟩, ?_⟩
            rw [e5, show rsortS.val (some (l, c)) = .tuple ⟨[.slice (some ⟨1, 0, none⟩) n cu, .int .i64 0]⟩ from by
              show Value.tuple ⟨[.slice _ (if 1000 < l.length then _ else _) _, .int .i64 (if 1000 < l.length then _ else _)]⟩ = _
              rw [if_neg (by omega), if_neg (by omega), hcu, hn]; rfl, show rsortS.new (some (l, c)) = some (.flat true n 6 gs) from by
              show some (Blk.flat true (if 1000 < l.length then _ else _) 6 (rowsP (if 1000 < l.length then _ else _))) = _
              rw [if_neg (by omega), if_neg (by omega), hgs, hM, hn]; rfl]
            conv => whnf
            refine ⟨list_blk hg, ?_⟩
            conv => whnf
            refine ⟨_, rfl, ?_⟩
            conv => whnf
            refine ⟨(some (M, cu), some (M, cu)), [1, 2], by rw [← hMn]; rfl, ⟨by show M.length ≤ 1099511627776; omega, by show M.length ≤ 1099511627776; omega⟩, ?_⟩
            rw [show sameS.blks (some (M, cu), some (M, cu)) = [.flat false n 6 gs, .flat false n 6 gs] from by rw [hgs, ← hMn]; rfl, show sameS.new (some (M, cu), some (M, cu)) = none from rfl, show sameS.val (some (M, cu), some (M, cu)) = .bool true from congrArg Value.bool (decide_eq_true rfl)]
            conv => whnf
            refine ⟨.flat_rows (fun h => nomatch h) (fun r hr => rfl) (fun r hr => by rw [hgs]; rfl), .flat_rows (fun h => nomatch h) (fun r hr => rfl) (fun r hr => by rw [hgs]; rfl), ?_⟩
            conv => whnf
            refine ⟨.bool true, rfl, ?_⟩
            conv => whnf
            refine ⟨(), rfl, trivial, ?_⟩
            conv => whnf
            exact ⟨.bool true, rfl, .refl _⟩
          · conv => whnf
            refine ⟨(), rfl, trivial, ?_⟩
            conv => whnf
            exact ⟨.bool true, rfl, .refl _⟩
end Go.Proofs.YtgakcbdahbagkaaGreat
/- The statement PredicateSort. -/
set_option linter.unusedVariables false
namespace Go.Proofs.YtgakcbdahbagkaaGreat
open Go Go.Ae Go.ChangeShapes Go.WideShapes Go.ChangeAt Go.RowKit

theorem own : ownKnob Tryz.prog.godebug = none := by kernel_rfl
theorem laidOut : laidOutB Tryz.prog = true := by kernel_rfl
set_option maxRecDepth 100000 in
theorem ptTy : PtTy Tryz.prog 23 25 4 9 :=
  ⟨⟨_, _, _, Tryz.underlying23, ⟨rfl, rfl⟩, ⟨rfl, rfl⟩, rfl, rfl⟩, ⟨_, _, Tryz.underlying25, ⟨rfl, rfl⟩, rfl, rfl⟩, Tryz.underlying4, Tryz.underlying9, by kernel_rfl, by kernel_rfl, by kernel_rfl, by kernel_rfl⟩

set_option maxRecDepth 100000 in
theorem predicateSort_lifted (os : Os) (started : os.Started) (H : Type) (enc : TypeId × Value → H) :
    ReturnsInHanded {} Tryz.checked os 4 .any (Rows.predicateSortSpec.pre6 enc Tryz.prog Tryz.f4 Rows.predicateSortRow.domain false) (Rows.predicateSortSpec.post enc Tryz.prog Tryz.f4 false true false false) := by
  refine returnsInHanded_of_change (C := Tryz.checked) own started (by kernel_rfl) Tryz.func4
    (ChangeSpec.witness6 (enc := enc) (C := Tryz.checked) false ⟨#[], #[.slice none 0 0], []⟩ 8 (by kernel_rfl) (by kernel_rfl) (by kernel_rfl) (by kernel_rfl)) ?_
  intro W base args ds gs before hval0 hW hcnd _
  have hval : ∀ (j : Nat) t v, Tryz.f4.params[j]? = some t → args[j]? = some v → Value.okWide Tryz.prog W .any base t v := hval0
  have hW' := hW
  obtain ⟨p, q, hA0, hV, rfl, hfz, hnd⟩ := hW
  have hA : DataW.TrodAll enc Tryz.prog W 0 (fun _ => true) true Tryz.f4.params.toList args.toList ds p := hA0
  rw [Tryz.params4] at hA hval
  obtain ⟨v0, vs0, d0, ds0, p0, q0, hargs, rfl, rfl, h0, r0⟩ := trodAll_cons hA
  obtain ⟨rfl, rfl, rfl⟩ := trodAll_nil r0
  obtain rfl : args = #[v0] := by cases args; simp_all
  obtain ⟨rfl, rfl⟩ := trodVars_none hV
  obtain ⟨a0, ν, hi, hv0, hH, hν⟩ := open_points ptTy Tryz.underlying35 (hval 0 35 v0 rfl rfl) h0
  have lt0 : ∀ x ∈ p0, x.block < W.heap.size := by obtain ⟨m, hm⟩ := h0; exact DataW.trod_lt m _ _ _ hm
  clear hA0 hval0
  have hargs2 : LRel ν (lawLS.args a0) [v0] := .cons hv0 (.nil ν)
  refine (calls_of_qsnd pSort_ok (i := a0) hi hargs2 hH hν (b := true) rfl).mono fun e W' ⟨he, bel⟩ => ?_
  subst he
  exact ⟨_, rfl, _, _, _, [], _, [], hW', trodAll_mk1 (shut_bool Tryz.underlying4 _), (trodAll_cons_mk (Below.trod laidOut (by kernel_rfl) (of_decide_eq_true (by kernel_rfl)) h0 bel lt0) trodAll_mk0), rfl, bel.frame _, fun h => by cases h⟩

theorem predicateSort_holds : Rows.predicateSortRow.holds Tryz.pinned (OpenSpec.ofChange Rows.predicateSortSpec) :=
  OpenClaim.holds_of_wide 4 Tryz.f4 rfl rfl rfl rfl rfl rfl rfl ⟨rfl, rfl, rfl, rfl, rfl⟩ rfl rfl rfl rfl rfl (by kernel_rfl) Tryz.func4 (by kernel_rfl)
    (of_decide_eq_true (by kernel_rfl)) (by unfold Func.isWrapper; first | (rw [if_pos (by decide +kernel)]; kernel_rfl) | (rw [if_neg (by decide +kernel)]; exact ⟨rfl, rfl⟩))
    (fun os started H enc _ => predicateSort_lifted os started H enc)
theorem predicateSort_proved : Rows.PredicateSortSaid := predicateSort_holds
end Go.Proofs.YtgakcbdahbagkaaGreat
