import Derived.Test.YtgakcbdahbagkaaGreatRows
import Derived.Test.YtgakcbdahbagkaaGreatPI
/- The example of the chapter on predicates. -/
set_option linter.unusedVariables false
set_option linter.unusedSimpArgs false
set_option maxRecDepth 20000
set_option maxHeartbeats 4000000
namespace Go.Proofs.YtgakcbdahbagkaaGreat
open Go Go.Ae

def Epj : Env := { tt := tt, eqs := eqsL, Φ := fun g => match g with
  | 26 => some (.p vofS)
  | 8 => some (.p centerS)
  | 10 => some (.p orientS)
  | 14 => some (.p betweenS)
  | 12 => some (.p incircleS)
  | 21 => some (.p wedgeS)
  | 16 => some (.q predSortS)
  | 18 => some (.q sameS)
  | _ => none }
theorem Epjok : EnvOk Tryz.prog Epj := ⟨tt_ok, eqs_ok, (fun g S h => by
  simp only [Epj] at h
  split at h
  · cases h; exact vof_ok
  · cases h; exact center_ok
  · cases h; exact orient_ok
  · cases h; exact between_ok
  · cases h; exact incircle_ok
  · cases h; exact wedge_ok
  · cases h; exact predSort_ok
  · cases h; exact same_ok
  · cases h), fun g F h => by simp [Epj] at h⟩
theorem awake7_ok : Snd Tryz.prog 7 awakeS := by
  refine snd_of Epjok Dok Tryz.func7 (enters_of Tryz.func7 (by kernel_rfl) rfl) (fun _ => rfl) (fun _ => rfl) ?_
  intro _ hp
  conv => whnf
  obtain ⟨o, co, eo, po, so, qo⟩ := hidePc (ofsz (0) (0) (by decide) (by decide))
  refine ⟨(((0 : Int), (0 : Int)) : Int × Int), rfl, ⟨⟨by decide, by decide⟩, ⟨by decide, by decide⟩⟩, ?_⟩
  rw [show vofS.val (((0 : Int), (0 : Int)) : Int × Int) = o.v from eo]
  conv => whnf
  obtain ⟨a, ca, ea, pa, sa, qa⟩ := hidePc (ofsz (2) (0) (by decide) (by decide))
  refine ⟨(((2 : Int), (0 : Int)) : Int × Int), rfl, ⟨⟨by decide, by decide⟩, ⟨by decide, by decide⟩⟩, ?_⟩
  rw [show vofS.val (((2 : Int), (0 : Int)) : Int × Int) = a.v from ea]
  conv => whnf
  obtain ⟨b, cb, eb, pb, sb, qb⟩ := hidePc (ofsz (0) (2) (by decide) (by decide))
  refine ⟨(((0 : Int), (2 : Int)) : Int × Int), rfl, ⟨⟨by decide, by decide⟩, ⟨by decide, by decide⟩⟩, ?_⟩
  rw [show vofS.val (((0 : Int), (2 : Int)) : Int × Int) = b.v from eb]
  conv => whnf
  obtain ⟨c, cc, ec, pc, sc, qc⟩ := hidePc (ofsz 1 1 (by decide) (by decide))
  have hc : cenV o.p a.p b.p = (ptV (((1 : Int) : Rat), ((1 : Int) : Rat)), 0) := by
    rw [po, pa, pb]
    unfold cenV
    rw [if_neg (by decide +kernel)]
    congr 2
    decide +kernel
  refine ⟨(o, a, b), rfl, ⟨PV.sz_mono so (by decide), PV.sz_mono sa (by decide), PV.sz_mono sb (by decide)⟩, ?_⟩
  rw [show centerS.val (o, a, b) = .tuple ⟨[c.v, .int .i64 0]⟩ from by
    show Value.tuple ⟨[(cenV o.p a.p b.p).1.v, .int .i64 (cenV o.p a.p b.p).2]⟩ = _
    rw [hc, ← ec]]
  conv => whnf
  refine .inl ⟨23, [[], [], [], [0, 1, 2], [0, 1, 2, 3], [0, 1, 2, 3, 4], [0, 1, 2, 3, 4, 5], [0, 1, 2, 3, 4, 5], [0, 1, 2, 3, 4, 5], [0, 1, 2, 3, 4, 5, 6, 7, 8], [0, 1, 2, 3, 4, 5, 6, 7, 8, 9], [0, 1, 2, 3, 4, 5, 6, 7, 8, 9, 10], [0, 1, 2, 3, 4, 5, 6, 7, 8, 9, 10, 11], [0, 1, 2, 3, 4, 5, 6, 7, 8, 9, 10, 11, 12], [0, 1, 2, 3, 4, 5, 6, 7, 8, 9, 10, 11, 12, 13], [0, 1, 2, 3, 4, 5, 6, 7, 8, 9, 10, 11, 12, 13, 14], [0, 1, 2, 3, 4, 5, 6, 7, 8, 9, 10, 11, 12, 13, 14, 15], [0, 1, 2, 3, 4, 5, 6, 7, 8, 9, 10, 11, 12, 13, 14, 15], [0, 1, 2, 3, 4, 5, 6, 7, 8, 9, 10, 11, 12, 13, 14, 15, 16, 17], [0, 1, 2, 3, 4, 5, 6, 7, 8, 9, 10, 11, 12, 13, 14, 15, 16, 17, 18], [0, 1, 2, 3, 4, 5, 6, 7, 8, 9, 10, 11, 12, 13, 14, 15, 16, 17, 18, 19], [0, 1, 2, 3, 4, 5, 6, 7, 8, 9, 10, 11, 12, 13, 14, 15, 16, 17, 18, 19, 20], [0, 1, 2, 3, 4, 5, 6, 7, 8, 9, 10, 11, 12, 13, 14, 15, 16, 17, 18, 19, 20], [0, 1, 2, 3, 4, 5, 6, 7, 8, 9, 10, 11, 12, 13, 14, 15, 16, 17, 18, 19, 20, 21, 22], [0, 1, 2, 3, 4, 5, 6, 7, 8, 9, 10, 11, 12, 13, 14, 15, 16, 17, 18, 19, 20, 21, 22, 23], [0, 1, 2, 3, 4, 5, 6, 7, 8, 9, 10, 11, 12, 13, 14, 15, 16, 17, 18, 19, 20, 21, 22, 23, 24]], by kernel_rfl, ?_⟩
  conv => whnf
  refine ⟨(o, a, b), rfl, ⟨PV.sz_mono so (by decide), PV.sz_mono sa (by decide), PV.sz_mono sb (by decide)⟩, ?_⟩
  rw [show orientS.val (o, a, b) = .int .i64 (1) from congrArg (Value.int .i64) (show cmpQ (orR o.p a.p b.p) 0 = 1 from by rw [po, pa, pb]; decide +kernel)]
  conv => whnf
  obtain ⟨u, cu, eu, pu, su, qu⟩ := hidePc (ofsz (1) (1) (by decide) (by decide))
  refine ⟨(((1 : Int), (1 : Int)) : Int × Int), rfl, ⟨⟨by decide, by decide⟩, ⟨by decide, by decide⟩⟩, ?_⟩
  rw [show vofS.val (((1 : Int), (1 : Int)) : Int × Int) = u.v from eu]
  conv => whnf
  refine ⟨(a, b, u), rfl, ⟨PV.sz_mono sa (by decide), PV.sz_mono sb (by decide), PV.sz_mono su (by decide)⟩, ?_⟩
  rw [show betweenS.val (a, b, u) = .bool (true) from congrArg (Value.bool) (show decide (betR a.p b.p u.p) = true from by rw [pa, pb, pu]; decide +kernel)]
  conv => whnf
  obtain ⟨w, cw, ew, pw, sw, qw⟩ := hidePc (ofsz (1) (1) (by decide) (by decide))
  refine ⟨(((1 : Int), (1 : Int)) : Int × Int), rfl, ⟨⟨by decide, by decide⟩, ⟨by decide, by decide⟩⟩, ?_⟩
  rw [show vofS.val (((1 : Int), (1 : Int)) : Int × Int) = w.v from ew]
  conv => whnf
  rw [eqPQ c w, show decide (c = w) = true from decide_eq_true (cc.trans cw.symm)]
  conv => whnf
  rw [eqPQ c o, show decide (c = o) = false from decide_eq_false (fun h => by
    have := congrArg PV.p h
    rw [pc, po] at this
    exact absurd this (by decide +kernel))]
  conv => whnf
  refine .inl ⟨22, [[], [0], [0, 1], [0, 1], [0, 1], [0, 1], [0, 1, 2, 3, 4, 5], [0, 1, 2, 3, 4, 5, 6], [0, 1, 2, 3, 4, 5, 6, 7], [0, 1, 2, 3, 4, 5, 6, 7, 8], [0, 1, 2, 3, 4, 5, 6, 7, 8, 9], [0, 1, 2, 3, 4, 5, 6, 7, 8, 9], [0, 1, 2, 3, 4, 5, 6, 7, 8, 9], [0, 1, 2, 3, 4, 5, 6, 7, 8, 9], [0, 1, 2, 3, 4, 5, 6, 7, 8, 9, 10, 11, 12, 13], [0, 1, 2, 3, 4, 5, 6, 7, 8, 9, 10, 11, 12, 13, 14], [0, 1, 2, 3, 4, 5, 6, 7, 8, 9, 10, 11, 12, 13, 14, 15], [0, 1, 2, 3, 4, 5, 6, 7, 8, 9, 10, 11, 12, 13, 14, 15, 16], [0, 1, 2, 3, 4, 5, 6, 7, 8, 9, 10, 11, 12, 13, 14, 15, 16, 17], [0, 1, 2, 3, 4, 5, 6, 7, 8, 9, 10, 11, 12, 13, 14, 15, 16, 17], [0, 1, 2, 3, 4, 5, 6, 7, 8, 9, 10, 11, 12, 13, 14, 15, 16, 17], [0, 1, 2, 3, 4, 5, 6, 7, 8, 9, 10, 11, 12, 13, 14, 15, 16, 17], [0, 1, 2, 3, 4, 5, 6, 7, 8, 9, 10, 11, 12, 13, 14, 15, 16, 17, 18, 19, 20, 21], [0, 1, 2, 3, 4, 5, 6, 7, 8, 9, 10, 11, 12, 13, 14, 15, 16, 17, 18, 19, 20, 21, 22], [0, 1, 2, 3, 4, 5, 6, 7, 8, 9, 10, 11, 12, 13, 14, 15, 16, 17, 18, 19, 20, 21, 22, 23], [0, 1, 2, 3, 4, 5, 6, 7, 8, 9, 10, 11, 12, 13, 14, 15, 16, 17, 18, 19, 20, 21, 22, 23, 24]], by kernel_rfl, ?_⟩
  conv => whnf
  obtain ⟨v2, cv2, ev2, pv2, sv2, qv2⟩ := hidePc (ofsz (2) (2) (by decide) (by decide))
  refine ⟨(((2 : Int), (2 : Int)) : Int × Int), rfl, ⟨⟨by decide, by decide⟩, ⟨by decide, by decide⟩⟩, ?_⟩
  rw [show vofS.val (((2 : Int), (2 : Int)) : Int × Int) = v2.v from ev2]
  conv => whnf
  refine ⟨(o, a, b, v2), rfl, ⟨PV.sz_mono so (by decide), PV.sz_mono sa (by decide), PV.sz_mono sb (by decide), PV.sz_mono sv2 (by decide)⟩, ?_⟩
  rw [show incircleS.val (o, a, b, v2) = .int .i64 (0) from congrArg (Value.int .i64) (show cmpQ (icR o.p a.p b.p v2.p) 0 = 0 from by rw [po, pa, pb, pv2]; decide +kernel)]
  conv => whnf
  obtain ⟨v3, cv3, ev3, pv3, sv3, qv3⟩ := hidePc (ofsz (3) (3) (by decide) (by decide))
  refine ⟨(((3 : Int), (3 : Int)) : Int × Int), rfl, ⟨⟨by decide, by decide⟩, ⟨by decide, by decide⟩⟩, ?_⟩
  rw [show vofS.val (((3 : Int), (3 : Int)) : Int × Int) = v3.v from ev3]
  conv => whnf
  refine ⟨(o, a, b, v3), rfl, ⟨PV.sz_mono so (by decide), PV.sz_mono sa (by decide), PV.sz_mono sb (by decide), PV.sz_mono sv3 (by decide)⟩, ?_⟩
  rw [show incircleS.val (o, a, b, v3) = .int .i64 ((-1)) from congrArg (Value.int .i64) (show cmpQ (icR o.p a.p b.p v3.p) 0 = (-1) from by rw [po, pa, pb, pv3]; decide +kernel)]
  conv => whnf
  refine ⟨(o, a, b, c), rfl, ⟨PV.sz_mono so (by decide), PV.sz_mono sa (by decide), PV.sz_mono sb (by decide), PV.sz_mono sc (by decide)⟩, ?_⟩
  rw [show incircleS.val (o, a, b, c) = .int .i64 (1) from congrArg (Value.int .i64) (show cmpQ (icR o.p a.p b.p c.p) 0 = 1 from by rw [po, pa, pb, pc]; decide +kernel)]
  conv => whnf
  obtain ⟨p1, cp1, ep1, pp1, sp1, qp1⟩ := hidePc (ofsz (0) (-1) (by decide) (by decide))
  refine ⟨(((0 : Int), (-1 : Int)) : Int × Int), rfl, ⟨⟨by decide, by decide⟩, ⟨by decide, by decide⟩⟩, ?_⟩
  rw [show vofS.val (((0 : Int), (-1 : Int)) : Int × Int) = p1.v from ep1]
  conv => whnf
  obtain ⟨p2, cp2, ep2, pp2, sp2, qp2⟩ := hidePc (ofsz (-1) (0) (by decide) (by decide))
  refine ⟨(((-1 : Int), (0 : Int)) : Int × Int), rfl, ⟨⟨by decide, by decide⟩, ⟨by decide, by decide⟩⟩, ?_⟩
  rw [show vofS.val (((-1 : Int), (0 : Int)) : Int × Int) = p2.v from ep2]
  conv => whnf
  obtain ⟨p3, cp3, ep3, pp3, sp3, qp3⟩ := hidePc (ofsz (0) (5) (by decide) (by decide))
  refine ⟨(((0 : Int), (5 : Int)) : Int × Int), rfl, ⟨⟨by decide, by decide⟩, ⟨by decide, by decide⟩⟩, ?_⟩
  rw [show vofS.val (((0 : Int), (5 : Int)) : Int × Int) = p3.v from ep3]
  conv => whnf
  obtain ⟨p4, cp4, ep4, pp4, sp4, qp4⟩ := hidePc (ofsz (1) (0) (by decide) (by decide))
  refine ⟨(((1 : Int), (0 : Int)) : Int × Int), rfl, ⟨⟨by decide, by decide⟩, ⟨by decide, by decide⟩⟩, ?_⟩
  rw [show vofS.val (((1 : Int), (0 : Int)) : Int × Int) = p4.v from ep4]
  conv => whnf
  obtain ⟨p5, cp5, ep5, pp5, sp5, qp5⟩ := hidePc (ofsz (1) (1) (by decide) (by decide))
  refine ⟨(((1 : Int), (1 : Int)) : Int × Int), rfl, ⟨⟨by decide, by decide⟩, ⟨by decide, by decide⟩⟩, ?_⟩
  rw [show vofS.val (((1 : Int), (1 : Int)) : Int × Int) = p5.v from ep5]
  conv => whnf
  have hS : sortR [p1, p2, p3, p4, p5] = [p4, p5, p3, p2, p1] := by
    unfold sortR
    have hcan : List.map canonP [p1, p2, p3, p4, p5] = [p1, p2, p3, p4, p5] := by
      show [ptV p1.p, ptV p2.p, ptV p3.p, ptV p4.p, ptV p5.p] = _
      rw [pp1, pp2, pp3, pp4, pp5, ← cp1, ← cp2, ← cp3, ← cp4, ← cp5]
    rw [hcan]
    have e : ∀ (x y : PV) (q r : Q2), x.p = q → y.p = r → cmpV x y = cmp2 q r := fun x y q r h1 h2 => by rw [← h1, ← h2]; rfl
    have c12 : cmpV p2 p1 < 0 := by rw [e _ _ _ _ pp2 pp1]; decide +kernel
    have c31 : cmpV p3 p1 < 0 := by rw [e _ _ _ _ pp3 pp1]; decide +kernel
    have c32 : cmpV p3 p2 < 0 := by rw [e _ _ _ _ pp3 pp2]; decide +kernel
    have c41 : cmpV p4 p1 < 0 := by rw [e _ _ _ _ pp4 pp1]; decide +kernel
    have c42 : cmpV p4 p2 < 0 := by rw [e _ _ _ _ pp4 pp2]; decide +kernel
    have c43 : cmpV p4 p3 < 0 := by rw [e _ _ _ _ pp4 pp3]; decide +kernel
    have c51 : cmpV p5 p1 < 0 := by rw [e _ _ _ _ pp5 pp1]; decide +kernel
    have c52 : cmpV p5 p2 < 0 := by rw [e _ _ _ _ pp5 pp2]; decide +kernel
    have c53 : cmpV p5 p3 < 0 := by rw [e _ _ _ _ pp5 pp3]; decide +kernel
    have c54 : ¬ cmpV p5 p4 < 0 := by rw [e _ _ _ _ pp5 pp4]; decide +kernel
    simp [sortL, srtB, insB, c12, c31, c32, c41, c42, c43, c51, c52, c53, c54]
  obtain ⟨cu, hcu⟩ : ∃ cu, cu = capU := ⟨_, rfl⟩
  obtain ⟨gs, hgs⟩ : ∃ g, g = rowsP [p4, p5, p3, p2, p1] := ⟨_, rfl⟩
  refine ⟨some ([p1, p2, p3, p4, p5], 5), [_], rfl, ⟨.inl (by show 5 ≤ 12; decide), by show 5 ≤ 1099511627776; decide, fun p hp => ?_⟩, ?_⟩
  · have hp : p ∈ [p1, p2, p3, p4, p5] := hp
    simp only [List.mem_cons, List.mem_nil_iff, or_false] at hp
    rcases hp with rfl | rfl | rfl | rfl | rfl
    · exact PV.sz_mono sp1 (by decide)
    · exact PV.sz_mono sp2 (by decide)
    · exact PV.sz_mono sp3 (by decide)
    · exact PV.sz_mono sp4 (by decide)
    · exact PV.sz_mono sp5 (by decide)
  rw [show predSortS.blks (some ([p1, p2, p3, p4, p5], 5)) = [.flat false 5 6 (rowsP [p1, p2, p3, p4, p5])] from rfl, show predSortS.val (some ([p1, p2, p3, p4, p5], 5)) = .tuple ⟨[.slice (some ⟨1, 0, none⟩) 5 cu, .int .i64 0]⟩ from by rw [hcu]; rfl, show predSortS.new (some ([p1, p2, p3, p4, p5], 5)) = some (.flat true 5 6 gs) from by
    rw [hgs, ← hS]; rfl]
  conv => whnf
  refine ⟨lit_blk [p1, p2, p3, p4, p5], ?_⟩
  conv => whnf
  refine ⟨_, rfl, ?_⟩
  conv => whnf
  obtain ⟨x, cx, ex, px, sx, qx⟩ := hidePc (ofsz (1) (0) (by decide) (by decide))
  refine ⟨(((1 : Int), (0 : Int)) : Int × Int), rfl, ⟨⟨by decide, by decide⟩, ⟨by decide, by decide⟩⟩, ?_⟩
  rw [show vofS.val (((1 : Int), (0 : Int)) : Int × Int) = x.v from ex]
  conv => whnf
  obtain ⟨y, cy, ey, py, sy, qy⟩ := hidePc (ofsz (0) (1) (by decide) (by decide))
  refine ⟨(((0 : Int), (1 : Int)) : Int × Int), rfl, ⟨⟨by decide, by decide⟩, ⟨by decide, by decide⟩⟩, ?_⟩
  rw [show vofS.val (((0 : Int), (1 : Int)) : Int × Int) = y.v from ey]
  conv => whnf
  refine .inl ⟨18, [[], [0], [0, 1], [0, 1], [0, 1], [0, 1, 2, 3, 4], [0, 1, 2, 3, 4, 5], [0, 1, 2, 3, 4, 5, 6], [0, 1, 2, 3, 4, 5, 6, 7], [0, 1, 2, 3, 4, 5, 6, 7], [0, 1, 2, 3, 4, 5, 6, 7], [0, 1, 2, 3, 4, 5, 6, 7, 8, 9, 10], [0, 1, 2, 3, 4, 5, 6, 7, 8, 9, 10, 11], [0, 1, 2, 3, 4, 5, 6, 7, 8, 9, 10, 11, 12], [0, 1, 2, 3, 4, 5, 6, 7, 8, 9, 10, 11, 12, 13], [0, 1, 2, 3, 4, 5, 6, 7, 8, 9, 10, 11, 12, 13, 14], [0, 1, 2, 3, 4, 5, 6, 7, 8, 9, 10, 11, 12, 13, 14], [0, 1, 2, 3, 4, 5, 6, 7, 8, 9, 10, 11, 12, 13, 14], [0, 1, 2, 3, 4, 5, 6, 7, 8, 9, 10, 11, 12, 13, 14, 15, 16, 17], [0, 1, 2, 3, 4, 5, 6, 7, 8, 9, 10, 11, 12, 13, 14, 15, 16, 17, 18], [0, 1, 2, 3, 4, 5, 6, 7, 8, 9, 10, 11, 12, 13, 14, 15, 16, 17, 18, 19]], by kernel_rfl, ?_⟩
  conv => whnf
  obtain ⟨u1, cu1, eu1, pu1, su1, qu1⟩ := hidePc (ofsz (1) (1) (by decide) (by decide))
  refine ⟨(((1 : Int), (1 : Int)) : Int × Int), rfl, ⟨⟨by decide, by decide⟩, ⟨by decide, by decide⟩⟩, ?_⟩
  rw [show vofS.val (((1 : Int), (1 : Int)) : Int × Int) = u1.v from eu1]
  conv => whnf
  refine ⟨(x, y, u1), rfl, ⟨PV.sz_mono sx (by decide), PV.sz_mono sy (by decide), PV.sz_mono su1 (by decide)⟩, ?_⟩
  rw [show wedgeS.val (x, y, u1) = .bool (true) from congrArg (Value.bool) (show decide (wedR x.p y.p u1.p) = true from by rw [px, py, pu1]; decide +kernel)]
  conv => whnf
  obtain ⟨u2, cu2, eu2, pu2, su2, qu2⟩ := hidePc (ofsz (1) (1) (by decide) (by decide))
  refine ⟨(((1 : Int), (1 : Int)) : Int × Int), rfl, ⟨⟨by decide, by decide⟩, ⟨by decide, by decide⟩⟩, ?_⟩
  rw [show vofS.val (((1 : Int), (1 : Int)) : Int × Int) = u2.v from eu2]
  conv => whnf
  refine ⟨(y, x, u2), rfl, ⟨PV.sz_mono sy (by decide), PV.sz_mono sx (by decide), PV.sz_mono su2 (by decide)⟩, ?_⟩
  rw [show wedgeS.val (y, x, u2) = .bool (false) from congrArg (Value.bool) (show decide (wedR y.p x.p u2.p) = false from by rw [px, py, pu2]; decide +kernel)]
  conv => whnf
  obtain ⟨u3, cu3, eu3, pu3, su3, qu3⟩ := hidePc (ofsz (-1) (-1) (by decide) (by decide))
  refine ⟨(((-1 : Int), (-1 : Int)) : Int × Int), rfl, ⟨⟨by decide, by decide⟩, ⟨by decide, by decide⟩⟩, ?_⟩
  rw [show vofS.val (((-1 : Int), (-1 : Int)) : Int × Int) = u3.v from eu3]
  conv => whnf
  refine ⟨(y, x, u3), rfl, ⟨PV.sz_mono sy (by decide), PV.sz_mono sx (by decide), PV.sz_mono su3 (by decide)⟩, ?_⟩
  rw [show wedgeS.val (y, x, u3) = .bool (true) from congrArg (Value.bool) (show decide (wedR y.p x.p u3.p) = true from by rw [px, py, pu3]; decide +kernel)]
  conv => whnf
  refine .inl ⟨13, [[], [0], [0, 1], [0, 1, 2], [0, 1, 2, 3], [0, 1, 2, 3, 4], [0, 1, 2, 3, 4, 5], [0, 1, 2, 3, 4, 5], [0, 1, 2, 3, 4, 5], [0, 1, 2, 3, 4, 5, 8], [0, 1, 2, 3, 4, 5, 8, 9], [0, 1, 2, 3, 4, 5, 8, 9, 10], [0, 1, 2, 3, 4, 5, 7, 8, 9, 10, 11], [0, 1, 2, 3, 4, 5, 6, 7, 8, 9, 10, 11, 12], [0, 1, 2, 3, 4, 5, 6, 7, 8, 9, 10, 11, 12, 13], [0, 1, 2, 3, 4, 5, 6, 7, 8, 9, 10, 11, 12, 13, 14]], by kernel_rfl, ?_⟩
  conv => whnf
  obtain ⟨r1, cr1, er1, pr1, sr1, qr1⟩ := hidePc (ofsz (1) (1) (by decide) (by decide))
  refine ⟨(((1 : Int), (1 : Int)) : Int × Int), rfl, ⟨⟨by decide, by decide⟩, ⟨by decide, by decide⟩⟩, ?_⟩
  rw [show vofS.val (((1 : Int), (1 : Int)) : Int × Int) = r1.v from er1]
  conv => whnf
  obtain ⟨r2, cr2, er2, pr2, sr2, qr2⟩ := hidePc (ofsz (0) (5) (by decide) (by decide))
  refine ⟨(((0 : Int), (5 : Int)) : Int × Int), rfl, ⟨⟨by decide, by decide⟩, ⟨by decide, by decide⟩⟩, ?_⟩
  rw [show vofS.val (((0 : Int), (5 : Int)) : Int × Int) = r2.v from er2]
  conv => whnf
  obtain ⟨r3, cr3, er3, pr3, sr3, qr3⟩ := hidePc (ofsz (-1) (0) (by decide) (by decide))
  refine ⟨(((-1 : Int), (0 : Int)) : Int × Int), rfl, ⟨⟨by decide, by decide⟩, ⟨by decide, by decide⟩⟩, ?_⟩
  rw [show vofS.val (((-1 : Int), (0 : Int)) : Int × Int) = r3.v from er3]
  conv => whnf
  obtain ⟨r4, cr4, er4, pr4, sr4, qr4⟩ := hidePc (ofsz (0) (-1) (by decide) (by decide))
  refine ⟨(((0 : Int), (-1 : Int)) : Int × Int), rfl, ⟨⟨by decide, by decide⟩, ⟨by decide, by decide⟩⟩, ?_⟩
  rw [show vofS.val (((0 : Int), (-1 : Int)) : Int × Int) = r4.v from er4]
  conv => whnf
  have hL : [p4, p5, p3, p2, p1] = [x, r1, r2, r3, r4] := by rw [cp1, cp2, cp3, cp4, cp5, cx, cr1, cr2, cr3, cr4]
  refine ⟨(some ([p4, p5, p3, p2, p1], cu), some ([x, r1, r2, r3, r4], 5)), [_, _], rfl, ⟨by show 5 ≤ 1099511627776; decide, by show 5 ≤ 1099511627776; decide⟩, ?_⟩
  rw [show sameS.blks (some ([p4, p5, p3, p2, p1], cu), some ([x, r1, r2, r3, r4], 5)) = [.flat false 5 6 (rowsP [p4, p5, p3, p2, p1]), .flat false 5 6 (rowsP [x, r1, r2, r3, r4])] from rfl, show sameS.val (some ([p4, p5, p3, p2, p1], cu), some ([x, r1, r2, r3, r4], 5)) = .bool true from congrArg Value.bool (decide_eq_true hL), show sameS.new (some ([p4, p5, p3, p2, p1], cu), some ([x, r1, r2, r3, r4], 5)) = none from rfl]
  conv => whnf
  refine ⟨BlkLe.flat_rows (fun h => by cases h) (fun r hr => by rw [hgs]) (fun r hr => rfl), lit_blk [x, r1, r2, r3, r4], ?_⟩
  conv => whnf
  refine ⟨.bool true, rfl, ?_⟩
  conv => whnf
  rfl
end Go.Proofs.YtgakcbdahbagkaaGreat
/- Contracts of the reference rationals: signs, quotients. -/
set_option linter.unusedVariables false
set_option linter.unusedSimpArgs false
set_option maxRecDepth 20000
set_option maxHeartbeats 1000000
namespace Go.Proofs.YtgakcbdahbagkaaGreat
open Go Go.Ae

def Eqs : Env := { tt := tt, eqs := [], Φ := fun g => match g with
  | 81 => some (.p qcmpS)
  | 76 => some (.p partsS)
  | 38 => some (.p qmulS)
  | _ => none }
theorem Eqsok : EnvOk Tryz.prog Eqs := ⟨tt_ok, fun t h => by simp [Eqs] at h, (fun g S h => by
  simp only [Eqs] at h
  split at h
  · cases h; exact rqcmp_ok
  · cases h; exact parts_ok
  · cases h; exact rqmul_ok
  · cases h), fun g F h => by simp [Eqs] at h⟩
theorem rqsign_ok : Snd Tryz.prog 46 qsignS := by
  refine snd_of Eqsok Dok Tryz.func46 (enters_of Tryz.func46 (by kernel_rfl) rfl) (fun _ => rfl) (fun _ => rfl) ?_
  intro (r : RV) hp
  have hp : r.ok := hp
  obtain ⟨x, hx⟩ : ∃ x, x = cmpQ r.q 0 := ⟨_, rfl⟩
  conv => whnf
  refine ⟨(r, zeroR), rfl, ⟨hp, RV.sz_ok (zeroR_sz 0) (by decide)⟩, ?_⟩
  rw [show qcmpS.val (r, zeroR) = .int .i64 x from by rw [hx]; show Value.int .i64 (cmpQ r.q zeroR.q) = _; rw [zeroR_q]]
  conv => whnf
  show Value.int .i64 x = Value.int .i64 (cmpQ r.q 0)
  rw [hx]
theorem rquo_ok : Snd Tryz.prog 42 qquoS := by
  refine snd_of Eqsok Dok Tryz.func42 (enters_of Tryz.func42 (by kernel_rfl) rfl) (fun _ => rfl) (fun _ => rfl) ?_
  intro ⟨a, b⟩ hp
  have hp : a.ok ∧ b.ok := hp
  obtain ⟨B, hB⟩ : ∃ B, B = decide (b.n < 0) := ⟨_, rfl⟩
  obtain ⟨N, hN⟩ : ∃ N, N = b.n.natAbs := ⟨_, rfl⟩
  obtain ⟨D, hD⟩ : ∃ D, D = b.d := ⟨_, rfl⟩
  obtain ⟨w, hw⟩ : ∃ w, w = a.q / b.q := ⟨_, rfl⟩
  obtain ⟨e, he⟩ : ∃ e : Int, e = if b.q = 0 then 10 else 0 := ⟨_, rfl⟩
  have hfin : qquoS.val (a, b) = .tuple ⟨[(RV.of w).v, .int .i64 e]⟩ := by rw [hw, he]; rfl
  have hv : partsS.val b = .tuple ⟨[.agg ⟨[.bool B, .string (nb N)]⟩, .agg ⟨[.bool false, .string (nb D)]⟩]⟩ := by
    show Value.tuple ⟨[encI b.n, encI ((b.d : Nat) : Int)]⟩ = _
    rw [hB, hN, hD, encI_of_pos (n := ((b.d : Nat) : Int)) (by omega), Int.natAbs_natCast]; rfl
  have hi : invV b = (B, nb D, nb N) := by rw [hB, hD, hN]; rfl
  have hz := q_zero_iff b
  have hio := inv_ok hp.2
  obtain ⟨nd, hnd⟩ : ∃ nd, nd = nb D := ⟨_, rfl⟩
  obtain ⟨nn, hnn⟩ : ∃ nn, nn = nb N := ⟨_, rfl⟩
  rw [← hnd, ← hnn] at hv
  conv => whnf
  refine ⟨b, rfl, hp.2, ?_⟩
  rw [hv]
  conv => whnf
  by_cases h0 : N = 0
  · have hb0 : b.q = 0 := hz.2 (by omega)
    rw [show (nn.toList == (⟨#[]⟩ : ByteArray).toList) = true from by
      have := mag_zero h0
      rw [← hnn] at this
      simpa using this]
    conv => whnf
    rw [hfin, he, if_pos hb0, hw, hb0, show a.q / 0 = 0 from by rw [Rat.div_def]; simp]
    show Value.tuple ⟨[zeroR.v, .int .i64 10]⟩ = Value.tuple ⟨[encQ 0, .int .i64 10]⟩
    rw [enc0]
  · rw [show (nn.toList == (⟨#[]⟩ : ByteArray).toList) = false from by
      have := mag_pos h0
      rw [← hnn] at this
      simpa using this]
    have hbn : b.n ≠ 0 := by omega
    rw [hi, ← hnd, ← hnn] at hio
    conv => whnf
    refine ⟨(a, (B, nd, nn)), rfl, ⟨hp.1, hio⟩, ?_⟩
    rw [show qmulS.val (a, (B, nd, nn)) = (RV.of w).v from by
      show encQ (a.q * RV.q (B, nd, nn)) = encQ w
      rw [hnd, hnn, ← hi, inv_q b hbn, hw, Rat.div_def]]
    conv => whnf
    rw [hfin, he, if_neg (fun h => hbn (hz.1 h))]
    rfl
end Go.Proofs.YtgakcbdahbagkaaGreat
/- Contracts of the reference predicates. -/
set_option linter.unusedVariables false
set_option linter.unusedSimpArgs false
set_option maxRecDepth 20000
set_option maxHeartbeats 2000000
namespace Go.Proofs.YtgakcbdahbagkaaGreat
open Go Go.Ae

def Ep5a : Env := { tt := tt, eqs := [], Φ := fun g => match g with
  | 37 => some (.p vsubS)
  | 44 => some (.p vaddS)
  | 40 => some (.p vcrossS)
  | 41 => some (.p vdotS)
  | 46 => some (.p qsignS)
  | 38 => some (.p qmulS)
  | 43 => some (.p qsubS)
  | 49 => some (.p qaddS)
  | 42 => some (.p qquoS)
  | 39 => some (.p qofS)
  | 81 => some (.p qcmpS)
  | _ => none }
theorem Ep5aok : EnvOk Tryz.prog Ep5a := ⟨tt_ok, fun t h => by simp [Ep5a] at h, (fun g S h => by
  simp only [Ep5a] at h
  split at h
  · cases h; exact rvsub_ok
  · cases h; exact rvadd_ok
  · cases h; exact rvcross_ok
  · cases h; exact rvdot_ok
  · cases h; exact rqsign_ok
  · cases h; exact rqmul_ok
  · cases h; exact rqsub_ok
  · cases h; exact rqadd_ok
  · cases h; exact rquo_ok
  · cases h; exact rqof_ok
  · cases h; exact rqcmp_ok
  · cases h), fun g F h => by simp [Ep5a] at h⟩

theorem rorient_ok : Snd Tryz.prog 11 orientS := by
  refine snd_of Ep5aok Dok Tryz.func11 (enters_of Tryz.func11 (by kernel_rfl) rfl) (fun _ => rfl) (fun _ => rfl) ?_
  intro ⟨a, b, c⟩ hp
  have hp : a.sz 1048576 ∧ b.sz 1048576 ∧ c.sz 1048576 := hp
  obtain ⟨sa, sb, sc⟩ := hp
  have qa := PV.psz sa (by decide)
  have qb := PV.psz sb (by decide)
  have qc := PV.psz sc (by decide)
  conv => whnf
  refine .inl ⟨5, [[], [], [0, 1], [], [], [0, 1, 2, 3, 4], [0, 1, 2, 3, 4, 5], [0, 1, 2, 3, 4, 5, 6], [0, 1, 2, 3, 4, 5, 6, 7]], by kernel_rfl, ?_⟩
  conv => whnf
  obtain ⟨u, eu, pu, su, qu⟩ := hideP (sub_sz qb qa)
  refine ⟨(b, a), rfl, ⟨PV.sz_mono sb (by decide), PV.sz_mono sa (by decide)⟩, ?_⟩
  rw [show vsubS.val (b, a) = u.v from eu]
  conv => whnf
  obtain ⟨v, ev, pv, sv, qv⟩ := hideP (sub_sz qc qa)
  refine ⟨(c, a), rfl, ⟨PV.sz_mono sc (by decide), PV.sz_mono sa (by decide)⟩, ?_⟩
  rw [show vsubS.val (c, a) = v.v from ev]
  conv => whnf
  obtain ⟨w, ew, pw, sw, qw⟩ := hideR (cross_sz qu qv)
  refine ⟨(u, v), rfl, ⟨PV.sz_mono su (by decide), PV.sz_mono sv (by decide)⟩, ?_⟩
  rw [show vcrossS.val (u, v) = w.v from ew]
  conv => whnf
  obtain ⟨n, en, pn⟩ := hideZ (cmpQ w.q 0)
  refine ⟨w, rfl, RV.sz_ok sw (by decide), ?_⟩
  rw [show qsignS.val w = .int .i64 n from en]
  conv => whnf
  show Value.int .i64 n = Value.int .i64 (cmpQ (orR a.p b.p c.p) 0)
  rw [pn, pw, pu, pv]
  rfl
theorem rincircle_ok : Snd Tryz.prog 13 incircleS := by
  refine snd_of Ep5aok Dok Tryz.func13 (enters_of Tryz.func13 (by kernel_rfl) rfl) (fun _ => rfl) (fun _ => rfl) ?_
  intro ⟨a, b, c, d⟩ hp
  have hp : a.sz 1048576 ∧ b.sz 1048576 ∧ c.sz 1048576 ∧ d.sz 1048576 := hp
  obtain ⟨sa, sb, sc, sd⟩ := hp
  have qa := PV.psz sa (by decide)
  have qb := PV.psz sb (by decide)
  have qc := PV.psz sc (by decide)
  have qd := PV.psz sd (by decide)
  conv => whnf
  refine .inl ⟨12, [[], [], [0, 1], [], [], [0, 1, 2, 3, 4], [], [], [0, 1, 2, 3, 4, 5, 6, 7], [], [], [], [0, 1, 2, 3, 4, 5, 6, 7, 8, 9, 10, 11], [0, 1, 2, 3, 4, 5, 6, 7, 8, 9, 10, 11, 12], [0, 1, 2, 3, 4, 5, 6, 7, 8, 9, 10, 11, 12, 13]], by kernel_rfl, ?_⟩
  conv => whnf
  obtain ⟨u, eu, pu, su, qu⟩ := hideP (sub_sz qa qd)
  refine ⟨(a, d), rfl, ⟨PV.sz_mono sa (by decide), PV.sz_mono sd (by decide)⟩, ?_⟩
  rw [show vsubS.val (a, d) = u.v from eu]
  conv => whnf
  obtain ⟨v, ev, pv, sv, qv⟩ := hideP (sub_sz qb qd)
  refine ⟨(b, d), rfl, ⟨PV.sz_mono sb (by decide), PV.sz_mono sd (by decide)⟩, ?_⟩
  rw [show vsubS.val (b, d) = v.v from ev]
  conv => whnf
  obtain ⟨w, ew, pw, sw, qw⟩ := hideP (sub_sz qc qd)
  refine ⟨(c, d), rfl, ⟨PV.sz_mono sc (by decide), PV.sz_mono sd (by decide)⟩, ?_⟩
  rw [show vsubS.val (c, d) = w.v from ew]
  conv => whnf
  refine .inl ⟨8, [[], [], [0, 1], [], [], [0, 1, 2, 3, 4], [0, 1, 2, 3, 4, 5], [], [0, 1, 2, 3, 4, 5, 6, 7]], by kernel_rfl, ?_⟩
  conv => whnf
  obtain ⟨x1, ex1, px1, sx1, qx1⟩ := hideR (dot_sz qu qu)
  refine ⟨(u, u), rfl, ⟨PV.sz_mono su (by decide), PV.sz_mono su (by decide)⟩, ?_⟩
  rw [show vdotS.val (u, u) = x1.v from ex1]
  conv => whnf
  obtain ⟨x2, ex2, px2, sx2, qx2⟩ := hideR (cross_sz qv qw)
  refine ⟨(v, w), rfl, ⟨PV.sz_mono sv (by decide), PV.sz_mono sw (by decide)⟩, ?_⟩
  rw [show vcrossS.val (v, w) = x2.v from ex2]
  conv => whnf
  obtain ⟨x, ex, px, sx, qx⟩ := hideR (QB.mul qx1 qx2)
  refine ⟨(x1, x2), rfl, ⟨RV.sz_ok sx1 (by decide), RV.sz_ok sx2 (by decide)⟩, ?_⟩
  rw [show qmulS.val (x1, x2) = x.v from ex]
  conv => whnf
  refine .inl ⟨8, [[], [], [0, 1], [], [], [0, 1, 2, 3, 4], [0, 1, 2, 3, 4, 5], [], [0, 1, 2, 3, 4, 5, 6, 7]], by kernel_rfl, ?_⟩
  conv => whnf
  obtain ⟨y1, ey1, py1, sy1, qy1⟩ := hideR (dot_sz qv qv)
  refine ⟨(v, v), rfl, ⟨PV.sz_mono sv (by decide), PV.sz_mono sv (by decide)⟩, ?_⟩
  rw [show vdotS.val (v, v) = y1.v from ey1]
  conv => whnf
  obtain ⟨y2, ey2, py2, sy2, qy2⟩ := hideR (cross_sz qw qu)
  refine ⟨(w, u), rfl, ⟨PV.sz_mono sw (by decide), PV.sz_mono su (by decide)⟩, ?_⟩
  rw [show vcrossS.val (w, u) = y2.v from ey2]
  conv => whnf
  obtain ⟨y, ey, py, sy, qy⟩ := hideR (QB.mul qy1 qy2)
  refine ⟨(y1, y2), rfl, ⟨RV.sz_ok sy1 (by decide), RV.sz_ok sy2 (by decide)⟩, ?_⟩
  rw [show qmulS.val (y1, y2) = y.v from ey]
  conv => whnf
  refine .inl ⟨8, [[], [], [0, 1], [], [], [0, 1, 2, 3, 4], [0, 1, 2, 3, 4, 5], [], [0, 1, 2, 3, 4, 5, 6, 7]], by kernel_rfl, ?_⟩
  conv => whnf
  obtain ⟨z1, ez1, pz1, sz1, qz1⟩ := hideR (dot_sz qw qw)
  refine ⟨(w, w), rfl, ⟨PV.sz_mono sw (by decide), PV.sz_mono sw (by decide)⟩, ?_⟩
  rw [show vdotS.val (w, w) = z1.v from ez1]
  conv => whnf
  obtain ⟨z2, ez2, pz2, sz2, qz2⟩ := hideR (cross_sz qu qv)
  refine ⟨(u, v), rfl, ⟨PV.sz_mono su (by decide), PV.sz_mono sv (by decide)⟩, ?_⟩
  rw [show vcrossS.val (u, v) = z2.v from ez2]
  conv => whnf
  obtain ⟨z, ez, pz, sz, qz⟩ := hideR (QB.mul qz1 qz2)
  refine ⟨(z1, z2), rfl, ⟨RV.sz_ok sz1 (by decide), RV.sz_ok sz2 (by decide)⟩, ?_⟩
  rw [show qmulS.val (z1, z2) = z.v from ez]
  conv => whnf
  refine .inl ⟨4, [[], [], [0, 1], [], [0, 1, 2, 3], [0, 1, 2, 3, 4], [0, 1, 2, 3, 4, 5]], by kernel_rfl, ?_⟩
  conv => whnf
  obtain ⟨s1, es1, ps1, ss1, qs1⟩ := hideR (QB.add qx qy)
  refine ⟨(x, y), rfl, ⟨RV.sz_ok sx (by decide), RV.sz_ok sy (by decide)⟩, ?_⟩
  rw [show qaddS.val (x, y) = s1.v from es1]
  conv => whnf
  obtain ⟨s2, es2, ps2, ss2, qs2⟩ := hideR (QB.add qs1 qz)
  refine ⟨(s1, z), rfl, ⟨RV.sz_ok ss1 (by decide), RV.sz_ok sz (by decide)⟩, ?_⟩
  rw [show qaddS.val (s1, z) = s2.v from es2]
  conv => whnf
  obtain ⟨n, en, pn⟩ := hideZ (cmpQ s2.q 0)
  refine ⟨s2, rfl, RV.sz_ok ss2 (by decide), ?_⟩
  rw [show qsignS.val s2 = .int .i64 n from en]
  conv => whnf
  show Value.int .i64 n = Value.int .i64 (cmpQ (icR a.p b.p c.p d.p) 0)
  rw [pn, ps2, ps1, px, py, pz, px1, px2, py1, py2, pz1, pz2, pu, pv, pw]
  rfl
def Ep5b : Env := { tt := tt, eqs := [], Φ := fun g => match g with
  | 37 => some (.p vsubS)
  | 41 => some (.p vdotS)
  | 46 => some (.p qsignS)
  | 11 => some (.p orientS)
  | _ => none }
theorem Ep5bok : EnvOk Tryz.prog Ep5b := ⟨tt_ok, fun t h => by simp [Ep5b] at h, (fun g S h => by
  simp only [Ep5b] at h
  split at h
  · cases h; exact rvsub_ok
  · cases h; exact rvdot_ok
  · cases h; exact rqsign_ok
  · cases h; exact rorient_ok
  · cases h), fun g F h => by simp [Ep5b] at h⟩
theorem rbetween_ok : Snd Tryz.prog 15 betweenS := by
  refine snd_of Ep5bok Dok Tryz.func15 (enters_of Tryz.func15 (by kernel_rfl) rfl) (fun _ => rfl) (fun _ => rfl) ?_
  intro ⟨a, b, p⟩ hp
  have hp : a.sz 1048576 ∧ b.sz 1048576 ∧ p.sz 1048576 := hp
  obtain ⟨sa, sb, sp⟩ := hp
  have qa := PV.psz sa (by decide)
  have qb := PV.psz sb (by decide)
  have qp := PV.psz sp (by decide)
  have fin : ∀ (z : Bool) (P : Prop) [Decidable P], z = decide P → (P ↔ betR a.p b.p p.p) → Value.bool z = betweenS.val (a, b, p) := fun z P _ h h2 => by
    show _ = Value.bool (decide (betR a.p b.p p.p))
    rw [h]
    congr 1
    exact decide_eq_decide.2 h2
  conv => whnf
  obtain ⟨o, eo, po⟩ := hideZ (cmpQ (orR a.p b.p p.p) 0)
  refine ⟨(a, b, p), rfl, ⟨PV.sz_mono sa (by decide), PV.sz_mono sb (by decide), PV.sz_mono sp (by decide)⟩, ?_⟩
  rw [show orientS.val (a, b, p) = .int .i64 o from eo]
  conv => whnf
  refine br_intro (fun h => ?_) (fun h => ?_)
  · have h : o ≠ 0 := by intro e; subst e; simp at h
    conv => whnf
    exact fin _ False rfl ⟨False.elim, fun e => h (by rw [po]; exact cmpQ_eq e.1)⟩
  · have h : o = 0 := by simpa using h
    have h0 : orR a.p b.p p.p = 0 := cmpQ_zero.1 (by rw [← po]; exact h)
    conv => whnf
    refine .inl ⟨5, [[], [], [0, 1], [], [], [0, 1, 2, 3, 4], [0, 1, 2, 3, 4, 5], [0, 1, 2, 3, 4, 5, 6], [0, 1, 2, 3, 4, 5, 6, 7], [0, 1, 2, 3, 4, 5, 6, 7, 8]], by kernel_rfl, ?_⟩
    conv => whnf
    obtain ⟨u, eu, pu, su, qu⟩ := hideP (sub_sz qa qp)
    refine ⟨(a, p), rfl, ⟨PV.sz_mono sa (by decide), PV.sz_mono sp (by decide)⟩, ?_⟩
    rw [show vsubS.val (a, p) = u.v from eu]
    conv => whnf
    obtain ⟨v, ev, pv, sv, qv⟩ := hideP (sub_sz qb qp)
    refine ⟨(b, p), rfl, ⟨PV.sz_mono sb (by decide), PV.sz_mono sp (by decide)⟩, ?_⟩
    rw [show vsubS.val (b, p) = v.v from ev]
    conv => whnf
    obtain ⟨w, ew, pw, sw, qw⟩ := hideR (dot_sz qu qv)
    refine ⟨(u, v), rfl, ⟨PV.sz_mono su (by decide), PV.sz_mono sv (by decide)⟩, ?_⟩
    rw [show vdotS.val (u, v) = w.v from ew]
    conv => whnf
    obtain ⟨n, en, pn⟩ := hideZ (cmpQ w.q 0)
    refine ⟨w, rfl, RV.sz_ok sw (by decide), ?_⟩
    rw [show qsignS.val w = .int .i64 n from en]
    conv => whnf
    exact fin _ (n ≤ 0) rfl ⟨fun h => ⟨h0, by rw [pn, pw, pu, pv] at h; exact cmpQ_le.1 h⟩, fun h => by rw [pn, pw, pu, pv]; exact cmpQ_le.2 h.2⟩
theorem rzero_ok : Snd Tryz.prog 60 zeroPS := by
  refine snd_of Ep5aok Dok Tryz.func60 (enters_of Tryz.func60 (by kernel_rfl) rfl) (fun _ => rfl) (fun _ => rfl) ?_
  intro ⟨x, y⟩ hp
  have hp : x.sz 8589934592 ∧ y.sz 8589934592 := hp
  obtain ⟨sx, sy⟩ := hp
  have fin : ∀ (z : Bool) (P : Prop) [Decidable P], z = decide P → (P ↔ x.q = 0 ∧ y.q = 0) → Value.bool z = zeroPS.val (x, y) := fun z P _ h h2 => by
    show _ = Value.bool (decide (x.q = 0 ∧ y.q = 0))
    rw [h]
    congr 1
    exact decide_eq_decide.2 h2
  conv => whnf
  obtain ⟨m, em, pm⟩ := hideZ (cmpQ x.q 0)
  refine ⟨x, rfl, RV.sz_ok sx (by decide), ?_⟩
  rw [show qsignS.val x = .int .i64 m from em]
  conv => whnf
  by_cases h1 : m = 0
  · subst h1
    conv => whnf
    obtain ⟨n, en, pn⟩ := hideZ (cmpQ y.q 0)
    refine ⟨y, rfl, RV.sz_ok sy (by decide), ?_⟩
    rw [show qsignS.val y = .int .i64 n from en]
    conv => whnf
    show Value.bool (n == 0) = _
    exact fin _ (n = 0) (by simp [BEq.beq]) ⟨fun h => ⟨cmpQ_zero.1 pm.symm, cmpQ_zero.1 (pn.symm.trans h)⟩, fun h => by rw [pn]; exact cmpQ_zero.2 h.2⟩
  · rw [show (m == 0) = false from by simp [h1]]
    conv => whnf
    exact fin _ False rfl ⟨False.elim, fun h => h1 (by rw [pm]; exact cmpQ_zero.2 h.1)⟩
def Ep5c : Env := { tt := tt, eqs := [], Φ := fun g => match g with
  | 60 => some (.p zeroPS)
  | 46 => some (.p qsignS)
  | _ => none }
theorem Ep5cok : EnvOk Tryz.prog Ep5c := ⟨tt_ok, fun t h => by simp [Ep5c] at h, (fun g S h => by
  simp only [Ep5c] at h
  split at h
  · cases h; exact rzero_ok
  · cases h; exact rqsign_ok
  · cases h), fun g F h => by simp [Ep5c] at h⟩
theorem rhalf_ok : Snd Tryz.prog 58 halfS := by
  refine snd_of Ep5cok Dok Tryz.func58 (enters_of Tryz.func58 (by kernel_rfl) rfl) (fun _ => rfl) (fun _ => rfl) ?_
  intro ⟨x, y⟩ hp
  have hp : x.sz 8589934592 ∧ y.sz 8589934592 := hp
  obtain ⟨sx, sy⟩ := hp
  have sv : PV.sz 8589934592 (x, y) := ⟨sx, sy⟩
  have fin : ∀ z : Int, z = halfR (x.q, y.q) → Value.int .i64 z = halfS.val (x, y) := fun z h => by rw [h]; rfl
  conv => whnf
  by_cases h0 : x.q = 0 ∧ y.q = 0
  · refine ⟨(x, y), rfl, sv, ?_⟩
    rw [show zeroPS.val (x, y) = .bool true from congrArg Value.bool (decide_eq_true h0)]
    conv => whnf
    exact fin 0 (by unfold halfR; rw [if_pos h0])
  · refine ⟨(x, y), rfl, sv, ?_⟩
    rw [show zeroPS.val (x, y) = .bool false from congrArg Value.bool (decide_eq_false h0)]
    have fin2 : ∀ z : Int, z = (if 0 < y.q ∨ y.q = 0 ∧ 0 < x.q then 1 else 2) → Value.int .i64 z = halfS.val (x, y) := fun z h => fin z (by
      rw [h]
      unfold halfR
      rw [if_neg (show ¬ ((x.q, y.q).1 = 0 ∧ (x.q, y.q).2 = 0) from h0)])
    conv => whnf
    obtain ⟨n, en, pn⟩ := hideZ (cmpQ y.q 0)
    refine ⟨y, rfl, RV.sz_ok sy (by decide), ?_⟩
    rw [show qsignS.val y = .int .i64 n from en]
    conv => whnf
    by_cases h1 : 0 < y.q
    · rw [show decide (n > 0) = true from decide_eq_true (by rw [pn]; exact cmpQ_pos.2 h1)]
      conv => whnf
      exact fin2 1 (by rw [if_pos (.inl h1)])
    · rw [show decide (n > 0) = false from decide_eq_false (by rw [pn]; exact fun h => h1 (cmpQ_pos.1 h))]
      conv => whnf
      by_cases h2 : y.q = 0
      · rw [show (n == 0) = true from by simp only [beq_iff_eq]; rw [pn]; exact cmpQ_zero.2 h2]
        conv => whnf
        obtain ⟨m, em, pm⟩ := hideZ (cmpQ x.q 0)
        refine ⟨x, rfl, RV.sz_ok sx (by decide), ?_⟩
        rw [show qsignS.val x = .int .i64 m from em]
        conv => whnf
        by_cases h3 : 0 < x.q
        · rw [show decide (m > 0) = true from decide_eq_true (by rw [pm]; exact cmpQ_pos.2 h3)]
          conv => whnf
          exact fin2 1 (by rw [if_pos (.inr ⟨h2, h3⟩)])
        · rw [show decide (m > 0) = false from decide_eq_false (by rw [pm]; exact fun h => h3 (cmpQ_pos.1 h))]
          conv => whnf
          exact fin2 2 (by rw [if_neg]; rintro (h | h); exact h1 h; exact h3 h.2)
      · rw [show (n == 0) = false from by simp only [beq_eq_false_iff_ne]; rw [pn]; exact fun h => h2 (cmpQ_zero.1 h)]
        conv => whnf
        exact fin2 2 (by rw [if_neg]; rintro (h | h); exact h1 h; exact h2 h.1)
def Ep5d : Env := { tt := tt, eqs := [], Φ := fun g => match g with
  | 58 => some (.p halfS)
  | 40 => some (.p vcrossS)
  | 46 => some (.p qsignS)
  | _ => none }
theorem Ep5dok : EnvOk Tryz.prog Ep5d := ⟨tt_ok, fun t h => by simp [Ep5d] at h, (fun g S h => by
  simp only [Ep5d] at h
  split at h
  · cases h; exact rhalf_ok
  · cases h; exact rvcross_ok
  · cases h; exact rqsign_ok
  · cases h), fun g F h => by simp [Ep5d] at h⟩
theorem rangle_ok : Snd Tryz.prog 20 angleS := by
  refine snd_of Ep5dok Dok Tryz.func20 (enters_of Tryz.func20 (by kernel_rfl) rfl) (fun _ => rfl) (fun _ => rfl) ?_
  intro ⟨u, v⟩ hp
  have hp : u.sz 67108864 ∧ v.sz 67108864 := hp
  obtain ⟨su, sv⟩ := hp
  have qu := PV.psz su (by decide)
  have qv := PV.psz sv (by decide)
  have fin : ∀ z : Int, z = angR u.p v.p → Value.int .i64 z = angleS.val (u, v) := fun z h => by rw [h]; rfl
  conv => whnf
  refine .inl ⟨3, [[], [0], [], [0, 1, 2], [0, 1, 2, 3]], by kernel_rfl, ?_⟩
  conv => whnf
  obtain ⟨m, em, pm⟩ := hideZ (halfR u.p)
  refine ⟨u, rfl, PV.sz_mono su (by decide), ?_⟩
  rw [show halfS.val u = .int .i64 m from em]
  conv => whnf
  obtain ⟨n, en, pn⟩ := hideZ (halfR v.p)
  refine ⟨v, rfl, PV.sz_mono sv (by decide), ?_⟩
  rw [show halfS.val v = .int .i64 n from en]
  conv => whnf
  refine br_intro (fun h => ?_) (fun h => ?_)
  · have h : m ≠ n := by simpa using h
    conv => whnf
    refine .inl ⟨3, [[], [0], [], [0, 1, 2], [0, 1, 2, 3]], by kernel_rfl, ?_⟩
    conv => whnf
    refine ⟨u, rfl, PV.sz_mono su (by decide), ?_⟩
    rw [show halfS.val u = .int .i64 (m) from congrArg (Value.int .i64) (show halfR u.p = m from pm.symm)]
    conv => whnf
    refine ⟨v, rfl, PV.sz_mono sv (by decide), ?_⟩
    rw [show halfS.val v = .int .i64 (n) from congrArg (Value.int .i64) (show halfR v.p = n from pn.symm)]
    conv => whnf
    by_cases h2 : m < n
    · rw [show decide (m < n) = true from decide_eq_true h2]
      conv => whnf
      exact fin (-1) (by unfold angR; rw [if_pos (by rw [← pm, ← pn]; exact h2)])
    · rw [show decide (m < n) = false from decide_eq_false h2]
      conv => whnf
      exact fin 1 (by unfold angR; rw [if_neg (by rw [← pm, ← pn]; exact h2), if_pos (by rw [← pm, ← pn]; omega)])
  · have h : m = n := by simpa using h
    conv => whnf
    obtain ⟨w, ew, pw, sw, qw⟩ := hideR (cross_sz qu qv)
    refine ⟨(u, v), rfl, ⟨PV.sz_mono su (by decide), PV.sz_mono sv (by decide)⟩, ?_⟩
    rw [show vcrossS.val (u, v) = w.v from ew]
    conv => whnf
    obtain ⟨l, el, pl⟩ := hideZ (cmpQ w.q 0)
    refine ⟨w, rfl, RV.sz_ok sw (by decide), ?_⟩
    rw [show qsignS.val w = .int .i64 l from el]
    conv => whnf
    rw [pw] at pl
    have hl := cmpQ_range (crossR u.p v.p) 0
    rw [← pl] at hl
    exact fin _ (by
      unfold angR
      rw [if_neg (by rw [← pm, ← pn]; omega), if_neg (by rw [← pm, ← pn]; omega), ← pl]
      rcases hl with rfl | rfl | rfl <;> rfl)
theorem rcenter_ok : Snd Tryz.prog 9 centerS := by
  refine snd_of Ep5aok Dok Tryz.func9 (enters_of Tryz.func9 (by kernel_rfl) rfl) (fun _ => rfl) (fun _ => rfl) ?_
  intro ⟨a, b, c⟩ hp
  have hp : a.sz 1048576 ∧ b.sz 1048576 ∧ c.sz 1048576 := hp
  obtain ⟨sa, sb, sc⟩ := hp
  have qa := PV.psz sa (by decide)
  have qb := PV.psz sb (by decide)
  have qc := PV.psz sc (by decide)
  have fin : ∀ (x : PV) (z : Int), cenV a.p b.p c.p = (x, z) → Value.tuple ⟨[x.v, .int .i64 z]⟩ = centerS.val (a, b, c) := fun x z h => by
    show _ = Value.tuple ⟨[(cenV a.p b.p c.p).1.v, .int .i64 (cenV a.p b.p c.p).2]⟩
    rw [h]
  conv => whnf
  refine .inl ⟨8, [[], [], [0, 1], [], [], [0, 1, 2, 3, 4], [], [], [0, 1, 2, 3, 4, 5, 6, 7], [0, 1, 2, 3, 4, 5, 6, 7, 8]], by kernel_rfl, ?_⟩
  conv => whnf
  obtain ⟨u, eu, pu, su, qu⟩ := hideP (sub_sz qb qa)
  refine ⟨(b, a), rfl, ⟨PV.sz_mono sb (by decide), PV.sz_mono sa (by decide)⟩, ?_⟩
  rw [show vsubS.val (b, a) = u.v from eu]
  conv => whnf
  obtain ⟨v, ev, pv, sv, qv⟩ := hideP (sub_sz qc qa)
  refine ⟨(c, a), rfl, ⟨PV.sz_mono sc (by decide), PV.sz_mono sa (by decide)⟩, ?_⟩
  rw [show vsubS.val (c, a) = v.v from ev]
  conv => whnf
  refine .inl ⟨6, [[], [], [], [0, 1, 2], [0, 1, 2, 3], [], [0, 1, 2, 3, 4, 5]], by kernel_rfl, ?_⟩
  conv => whnf
  obtain ⟨o, eo, po, so, qo⟩ := hideR (q := ((2 : Int) : Rat)) (ex_nby (n := 2) (by decide))
  refine ⟨(2 : Int), rfl, ⟨by decide, by decide⟩, ?_⟩
  rw [show qofS.val (2 : Int) = o.v from eo]
  conv => whnf
  obtain ⟨d, ed, pd, sd, qd⟩ := hideR (cross_sz qu qv)
  refine ⟨(u, v), rfl, ⟨PV.sz_mono su (by decide), PV.sz_mono sv (by decide)⟩, ?_⟩
  rw [show vcrossS.val (u, v) = d.v from ed]
  conv => whnf
  obtain ⟨f, ef, pf, sf, qf⟩ := hideR (QB.mul qo qd)
  refine ⟨(o, d), rfl, ⟨RV.sz_ok so (by decide), RV.sz_ok sd (by decide)⟩, ?_⟩
  rw [show qmulS.val (o, d) = f.v from ef]
  conv => whnf
  have hd : d.q = orR a.p b.p c.p := by rw [pd, pu, pv]; rfl
  have hf2 : f.q = 2 * orR a.p b.p c.p := by rw [pf, po, hd]; rfl
  have hf : f.q = 0 ↔ orR a.p b.p c.p = 0 := by rw [hf2]; constructor <;> intro h <;> grind
  refine .inl ⟨8, [[], [], [0, 1], [], [], [0, 1, 2, 3, 4], [], [], [0, 1, 2, 3, 4, 5, 6, 7], [0, 1, 2, 3, 4, 5, 6, 7, 8]], by kernel_rfl, ?_⟩
  conv => whnf
  obtain ⟨m, em, pm, sm, qm⟩ := hideR (dot_sz qu qu)
  refine ⟨(u, u), rfl, ⟨PV.sz_mono su (by decide), PV.sz_mono su (by decide)⟩, ?_⟩
  rw [show vdotS.val (u, u) = m.v from em]
  conv => whnf
  obtain ⟨n, en, pn, sn, qn⟩ := hideR (dot_sz qv qv)
  refine ⟨(v, v), rfl, ⟨PV.sz_mono sv (by decide), PV.sz_mono sv (by decide)⟩, ?_⟩
  rw [show vdotS.val (v, v) = n.v from en]
  conv => whnf
  obtain ⟨u1, u2⟩ := u
  have su1 := su.1
  have su2 := su.2
  have qu1 : QB u1.q _ := qu.1
  have qu2 : QB u2.q _ := qu.2
  obtain ⟨v1, v2⟩ := v
  have sv1 := sv.1
  have sv2 := sv.2
  have qv1 : QB v1.q _ := qv.1
  have qv2 : QB v2.q _ := qv.2
  refine .inr (.inr ⟨15, 1, [[], [0], [], [0, 1, 2], [], [4], [], [0, 1, 2, 3, 4, 5, 6], [0, 1, 2, 3, 4, 5, 6, 7], [], [0, 1, 2, 3, 4, 5, 6, 7, 8, 9], [0, 1, 2, 3, 4, 5, 6, 7, 8, 9, 10], [0, 1, 2, 3, 4, 5, 6, 7, 8, 9, 10, 11], [0, 1, 2, 3, 4, 5, 6, 7, 8, 9, 10, 11], [], [0, 1, 2, 3, 4, 5, 6, 7, 8, 9, 10, 11, 12, 14], [0, 1, 2, 3, 4, 5, 6, 7, 8, 9, 10, 11, 12, 13, 14, 15]], [13], by kernel_rfl, ?_⟩)
  conv => whnf
  obtain ⟨x1, ex1, px1, sx1, qx1⟩ := hideR (QB.mul qv2 qm)
  refine ⟨(v2, m), rfl, ⟨RV.sz_ok sv2 (by decide), RV.sz_ok sm (by decide)⟩, ?_⟩
  rw [show qmulS.val (v2, m) = x1.v from ex1]
  conv => whnf
  obtain ⟨x2, ex2, px2, sx2, qx2⟩ := hideR (QB.mul qu2 qn)
  refine ⟨(u2, n), rfl, ⟨RV.sz_ok su2 (by decide), RV.sz_ok sn (by decide)⟩, ?_⟩
  rw [show qmulS.val (u2, n) = x2.v from ex2]
  conv => whnf
  obtain ⟨x3, ex3, px3, sx3, qx3⟩ := hideR (QB.sub qx1 qx2)
  refine ⟨(x1, x2), rfl, ⟨RV.sz_ok sx1 (by decide), RV.sz_ok sx2 (by decide)⟩, ?_⟩
  rw [show qsubS.val (x1, x2) = x3.v from ex3]
  conv => whnf
  obtain ⟨x, ex, px, sx, qx⟩ := hideR (QB.div qx3 qf (by decide))
  obtain ⟨e, ee, pe⟩ := hideZ (if f.q = 0 then 10 else 0)
  refine ⟨(x3, f), rfl, ⟨RV.sz_ok sx3 (by decide), RV.sz_ok sf (by decide)⟩, ?_⟩
  rw [show qquoS.val (x3, f) = .tuple ⟨[x.v, .int .i64 e]⟩ from by rw [← ex, ← ee]; rfl]
  conv => whnf
  refine br_intro (fun h => ?_) (fun h => ?_)
  · have h : e ≠ 0 := by intro e'; subst e'; simp at h
    conv => whnf
    refine fin (zeroR, zeroR) 12 ?_
    unfold cenV
    rw [if_pos]
    refine Classical.byContradiction fun hn => h ?_
    rw [pe, if_neg (fun e => hn (hf.1 e))]
  · have h : e = 0 := by simpa using h
    have h0 : ¬ orR a.p b.p c.p = 0 := fun hn => by rw [pe, if_pos (hf.2 hn)] at h; cases h
    conv => whnf
    refine .inr (.inr ⟨15, 1, [[], [0], [], [0, 1, 2], [], [4], [], [0, 1, 2, 3, 4, 5, 6], [0, 1, 2, 3, 4, 5, 6, 7], [], [0, 1, 2, 3, 4, 5, 6, 7, 8, 9], [0, 1, 2, 3, 4, 5, 6, 7, 8, 9, 10], [0, 1, 2, 3, 4, 5, 6, 7, 8, 9, 10, 11], [0, 1, 2, 3, 4, 5, 6, 7, 8, 9, 10, 11], [], [0, 1, 2, 3, 4, 5, 6, 7, 8, 9, 10, 11, 12, 14], [0, 1, 2, 3, 4, 5, 6, 7, 8, 9, 10, 11, 12, 13, 14, 15]], [13], by kernel_rfl, ?_⟩)
    conv => whnf
    obtain ⟨y1, ey1, py1, sy1, qy1⟩ := hideR (QB.mul qu1 qn)
    refine ⟨(u1, n), rfl, ⟨RV.sz_ok su1 (by decide), RV.sz_ok sn (by decide)⟩, ?_⟩
    rw [show qmulS.val (u1, n) = y1.v from ey1]
    conv => whnf
    obtain ⟨y2, ey2, py2, sy2, qy2⟩ := hideR (QB.mul qv1 qm)
    refine ⟨(v1, m), rfl, ⟨RV.sz_ok sv1 (by decide), RV.sz_ok sm (by decide)⟩, ?_⟩
    rw [show qmulS.val (v1, m) = y2.v from ey2]
    conv => whnf
    obtain ⟨y3, ey3, py3, sy3, qy3⟩ := hideR (QB.sub qy1 qy2)
    refine ⟨(y1, y2), rfl, ⟨RV.sz_ok sy1 (by decide), RV.sz_ok sy2 (by decide)⟩, ?_⟩
    rw [show qsubS.val (y1, y2) = y3.v from ey3]
    conv => whnf
    obtain ⟨y, ey, py, sy, qy⟩ := hideR (QB.div qy3 qf (by decide))
    obtain ⟨e2, ee2, pe2⟩ := hideZ (if f.q = 0 then 10 else 0)
    refine ⟨(y3, f), rfl, ⟨RV.sz_ok sy3 (by decide), RV.sz_ok sf (by decide)⟩, ?_⟩
    rw [show qquoS.val (y3, f) = .tuple ⟨[y.v, .int .i64 e2]⟩ from by rw [← ey, ← ee2]; rfl]
    conv => whnf
    obtain ⟨r, er, pr, sr, qr⟩ := hideP (add_sz qa (mkQ qx qy))
    refine ⟨(a, (x, y)), rfl, ⟨PV.sz_mono sa (by decide), PV.sz_mono (mkP sx sy) (by decide)⟩, ?_⟩
    rw [show vaddS.val (a, (x, y)) = r.v from er]
    conv => whnf
    show Value.tuple ⟨[r.v, .int .i64 0]⟩ = _
    rw [← er]
    refine fin _ 0 ?_
    unfold cenV
    rw [if_neg h0]
    congr 2
    have g1 : PV.p (x, y) = ((v2.q * m.q - u2.q * n.q) / (2 * orR a.p b.p c.p), (u1.q * n.q - v1.q * m.q) / (2 * orR a.p b.p c.p)) := by
      show (x.q, y.q) = _
      rw [px, px3, px1, px2, py, py3, py1, py2, hf2]
    rw [g1, pm, pn, pu, pv, show u1.q = (subR b.p a.p).1 from congrArg Prod.fst pu, show u2.q = (subR b.p a.p).2 from congrArg Prod.snd pu, show v1.q = (subR c.p a.p).1 from congrArg Prod.fst pv, show v2.q = (subR c.p a.p).2 from congrArg Prod.snd pv]
    rfl
end Go.Proofs.YtgakcbdahbagkaaGreat
/- Contracts of the reference predicates: triangles, wedges, sorting. -/
set_option linter.unusedVariables false
set_option linter.unusedSimpArgs false
set_option maxRecDepth 20000
set_option maxHeartbeats 4000000
namespace Go.Proofs.YtgakcbdahbagkaaGreat
open Go Go.Ae

def Ep6a : Env := { tt := tt, eqs := [], Φ := fun g => match g with
  | 15 => some (.p betweenS)
  | 11 => some (.p orientS)
  | 60 => some (.p zeroPS)
  | 20 => some (.p angleS)
  | 41 => some (.p vdotS)
  | 81 => some (.p qcmpS)
  | _ => none }
theorem Ep6aok : EnvOk Tryz.prog Ep6a := ⟨tt_ok, fun t h => by simp [Ep6a] at h, (fun g S h => by
  simp only [Ep6a] at h
  split at h
  · cases h; exact rbetween_ok
  · cases h; exact rorient_ok
  · cases h; exact rzero_ok
  · cases h; exact rangle_ok
  · cases h; exact rvdot_ok
  · cases h; exact rqcmp_ok
  · cases h), fun g F h => by simp [Ep6a] at h⟩
theorem rinside_ok : Snd Tryz.prog 24 insideS := by
  refine snd_of Ep6aok Dok Tryz.func24 (enters_of Tryz.func24 (by kernel_rfl) rfl) (fun _ => rfl) (fun _ => rfl) ?_
  intro ⟨⟨a, b, c⟩, p⟩ hp
  have hp : (a.sz 1048576 ∧ b.sz 1048576 ∧ c.sz 1048576) ∧ p.sz 1048576 := hp
  obtain ⟨⟨sa, sb, sc⟩, sp⟩ := hp
  have fin : ∀ z : Int, z = insR a.p b.p c.p p.p → Value.int .i64 z = insideS.val ((a, b, c), p) := fun z h => by rw [h]; rfl
  conv => whnf
  by_cases h1 : betR a.p b.p p.p
  · refine ⟨(a, b, p), rfl, ⟨PV.sz_mono sa (by decide), PV.sz_mono sb (by decide), PV.sz_mono sp (by decide)⟩, ?_⟩
    rw [show betweenS.val (a, b, p) = .bool (true) from congrArg (Value.bool) (show decide (betR a.p b.p p.p) = true from decide_eq_true h1)]
    conv => whnf
    exact fin _ (ins_zero.2 (.inl h1)).symm
  · refine ⟨(a, b, p), rfl, ⟨PV.sz_mono sa (by decide), PV.sz_mono sb (by decide), PV.sz_mono sp (by decide)⟩, ?_⟩
    rw [show betweenS.val (a, b, p) = .bool (false) from congrArg (Value.bool) (show decide (betR a.p b.p p.p) = false from decide_eq_false h1)]
    conv => whnf
    by_cases h2 : betR b.p c.p p.p
    · refine ⟨(b, c, p), rfl, ⟨PV.sz_mono sb (by decide), PV.sz_mono sc (by decide), PV.sz_mono sp (by decide)⟩, ?_⟩
      rw [show betweenS.val (b, c, p) = .bool (true) from congrArg (Value.bool) (show decide (betR b.p c.p p.p) = true from decide_eq_true h2)]
      conv => whnf
      exact fin _ (ins_zero.2 (.inr (.inl h2))).symm
    · refine ⟨(b, c, p), rfl, ⟨PV.sz_mono sb (by decide), PV.sz_mono sc (by decide), PV.sz_mono sp (by decide)⟩, ?_⟩
      rw [show betweenS.val (b, c, p) = .bool (false) from congrArg (Value.bool) (show decide (betR b.p c.p p.p) = false from decide_eq_false h2)]
      conv => whnf
      by_cases h3 : betR c.p a.p p.p
      · refine ⟨(c, a, p), rfl, ⟨PV.sz_mono sc (by decide), PV.sz_mono sa (by decide), PV.sz_mono sp (by decide)⟩, ?_⟩
        rw [show betweenS.val (c, a, p) = .bool (true) from congrArg (Value.bool) (show decide (betR c.p a.p p.p) = true from decide_eq_true h3)]
        conv => whnf
        exact fin _ (ins_zero.2 (.inr (.inr h3))).symm
      · refine ⟨(c, a, p), rfl, ⟨PV.sz_mono sc (by decide), PV.sz_mono sa (by decide), PV.sz_mono sp (by decide)⟩, ?_⟩
        rw [show betweenS.val (c, a, p) = .bool (false) from congrArg (Value.bool) (show decide (betR c.p a.p p.p) = false from decide_eq_false h3)]
        conv => whnf
        have hn : ¬ onR a.p b.p c.p p.p := by
          rintro (h | h | h)
          · exact h1 h
          · exact h2 h
          · exact h3 h
        have fin2 : ∀ z : Int, z = (if inR a.p b.p c.p p.p then 1 else -1) → Value.int .i64 z = insideS.val ((a, b, c), p) := fun z h => fin z (by rw [insR_eq, if_neg hn, h])
        obtain ⟨s, es, ps⟩ := hideZ (cmpQ (orR a.p b.p c.p) 0)
        refine ⟨(a, b, c), rfl, ⟨PV.sz_mono sa (by decide), PV.sz_mono sb (by decide), PV.sz_mono sc (by decide)⟩, ?_⟩
        rw [show orientS.val (a, b, c) = .int .i64 s from es]
        conv => whnf
        by_cases hs : s = 0
        · subst hs
          conv => whnf
          exact fin2 _ (by rw [if_neg]; intro h; exact h.1 ps.symm)
        · rw [show (s != 0) = true from by simp [hs]]
          conv => whnf
          obtain ⟨o1, eo1, po1⟩ := hideZ (cmpQ (orR a.p b.p p.p) 0)
          refine ⟨(a, b, p), rfl, ⟨PV.sz_mono sa (by decide), PV.sz_mono sb (by decide), PV.sz_mono sp (by decide)⟩, ?_⟩
          rw [show orientS.val (a, b, p) = .int .i64 o1 from eo1]
          conv => whnf
          by_cases e1 : o1 = s
          · rw [show (o1 == s) = true from by simp [e1]]
            conv => whnf
            obtain ⟨o2, eo2, po2⟩ := hideZ (cmpQ (orR b.p c.p p.p) 0)
            refine ⟨(b, c, p), rfl, ⟨PV.sz_mono sb (by decide), PV.sz_mono sc (by decide), PV.sz_mono sp (by decide)⟩, ?_⟩
            rw [show orientS.val (b, c, p) = .int .i64 o2 from eo2]
            conv => whnf
            by_cases e2 : o2 = s
            · rw [show (o2 == s) = true from by simp [e2]]
              conv => whnf
              obtain ⟨o3, eo3, po3⟩ := hideZ (cmpQ (orR c.p a.p p.p) 0)
              refine ⟨(c, a, p), rfl, ⟨PV.sz_mono sc (by decide), PV.sz_mono sa (by decide), PV.sz_mono sp (by decide)⟩, ?_⟩
              rw [show orientS.val (c, a, p) = .int .i64 o3 from eo3]
              conv => whnf
              by_cases e3 : o3 = s
              · rw [show (o3 == s) = true from by simp [e3]]
                conv => whnf
                exact fin2 _ (by rw [if_pos]; exact ⟨fun h => hs (ps.trans h), po1.symm.trans (e1.trans ps), po2.symm.trans (e2.trans ps), po3.symm.trans (e3.trans ps)⟩)
              · rw [show (o3 == s) = false from by simp [e3]]
                conv => whnf
                exact fin2 _ (by rw [if_neg]; intro h; exact e3 (po3.trans (h.2.2.2.trans ps.symm)))
            · rw [show (o2 == s) = false from by simp [e2]]
              conv => whnf
              exact fin2 _ (by rw [if_neg]; intro h; exact e2 (po2.trans (h.2.2.1.trans ps.symm)))
          · rw [show (o1 == s) = false from by simp [e1]]
            conv => whnf
            exact fin2 _ (by rw [if_neg]; intro h; exact e1 (po1.trans (h.2.1.trans ps.symm)))
theorem rwedge_ok : Snd Tryz.prog 22 wedRefS := by
  refine snd_of Ep6aok Dok Tryz.func22 (enters_of Tryz.func22 (by kernel_rfl) rfl) (fun _ => rfl) (fun _ => rfl) ?_
  intro ⟨u, v, w⟩ hp
  have hp : u.sz 1048576 ∧ v.sz 1048576 ∧ w.sz 1048576 := hp
  obtain ⟨su, sv, sw⟩ := hp
  have fin : ∀ (z : Bool) (P : Prop) [Decidable P], z = decide P → (P ↔ wedRef u.p v.p w.p) → Value.bool z = wedRefS.val (u, v, w) := fun z P _ h h2 => by
    show _ = Value.bool (decide (wedRef u.p v.p w.p))
    rw [h]
    congr 1
    exact decide_eq_decide.2 h2
  conv => whnf
  by_cases hu : halfR u.p = 0
  · refine ⟨u, rfl, PV.sz_mono su (by decide), ?_⟩
    rw [show zeroPS.val u = .bool (true) from congrArg (Value.bool) (show decide (u.p.1 = 0 ∧ u.p.2 = 0) = true from decide_eq_true (half_zero.1 hu))]
    conv => whnf
    exact fin _ False rfl ⟨False.elim, fun h => h.1.1 hu⟩
  · refine ⟨u, rfl, PV.sz_mono su (by decide), ?_⟩
    rw [show zeroPS.val u = .bool (false) from congrArg (Value.bool) (show decide (u.p.1 = 0 ∧ u.p.2 = 0) = false from decide_eq_false (fun h => hu (half_zero.2 h)))]
    conv => whnf
    by_cases hv : halfR v.p = 0
    · refine ⟨v, rfl, PV.sz_mono sv (by decide), ?_⟩
      rw [show zeroPS.val v = .bool (true) from congrArg (Value.bool) (show decide (v.p.1 = 0 ∧ v.p.2 = 0) = true from decide_eq_true (half_zero.1 hv))]
      conv => whnf
      exact fin _ False rfl ⟨False.elim, fun h => h.1.2.1 hv⟩
    · refine ⟨v, rfl, PV.sz_mono sv (by decide), ?_⟩
      rw [show zeroPS.val v = .bool (false) from congrArg (Value.bool) (show decide (v.p.1 = 0 ∧ v.p.2 = 0) = false from decide_eq_false (fun h => hv (half_zero.2 h)))]
      conv => whnf
      by_cases hw : halfR w.p = 0
      · refine ⟨w, rfl, PV.sz_mono sw (by decide), ?_⟩
        rw [show zeroPS.val w = .bool (true) from congrArg (Value.bool) (show decide (w.p.1 = 0 ∧ w.p.2 = 0) = true from decide_eq_true (half_zero.1 hw))]
        conv => whnf
        exact fin _ False rfl ⟨False.elim, fun h => h.1.2.2 hw⟩
      · refine ⟨w, rfl, PV.sz_mono sw (by decide), ?_⟩
        rw [show zeroPS.val w = .bool (false) from congrArg (Value.bool) (show decide (w.p.1 = 0 ∧ w.p.2 = 0) = false from decide_eq_false (fun h => hw (half_zero.2 h)))]
        conv => whnf
        refine .inl ⟨9, [[], [], [0, 1], [0, 1, 2], [], [], [0, 1, 2, 4, 5], [0, 1, 2, 4, 5, 6], [0, 1, 2, 3, 4, 5, 6], [0, 1, 2, 3, 4, 5, 6, 7, 8]], by kernel_rfl, ?_⟩
        conv => whnf
        obtain ⟨b, eb, pb⟩ := hideZ (angR u.p w.p)
        refine ⟨(u, w), rfl, ⟨PV.sz_mono su (by decide), PV.sz_mono sw (by decide)⟩, ?_⟩
        rw [show angleS.val (u, w) = .int .i64 b from eb]
        conv => whnf
        obtain ⟨c, ec, pc⟩ := hideZ (angR w.p v.p)
        refine ⟨(w, v), rfl, ⟨PV.sz_mono sw (by decide), PV.sz_mono sv (by decide)⟩, ?_⟩
        rw [show angleS.val (w, v) = .int .i64 c from ec]
        conv => whnf
        obtain ⟨a, ea, pa⟩ := hideZ (angR u.p v.p)
        refine ⟨(u, v), rfl, ⟨PV.sz_mono su (by decide), PV.sz_mono sv (by decide)⟩, ?_⟩
        rw [show angleS.val (u, v) = .int .i64 a from ea]
        conv => whnf
        have fin2 : ∀ (z : Bool), z = decide (if a < 0 then b < 0 ∧ c < 0 else b < 0 ∨ c < 0) → Value.bool z = wedRefS.val (u, v, w) := fun z h => fin z _ h (by
          unfold wedRef
          rw [← pa, ← pb, ← pc]
          exact ⟨fun h => ⟨⟨hu, hv, hw⟩, h⟩, fun h => h.2⟩)
        by_cases ha : a < 0
        · rw [show decide (a < 0) = true from decide_eq_true ha]
          conv => whnf
          by_cases hb : b < 0
          · rw [show decide (b < 0) = true from decide_eq_true hb]
            conv => whnf
            exact fin2 _ (by simp [ha, hb])
          · rw [show decide (b < 0) = false from decide_eq_false hb]
            conv => whnf
            exact fin2 _ (by simp [ha, hb])
        · rw [show decide (a < 0) = false from decide_eq_false ha]
          conv => whnf
          by_cases hb : b < 0
          · rw [show decide (b < 0) = true from decide_eq_true hb]
            conv => whnf
            exact fin2 _ (by simp [ha, hb])
          · rw [show decide (b < 0) = false from decide_eq_false hb]
            conv => whnf
            exact fin2 _ (by simp [ha, hb])
end Go.Proofs.YtgakcbdahbagkaaGreat
/- The laws of predicates: what the reference answers. -/
set_option linter.unusedVariables false
set_option linter.unusedSimpArgs false
set_option maxRecDepth 20000
set_option maxHeartbeats 4000000
namespace Go.Proofs.YtgakcbdahbagkaaGreat
open Go Go.Ae

def Epm : Env := { tt := tt, eqs := eqsL, Φ := fun g => match g with
  | 7 => some (.p awakeS)
  | 6 => some (.q (bigS 12))
  | 10 => some (.p orientS)
  | 12 => some (.p incircleS)
  | 8 => some (.p centerS)
  | 14 => some (.p betweenS)
  | 23 => some (.p insideS)
  | 19 => some (.p angleS)
  | 21 => some (.p wedgeS)
  | 11 => some (.p orientS)
  | 13 => some (.p incircleS)
  | 9 => some (.p centerS)
  | 15 => some (.p betweenS)
  | 24 => some (.p insideS)
  | 20 => some (.p angleS)
  | 22 => some (.p wedRefS)
  | _ => none }
theorem Epmok : EnvOk Tryz.prog Epm := ⟨tt_ok, eqs_ok, (fun g S h => by
  simp only [Epm] at h
  split at h
  · cases h; exact awake7_ok
  · cases h; exact big7l_ok
  · cases h; exact orient_ok
  · cases h; exact incircle_ok
  · cases h; exact center_ok
  · cases h; exact between_ok
  · cases h; exact inside_ok
  · cases h; exact angle_ok
  · cases h; exact wedge_ok
  · cases h; exact rorient_ok
  · cases h; exact rincircle_ok
  · cases h; exact rcenter_ok
  · cases h; exact rbetween_ok
  · cases h; exact rinside_ok
  · cases h; exact rangle_ok
  · cases h; exact rwedge_ok
  · cases h), fun g F h => by simp [Epm] at h⟩

theorem pPoints_ok : Snd Tryz.prog 3 law4S := by
  refine snd_of Epmok Dok Tryz.func3 (enters_of Tryz.func3 (by kernel_rfl) rfl) (fun _ => rfl) (fun _ => rfl) ?_
  intro ⟨a, b, c, d⟩ hp
  conv => whnf
  obtain ⟨G, hG⟩ : ∃ G, G = anyBig 12 [a, b, c, d] := ⟨_, rfl⟩
  refine ⟨some ([a, b, c, d], 4), [4], rfl, by show 4 ≤ 1099511627776; decide, ?_⟩
  rw [show (bigS 12).blks (some ([a, b, c, d], 4)) = [.flat false 4 6 (rowsP [a, b, c, d])] from rfl, show (bigS 12).val (some ([a, b, c, d], 4)) = .bool G from by rw [hG]; rfl, show (bigS 12).new (some ([a, b, c, d], 4)) = none from rfl]
  conv => whnf
  refine ⟨lit_blk [a, b, c, d], ?_⟩
  conv => whnf
  refine ⟨.bool G, rfl, ?_⟩
  have hsz := fun h => anyBig_false (hG.symm.trans h)
  clear hG
  cases hG2 : G
  · have sa : PV.sz 12 a := hsz hG2 a (by simp)
    have qa := PV.psz sa (by decide)
    have sb : PV.sz 12 b := hsz hG2 b (by simp)
    have qb := PV.psz sb (by decide)
    have sc : PV.sz 12 c := hsz hG2 c (by simp)
    have qc := PV.psz sc (by decide)
    have sd : PV.sz 12 d := hsz hG2 d (by simp)
    have qd := PV.psz sd (by decide)
    conv => whnf
    obtain ⟨m, e, hme, sm⟩ := cen_hide qa qb qc
    have hc : centerS.val (a, b, c) = .tuple ⟨[m.v, .int .i64 e]⟩ := by
      show Value.tuple ⟨[(cenV a.p b.p c.p).1.v, .int .i64 (cenV a.p b.p c.p).2]⟩ = _
      rw [hme]
    refine ⟨(a, b, c), rfl, ⟨PV.sz_mono sa (by decide), PV.sz_mono sb (by decide), PV.sz_mono sc (by decide)⟩, ?_⟩
    rw [hc]
    conv => whnf
    refine ⟨(a, b, c), rfl, ⟨PV.sz_mono sa (by decide), PV.sz_mono sb (by decide), PV.sz_mono sc (by decide)⟩, ?_⟩
    rw [hc]
    conv => whnf
    refine .inl ⟨41, [[], [], [], [0, 1, 2], [], [], [], [0, 1, 2, 3, 4, 5, 6], [0, 1, 2, 3, 4, 5, 6, 7], [0, 1, 2, 3, 4, 5, 6, 7, 8], [0, 1, 2, 3, 4, 5, 6, 7, 8, 9], [0, 1, 2, 3, 4, 5, 6, 7, 8, 9], [0, 1, 2, 3, 4, 5, 6, 7, 8, 9], [0, 1, 2, 3, 4, 5, 6, 7, 8, 9], [0, 1, 2, 3, 4, 5, 6, 7, 8, 9, 10, 11, 12, 13], [0, 1, 2, 3, 4, 5, 6, 7, 8, 9], [0, 1, 2, 3, 4, 5, 6, 7, 8, 9], [0, 1, 2, 3, 4, 5, 6, 7, 8, 9], [0, 1, 2, 3, 4, 5, 6, 7, 8, 9], [0, 1, 2, 3, 4, 5, 6, 7, 8, 9, 10, 11, 12, 13, 14, 15, 16, 17, 18], [0, 1, 2, 3, 4, 5, 6, 7, 8, 9, 10, 11, 12, 13, 14, 15, 16, 17, 18, 19], [0, 1, 2, 3, 4, 5, 6, 7, 8, 9, 10, 11, 12, 13, 14, 15, 16, 17, 18, 19, 20], [0, 1, 2, 3, 4, 5, 6, 7, 8, 9, 10, 11, 12, 13, 14, 15, 16, 17, 18, 19, 20, 21], [0, 1, 2, 3, 4, 5, 6, 7, 8, 9, 10, 11, 12, 13, 14, 15, 16, 17, 18, 19, 20, 21, 22], [0, 1, 2, 3, 4, 5, 6, 7, 8, 9, 10, 11, 12, 13, 14, 15, 16, 17, 18, 19, 20, 21, 22], [0, 1, 2, 3, 4, 5, 6, 7, 8, 9, 10, 11, 12, 13, 14, 15, 16, 17, 18, 19, 20, 21, 22], [0, 1, 2, 3, 4, 5, 6, 7, 8, 9, 10, 11, 12, 13, 14, 15, 16, 17, 18, 19, 20, 21, 22, 23, 24, 25], [0, 1, 2, 3, 4, 5, 6, 7, 8, 9, 10, 11, 12, 13, 14, 15, 16, 17, 18, 19, 20, 21, 22], [0, 1, 2, 3, 4, 5, 6, 7, 8, 9, 10, 11, 12, 13, 14, 15, 16, 17, 18, 19, 20, 21, 22], [0, 1, 2, 3, 4, 5, 6, 7, 8, 9, 10, 11, 12, 13, 14, 15, 16, 17, 18, 19, 20, 21, 22], [0, 1, 2, 3, 4, 5, 6, 7, 8, 9, 10, 11, 12, 13, 14, 15, 16, 17, 18, 19, 20, 21, 22, 23, 24, 25, 26, 27, 28, 29], [0, 1, 2, 3, 4, 5, 6, 7, 8, 9, 10, 11, 12, 13, 14, 15, 16, 17, 18, 19, 20, 21, 22, 23, 24, 25, 26, 27, 28, 29, 30], [0, 1, 2, 3, 4, 5, 6, 7, 8, 9, 10, 11, 12, 13, 14, 15, 16, 17, 18, 19, 20, 21, 22, 23, 24, 25, 26, 27, 28, 29, 30, 31], [0, 1, 2, 3, 4, 5, 6, 7, 8, 9, 10, 11, 12, 13, 14, 15, 16, 17, 18, 19, 20, 21, 22, 23, 24, 25, 26, 27, 28, 29, 30, 31, 32], [0, 1, 2, 3, 4, 5, 6, 7, 8, 9, 10, 11, 12, 13, 14, 15, 16, 17, 18, 19, 20, 21, 22, 23, 24, 25, 26, 27, 28, 29, 30, 31, 32, 33], [0, 1, 2, 3, 4, 5, 6, 7, 8, 9, 10, 11, 12, 13, 14, 15, 16, 17, 18, 19, 20, 21, 22, 23, 24, 25, 26, 27, 28, 29, 30, 31, 32, 33], [0, 1, 2, 3, 4, 5, 6, 7, 8, 9, 10, 11, 12, 13, 14, 15, 16, 17, 18, 19, 20, 21, 22, 23, 24, 25, 26, 27, 28, 29, 30, 31, 32, 33, 34, 35], [0, 1, 2, 3, 4, 5, 6, 7, 8, 9, 10, 11, 12, 13, 14, 15, 16, 17, 18, 19, 20, 21, 22, 23, 24, 25, 26, 27, 28, 29, 30, 31, 32, 33, 34, 35, 36], [0, 1, 2, 3, 4, 5, 6, 7, 8, 9, 10, 11, 12, 13, 14, 15, 16, 17, 18, 19, 20, 21, 22, 23, 24, 25, 26, 27, 28, 29, 30, 31, 32, 33, 34, 35, 36, 37], [0, 1, 2, 3, 4, 5, 6, 7, 8, 9, 10, 11, 12, 13, 14, 15, 16, 17, 18, 19, 20, 21, 22, 23, 24, 25, 26, 27, 28, 29, 30, 31, 32, 33, 34, 35, 36, 37, 38], [0, 1, 2, 3, 4, 5, 6, 7, 8, 9, 10, 11, 12, 13, 14, 15, 16, 17, 18, 19, 20, 21, 22, 23, 24, 25, 26, 27, 28, 29, 30, 31, 32, 33, 34, 35, 36, 37, 38], [0, 1, 2, 3, 4, 5, 6, 7, 8, 9, 10, 11, 12, 13, 14, 15, 16, 17, 18, 19, 20, 21, 22, 23, 24, 25, 26, 27, 28, 29, 30, 31, 32, 33, 34, 35, 36, 37, 38, 39, 40], [0, 1, 2, 3, 4, 5, 6, 7, 8, 9, 10, 11, 12, 13, 14, 15, 16, 17, 18, 19, 20, 21, 22, 23, 24, 25, 26, 27, 28, 29, 30, 31, 32, 33, 34, 35, 36, 37, 38, 39, 40, 41], [0, 1, 2, 3, 4, 5, 6, 7, 8, 9, 10, 11, 12, 13, 14, 15, 16, 17, 18, 19, 20, 21, 22, 23, 24, 25, 26, 27, 28, 29, 30, 31, 32, 33, 34, 35, 36, 37, 38, 39, 40, 41, 42], [0, 1, 2, 3, 4, 5, 6, 7, 8, 9, 10, 11, 12, 13, 14, 15, 16, 17, 18, 19, 20, 21, 22, 23, 24, 25, 26, 27, 28, 29, 30, 31, 32, 33, 34, 35, 36, 37, 38, 39, 40, 41, 42, 43], [0, 1, 2, 3, 4, 5, 6, 7, 8, 9, 10, 11, 12, 13, 14, 15, 16, 17, 18, 19, 20, 21, 22, 23, 24, 25, 26, 27, 28, 29, 30, 31, 32, 33, 34, 35, 36, 37, 38, 39, 40, 41, 42, 43, 44], [0, 1, 2, 3, 4, 5, 6, 7, 8, 9, 10, 11, 12, 13, 14, 15, 16, 17, 18, 19, 20, 21, 22, 23, 24, 25, 26, 27, 28, 29, 30, 31, 32, 33, 34, 35, 36, 37, 38, 39, 40, 41, 42, 43, 44, 45]], by kernel_rfl, ?_⟩
    conv => whnf
    obtain ⟨o, eo, po⟩ := hideZ (cmpQ (orR a.p b.p c.p) 0)
    refine ⟨(a, b, c), rfl, ⟨PV.sz_mono sa (by decide), PV.sz_mono sb (by decide), PV.sz_mono sc (by decide)⟩, ?_⟩
    rw [show orientS.val (a, b, c) = .int .i64 o from eo]
    conv => whnf
    refine ⟨(a, b, c), rfl, ⟨PV.sz_mono sa (by decide), PV.sz_mono sb (by decide), PV.sz_mono sc (by decide)⟩, ?_⟩
    rw [show orientS.val (a, b, c) = .int .i64 (o) from congrArg (Value.int .i64) (show cmpQ (orR a.p b.p c.p) 0 = o from po.symm)]
    conv => whnf
    rw [show (o == o) = true from by simp]
    conv => whnf
    obtain ⟨i, ei, pi⟩ := hideZ (cmpQ (icR a.p b.p c.p d.p) 0)
    refine ⟨(a, b, c, d), rfl, ⟨PV.sz_mono sa (by decide), PV.sz_mono sb (by decide), PV.sz_mono sc (by decide), PV.sz_mono sd (by decide)⟩, ?_⟩
    rw [show incircleS.val (a, b, c, d) = .int .i64 i from ei]
    conv => whnf
    refine ⟨(a, b, c, d), rfl, ⟨PV.sz_mono sa (by decide), PV.sz_mono sb (by decide), PV.sz_mono sc (by decide), PV.sz_mono sd (by decide)⟩, ?_⟩
    rw [show incircleS.val (a, b, c, d) = .int .i64 (i) from congrArg (Value.int .i64) (show cmpQ (icR a.p b.p c.p d.p) 0 = i from pi.symm)]
    conv => whnf
    rw [show (i == i) = true from by simp]
    conv => whnf
    obtain ⟨k, ek, pk⟩ := hideB (decide (betR a.p b.p c.p))
    refine ⟨(a, b, c), rfl, ⟨PV.sz_mono sa (by decide), PV.sz_mono sb (by decide), PV.sz_mono sc (by decide)⟩, ?_⟩
    rw [show betweenS.val (a, b, c) = .bool k from ek]
    conv => whnf
    refine ⟨(a, b, c), rfl, ⟨PV.sz_mono sa (by decide), PV.sz_mono sb (by decide), PV.sz_mono sc (by decide)⟩, ?_⟩
    rw [show betweenS.val (a, b, c) = .bool (k) from congrArg (Value.bool) (show decide (betR a.p b.p c.p) = k from pk.symm)]
    conv => whnf
    rw [show (k == k) = true from by simp]
    conv => whnf
    rw [eqP m]
    conv => whnf
    rw [show (e == e) = true from by simp]
    conv => whnf
    refine ⟨(), rfl, trivial, ?_⟩
    conv => whnf
    rfl
  · conv => whnf
    refine ⟨(), rfl, trivial, ?_⟩
    conv => whnf
    rfl
theorem pDirections_ok : Snd Tryz.prog 5 law4S := by
  refine snd_of Epmok Dok Tryz.func5 (enters_of Tryz.func5 (by kernel_rfl) rfl) (fun _ => rfl) (fun _ => rfl) ?_
  intro ⟨u, v, w, p⟩ hp
  conv => whnf
  obtain ⟨G, hG⟩ : ∃ G, G = anyBig 12 [u, v, w, p] := ⟨_, rfl⟩
  refine ⟨some ([u, v, w, p], 4), [4], rfl, by show 4 ≤ 1099511627776; decide, ?_⟩
  rw [show (bigS 12).blks (some ([u, v, w, p], 4)) = [.flat false 4 6 (rowsP [u, v, w, p])] from rfl, show (bigS 12).val (some ([u, v, w, p], 4)) = .bool G from by rw [hG]; rfl, show (bigS 12).new (some ([u, v, w, p], 4)) = none from rfl]
  conv => whnf
  refine ⟨lit_blk [u, v, w, p], ?_⟩
  conv => whnf
  refine ⟨.bool G, rfl, ?_⟩
  have hsz := fun h => anyBig_false (hG.symm.trans h)
  clear hG
  cases hG2 : G
  · have su : PV.sz 12 u := hsz hG2 u (by simp)
    have qu := PV.psz su (by decide)
    have sv : PV.sz 12 v := hsz hG2 v (by simp)
    have qv := PV.psz sv (by decide)
    have sw : PV.sz 12 w := hsz hG2 w (by simp)
    have qw := PV.psz sw (by decide)
    have sp : PV.sz 12 p := hsz hG2 p (by simp)
    have qp := PV.psz sp (by decide)
    conv => whnf
    refine .inl ⟨24, [[], [], [0, 1], [], [], [0, 1, 2, 3, 4], [0, 1, 2, 3, 4, 5], [0, 1, 2, 3, 4, 5, 6], [0, 1, 2, 3, 4, 5, 6, 7], [0, 1, 2, 3, 4, 5, 6, 7], [0, 1, 2, 3, 4, 5, 6, 7], [0, 1, 2, 3, 4, 5, 6, 7, 8, 9, 10], [0, 1, 2, 3, 4, 5, 6, 7], [0, 1, 2, 3, 4, 5, 6, 7], [0, 1, 2, 3, 4, 5, 6, 7], [0, 1, 2, 3, 4, 5, 6, 7, 8, 9, 10, 11, 12, 13, 14], [0, 1, 2, 3, 4, 5, 6, 7, 8, 9, 10, 11, 12, 13, 14, 15], [0, 1, 2, 3, 4, 5, 6, 7, 8, 9, 10, 11, 12, 13, 14, 15, 16], [0, 1, 2, 3, 4, 5, 6, 7, 8, 9, 10, 11, 12, 13, 14, 15, 16, 17], [0, 1, 2, 3, 4, 5, 6, 7, 8, 9, 10, 11, 12, 13, 14, 15, 16, 17, 18], [0, 1, 2, 3, 4, 5, 6, 7, 8, 9, 10, 11, 12, 13, 14, 15, 16, 17, 18], [0, 1, 2, 3, 4, 5, 6, 7, 8, 9, 10, 11, 12, 13, 14, 15, 16, 17, 18, 19, 20], [0, 1, 2, 3, 4, 5, 6, 7, 8, 9, 10, 11, 12, 13, 14, 15, 16, 17, 18], [0, 1, 2, 3, 4, 5, 6, 7, 8, 9, 10, 11, 12, 13, 14, 15, 16, 17, 18], [0, 1, 2, 3, 4, 5, 6, 7, 8, 9, 10, 11, 12, 13, 14, 15, 16, 17, 18, 19, 20, 21, 22, 23], [0, 1, 2, 3, 4, 5, 6, 7, 8, 9, 10, 11, 12, 13, 14, 15, 16, 17, 18, 19, 20, 21, 22, 23, 24], [0, 1, 2, 3, 4, 5, 6, 7, 8, 9, 10, 11, 12, 13, 14, 15, 16, 17, 18, 19, 20, 21, 22, 23, 24, 25], [0, 1, 2, 3, 4, 5, 6, 7, 8, 9, 10, 11, 12, 13, 14, 15, 16, 17, 18, 19, 20, 21, 22, 23, 24, 25, 26], [0, 1, 2, 3, 4, 5, 6, 7, 8, 9, 10, 11, 12, 13, 14, 15, 16, 17, 18, 19, 20, 21, 22, 23, 24, 25, 26, 27], [0, 1, 2, 3, 4, 5, 6, 7, 8, 9, 10, 11, 12, 13, 14, 15, 16, 17, 18, 19, 20, 21, 22, 23, 24, 25, 26, 27, 28], [0, 1, 2, 3, 4, 5, 6, 7, 8, 9, 10, 11, 12, 13, 14, 15, 16, 17, 18, 19, 20, 21, 22, 23, 24, 25, 26, 27, 28, 29]], by kernel_rfl, ?_⟩
    conv => whnf
    obtain ⟨o, eo, po⟩ := hideZ (angR u.p v.p)
    refine ⟨(u, v), rfl, ⟨PV.sz_mono su (by decide), PV.sz_mono sv (by decide)⟩, ?_⟩
    rw [show angleS.val (u, v) = .int .i64 o from eo]
    conv => whnf
    refine ⟨(u, v), rfl, ⟨PV.sz_mono su (by decide), PV.sz_mono sv (by decide)⟩, ?_⟩
    rw [show angleS.val (u, v) = .int .i64 (o) from congrArg (Value.int .i64) (show angR u.p v.p = o from po.symm)]
    conv => whnf
    rw [show (o == o) = true from by simp]
    conv => whnf
    obtain ⟨k, ek, pk⟩ := hideB (decide (wedR u.p v.p w.p))
    refine ⟨(u, v, w), rfl, ⟨PV.sz_mono su (by decide), PV.sz_mono sv (by decide), PV.sz_mono sw (by decide)⟩, ?_⟩
    rw [show wedgeS.val (u, v, w) = .bool k from ek]
    conv => whnf
    refine ⟨(u, v, w), rfl, ⟨PV.sz_mono su (by decide), PV.sz_mono sv (by decide), PV.sz_mono sw (by decide)⟩, ?_⟩
    rw [show wedRefS.val (u, v, w) = .bool k from (wedge_same (u, v, w)).trans ek]
    conv => whnf
    rw [show (k == k) = true from by simp]
    conv => whnf
    obtain ⟨n, en, pn⟩ := hideZ (insR u.p v.p w.p p.p)
    refine ⟨((u, v, w), p), rfl, ⟨⟨PV.sz_mono su (by decide), PV.sz_mono sv (by decide), PV.sz_mono sw (by decide)⟩, PV.sz_mono sp (by decide)⟩, ?_⟩
    rw [show insideS.val ((u, v, w), p) = .int .i64 n from en]
    conv => whnf
    refine ⟨((u, v, w), p), rfl, ⟨⟨PV.sz_mono su (by decide), PV.sz_mono sv (by decide), PV.sz_mono sw (by decide)⟩, PV.sz_mono sp (by decide)⟩, ?_⟩
    rw [show insideS.val ((u, v, w), p) = .int .i64 (n) from congrArg (Value.int .i64) (show insR u.p v.p w.p p.p = n from pn.symm)]
    conv => whnf
    rw [show (n == n) = true from by simp]
    conv => whnf
    refine ⟨(), rfl, trivial, ?_⟩
    conv => whnf
    rfl
  · conv => whnf
    refine ⟨(), rfl, trivial, ?_⟩
    conv => whnf
    rfl
end Go.Proofs.YtgakcbdahbagkaaGreat
/- The statements PredicatePoints, PredicateDirections: the program answers what the reference answers. -/
set_option linter.unusedVariables false
namespace Go.Proofs.YtgakcbdahbagkaaGreat
open Go Go.Ae Go.ChangeShapes Go.WideShapes Go.ChangeAt Go.RowKit

theorem own : ownKnob Tryz.prog.godebug = none := by kernel_rfl
theorem laidOut : laidOutB Tryz.prog = true := by kernel_rfl
def zP : Value := .agg #[.bool false, .string ⟨#[]⟩, .string ⟨#[]⟩, .bool false, .string ⟨#[]⟩, .string ⟨#[]⟩]
set_option maxRecDepth 100000 in
theorem open_point {w : World} {r : Reach} {base : Nat} {v : Value} (h : Value.okWide Tryz.prog w r base 25 v) : ∃ p : PV, v = p.v :=
  open_pt Tryz.underlying25 (b := 4) (s := 9) (by kernel_rfl) (by kernel_rfl) Tryz.underlying4 Tryz.underlying9 h
set_option maxRecDepth 100000 in
theorem predicatePoints_lifted (os : Os) (started : os.Started) (H : Type) (enc : TypeId × Value → H) :
    ReturnsInHanded {} Tryz.checked os 3 .any (Rows.predicatePointsSpec.pre6 enc Tryz.prog Tryz.f3 Rows.predicatePointsRow.domain false) (Rows.predicatePointsSpec.post enc Tryz.prog Tryz.f3 false true false false) := by
  refine returnsInHanded_of_change (C := Tryz.checked) own started (by kernel_rfl) Tryz.func3
    (ChangeSpec.witness6 (enc := enc) (C := Tryz.checked) false ⟨#[], #[zP, zP, zP, zP], []⟩ 8 (by kernel_rfl) (by kernel_rfl) (by kernel_rfl) (by kernel_rfl)) ?_
  intro W base args ds gs before hval0 hW hcnd _
  have hval : ∀ (j : Nat) t v, Tryz.f3.params[j]? = some t → args[j]? = some v → Value.okWide Tryz.prog W .any base t v := hval0
  have hW' := hW
  obtain ⟨p, q, hA0, hV, rfl, hfz, hnd⟩ := hW
  have hA : DataW.TrodAll enc Tryz.prog W 0 (fun _ => true) true Tryz.f3.params.toList args.toList ds p := hA0
  rw [Tryz.params3] at hA hval
  obtain ⟨v0, vs0, d0, ds0, p0, q0, hargs, rfl, rfl, h0, r0⟩ := trodAll_cons hA
  obtain ⟨v1, vs1, d1, ds1, p1, q1, rfl, rfl, rfl, h1, r1⟩ := trodAll_cons r0
  obtain ⟨v2, vs2, d2, ds2, p2, q2, rfl, rfl, rfl, h2, r2⟩ := trodAll_cons r1
  obtain ⟨v3, vs3, d3, ds3, p3, q3, rfl, rfl, rfl, h3, r3⟩ := trodAll_cons r2
  obtain ⟨rfl, rfl, rfl⟩ := trodAll_nil r3
  obtain rfl : args = #[v0, v1, v2, v3] := by cases args; simp_all
  obtain ⟨rfl, rfl⟩ := trodVars_none hV
  obtain ⟨a0, rfl⟩ := open_point (hval 0 25 v0 rfl rfl)
  obtain ⟨a1, rfl⟩ := open_point (hval 1 25 v1 rfl rfl)
  obtain ⟨a2, rfl⟩ := open_point (hval 2 25 v2 rfl rfl)
  obtain ⟨a3, rfl⟩ := open_point (hval 3 25 v3 rfl rfl)
  have lt0 : ∀ x ∈ p0, x.block < W.heap.size := by obtain ⟨m, hm⟩ := h0; exact DataW.trod_lt m _ _ _ hm
  have lt1 : ∀ x ∈ p1, x.block < W.heap.size := by obtain ⟨m, hm⟩ := h1; exact DataW.trod_lt m _ _ _ hm
  have lt2 : ∀ x ∈ p2, x.block < W.heap.size := by obtain ⟨m, hm⟩ := h2; exact DataW.trod_lt m _ _ _ hm
  have lt3 : ∀ x ∈ p3, x.block < W.heap.size := by obtain ⟨m, hm⟩ := h3; exact DataW.trod_lt m _ _ _ hm
  clear hA0 hval0
  refine (calls_of_snd pPoints_ok (i := (a0, a1, a2, a3)) (trivial) rfl rfl (b := true) rfl W).mono fun e W' ⟨he, bel⟩ => ?_
  subst he
  exact ⟨_, rfl, _, _, _, [], _, [], hW', trodAll_mk1 (shut_bool Tryz.underlying4 _), (trodAll_cons_mk (Below.trod laidOut (by kernel_rfl) (of_decide_eq_true (by kernel_rfl)) h0 bel lt0) (trodAll_cons_mk (Below.trod laidOut (by kernel_rfl) (of_decide_eq_true (by kernel_rfl)) h1 bel lt1) (trodAll_cons_mk (Below.trod laidOut (by kernel_rfl) (of_decide_eq_true (by kernel_rfl)) h2 bel lt2) (trodAll_cons_mk (Below.trod laidOut (by kernel_rfl) (of_decide_eq_true (by kernel_rfl)) h3 bel lt3) trodAll_mk0)))), rfl, bel.frame _, fun h => by cases h⟩

theorem predicatePoints_holds : Rows.predicatePointsRow.holds Tryz.pinned (OpenSpec.ofChange Rows.predicatePointsSpec) :=
  OpenClaim.holds_of_wide 3 Tryz.f3 rfl rfl rfl rfl rfl rfl rfl ⟨rfl, rfl, rfl, rfl, rfl⟩ rfl rfl rfl rfl rfl (by kernel_rfl) Tryz.func3 (by kernel_rfl)
    (of_decide_eq_true (by kernel_rfl)) (by unfold Func.isWrapper; first | (rw [if_pos (by decide +kernel)]; kernel_rfl) | (rw [if_neg (by decide +kernel)]; exact ⟨rfl, rfl⟩))
    (fun os started H enc _ => predicatePoints_lifted os started H enc)
theorem predicatePoints_proved : Rows.PredicatePointsSaid := predicatePoints_holds

set_option maxRecDepth 100000 in
theorem predicateDirections_lifted (os : Os) (started : os.Started) (H : Type) (enc : TypeId × Value → H) :
    ReturnsInHanded {} Tryz.checked os 5 .any (Rows.predicateDirectionsSpec.pre6 enc Tryz.prog Tryz.f5 Rows.predicateDirectionsRow.domain false) (Rows.predicateDirectionsSpec.post enc Tryz.prog Tryz.f5 false true false false) := by
  refine returnsInHanded_of_change (C := Tryz.checked) own started (by kernel_rfl) Tryz.func5
    (ChangeSpec.witness6 (enc := enc) (C := Tryz.checked) false ⟨#[], #[zP, zP, zP, zP], []⟩ 8 (by kernel_rfl) (by kernel_rfl) (by kernel_rfl) (by kernel_rfl)) ?_
  intro W base args ds gs before hval0 hW hcnd _
  have hval : ∀ (j : Nat) t v, Tryz.f5.params[j]? = some t → args[j]? = some v → Value.okWide Tryz.prog W .any base t v := hval0
  have hW' := hW
  obtain ⟨p, q, hA0, hV, rfl, hfz, hnd⟩ := hW
  have hA : DataW.TrodAll enc Tryz.prog W 0 (fun _ => true) true Tryz.f5.params.toList args.toList ds p := hA0
  rw [Tryz.params5] at hA hval
  obtain ⟨v0, vs0, d0, ds0, p0, q0, hargs, rfl, rfl, h0, r0⟩ := trodAll_cons hA
  obtain ⟨v1, vs1, d1, ds1, p1, q1, rfl, rfl, rfl, h1, r1⟩ := trodAll_cons r0
  obtain ⟨v2, vs2, d2, ds2, p2, q2, rfl, rfl, rfl, h2, r2⟩ := trodAll_cons r1
  obtain ⟨v3, vs3, d3, ds3, p3, q3, rfl, rfl, rfl, h3, r3⟩ := trodAll_cons r2
  obtain ⟨rfl, rfl, rfl⟩ := trodAll_nil r3
  obtain rfl : args = #[v0, v1, v2, v3] := by cases args; simp_all
  obtain ⟨rfl, rfl⟩ := trodVars_none hV
  obtain ⟨a0, rfl⟩ := open_point (hval 0 25 v0 rfl rfl)
  obtain ⟨a1, rfl⟩ := open_point (hval 1 25 v1 rfl rfl)
  obtain ⟨a2, rfl⟩ := open_point (hval 2 25 v2 rfl rfl)
  obtain ⟨a3, rfl⟩ := open_point (hval 3 25 v3 rfl rfl)
  have lt0 : ∀ x ∈ p0, x.block < W.heap.size := by obtain ⟨m, hm⟩ := h0; exact DataW.trod_lt m _ _ _ hm
  have lt1 : ∀ x ∈ p1, x.block < W.heap.size := by obtain ⟨m, hm⟩ := h1; exact DataW.trod_lt m _ _ _ hm
  have lt2 : ∀ x ∈ p2, x.block < W.heap.size := by obtain ⟨m, hm⟩ := h2; exact DataW.trod_lt m _ _ _ hm
  have lt3 : ∀ x ∈ p3, x.block < W.heap.size := by obtain ⟨m, hm⟩ := h3; exact DataW.trod_lt m _ _ _ hm
  clear hA0 hval0
  refine (calls_of_snd pDirections_ok (i := (a0, a1, a2, a3)) (trivial) rfl rfl (b := true) rfl W).mono fun e W' ⟨he, bel⟩ => ?_
  subst he
  exact ⟨_, rfl, _, _, _, [], _, [], hW', trodAll_mk1 (shut_bool Tryz.underlying4 _), (trodAll_cons_mk (Below.trod laidOut (by kernel_rfl) (of_decide_eq_true (by kernel_rfl)) h0 bel lt0) (trodAll_cons_mk (Below.trod laidOut (by kernel_rfl) (of_decide_eq_true (by kernel_rfl)) h1 bel lt1) (trodAll_cons_mk (Below.trod laidOut (by kernel_rfl) (of_decide_eq_true (by kernel_rfl)) h2 bel lt2) (trodAll_cons_mk (Below.trod laidOut (by kernel_rfl) (of_decide_eq_true (by kernel_rfl)) h3 bel lt3) trodAll_mk0)))), rfl, bel.frame _, fun h => by cases h⟩

theorem predicateDirections_holds : Rows.predicateDirectionsRow.holds Tryz.pinned (OpenSpec.ofChange Rows.predicateDirectionsSpec) :=
  OpenClaim.holds_of_wide 5 Tryz.f5 rfl rfl rfl rfl rfl rfl rfl ⟨rfl, rfl, rfl, rfl, rfl⟩ rfl rfl rfl rfl rfl (by kernel_rfl) Tryz.func5 (by kernel_rfl)
    (of_decide_eq_true (by kernel_rfl)) (by unfold Func.isWrapper; first | (rw [if_pos (by decide +kernel)]; kernel_rfl) | (rw [if_neg (by decide +kernel)]; exact ⟨rfl, rfl⟩))
    (fun os started H enc _ => predicateDirections_lifted os started H enc)
theorem predicateDirections_proved : Rows.PredicateDirectionsSaid := predicateDirections_holds
end Go.Proofs.YtgakcbdahbagkaaGreat
