import Derived.Test.YtgakcbdahbagkaaRows
import Derived.Test.YtgakcbdahbagkaaPJ
/- The laws of predicates: angles, sorted directions. -/
set_option linter.unusedVariables false
set_option linter.unusedSimpArgs false
set_option maxRecDepth 20000
set_option maxHeartbeats 8000000
namespace Go.Proofs.Ytgakcbdahbagkaa
open Go Go.Ae

theorem pAngles_ok : Snd Try.prog 4 law3nS := by
  refine snd_of Eplok Dok Try.func4 (enters_of Try.func4 (by kernel_rfl) rfl) (fun _ => rfl) (fun _ => rfl) ?_
  intro ⟨⟨u, v, w⟩, n⟩ hp
  have hp : 0 ≤ n ∧ n < 256 := hp
  conv => whnf
  obtain ⟨G, hG⟩ : ∃ G, G = anyBig 12 [u, v, w] := ⟨_, rfl⟩
  refine ⟨some ([u, v, w], 3), [3], rfl, by show 3 ≤ 1099511627776; decide, ?_⟩
  rw [show (bigS 12).blks (some ([u, v, w], 3)) = [.flat false 3 6 (rowsP [u, v, w])] from rfl, show (bigS 12).val (some ([u, v, w], 3)) = .bool G from by rw [hG]; rfl, show (bigS 12).new (some ([u, v, w], 3)) = none from rfl]
  conv => whnf
  refine ⟨lit_blk [u, v, w], ?_⟩
  conv => whnf
  refine ⟨.bool G, rfl, ?_⟩
  have hsz := fun h => anyBig_false (hG.symm.trans h)
  clear hG
  cases hG2 : G
  · have su : PV.sz 12 u := hsz hG2 u (by simp)
    have qu := PV.psz su (by decide)
    have sv : PV.sz 12 v := hsz hG2 v (by simp)
    have qv := PV.psz sv (by decide)
    have sw : PV.sz 12 w := hsz hG2 w (by simp)
    have qw := PV.psz sw (by decide)
    obtain ⟨r, er, pr, sr, qr⟩ := hideR (q := ((1 + n : Int) : Rat)) (k := 2) (QB.of_int (nby_le (by show (1 + n).natAbs < 65536; omega)) (by decide))
    have hr : 0 < r.q := by
      rw [pr]
      have : ((0 : Int) : Rat) < ((1 + n : Int) : Rat) := Rat.intCast_lt_intCast.2 (by omega)
      exact this
    obtain ⟨m, em, pm, sm, qm⟩ := hideR (q := ((-1 : Int) : Rat)) (ex_nby (n := -1) (by decide))
    have pm : m.q = -1 := pm
    conv => whnf
    refine .inl ⟨8, [[], [], [0, 1], [], [], [0, 1, 2, 3, 4], [], [], [0, 1, 2, 3, 4, 5, 6, 7], [0, 1, 2, 3, 4, 5, 6, 7, 8], [0, 1, 2, 3, 4, 5, 6, 7, 8, 9], [0, 1, 2, 3, 4, 5, 6, 7, 8, 9, 10]], by kernel_rfl, ?_⟩
    conv => whnf
    obtain ⟨a, ea, pa⟩ := hideZ (angR u.p v.p)
    refine ⟨(u, v), rfl, ⟨PV.sz_mono su (by decide), PV.sz_mono sv (by decide)⟩, ?_⟩
    rw [show angleS.val (u, v) = .int .i64 a from ea]
    conv => whnf
    obtain ⟨b, eb, pb⟩ := hideZ (angR v.p w.p)
    refine ⟨(v, w), rfl, ⟨PV.sz_mono sv (by decide), PV.sz_mono sw (by decide)⟩, ?_⟩
    rw [show angleS.val (v, w) = .int .i64 b from eb]
    conv => whnf
    obtain ⟨c, ec, pc⟩ := hideZ (angR u.p w.p)
    refine ⟨(u, w), rfl, ⟨PV.sz_mono su (by decide), PV.sz_mono sw (by decide)⟩, ?_⟩
    rw [show angleS.val (u, w) = .int .i64 c from ec]
    conv => whnf
    have ha := ang_range u.p v.p
    have hb := ang_range v.p w.p
    have hc := ang_range u.p w.p
    have t1 := ang_trans (u := u.p) (v := v.p) (w := w.p)
    have t2 := ang_trans (u := w.p) (v := v.p) (w := u.p)
    rw [ang_anti v.p w.p, ang_anti u.p v.p, ang_anti u.p w.p, ← pa, ← pb, ← pc] at t2
    rw [← pa, ← pb, ← pc] at t1
    rw [← pa] at ha
    rw [← pb] at hb
    rw [← pc] at hc
    refine ⟨(v, u), rfl, ⟨PV.sz_mono sv (by decide), PV.sz_mono su (by decide)⟩, ?_⟩
    rw [show angleS.val (v, u) = .int .i64 ((-a)) from congrArg (Value.int .i64) (show angR v.p u.p = (-a) from by rw [ang_anti u.p v.p, ← pa])]
    conv => whnf
    rw [show (a != IntKind.i64.wrap (0 - (-a))) = false from by rcases ha with rfl | rfl | rfl <;> decide]
    conv => whnf
    refine ⟨(u, u), rfl, ⟨PV.sz_mono su (by decide), PV.sz_mono su (by decide)⟩, ?_⟩
    rw [show angleS.val (u, u) = .int .i64 (0) from congrArg (Value.int .i64) (show angR u.p u.p = 0 from ang_self u.p)]
    conv => whnf
    rcases ha with rfl | rfl | rfl
    · rcases hb with rfl | rfl | rfl
      · obtain rfl : c = -1 := by omega
        conv => whnf
        refine .inl ⟨7, [[], [], [1], [1, 2], [1, 2, 3], [0, 1, 2, 3, 4], [], [0, 1, 2, 3, 4, 5, 6]], by kernel_rfl, ?_⟩
        conv => whnf
        rw [show IntKind.i64.wrap (1 + IntKind.i64.wrap n) = 1 + n from by rw [wrapi64 (x := n) (by omega) (by omega), wrapi64 (by omega) (by omega)]]
        refine ⟨1 + n, rfl, ⟨by omega, by omega⟩, ?_⟩
        rw [show qofS.val (1 + n) = r.v from er]
        conv => whnf
        obtain ⟨g, eg, pg, sg, qg⟩ := hideP (scale_sz qu qr)
        refine ⟨(u, r), rfl, ⟨PV.sz_mono su (by decide), RV.sz_mono sr (by decide)⟩, ?_⟩
        rw [show vscaleS.val (u, r) = g.v from eg]
        conv => whnf
        have hg : ∀ x : Q2, angR g.p x = angR u.p x := fun x => by rw [pg]; exact ang_scale hr u.p x
        refine .inl ⟨2, [[], [], [0, 1], [0, 1, 2], [0, 1, 2, 3]], by kernel_rfl, ?_⟩
        conv => whnf
        obtain ⟨z, cz, ez, pz, sz, qz⟩ := hidePc (ofsz (0) (0) (by decide) (by decide))
        refine ⟨(((0 : Int), (0 : Int)) : Int × Int), rfl, ⟨⟨by decide, by decide⟩, ⟨by decide, by decide⟩⟩, ?_⟩
        rw [show vofS.val (((0 : Int), (0 : Int)) : Int × Int) = z.v from ez]
        conv => whnf
        obtain ⟨k, ek, pk⟩ := hideZ (cmpR u.p z.p)
        refine ⟨(u, z), rfl, ⟨PV.sz_mono su (by decide), PV.sz_mono sz (by decide)⟩, ?_⟩
        rw [show vcmpS.val (u, z) = .int .i64 k from ek]
        conv => whnf
        have hk : k = 0 ↔ u.p.1 = 0 ∧ u.p.2 = 0 := by rw [pk, pz, cmpR_zero]; exact Iff.rfl
        by_cases hz : u.p.1 = 0 ∧ u.p.2 = 0
        · obtain rfl : k = 0 := hk.2 hz
          conv => whnf
          refine .inl ⟨17, [[], [], [0, 1], [], [0, 1, 2, 3], [0, 1, 2, 3, 4], [0, 1, 2, 3, 4, 5], [0, 1, 2, 3, 4, 5], [0, 1, 2, 3, 4, 5, 6, 7], [0, 1, 2, 3, 4, 5, 6, 7, 8], [0, 1, 2, 3, 4, 5, 6, 7, 8, 9], [0, 1, 2, 3, 4, 5, 6, 7, 8, 9, 10], [0, 1, 2, 3, 4, 5, 6, 7, 8, 9, 10, 11], [0, 1, 2, 3, 4, 5, 6, 7, 8, 9, 10, 11], [0, 1, 2, 3, 4, 5, 6, 7, 8, 9, 10, 11, 12, 13], [0, 1, 2, 3, 4, 5, 6, 7, 8, 9, 10, 11, 12, 13, 14], [0, 1, 2, 3, 4, 5, 6, 7, 8, 9, 10, 11], [0, 1, 2, 3, 4, 5, 6, 7, 8, 9, 10, 11, 12, 13, 14, 15, 16], [0, 1, 2, 3, 4, 5, 6, 7, 8, 9, 10, 11, 12, 13, 14, 15, 16, 17]], by kernel_rfl, ?_⟩
          conv => whnf
          refine ⟨(g, v), rfl, ⟨PV.sz_mono sg (by decide), PV.sz_mono sv (by decide)⟩, ?_⟩
          rw [show angleS.val (g, v) = .int .i64 ((-1)) from congrArg (Value.int .i64) (show angR g.p v.p = (-1) from by rw [hg, ← pa])]
          conv => whnf
          refine ⟨(g, u), rfl, ⟨PV.sz_mono sg (by decide), PV.sz_mono su (by decide)⟩, ?_⟩
          rw [show angleS.val (g, u) = .int .i64 (0) from congrArg (Value.int .i64) (show angR g.p u.p = 0 from by rw [hg, ang_self])]
          conv => whnf
          obtain ⟨x, cx, ex, px, sx, qx⟩ := hidePc (ofsz (1) (0) (by decide) (by decide))
          refine ⟨(((1 : Int), (0 : Int)) : Int × Int), rfl, ⟨⟨by decide, by decide⟩, ⟨by decide, by decide⟩⟩, ?_⟩
          rw [show vofS.val (((1 : Int), (0 : Int)) : Int × Int) = x.v from ex]
          conv => whnf
          obtain ⟨y, ey, py⟩ := hideZ (angR u.p x.p)
          refine ⟨(u, x), rfl, ⟨PV.sz_mono su (by decide), PV.sz_mono sx (by decide)⟩, ?_⟩
          rw [show angleS.val (u, x) = .int .i64 y from ey]
          conv => whnf
          have hy : y < 0 := by rw [py, px]; exact (ang_axis u.p).2 hz
          rw [show decide (y < 0) = true from decide_eq_true hy]
          conv => whnf
          refine .inl ⟨7, [[], [], [], [1, 2], [0, 1, 2, 3], [0, 1, 2, 3, 4], [], [0, 1, 2, 3, 4, 5, 6], [0, 1, 2, 3, 4, 5, 6, 7], [0, 1, 2, 3, 4, 5, 6, 7, 8], [0, 1, 2, 3, 4, 5, 6, 7, 8, 9], [0, 1, 2, 3, 4, 5, 6, 7, 8, 9, 10]], by kernel_rfl, ?_⟩
          conv => whnf
          refine ⟨(-1 : Int), rfl, ⟨by decide, by decide⟩, ?_⟩
          rw [show qofS.val (-1 : Int) = m.v from em]
          conv => whnf
          obtain ⟨h, eh, ph, sh, qh⟩ := hideP (scale_sz qu qm)
          refine ⟨(u, m), rfl, ⟨PV.sz_mono su (by decide), RV.sz_mono sm (by decide)⟩, ?_⟩
          rw [show vscaleS.val (u, m) = h.v from eh]
          conv => whnf
          refine ⟨(u, h), rfl, ⟨PV.sz_mono su (by decide), PV.sz_mono sh (by decide)⟩, ?_⟩
          rw [show angleS.val (u, h) = .int .i64 (0) from congrArg (Value.int .i64) (show angR u.p h.p = 0 from by rw [ph, pm]; exact (ang_back u.p).2 hz)]
          conv => whnf
          conv => whnf
          refine ⟨(), rfl, trivial, ?_⟩
          conv => whnf
          rfl
        · have hk0 : k ≠ 0 := fun h => hz (hk.1 h)
          rw [show (k == 0) = false from by simp [hk0]]
          conv => whnf
          refine .inl ⟨17, [[], [], [0, 1], [], [0, 1, 2, 3], [0, 1, 2, 3, 4], [0, 1, 2, 3, 4, 5], [0, 1, 2, 3, 4, 5], [0, 1, 2, 3, 4, 5, 6, 7], [0, 1, 2, 3, 4, 5, 6, 7, 8], [0, 1, 2, 3, 4, 5, 6, 7, 8, 9], [0, 1, 2, 3, 4, 5, 6, 7, 8, 9, 10], [0, 1, 2, 3, 4, 5, 6, 7, 8, 9, 10, 11], [0, 1, 2, 3, 4, 5, 6, 7, 8, 9, 10, 11], [0, 1, 2, 3, 4, 5, 6, 7, 8, 9, 10, 11, 12, 13], [0, 1, 2, 3, 4, 5, 6, 7, 8, 9, 10, 11, 12, 13, 14], [0, 1, 2, 3, 4, 5, 6, 7, 8, 9, 10, 11], [0, 1, 2, 3, 4, 5, 6, 7, 8, 9, 10, 11, 12, 13, 14, 15, 16], [0, 1, 2, 3, 4, 5, 6, 7, 8, 9, 10, 11, 12, 13, 14, 15, 16, 17]], by kernel_rfl, ?_⟩
          conv => whnf
          refine ⟨(g, v), rfl, ⟨PV.sz_mono sg (by decide), PV.sz_mono sv (by decide)⟩, ?_⟩
          rw [show angleS.val (g, v) = .int .i64 ((-1)) from congrArg (Value.int .i64) (show angR g.p v.p = (-1) from by rw [hg, ← pa])]
          conv => whnf
          refine ⟨(g, u), rfl, ⟨PV.sz_mono sg (by decide), PV.sz_mono su (by decide)⟩, ?_⟩
          rw [show angleS.val (g, u) = .int .i64 (0) from congrArg (Value.int .i64) (show angR g.p u.p = 0 from by rw [hg, ang_self])]
          conv => whnf
          obtain ⟨x, cx, ex, px, sx, qx⟩ := hidePc (ofsz (1) (0) (by decide) (by decide))
          refine ⟨(((1 : Int), (0 : Int)) : Int × Int), rfl, ⟨⟨by decide, by decide⟩, ⟨by decide, by decide⟩⟩, ?_⟩
          rw [show vofS.val (((1 : Int), (0 : Int)) : Int × Int) = x.v from ex]
          conv => whnf
          obtain ⟨y, ey, py⟩ := hideZ (angR u.p x.p)
          refine ⟨(u, x), rfl, ⟨PV.sz_mono su (by decide), PV.sz_mono sx (by decide)⟩, ?_⟩
          rw [show angleS.val (u, x) = .int .i64 y from ey]
          conv => whnf
          have hy : ¬ y < 0 := by rw [py, px]; exact fun h => hz ((ang_axis u.p).1 h)
          rw [show decide (y < 0) = false from decide_eq_false hy]
          conv => whnf
          refine .inl ⟨7, [[], [], [], [1, 2], [0, 1, 2, 3], [0, 1, 2, 3, 4], [], [0, 1, 2, 3, 4, 5, 6], [0, 1, 2, 3, 4, 5, 6, 7], [0, 1, 2, 3, 4, 5, 6, 7, 8], [0, 1, 2, 3, 4, 5, 6, 7, 8, 9], [0, 1, 2, 3, 4, 5, 6, 7, 8, 9, 10]], by kernel_rfl, ?_⟩
          conv => whnf
          refine ⟨(-1 : Int), rfl, ⟨by decide, by decide⟩, ?_⟩
          rw [show qofS.val (-1 : Int) = m.v from em]
          conv => whnf
          obtain ⟨h, eh, ph, sh, qh⟩ := hideP (scale_sz qu qm)
          refine ⟨(u, m), rfl, ⟨PV.sz_mono su (by decide), RV.sz_mono sm (by decide)⟩, ?_⟩
          rw [show vscaleS.val (u, m) = h.v from eh]
          conv => whnf
          obtain ⟨q, eq, pq⟩ := hideZ (angR u.p h.p)
          refine ⟨(u, h), rfl, ⟨PV.sz_mono su (by decide), PV.sz_mono sh (by decide)⟩, ?_⟩
          rw [show angleS.val (u, h) = .int .i64 q from eq]
          conv => whnf
          have hq : q ≠ 0 := by rw [pq, ph, pm]; exact fun h => hz ((ang_back u.p).1 h)
          rw [show (q == 0) = false from by simp [hq]]
          conv => whnf
          refine ⟨(), rfl, trivial, ?_⟩
          conv => whnf
          rfl
      · obtain rfl : c = -1 := by omega
        conv => whnf
        refine .inl ⟨7, [[], [], [1], [1, 2], [1, 2, 3], [0, 1, 2, 3, 4], [], [0, 1, 2, 3, 4, 5, 6]], by kernel_rfl, ?_⟩
        conv => whnf
        rw [show IntKind.i64.wrap (1 + IntKind.i64.wrap n) = 1 + n from by rw [wrapi64 (x := n) (by omega) (by omega), wrapi64 (by omega) (by omega)]]
        refine ⟨1 + n, rfl, ⟨by omega, by omega⟩, ?_⟩
        rw [show qofS.val (1 + n) = r.v from er]
        conv => whnf
        obtain ⟨g, eg, pg, sg, qg⟩ := hideP (scale_sz qu qr)
        refine ⟨(u, r), rfl, ⟨PV.sz_mono su (by decide), RV.sz_mono sr (by decide)⟩, ?_⟩
        rw [show vscaleS.val (u, r) = g.v from eg]
        conv => whnf
        have hg : ∀ x : Q2, angR g.p x = angR u.p x := fun x => by rw [pg]; exact ang_scale hr u.p x
        refine .inl ⟨2, [[], [], [0, 1], [0, 1, 2], [0, 1, 2, 3]], by kernel_rfl, ?_⟩
        conv => whnf
        obtain ⟨z, cz, ez, pz, sz, qz⟩ := hidePc (ofsz (0) (0) (by decide) (by decide))
        refine ⟨(((0 : Int), (0 : Int)) : Int × Int), rfl, ⟨⟨by decide, by decide⟩, ⟨by decide, by decide⟩⟩, ?_⟩
        rw [show vofS.val (((0 : Int), (0 : Int)) : Int × Int) = z.v from ez]
        conv => whnf
        obtain ⟨k, ek, pk⟩ := hideZ (cmpR u.p z.p)
        refine ⟨(u, z), rfl, ⟨PV.sz_mono su (by decide), PV.sz_mono sz (by decide)⟩, ?_⟩
        rw [show vcmpS.val (u, z) = .int .i64 k from ek]
        conv => whnf
        have hk : k = 0 ↔ u.p.1 = 0 ∧ u.p.2 = 0 := by rw [pk, pz, cmpR_zero]; exact Iff.rfl
        by_cases hz : u.p.1 = 0 ∧ u.p.2 = 0
        · obtain rfl : k = 0 := hk.2 hz
          conv => whnf
          refine .inl ⟨17, [[], [], [0, 1], [], [0, 1, 2, 3], [0, 1, 2, 3, 4], [0, 1, 2, 3, 4, 5], [0, 1, 2, 3, 4, 5], [0, 1, 2, 3, 4, 5, 6, 7], [0, 1, 2, 3, 4, 5, 6, 7, 8], [0, 1, 2, 3, 4, 5, 6, 7, 8, 9], [0, 1, 2, 3, 4, 5, 6, 7, 8, 9, 10], [0, 1, 2, 3, 4, 5, 6, 7, 8, 9, 10, 11], [0, 1, 2, 3, 4, 5, 6, 7, 8, 9, 10, 11], [0, 1, 2, 3, 4, 5, 6, 7, 8, 9, 10, 11, 12, 13], [0, 1, 2, 3, 4, 5, 6, 7, 8, 9, 10, 11, 12, 13, 14], [0, 1, 2, 3, 4, 5, 6, 7, 8, 9, 10, 11], [0, 1, 2, 3, 4, 5, 6, 7, 8, 9, 10, 11, 12, 13, 14, 15, 16], [0, 1, 2, 3, 4, 5, 6, 7, 8, 9, 10, 11, 12, 13, 14, 15, 16, 17]], by kernel_rfl, ?_⟩
          conv => whnf
          refine ⟨(g, v), rfl, ⟨PV.sz_mono sg (by decide), PV.sz_mono sv (by decide)⟩, ?_⟩
          rw [show angleS.val (g, v) = .int .i64 ((-1)) from congrArg (Value.int .i64) (show angR g.p v.p = (-1) from by rw [hg, ← pa])]
          conv => whnf
          refine ⟨(g, u), rfl, ⟨PV.sz_mono sg (by decide), PV.sz_mono su (by decide)⟩, ?_⟩
          rw [show angleS.val (g, u) = .int .i64 (0) from congrArg (Value.int .i64) (show angR g.p u.p = 0 from by rw [hg, ang_self])]
          conv => whnf
          obtain ⟨x, cx, ex, px, sx, qx⟩ := hidePc (ofsz (1) (0) (by decide) (by decide))
          refine ⟨(((1 : Int), (0 : Int)) : Int × Int), rfl, ⟨⟨by decide, by decide⟩, ⟨by decide, by decide⟩⟩, ?_⟩
          rw [show vofS.val (((1 : Int), (0 : Int)) : Int × Int) = x.v from ex]
          conv => whnf
          obtain ⟨y, ey, py⟩ := hideZ (angR u.p x.p)
          refine ⟨(u, x), rfl, ⟨PV.sz_mono su (by decide), PV.sz_mono sx (by decide)⟩, ?_⟩
          rw [show angleS.val (u, x) = .int .i64 y from ey]
          conv => whnf
          have hy : y < 0 := by rw [py, px]; exact (ang_axis u.p).2 hz
          rw [show decide (y < 0) = true from decide_eq_true hy]
          conv => whnf
          refine .inl ⟨7, [[], [], [], [1, 2], [0, 1, 2, 3], [0, 1, 2, 3, 4], [], [0, 1, 2, 3, 4, 5, 6], [0, 1, 2, 3, 4, 5, 6, 7], [0, 1, 2, 3, 4, 5, 6, 7, 8], [0, 1, 2, 3, 4, 5, 6, 7, 8, 9], [0, 1, 2, 3, 4, 5, 6, 7, 8, 9, 10]], by kernel_rfl, ?_⟩
          conv => whnf
          refine ⟨(-1 : Int), rfl, ⟨by decide, by decide⟩, ?_⟩
          rw [show qofS.val (-1 : Int) = m.v from em]
          conv => whnf
          obtain ⟨h, eh, ph, sh, qh⟩ := hideP (scale_sz qu qm)
          refine ⟨(u, m), rfl, ⟨PV.sz_mono su (by decide), RV.sz_mono sm (by decide)⟩, ?_⟩
          rw [show vscaleS.val (u, m) = h.v from eh]
          conv => whnf
          refine ⟨(u, h), rfl, ⟨PV.sz_mono su (by decide), PV.sz_mono sh (by decide)⟩, ?_⟩
          rw [show angleS.val (u, h) = .int .i64 (0) from congrArg (Value.int .i64) (show angR u.p h.p = 0 from by rw [ph, pm]; exact (ang_back u.p).2 hz)]
          conv => whnf
          conv => whnf
          refine ⟨(), rfl, trivial, ?_⟩
          conv => whnf
          rfl
        · have hk0 : k ≠ 0 := fun h => hz (hk.1 h)
          rw [show (k == 0) = false from by simp [hk0]]
          conv => whnf
          refine .inl ⟨17, [[], [], [0, 1], [], [0, 1, 2, 3], [0, 1, 2, 3, 4], [0, 1, 2, 3, 4, 5], [0, 1, 2, 3, 4, 5], [0, 1, 2, 3, 4, 5, 6, 7], [0, 1, 2, 3, 4, 5, 6, 7, 8], [0, 1, 2, 3, 4, 5, 6, 7, 8, 9], [0, 1, 2, 3, 4, 5, 6, 7, 8, 9, 10], [0, 1, 2, 3, 4, 5, 6, 7, 8, 9, 10, 11], [0, 1, 2, 3, 4, 5, 6, 7, 8, 9, 10, 11], [0, 1, 2, 3, 4, 5, 6, 7, 8, 9, 10, 11, 12, 13], [0, 1, 2, 3, 4, 5, 6, 7, 8, 9, 10, 11, 12, 13, 14], [0, 1, 2, 3, 4, 5, 6, 7, 8, 9, 10, 11], [0, 1, 2, 3, 4, 5, 6, 7, 8, 9, 10, 11, 12, 13, 14, 15, 16], [0, 1, 2, 3, 4, 5, 6, 7, 8, 9, 10, 11, 12, 13, 14, 15, 16, 17]], by kernel_rfl, ?_⟩
          conv => whnf
          refine ⟨(g, v), rfl, ⟨PV.sz_mono sg (by decide), PV.sz_mono sv (by decide)⟩, ?_⟩
          rw [show angleS.val (g, v) = .int .i64 ((-1)) from congrArg (Value.int .i64) (show angR g.p v.p = (-1) from by rw [hg, ← pa])]
          conv => whnf
          refine ⟨(g, u), rfl, ⟨PV.sz_mono sg (by decide), PV.sz_mono su (by decide)⟩, ?_⟩
          rw [show angleS.val (g, u) = .int .i64 (0) from congrArg (Value.int .i64) (show angR g.p u.p = 0 from by rw [hg, ang_self])]
          conv => whnf
          obtain ⟨x, cx, ex, px, sx, qx⟩ := hidePc (ofsz (1) (0) (by decide) (by decide))
          refine ⟨(((1 : Int), (0 : Int)) : Int × Int), rfl, ⟨⟨by decide, by decide⟩, ⟨by decide, by decide⟩⟩, ?_⟩
          rw [show vofS.val (((1 : Int), (0 : Int)) : Int × Int) = x.v from ex]
          conv => whnf
          obtain ⟨y, ey, py⟩ := hideZ (angR u.p x.p)
          refine ⟨(u, x), rfl, ⟨PV.sz_mono su (by decide), PV.sz_mono sx (by decide)⟩, ?_⟩
          rw [show angleS.val (u, x) = .int .i64 y from ey]
          conv => whnf
          have hy : ¬ y < 0 := by rw [py, px]; exact fun h => hz ((ang_axis u.p).1 h)
          rw [show decide (y < 0) = false from decide_eq_false hy]
          conv => whnf
          refine .inl ⟨7, [[], [], [], [1, 2], [0, 1, 2, 3], [0, 1, 2, 3, 4], [], [0, 1, 2, 3, 4, 5, 6], [0, 1, 2, 3, 4, 5, 6, 7], [0, 1, 2, 3, 4, 5, 6, 7, 8], [0, 1, 2, 3, 4, 5, 6, 7, 8, 9], [0, 1, 2, 3, 4, 5, 6, 7, 8, 9, 10]], by kernel_rfl, ?_⟩
          conv => whnf
          refine ⟨(-1 : Int), rfl, ⟨by decide, by decide⟩, ?_⟩
          rw [show qofS.val (-1 : Int) = m.v from em]
          conv => whnf
          obtain ⟨h, eh, ph, sh, qh⟩ := hideP (scale_sz qu qm)
          refine ⟨(u, m), rfl, ⟨PV.sz_mono su (by decide), RV.sz_mono sm (by decide)⟩, ?_⟩
          rw [show vscaleS.val (u, m) = h.v from eh]
          conv => whnf
          obtain ⟨q, eq, pq⟩ := hideZ (angR u.p h.p)
          refine ⟨(u, h), rfl, ⟨PV.sz_mono su (by decide), PV.sz_mono sh (by decide)⟩, ?_⟩
          rw [show angleS.val (u, h) = .int .i64 q from eq]
          conv => whnf
          have hq : q ≠ 0 := by rw [pq, ph, pm]; exact fun h => hz ((ang_back u.p).1 h)
          rw [show (q == 0) = false from by simp [hq]]
          conv => whnf
          refine ⟨(), rfl, trivial, ?_⟩
          conv => whnf
          rfl
      · conv => whnf
        refine .inl ⟨7, [[], [], [1], [1, 2], [1, 2, 3], [0, 1, 2, 3, 4], [], [0, 1, 2, 3, 4, 5, 6]], by kernel_rfl, ?_⟩
        conv => whnf
        rw [show IntKind.i64.wrap (1 + IntKind.i64.wrap n) = 1 + n from by rw [wrapi64 (x := n) (by omega) (by omega), wrapi64 (by omega) (by omega)]]
        refine ⟨1 + n, rfl, ⟨by omega, by omega⟩, ?_⟩
        rw [show qofS.val (1 + n) = r.v from er]
        conv => whnf
        obtain ⟨g, eg, pg, sg, qg⟩ := hideP (scale_sz qu qr)
        refine ⟨(u, r), rfl, ⟨PV.sz_mono su (by decide), RV.sz_mono sr (by decide)⟩, ?_⟩
        rw [show vscaleS.val (u, r) = g.v from eg]
        conv => whnf
        have hg : ∀ x : Q2, angR g.p x = angR u.p x := fun x => by rw [pg]; exact ang_scale hr u.p x
        refine .inl ⟨2, [[], [], [0, 1], [0, 1, 2], [0, 1, 2, 3]], by kernel_rfl, ?_⟩
        conv => whnf
        obtain ⟨z, cz, ez, pz, sz, qz⟩ := hidePc (ofsz (0) (0) (by decide) (by decide))
        refine ⟨(((0 : Int), (0 : Int)) : Int × Int), rfl, ⟨⟨by decide, by decide⟩, ⟨by decide, by decide⟩⟩, ?_⟩
        rw [show vofS.val (((0 : Int), (0 : Int)) : Int × Int) = z.v from ez]
        conv => whnf
        obtain ⟨k, ek, pk⟩ := hideZ (cmpR u.p z.p)
        refine ⟨(u, z), rfl, ⟨PV.sz_mono su (by decide), PV.sz_mono sz (by decide)⟩, ?_⟩
        rw [show vcmpS.val (u, z) = .int .i64 k from ek]
        conv => whnf
        have hk : k = 0 ↔ u.p.1 = 0 ∧ u.p.2 = 0 := by rw [pk, pz, cmpR_zero]; exact Iff.rfl
        by_cases hz : u.p.1 = 0 ∧ u.p.2 = 0
        · obtain rfl : k = 0 := hk.2 hz
          conv => whnf
          refine .inl ⟨17, [[], [], [0, 1], [], [0, 1, 2, 3], [0, 1, 2, 3, 4], [0, 1, 2, 3, 4, 5], [0, 1, 2, 3, 4, 5], [0, 1, 2, 3, 4, 5, 6, 7], [0, 1, 2, 3, 4, 5, 6, 7, 8], [0, 1, 2, 3, 4, 5, 6, 7, 8, 9], [0, 1, 2, 3, 4, 5, 6, 7, 8, 9, 10], [0, 1, 2, 3, 4, 5, 6, 7, 8, 9, 10, 11], [0, 1, 2, 3, 4, 5, 6, 7, 8, 9, 10, 11], [0, 1, 2, 3, 4, 5, 6, 7, 8, 9, 10, 11, 12, 13], [0, 1, 2, 3, 4, 5, 6, 7, 8, 9, 10, 11, 12, 13, 14], [0, 1, 2, 3, 4, 5, 6, 7, 8, 9, 10, 11], [0, 1, 2, 3, 4, 5, 6, 7, 8, 9, 10, 11, 12, 13, 14, 15, 16], [0, 1, 2, 3, 4, 5, 6, 7, 8, 9, 10, 11, 12, 13, 14, 15, 16, 17]], by kernel_rfl, ?_⟩
          conv => whnf
          refine ⟨(g, v), rfl, ⟨PV.sz_mono sg (by decide), PV.sz_mono sv (by decide)⟩, ?_⟩
          rw [show angleS.val (g, v) = .int .i64 ((-1)) from congrArg (Value.int .i64) (show angR g.p v.p = (-1) from by rw [hg, ← pa])]
          conv => whnf
          refine ⟨(g, u), rfl, ⟨PV.sz_mono sg (by decide), PV.sz_mono su (by decide)⟩, ?_⟩
          rw [show angleS.val (g, u) = .int .i64 (0) from congrArg (Value.int .i64) (show angR g.p u.p = 0 from by rw [hg, ang_self])]
          conv => whnf
          obtain ⟨x, cx, ex, px, sx, qx⟩ := hidePc (ofsz (1) (0) (by decide) (by decide))
          refine ⟨(((1 : Int), (0 : Int)) : Int × Int), rfl, ⟨⟨by decide, by decide⟩, ⟨by decide, by decide⟩⟩, ?_⟩
          rw [show vofS.val (((1 : Int), (0 : Int)) : Int × Int) = x.v from ex]
          conv => whnf
          obtain ⟨y, ey, py⟩ := hideZ (angR u.p x.p)
          refine ⟨(u, x), rfl, ⟨PV.sz_mono su (by decide), PV.sz_mono sx (by decide)⟩, ?_⟩
          rw [show angleS.val (u, x) = .int .i64 y from ey]
          conv => whnf
          have hy : y < 0 := by rw [py, px]; exact (ang_axis u.p).2 hz
          rw [show decide (y < 0) = true from decide_eq_true hy]
          conv => whnf
          refine .inl ⟨7, [[], [], [], [1, 2], [0, 1, 2, 3], [0, 1, 2, 3, 4], [], [0, 1, 2, 3, 4, 5, 6], [0, 1, 2, 3, 4, 5, 6, 7], [0, 1, 2, 3, 4, 5, 6, 7, 8], [0, 1, 2, 3, 4, 5, 6, 7, 8, 9], [0, 1, 2, 3, 4, 5, 6, 7, 8, 9, 10]], by kernel_rfl, ?_⟩
          conv => whnf
          refine ⟨(-1 : Int), rfl, ⟨by decide, by decide⟩, ?_⟩
          rw [show qofS.val (-1 : Int) = m.v from em]
          conv => whnf
          obtain ⟨h, eh, ph, sh, qh⟩ := hideP (scale_sz qu qm)
          refine ⟨(u, m), rfl, ⟨PV.sz_mono su (by decide), RV.sz_mono sm (by decide)⟩, ?_⟩
          rw [show vscaleS.val (u, m) = h.v from eh]
          conv => whnf
          refine ⟨(u, h), rfl, ⟨PV.sz_mono su (by decide), PV.sz_mono sh (by decide)⟩, ?_⟩
          rw [show angleS.val (u, h) = .int .i64 (0) from congrArg (Value.int .i64) (show angR u.p h.p = 0 from by rw [ph, pm]; exact (ang_back u.p).2 hz)]
          conv => whnf
          conv => whnf
          refine ⟨(), rfl, trivial, ?_⟩
          conv => whnf
          rfl
        · have hk0 : k ≠ 0 := fun h => hz (hk.1 h)
          rw [show (k == 0) = false from by simp [hk0]]
          conv => whnf
          refine .inl ⟨17, [[], [], [0, 1], [], [0, 1, 2, 3], [0, 1, 2, 3, 4], [0, 1, 2, 3, 4, 5], [0, 1, 2, 3, 4, 5], [0, 1, 2, 3, 4, 5, 6, 7], [0, 1, 2, 3, 4, 5, 6, 7, 8], [0, 1, 2, 3, 4, 5, 6, 7, 8, 9], [0, 1, 2, 3, 4, 5, 6, 7, 8, 9, 10], [0, 1, 2, 3, 4, 5, 6, 7, 8, 9, 10, 11], [0, 1, 2, 3, 4, 5, 6, 7, 8, 9, 10, 11], [0, 1, 2, 3, 4, 5, 6, 7, 8, 9, 10, 11, 12, 13], [0, 1, 2, 3, 4, 5, 6, 7, 8, 9, 10, 11, 12, 13, 14], [0, 1, 2, 3, 4, 5, 6, 7, 8, 9, 10, 11], [0, 1, 2, 3, 4, 5, 6, 7, 8, 9, 10, 11, 12, 13, 14, 15, 16], [0, 1, 2, 3, 4, 5, 6, 7, 8, 9, 10, 11, 12, 13, 14, 15, 16, 17]], by kernel_rfl, ?_⟩
          conv => whnf
          refine ⟨(g, v), rfl, ⟨PV.sz_mono sg (by decide), PV.sz_mono sv (by decide)⟩, ?_⟩
          rw [show angleS.val (g, v) = .int .i64 ((-1)) from congrArg (Value.int .i64) (show angR g.p v.p = (-1) from by rw [hg, ← pa])]
          conv => whnf
          refine ⟨(g, u), rfl, ⟨PV.sz_mono sg (by decide), PV.sz_mono su (by decide)⟩, ?_⟩
          rw [show angleS.val (g, u) = .int .i64 (0) from congrArg (Value.int .i64) (show angR g.p u.p = 0 from by rw [hg, ang_self])]
          conv => whnf
          obtain ⟨x, cx, ex, px, sx, qx⟩ := hidePc (ofsz (1) (0) (by decide) (by decide))
          refine ⟨(((1 : Int), (0 : Int)) : Int × Int), rfl, ⟨⟨by decide, by decide⟩, ⟨by decide, by decide⟩⟩, ?_⟩
          rw [show vofS.val (((1 : Int), (0 : Int)) : Int × Int) = x.v from ex]
          conv => whnf
          obtain ⟨y, ey, py⟩ := hideZ (angR u.p x.p)
          refine ⟨(u, x), rfl, ⟨PV.sz_mono su (by decide), PV.sz_mono sx (by decide)⟩, ?_⟩
          rw [show angleS.val (u, x) = .int .i64 y from ey]
          conv => whnf
          have hy : ¬ y < 0 := by rw [py, px]; exact fun h => hz ((ang_axis u.p).1 h)
          rw [show decide (y < 0) = false from decide_eq_false hy]
          conv => whnf
          refine .inl ⟨7, [[], [], [], [1, 2], [0, 1, 2, 3], [0, 1, 2, 3, 4], [], [0, 1, 2, 3, 4, 5, 6], [0, 1, 2, 3, 4, 5, 6, 7], [0, 1, 2, 3, 4, 5, 6, 7, 8], [0, 1, 2, 3, 4, 5, 6, 7, 8, 9], [0, 1, 2, 3, 4, 5, 6, 7, 8, 9, 10]], by kernel_rfl, ?_⟩
          conv => whnf
          refine ⟨(-1 : Int), rfl, ⟨by decide, by decide⟩, ?_⟩
          rw [show qofS.val (-1 : Int) = m.v from em]
          conv => whnf
          obtain ⟨h, eh, ph, sh, qh⟩ := hideP (scale_sz qu qm)
          refine ⟨(u, m), rfl, ⟨PV.sz_mono su (by decide), RV.sz_mono sm (by decide)⟩, ?_⟩
          rw [show vscaleS.val (u, m) = h.v from eh]
          conv => whnf
          obtain ⟨q, eq, pq⟩ := hideZ (angR u.p h.p)
          refine ⟨(u, h), rfl, ⟨PV.sz_mono su (by decide), PV.sz_mono sh (by decide)⟩, ?_⟩
          rw [show angleS.val (u, h) = .int .i64 q from eq]
          conv => whnf
          have hq : q ≠ 0 := by rw [pq, ph, pm]; exact fun h => hz ((ang_back u.p).1 h)
          rw [show (q == 0) = false from by simp [hq]]
          conv => whnf
          refine ⟨(), rfl, trivial, ?_⟩
          conv => whnf
          rfl
    · rcases hb with rfl | rfl | rfl
      · obtain rfl : c = -1 := by omega
        conv => whnf
        refine .inl ⟨7, [[], [], [1], [1, 2], [1, 2, 3], [0, 1, 2, 3, 4], [], [0, 1, 2, 3, 4, 5, 6]], by kernel_rfl, ?_⟩
        conv => whnf
        rw [show IntKind.i64.wrap (1 + IntKind.i64.wrap n) = 1 + n from by rw [wrapi64 (x := n) (by omega) (by omega), wrapi64 (by omega) (by omega)]]
        refine ⟨1 + n, rfl, ⟨by omega, by omega⟩, ?_⟩
        rw [show qofS.val (1 + n) = r.v from er]
        conv => whnf
        obtain ⟨g, eg, pg, sg, qg⟩ := hideP (scale_sz qu qr)
        refine ⟨(u, r), rfl, ⟨PV.sz_mono su (by decide), RV.sz_mono sr (by decide)⟩, ?_⟩
        rw [show vscaleS.val (u, r) = g.v from eg]
        conv => whnf
        have hg : ∀ x : Q2, angR g.p x = angR u.p x := fun x => by rw [pg]; exact ang_scale hr u.p x
        refine .inl ⟨2, [[], [], [0, 1], [0, 1, 2], [0, 1, 2, 3]], by kernel_rfl, ?_⟩
        conv => whnf
        obtain ⟨z, cz, ez, pz, sz, qz⟩ := hidePc (ofsz (0) (0) (by decide) (by decide))
        refine ⟨(((0 : Int), (0 : Int)) : Int × Int), rfl, ⟨⟨by decide, by decide⟩, ⟨by decide, by decide⟩⟩, ?_⟩
        rw [show vofS.val (((0 : Int), (0 : Int)) : Int × Int) = z.v from ez]
        conv => whnf
        obtain ⟨k, ek, pk⟩ := hideZ (cmpR u.p z.p)
        refine ⟨(u, z), rfl, ⟨PV.sz_mono su (by decide), PV.sz_mono sz (by decide)⟩, ?_⟩
        rw [show vcmpS.val (u, z) = .int .i64 k from ek]
        conv => whnf
        have hk : k = 0 ↔ u.p.1 = 0 ∧ u.p.2 = 0 := by rw [pk, pz, cmpR_zero]; exact Iff.rfl
        by_cases hz : u.p.1 = 0 ∧ u.p.2 = 0
        · obtain rfl : k = 0 := hk.2 hz
          conv => whnf
          refine .inl ⟨17, [[], [], [0, 1], [], [0, 1, 2, 3], [0, 1, 2, 3, 4], [0, 1, 2, 3, 4, 5], [0, 1, 2, 3, 4, 5], [0, 1, 2, 3, 4, 5, 6, 7], [0, 1, 2, 3, 4, 5, 6, 7, 8], [0, 1, 2, 3, 4, 5, 6, 7, 8, 9], [0, 1, 2, 3, 4, 5, 6, 7, 8, 9, 10], [0, 1, 2, 3, 4, 5, 6, 7, 8, 9, 10, 11], [0, 1, 2, 3, 4, 5, 6, 7, 8, 9, 10, 11], [0, 1, 2, 3, 4, 5, 6, 7, 8, 9, 10, 11, 12, 13], [0, 1, 2, 3, 4, 5, 6, 7, 8, 9, 10, 11, 12, 13, 14], [0, 1, 2, 3, 4, 5, 6, 7, 8, 9, 10, 11], [0, 1, 2, 3, 4, 5, 6, 7, 8, 9, 10, 11, 12, 13, 14, 15, 16], [0, 1, 2, 3, 4, 5, 6, 7, 8, 9, 10, 11, 12, 13, 14, 15, 16, 17]], by kernel_rfl, ?_⟩
          conv => whnf
          refine ⟨(g, v), rfl, ⟨PV.sz_mono sg (by decide), PV.sz_mono sv (by decide)⟩, ?_⟩
          rw [show angleS.val (g, v) = .int .i64 (0) from congrArg (Value.int .i64) (show angR g.p v.p = 0 from by rw [hg, ← pa])]
          conv => whnf
          refine ⟨(g, u), rfl, ⟨PV.sz_mono sg (by decide), PV.sz_mono su (by decide)⟩, ?_⟩
          rw [show angleS.val (g, u) = .int .i64 (0) from congrArg (Value.int .i64) (show angR g.p u.p = 0 from by rw [hg, ang_self])]
          conv => whnf
          obtain ⟨x, cx, ex, px, sx, qx⟩ := hidePc (ofsz (1) (0) (by decide) (by decide))
          refine ⟨(((1 : Int), (0 : Int)) : Int × Int), rfl, ⟨⟨by decide, by decide⟩, ⟨by decide, by decide⟩⟩, ?_⟩
          rw [show vofS.val (((1 : Int), (0 : Int)) : Int × Int) = x.v from ex]
          conv => whnf
          obtain ⟨y, ey, py⟩ := hideZ (angR u.p x.p)
          refine ⟨(u, x), rfl, ⟨PV.sz_mono su (by decide), PV.sz_mono sx (by decide)⟩, ?_⟩
          rw [show angleS.val (u, x) = .int .i64 y from ey]
          conv => whnf
          have hy : y < 0 := by rw [py, px]; exact (ang_axis u.p).2 hz
          rw [show decide (y < 0) = true from decide_eq_true hy]
          conv => whnf
          refine .inl ⟨7, [[], [], [], [1, 2], [0, 1, 2, 3], [0, 1, 2, 3, 4], [], [0, 1, 2, 3, 4, 5, 6], [0, 1, 2, 3, 4, 5, 6, 7], [0, 1, 2, 3, 4, 5, 6, 7, 8], [0, 1, 2, 3, 4, 5, 6, 7, 8, 9], [0, 1, 2, 3, 4, 5, 6, 7, 8, 9, 10]], by kernel_rfl, ?_⟩
          conv => whnf
          refine ⟨(-1 : Int), rfl, ⟨by decide, by decide⟩, ?_⟩
          rw [show qofS.val (-1 : Int) = m.v from em]
          conv => whnf
          obtain ⟨h, eh, ph, sh, qh⟩ := hideP (scale_sz qu qm)
          refine ⟨(u, m), rfl, ⟨PV.sz_mono su (by decide), RV.sz_mono sm (by decide)⟩, ?_⟩
          rw [show vscaleS.val (u, m) = h.v from eh]
          conv => whnf
          refine ⟨(u, h), rfl, ⟨PV.sz_mono su (by decide), PV.sz_mono sh (by decide)⟩, ?_⟩
          rw [show angleS.val (u, h) = .int .i64 (0) from congrArg (Value.int .i64) (show angR u.p h.p = 0 from by rw [ph, pm]; exact (ang_back u.p).2 hz)]
          conv => whnf
          conv => whnf
          refine ⟨(), rfl, trivial, ?_⟩
          conv => whnf
          rfl
        · have hk0 : k ≠ 0 := fun h => hz (hk.1 h)
          rw [show (k == 0) = false from by simp [hk0]]
          conv => whnf
          refine .inl ⟨17, [[], [], [0, 1], [], [0, 1, 2, 3], [0, 1, 2, 3, 4], [0, 1, 2, 3, 4, 5], [0, 1, 2, 3, 4, 5], [0, 1, 2, 3, 4, 5, 6, 7], [0, 1, 2, 3, 4, 5, 6, 7, 8], [0, 1, 2, 3, 4, 5, 6, 7, 8, 9], [0, 1, 2, 3, 4, 5, 6, 7, 8, 9, 10], [0, 1, 2, 3, 4, 5, 6, 7, 8, 9, 10, 11], [0, 1, 2, 3, 4, 5, 6, 7, 8, 9, 10, 11], [0, 1, 2, 3, 4, 5, 6, 7, 8, 9, 10, 11, 12, 13], [0, 1, 2, 3, 4, 5, 6, 7, 8, 9, 10, 11, 12, 13, 14], [0, 1, 2, 3, 4, 5, 6, 7, 8, 9, 10, 11], [0, 1, 2, 3, 4, 5, 6, 7, 8, 9, 10, 11, 12, 13, 14, 15, 16], [0, 1, 2, 3, 4, 5, 6, 7, 8, 9, 10, 11, 12, 13, 14, 15, 16, 17]], by kernel_rfl, ?_⟩
          conv => whnf
          refine ⟨(g, v), rfl, ⟨PV.sz_mono sg (by decide), PV.sz_mono sv (by decide)⟩, ?_⟩
          rw [show angleS.val (g, v) = .int .i64 (0) from congrArg (Value.int .i64) (show angR g.p v.p = 0 from by rw [hg, ← pa])]
          conv => whnf
          refine ⟨(g, u), rfl, ⟨PV.sz_mono sg (by decide), PV.sz_mono su (by decide)⟩, ?_⟩
          rw [show angleS.val (g, u) = .int .i64 (0) from congrArg (Value.int .i64) (show angR g.p u.p = 0 from by rw [hg, ang_self])]
          conv => whnf
          obtain ⟨x, cx, ex, px, sx, qx⟩ := hidePc (ofsz (1) (0) (by decide) (by decide))
          refine ⟨(((1 : Int), (0 : Int)) : Int × Int), rfl, ⟨⟨by decide, by decide⟩, ⟨by decide, by decide⟩⟩, ?_⟩
          rw [show vofS.val (((1 : Int), (0 : Int)) : Int × Int) = x.v from ex]
          conv => whnf
          obtain ⟨y, ey, py⟩ := hideZ (angR u.p x.p)
          refine ⟨(u, x), rfl, ⟨PV.sz_mono su (by decide), PV.sz_mono sx (by decide)⟩, ?_⟩
          rw [show angleS.val (u, x) = .int .i64 y from ey]
          conv => whnf
          have hy : ¬ y < 0 := by rw [py, px]; exact fun h => hz ((ang_axis u.p).1 h)
          rw [show decide (y < 0) = false from decide_eq_false hy]
          conv => whnf
          refine .inl ⟨7, [[], [], [], [1, 2], [0, 1, 2, 3], [0, 1, 2, 3, 4], [], [0, 1, 2, 3, 4, 5, 6], [0, 1, 2, 3, 4, 5, 6, 7], [0, 1, 2, 3, 4, 5, 6, 7, 8], [0, 1, 2, 3, 4, 5, 6, 7, 8, 9], [0, 1, 2, 3, 4, 5, 6, 7, 8, 9, 10]], by kernel_rfl, ?_⟩
          conv => whnf
          refine ⟨(-1 : Int), rfl, ⟨by decide, by decide⟩, ?_⟩
          rw [show qofS.val (-1 : Int) = m.v from em]
          conv => whnf
          obtain ⟨h, eh, ph, sh, qh⟩ := hideP (scale_sz qu qm)
          refine ⟨(u, m), rfl, ⟨PV.sz_mono su (by decide), RV.sz_mono sm (by decide)⟩, ?_⟩
          rw [show vscaleS.val (u, m) = h.v from eh]
          conv => whnf
          obtain ⟨q, eq, pq⟩ := hideZ (angR u.p h.p)
          refine ⟨(u, h), rfl, ⟨PV.sz_mono su (by decide), PV.sz_mono sh (by decide)⟩, ?_⟩
          rw [show angleS.val (u, h) = .int .i64 q from eq]
          conv => whnf
          have hq : q ≠ 0 := by rw [pq, ph, pm]; exact fun h => hz ((ang_back u.p).1 h)
          rw [show (q == 0) = false from by simp [hq]]
          conv => whnf
          refine ⟨(), rfl, trivial, ?_⟩
          conv => whnf
          rfl
      · obtain rfl : c = 0 := by omega
        conv => whnf
        refine .inl ⟨7, [[], [], [1], [1, 2], [1, 2, 3], [0, 1, 2, 3, 4], [], [0, 1, 2, 3, 4, 5, 6]], by kernel_rfl, ?_⟩
        conv => whnf
        rw [show IntKind.i64.wrap (1 + IntKind.i64.wrap n) = 1 + n from by rw [wrapi64 (x := n) (by omega) (by omega), wrapi64 (by omega) (by omega)]]
        refine ⟨1 + n, rfl, ⟨by omega, by omega⟩, ?_⟩
        rw [show qofS.val (1 + n) = r.v from er]
        conv => whnf
        obtain ⟨g, eg, pg, sg, qg⟩ := hideP (scale_sz qu qr)
        refine ⟨(u, r), rfl, ⟨PV.sz_mono su (by decide), RV.sz_mono sr (by decide)⟩, ?_⟩
        rw [show vscaleS.val (u, r) = g.v from eg]
        conv => whnf
        have hg : ∀ x : Q2, angR g.p x = angR u.p x := fun x => by rw [pg]; exact ang_scale hr u.p x
        refine .inl ⟨2, [[], [], [0, 1], [0, 1, 2], [0, 1, 2, 3]], by kernel_rfl, ?_⟩
        conv => whnf
        obtain ⟨z, cz, ez, pz, sz, qz⟩ := hidePc (ofsz (0) (0) (by decide) (by decide))
        refine ⟨(((0 : Int), (0 : Int)) : Int × Int), rfl, ⟨⟨by decide, by decide⟩, ⟨by decide, by decide⟩⟩, ?_⟩
        rw [show vofS.val (((0 : Int), (0 : Int)) : Int × Int) = z.v from ez]
        conv => whnf
        obtain ⟨k, ek, pk⟩ := hideZ (cmpR u.p z.p)
        refine ⟨(u, z), rfl, ⟨PV.sz_mono su (by decide), PV.sz_mono sz (by decide)⟩, ?_⟩
        rw [show vcmpS.val (u, z) = .int .i64 k from ek]
        conv => whnf
        have hk : k = 0 ↔ u.p.1 = 0 ∧ u.p.2 = 0 := by rw [pk, pz, cmpR_zero]; exact Iff.rfl
        by_cases hz : u.p.1 = 0 ∧ u.p.2 = 0
        · obtain rfl : k = 0 := hk.2 hz
          conv => whnf
          refine .inl ⟨17, [[], [], [0, 1], [], [0, 1, 2, 3], [0, 1, 2, 3, 4], [0, 1, 2, 3, 4, 5], [0, 1, 2, 3, 4, 5], [0, 1, 2, 3, 4, 5, 6, 7], [0, 1, 2, 3, 4, 5, 6, 7, 8], [0, 1, 2, 3, 4, 5, 6, 7, 8, 9], [0, 1, 2, 3, 4, 5, 6, 7, 8, 9, 10], [0, 1, 2, 3, 4, 5, 6, 7, 8, 9, 10, 11], [0, 1, 2, 3, 4, 5, 6, 7, 8, 9, 10, 11], [0, 1, 2, 3, 4, 5, 6, 7, 8, 9, 10, 11, 12, 13], [0, 1, 2, 3, 4, 5, 6, 7, 8, 9, 10, 11, 12, 13, 14], [0, 1, 2, 3, 4, 5, 6, 7, 8, 9, 10, 11], [0, 1, 2, 3, 4, 5, 6, 7, 8, 9, 10, 11, 12, 13, 14, 15, 16], [0, 1, 2, 3, 4, 5, 6, 7, 8, 9, 10, 11, 12, 13, 14, 15, 16, 17]], by kernel_rfl, ?_⟩
          conv => whnf
          refine ⟨(g, v), rfl, ⟨PV.sz_mono sg (by decide), PV.sz_mono sv (by decide)⟩, ?_⟩
          rw [show angleS.val (g, v) = .int .i64 (0) from congrArg (Value.int .i64) (show angR g.p v.p = 0 from by rw [hg, ← pa])]
          conv => whnf
          refine ⟨(g, u), rfl, ⟨PV.sz_mono sg (by decide), PV.sz_mono su (by decide)⟩, ?_⟩
          rw [show angleS.val (g, u) = .int .i64 (0) from congrArg (Value.int .i64) (show angR g.p u.p = 0 from by rw [hg, ang_self])]
          conv => whnf
          obtain ⟨x, cx, ex, px, sx, qx⟩ := hidePc (ofsz (1) (0) (by decide) (by decide))
          refine ⟨(((1 : Int), (0 : Int)) : Int × Int), rfl, ⟨⟨by decide, by decide⟩, ⟨by decide, by decide⟩⟩, ?_⟩
          rw [show vofS.val (((1 : Int), (0 : Int)) : Int × Int) = x.v from ex]
          conv => whnf
          obtain ⟨y, ey, py⟩ := hideZ (angR u.p x.p)
          refine ⟨(u, x), rfl, ⟨PV.sz_mono su (by decide), PV.sz_mono sx (by decide)⟩, ?_⟩
          rw [show angleS.val (u, x) = .int .i64 y from ey]
          conv => whnf
          have hy : y < 0 := by rw [py, px]; exact (ang_axis u.p).2 hz
          rw [show decide (y < 0) = true from decide_eq_true hy]
          conv => whnf
          refine .inl ⟨7, [[], [], [], [1, 2], [0, 1, 2, 3], [0, 1, 2, 3, 4], [], [0, 1, 2, 3, 4, 5, 6], [0, 1, 2, 3, 4, 5, 6, 7], [0, 1, 2, 3, 4, 5, 6, 7, 8], [0, 1, 2, 3, 4, 5, 6, 7, 8, 9], [0, 1, 2, 3, 4, 5, 6, 7, 8, 9, 10]], by kernel_rfl, ?_⟩
          conv => whnf
          refine ⟨(-1 : Int), rfl, ⟨by decide, by decide⟩, ?_⟩
          rw [show qofS.val (-1 : Int) = m.v from em]
          conv => whnf
          obtain ⟨h, eh, ph, sh, qh⟩ := hideP (scale_sz qu qm)
          refine ⟨(u, m), rfl, ⟨PV.sz_mono su (by decide), RV.sz_mono sm (by decide)⟩, ?_⟩
          rw [show vscaleS.val (u, m) = h.v from eh]
          conv => whnf
          refine ⟨(u, h), rfl, ⟨PV.sz_mono su (by decide), PV.sz_mono sh (by decide)⟩, ?_⟩
          rw [show angleS.val (u, h) = .int .i64 (0) from congrArg (Value.int .i64) (show angR u.p h.p = 0 from by rw [ph, pm]; exact (ang_back u.p).2 hz)]
          conv => whnf
          conv => whnf
          refine ⟨(), rfl, trivial, ?_⟩
          conv => whnf
          rfl
        · have hk0 : k ≠ 0 := fun h => hz (hk.1 h)
          rw [show (k == 0) = false from by simp [hk0]]
          conv => whnf
          refine .inl ⟨17, [[], [], [0, 1], [], [0, 1, 2, 3], [0, 1, 2, 3, 4], [0, 1, 2, 3, 4, 5], [0, 1, 2, 3, 4, 5], [0, 1, 2, 3, 4, 5, 6, 7], [0, 1, 2, 3, 4, 5, 6, 7, 8], [0, 1, 2, 3, 4, 5, 6, 7, 8, 9], [0, 1, 2, 3, 4, 5, 6, 7, 8, 9, 10], [0, 1, 2, 3, 4, 5, 6, 7, 8, 9, 10, 11], [0, 1, 2, 3, 4, 5, 6, 7, 8, 9, 10, 11], [0, 1, 2, 3, 4, 5, 6, 7, 8, 9, 10, 11, 12, 13], [0, 1, 2, 3, 4, 5, 6, 7, 8, 9, 10, 11, 12, 13, 14], [0, 1, 2, 3, 4, 5, 6, 7, 8, 9, 10, 11], [0, 1, 2, 3, 4, 5, 6, 7, 8, 9, 10, 11, 12, 13, 14, 15, 16], [0, 1, 2, 3, 4, 5, 6, 7, 8, 9, 10, 11, 12, 13, 14, 15, 16, 17]], by kernel_rfl, ?_⟩
          conv => whnf
          refine ⟨(g, v), rfl, ⟨PV.sz_mono sg (by decide), PV.sz_mono sv (by decide)⟩, ?_⟩
          rw [show angleS.val (g, v) = .int .i64 (0) from congrArg (Value.int .i64) (show angR g.p v.p = 0 from by rw [hg, ← pa])]
          conv => whnf
          refine ⟨(g, u), rfl, ⟨PV.sz_mono sg (by decide), PV.sz_mono su (by decide)⟩, ?_⟩
          rw [show angleS.val (g, u) = .int .i64 (0) from congrArg (Value.int .i64) (show angR g.p u.p = 0 from by rw [hg, ang_self])]
          conv => whnf
          obtain ⟨x, cx, ex, px, sx, qx⟩ := hidePc (ofsz (1) (0) (by decide) (by decide))
          refine ⟨(((1 : Int), (0 : Int)) : Int × Int), rfl, ⟨⟨by decide, by decide⟩, ⟨by decide, by decide⟩⟩, ?_⟩
          rw [show vofS.val (((1 : Int), (0 : Int)) : Int × Int) = x.v from ex]
          conv => whnf
          obtain ⟨y, ey, py⟩ := hideZ (angR u.p x.p)
          refine ⟨(u, x), rfl, ⟨PV.sz_mono su (by decide), PV.sz_mono sx (by decide)⟩, ?_⟩
          rw [show angleS.val (u, x) = .int .i64 y from ey]
          conv => whnf
          have hy : ¬ y < 0 := by rw [py, px]; exact fun h => hz ((ang_axis u.p).1 h)
          rw [show decide (y < 0) = false from decide_eq_false hy]
          conv => whnf
          refine .inl ⟨7, [[], [], [], [1, 2], [0, 1, 2, 3], [0, 1, 2, 3, 4], [], [0, 1, 2, 3, 4, 5, 6], [0, 1, 2, 3, 4, 5, 6, 7], [0, 1, 2, 3, 4, 5, 6, 7, 8], [0, 1, 2, 3, 4, 5, 6, 7, 8, 9], [0, 1, 2, 3, 4, 5, 6, 7, 8, 9, 10]], by kernel_rfl, ?_⟩
          conv => whnf
          refine ⟨(-1 : Int), rfl, ⟨by decide, by decide⟩, ?_⟩
          rw [show qofS.val (-1 : Int) = m.v from em]
          conv => whnf
          obtain ⟨h, eh, ph, sh, qh⟩ := hideP (scale_sz qu qm)
          refine ⟨(u, m), rfl, ⟨PV.sz_mono su (by decide), RV.sz_mono sm (by decide)⟩, ?_⟩
          rw [show vscaleS.val (u, m) = h.v from eh]
          conv => whnf
          obtain ⟨q, eq, pq⟩ := hideZ (angR u.p h.p)
          refine ⟨(u, h), rfl, ⟨PV.sz_mono su (by decide), PV.sz_mono sh (by decide)⟩, ?_⟩
          rw [show angleS.val (u, h) = .int .i64 q from eq]
          conv => whnf
          have hq : q ≠ 0 := by rw [pq, ph, pm]; exact fun h => hz ((ang_back u.p).1 h)
          rw [show (q == 0) = false from by simp [hq]]
          conv => whnf
          refine ⟨(), rfl, trivial, ?_⟩
          conv => whnf
          rfl
      · obtain rfl : c = 1 := by omega
        conv => whnf
        refine .inl ⟨7, [[], [], [1], [1, 2], [1, 2, 3], [0, 1, 2, 3, 4], [], [0, 1, 2, 3, 4, 5, 6]], by kernel_rfl, ?_⟩
        conv => whnf
        rw [show IntKind.i64.wrap (1 + IntKind.i64.wrap n) = 1 + n from by rw [wrapi64 (x := n) (by omega) (by omega), wrapi64 (by omega) (by omega)]]
        refine ⟨1 + n, rfl, ⟨by omega, by omega⟩, ?_⟩
        rw [show qofS.val (1 + n) = r.v from er]
        conv => whnf
        obtain ⟨g, eg, pg, sg, qg⟩ := hideP (scale_sz qu qr)
        refine ⟨(u, r), rfl, ⟨PV.sz_mono su (by decide), RV.sz_mono sr (by decide)⟩, ?_⟩
        rw [show vscaleS.val (u, r) = g.v from eg]
        conv => whnf
        have hg : ∀ x : Q2, angR g.p x = angR u.p x := fun x => by rw [pg]; exact ang_scale hr u.p x
        refine .inl ⟨2, [[], [], [0, 1], [0, 1, 2], [0, 1, 2, 3]], by kernel_rfl, ?_⟩
        conv => whnf
        obtain ⟨z, cz, ez, pz, sz, qz⟩ := hidePc (ofsz (0) (0) (by decide) (by decide))
        refine ⟨(((0 : Int), (0 : Int)) : Int × Int), rfl, ⟨⟨by decide, by decide⟩, ⟨by decide, by decide⟩⟩, ?_⟩
        rw [show vofS.val (((0 : Int), (0 : Int)) : Int × Int) = z.v from ez]
        conv => whnf
        obtain ⟨k, ek, pk⟩ := hideZ (cmpR u.p z.p)
        refine ⟨(u, z), rfl, ⟨PV.sz_mono su (by decide), PV.sz_mono sz (by decide)⟩, ?_⟩
        rw [show vcmpS.val (u, z) = .int .i64 k from ek]
        conv => whnf
        have hk : k = 0 ↔ u.p.1 = 0 ∧ u.p.2 = 0 := by rw [pk, pz, cmpR_zero]; exact Iff.rfl
        by_cases hz : u.p.1 = 0 ∧ u.p.2 = 0
        · obtain rfl : k = 0 := hk.2 hz
          conv => whnf
          refine .inl ⟨17, [[], [], [0, 1], [], [0, 1, 2, 3], [0, 1, 2, 3, 4], [0, 1, 2, 3, 4, 5], [0, 1, 2, 3, 4, 5], [0, 1, 2, 3, 4, 5, 6, 7], [0, 1, 2, 3, 4, 5, 6, 7, 8], [0, 1, 2, 3, 4, 5, 6, 7, 8, 9], [0, 1, 2, 3, 4, 5, 6, 7, 8, 9, 10], [0, 1, 2, 3, 4, 5, 6, 7, 8, 9, 10, 11], [0, 1, 2, 3, 4, 5, 6, 7, 8, 9, 10, 11], [0, 1, 2, 3, 4, 5, 6, 7, 8, 9, 10, 11, 12, 13], [0, 1, 2, 3, 4, 5, 6, 7, 8, 9, 10, 11, 12, 13, 14], [0, 1, 2, 3, 4, 5, 6, 7, 8, 9, 10, 11], [0, 1, 2, 3, 4, 5, 6, 7, 8, 9, 10, 11, 12, 13, 14, 15, 16], [0, 1, 2, 3, 4, 5, 6, 7, 8, 9, 10, 11, 12, 13, 14, 15, 16, 17]], by kernel_rfl, ?_⟩
          conv => whnf
          refine ⟨(g, v), rfl, ⟨PV.sz_mono sg (by decide), PV.sz_mono sv (by decide)⟩, ?_⟩
          rw [show angleS.val (g, v) = .int .i64 (0) from congrArg (Value.int .i64) (show angR g.p v.p = 0 from by rw [hg, ← pa])]
          conv => whnf
          refine ⟨(g, u), rfl, ⟨PV.sz_mono sg (by decide), PV.sz_mono su (by decide)⟩, ?_⟩
          rw [show angleS.val (g, u) = .int .i64 (0) from congrArg (Value.int .i64) (show angR g.p u.p = 0 from by rw [hg, ang_self])]
          conv => whnf
          obtain ⟨x, cx, ex, px, sx, qx⟩ := hidePc (ofsz (1) (0) (by decide) (by decide))
          refine ⟨(((1 : Int), (0 : Int)) : Int × Int), rfl, ⟨⟨by decide, by decide⟩, ⟨by decide, by decide⟩⟩, ?_⟩
          rw [show vofS.val (((1 : Int), (0 : Int)) : Int × Int) = x.v from ex]
          conv => whnf
          obtain ⟨y, ey, py⟩ := hideZ (angR u.p x.p)
          refine ⟨(u, x), rfl, ⟨PV.sz_mono su (by decide), PV.sz_mono sx (by decide)⟩, ?_⟩
          rw [show angleS.val (u, x) = .int .i64 y from ey]
          conv => whnf
          have hy : y < 0 := by rw [py, px]; exact (ang_axis u.p).2 hz
          rw [show decide (y < 0) = true from decide_eq_true hy]
          conv => whnf
          refine .inl ⟨7, [[], [], [], [1, 2], [0, 1, 2, 3], [0, 1, 2, 3, 4], [], [0, 1, 2, 3, 4, 5, 6], [0, 1, 2, 3, 4, 5, 6, 7], [0, 1, 2, 3, 4, 5, 6, 7, 8], [0, 1, 2, 3, 4, 5, 6, 7, 8, 9], [0, 1, 2, 3, 4, 5, 6, 7, 8, 9, 10]], by kernel_rfl, ?_⟩
          conv => whnf
          refine ⟨(-1 : Int), rfl, ⟨by decide, by decide⟩, ?_⟩
          rw [show qofS.val (-1 : Int) = m.v from em]
          conv => whnf
          obtain ⟨h, eh, ph, sh, qh⟩ := hideP (scale_sz qu qm)
          refine ⟨(u, m), rfl, ⟨PV.sz_mono su (by decide), RV.sz_mono sm (by decide)⟩, ?_⟩
          rw [show vscaleS.val (u, m) = h.v from eh]
          conv => whnf
          refine ⟨(u, h), rfl, ⟨PV.sz_mono su (by decide), PV.sz_mono sh (by decide)⟩, ?_⟩
          rw [show angleS.val (u, h) = .int .i64 (0) from congrArg (Value.int .i64) (show angR u.p h.p = 0 from by rw [ph, pm]; exact (ang_back u.p).2 hz)]
          conv => whnf
          conv => whnf
          refine ⟨(), rfl, trivial, ?_⟩
          conv => whnf
          rfl
        · have hk0 : k ≠ 0 := fun h => hz (hk.1 h)
          rw [show (k == 0) = false from by simp [hk0]]
          conv => whnf
          refine .inl ⟨17, [[], [], [0, 1], [], [0, 1, 2, 3], [0, 1, 2, 3, 4], [0, 1, 2, 3, 4, 5], [0, 1, 2, 3, 4, 5], [0, 1, 2, 3, 4, 5, 6, 7], [0, 1, 2, 3, 4, 5, 6, 7, 8], [0, 1, 2, 3, 4, 5, 6, 7, 8, 9], [0, 1, 2, 3, 4, 5, 6, 7, 8, 9, 10], [0, 1, 2, 3, 4, 5, 6, 7, 8, 9, 10, 11], [0, 1, 2, 3, 4, 5, 6, 7, 8, 9, 10, 11], [0, 1, 2, 3, 4, 5, 6, 7, 8, 9, 10, 11, 12, 13], [0, 1, 2, 3, 4, 5, 6, 7, 8, 9, 10, 11, 12, 13, 14], [0, 1, 2, 3, 4, 5, 6, 7, 8, 9, 10, 11], [0, 1, 2, 3, 4, 5, 6, 7, 8, 9, 10, 11, 12, 13, 14, 15, 16], [0, 1, 2, 3, 4, 5, 6, 7, 8, 9, 10, 11, 12, 13, 14, 15, 16, 17]], by kernel_rfl, ?_⟩
          conv => whnf
          refine ⟨(g, v), rfl, ⟨PV.sz_mono sg (by decide), PV.sz_mono sv (by decide)⟩, ?_⟩
          rw [show angleS.val (g, v) = .int .i64 (0) from congrArg (Value.int .i64) (show angR g.p v.p = 0 from by rw [hg, ← pa])]
          conv => whnf
          refine ⟨(g, u), rfl, ⟨PV.sz_mono sg (by decide), PV.sz_mono su (by decide)⟩, ?_⟩
          rw [show angleS.val (g, u) = .int .i64 (0) from congrArg (Value.int .i64) (show angR g.p u.p = 0 from by rw [hg, ang_self])]
          conv => whnf
          obtain ⟨x, cx, ex, px, sx, qx⟩ := hidePc (ofsz (1) (0) (by decide) (by decide))
          refine ⟨(((1 : Int), (0 : Int)) : Int × Int), rfl, ⟨⟨by decide, by decide⟩, ⟨by decide, by decide⟩⟩, ?_⟩
          rw [show vofS.val (((1 : Int), (0 : Int)) : Int × Int) = x.v from ex]
          conv => whnf
          obtain ⟨y, ey, py⟩ := hideZ (angR u.p x.p)
          refine ⟨(u, x), rfl, ⟨PV.sz_mono su (by decide), PV.sz_mono sx (by decide)⟩, ?_⟩
          rw [show angleS.val (u, x) = .int .i64 y from ey]
          conv => whnf
          have hy : ¬ y < 0 := by rw [py, px]; exact fun h => hz ((ang_axis u.p).1 h)
          rw [show decide (y < 0) = false from decide_eq_false hy]
          conv => whnf
          refine .inl ⟨7, [[], [], [], [1, 2], [0, 1, 2, 3], [0, 1, 2, 3, 4], [], [0, 1, 2, 3, 4, 5, 6], [0, 1, 2, 3, 4, 5, 6, 7], [0, 1, 2, 3, 4, 5, 6, 7, 8], [0, 1, 2, 3, 4, 5, 6, 7, 8, 9], [0, 1, 2, 3, 4, 5, 6, 7, 8, 9, 10]], by kernel_rfl, ?_⟩
          conv => whnf
          refine ⟨(-1 : Int), rfl, ⟨by decide, by decide⟩, ?_⟩
          rw [show qofS.val (-1 : Int) = m.v from em]
          conv => whnf
          obtain ⟨h, eh, ph, sh, qh⟩ := hideP (scale_sz qu qm)
          refine ⟨(u, m), rfl, ⟨PV.sz_mono su (by decide), RV.sz_mono sm (by decide)⟩, ?_⟩
          rw [show vscaleS.val (u, m) = h.v from eh]
          conv => whnf
          obtain ⟨q, eq, pq⟩ := hideZ (angR u.p h.p)
          refine ⟨(u, h), rfl, ⟨PV.sz_mono su (by decide), PV.sz_mono sh (by decide)⟩, ?_⟩
          rw [show angleS.val (u, h) = .int .i64 q from eq]
          conv => whnf
          have hq : q ≠ 0 := by rw [pq, ph, pm]; exact fun h => hz ((ang_back u.p).1 h)
          rw [show (q == 0) = false from by simp [hq]]
          conv => whnf
          refine ⟨(), rfl, trivial, ?_⟩
          conv => whnf
          rfl
    · rcases hb with rfl | rfl | rfl
      · conv => whnf
        refine .inl ⟨7, [[], [], [1], [1, 2], [1, 2, 3], [0, 1, 2, 3, 4], [], [0, 1, 2, 3, 4, 5, 6]], by kernel_rfl, ?_⟩
        conv => whnf
        rw [show IntKind.i64.wrap (1 + IntKind.i64.wrap n) = 1 + n from by rw [wrapi64 (x := n) (by omega) (by omega), wrapi64 (by omega) (by omega)]]
        refine ⟨1 + n, rfl, ⟨by omega, by omega⟩, ?_⟩
        rw [show qofS.val (1 + n) = r.v from er]
        conv => whnf
        obtain ⟨g, eg, pg, sg, qg⟩ := hideP (scale_sz qu qr)
        refine ⟨(u, r), rfl, ⟨PV.sz_mono su (by decide), RV.sz_mono sr (by decide)⟩, ?_⟩
        rw [show vscaleS.val (u, r) = g.v from eg]
        conv => whnf
        have hg : ∀ x : Q2, angR g.p x = angR u.p x := fun x => by rw [pg]; exact ang_scale hr u.p x
        refine .inl ⟨2, [[], [], [0, 1], [0, 1, 2], [0, 1, 2, 3]], by kernel_rfl, ?_⟩
        conv => whnf
        obtain ⟨z, cz, ez, pz, sz, qz⟩ := hidePc (ofsz (0) (0) (by decide) (by decide))
        refine ⟨(((0 : Int), (0 : Int)) : Int × Int), rfl, ⟨⟨by decide, by decide⟩, ⟨by decide, by decide⟩⟩, ?_⟩
        rw [show vofS.val (((0 : Int), (0 : Int)) : Int × Int) = z.v from ez]
        conv => whnf
        obtain ⟨k, ek, pk⟩ := hideZ (cmpR u.p z.p)
        refine ⟨(u, z), rfl, ⟨PV.sz_mono su (by decide), PV.sz_mono sz (by decide)⟩, ?_⟩
        rw [show vcmpS.val (u, z) = .int .i64 k from ek]
        conv => whnf
        have hk : k = 0 ↔ u.p.1 = 0 ∧ u.p.2 = 0 := by rw [pk, pz, cmpR_zero]; exact Iff.rfl
        by_cases hz : u.p.1 = 0 ∧ u.p.2 = 0
        · obtain rfl : k = 0 := hk.2 hz
          conv => whnf
          refine .inl ⟨17, [[], [], [0, 1], [], [0, 1, 2, 3], [0, 1, 2, 3, 4], [0, 1, 2, 3, 4, 5], [0, 1, 2, 3, 4, 5], [0, 1, 2, 3, 4, 5, 6, 7], [0, 1, 2, 3, 4, 5, 6, 7, 8], [0, 1, 2, 3, 4, 5, 6, 7, 8, 9], [0, 1, 2, 3, 4, 5, 6, 7, 8, 9, 10], [0, 1, 2, 3, 4, 5, 6, 7, 8, 9, 10, 11], [0, 1, 2, 3, 4, 5, 6, 7, 8, 9, 10, 11], [0, 1, 2, 3, 4, 5, 6, 7, 8, 9, 10, 11, 12, 13], [0, 1, 2, 3, 4, 5, 6, 7, 8, 9, 10, 11, 12, 13, 14], [0, 1, 2, 3, 4, 5, 6, 7, 8, 9, 10, 11], [0, 1, 2, 3, 4, 5, 6, 7, 8, 9, 10, 11, 12, 13, 14, 15, 16], [0, 1, 2, 3, 4, 5, 6, 7, 8, 9, 10, 11, 12, 13, 14, 15, 16, 17]], by kernel_rfl, ?_⟩
          conv => whnf
          refine ⟨(g, v), rfl, ⟨PV.sz_mono sg (by decide), PV.sz_mono sv (by decide)⟩, ?_⟩
          rw [show angleS.val (g, v) = .int .i64 (1) from congrArg (Value.int .i64) (show angR g.p v.p = 1 from by rw [hg, ← pa])]
          conv => whnf
          refine ⟨(g, u), rfl, ⟨PV.sz_mono sg (by decide), PV.sz_mono su (by decide)⟩, ?_⟩
          rw [show angleS.val (g, u) = .int .i64 (0) from congrArg (Value.int .i64) (show angR g.p u.p = 0 from by rw [hg, ang_self])]
          conv => whnf
          obtain ⟨x, cx, ex, px, sx, qx⟩ := hidePc (ofsz (1) (0) (by decide) (by decide))
          refine ⟨(((1 : Int), (0 : Int)) : Int × Int), rfl, ⟨⟨by decide, by decide⟩, ⟨by decide, by decide⟩⟩, ?_⟩
          rw [show vofS.val (((1 : Int), (0 : Int)) : Int × Int) = x.v from ex]
          conv => whnf
          obtain ⟨y, ey, py⟩ := hideZ (angR u.p x.p)
          refine ⟨(u, x), rfl, ⟨PV.sz_mono su (by decide), PV.sz_mono sx (by decide)⟩, ?_⟩
          rw [show angleS.val (u, x) = .int .i64 y from ey]
          conv => whnf
          have hy : y < 0 := by rw [py, px]; exact (ang_axis u.p).2 hz
          rw [show decide (y < 0) = true from decide_eq_true hy]
          conv => whnf
          refine .inl ⟨7, [[], [], [], [1, 2], [0, 1, 2, 3], [0, 1, 2, 3, 4], [], [0, 1, 2, 3, 4, 5, 6], [0, 1, 2, 3, 4, 5, 6, 7], [0, 1, 2, 3, 4, 5, 6, 7, 8], [0, 1, 2, 3, 4, 5, 6, 7, 8, 9], [0, 1, 2, 3, 4, 5, 6, 7, 8, 9, 10]], by kernel_rfl, ?_⟩
          conv => whnf
          refine ⟨(-1 : Int), rfl, ⟨by decide, by decide⟩, ?_⟩
          rw [show qofS.val (-1 : Int) = m.v from em]
          conv => whnf
          obtain ⟨h, eh, ph, sh, qh⟩ := hideP (scale_sz qu qm)
          refine ⟨(u, m), rfl, ⟨PV.sz_mono su (by decide), RV.sz_mono sm (by decide)⟩, ?_⟩
          rw [show vscaleS.val (u, m) = h.v from eh]
          conv => whnf
          refine ⟨(u, h), rfl, ⟨PV.sz_mono su (by decide), PV.sz_mono sh (by decide)⟩, ?_⟩
          rw [show angleS.val (u, h) = .int .i64 (0) from congrArg (Value.int .i64) (show angR u.p h.p = 0 from by rw [ph, pm]; exact (ang_back u.p).2 hz)]
          conv => whnf
          conv => whnf
          refine ⟨(), rfl, trivial, ?_⟩
          conv => whnf
          rfl
        · have hk0 : k ≠ 0 := fun h => hz (hk.1 h)
          rw [show (k == 0) = false from by simp [hk0]]
          conv => whnf
          refine .inl ⟨17, [[], [], [0, 1], [], [0, 1, 2, 3], [0, 1, 2, 3, 4], [0, 1, 2, 3, 4, 5], [0, 1, 2, 3, 4, 5], [0, 1, 2, 3, 4, 5, 6, 7], [0, 1, 2, 3, 4, 5, 6, 7, 8], [0, 1, 2, 3, 4, 5, 6, 7, 8, 9], [0, 1, 2, 3, 4, 5, 6, 7, 8, 9, 10], [0, 1, 2, 3, 4, 5, 6, 7, 8, 9, 10, 11], [0, 1, 2, 3, 4, 5, 6, 7, 8, 9, 10, 11], [0, 1, 2, 3, 4, 5, 6, 7, 8, 9, 10, 11, 12, 13], [0, 1, 2, 3, 4, 5, 6, 7, 8, 9, 10, 11, 12, 13, 14], [0, 1, 2, 3, 4, 5, 6, 7, 8, 9, 10, 11], [0, 1, 2, 3, 4, 5, 6, 7, 8, 9, 10, 11, 12, 13, 14, 15, 16], [0, 1, 2, 3, 4, 5, 6, 7, 8, 9, 10, 11, 12, 13, 14, 15, 16, 17]], by kernel_rfl, ?_⟩
          conv => whnf
          refine ⟨(g, v), rfl, ⟨PV.sz_mono sg (by decide), PV.sz_mono sv (by decide)⟩, ?_⟩
          rw [show angleS.val (g, v) = .int .i64 (1) from congrArg (Value.int .i64) (show angR g.p v.p = 1 from by rw [hg, ← pa])]
          conv => whnf
          refine ⟨(g, u), rfl, ⟨PV.sz_mono sg (by decide), PV.sz_mono su (by decide)⟩, ?_⟩
          rw [show angleS.val (g, u) = .int .i64 (0) from congrArg (Value.int .i64) (show angR g.p u.p = 0 from by rw [hg, ang_self])]
          conv => whnf
          obtain ⟨x, cx, ex, px, sx, qx⟩ := hidePc (ofsz (1) (0) (by decide) (by decide))
          refine ⟨(((1 : Int), (0 : Int)) : Int × Int), rfl, ⟨⟨by decide, by decide⟩, ⟨by decide, by decide⟩⟩, ?_⟩
          rw [show vofS.val (((1 : Int), (0 : Int)) : Int × Int) = x.v from ex]
          conv => whnf
          obtain ⟨y, ey, py⟩ := hideZ (angR u.p x.p)
          refine ⟨(u, x), rfl, ⟨PV.sz_mono su (by decide), PV.sz_mono sx (by decide)⟩, ?_⟩
          rw [show angleS.val (u, x) = .int .i64 y from ey]
          conv => whnf
          have hy : ¬ y < 0 := by rw [py, px]; exact fun h => hz ((ang_axis u.p).1 h)
          rw [show decide (y < 0) = false from decide_eq_false hy]
          conv => whnf
          refine .inl ⟨7, [[], [], [], [1, 2], [0, 1, 2, 3], [0, 1, 2, 3, 4], [], [0, 1, 2, 3, 4, 5, 6], [0, 1, 2, 3, 4, 5, 6, 7], [0, 1, 2, 3, 4, 5, 6, 7, 8], [0, 1, 2, 3, 4, 5, 6, 7, 8, 9], [0, 1, 2, 3, 4, 5, 6, 7, 8, 9, 10]], by kernel_rfl, ?_⟩
          conv => whnf
          refine ⟨(-1 : Int), rfl, ⟨by decide, by decide⟩, ?_⟩
          rw [show qofS.val (-1 : Int) = m.v from em]
          conv => whnf
          obtain ⟨h, eh, ph, sh, qh⟩ := hideP (scale_sz qu qm)
          refine ⟨(u, m), rfl, ⟨PV.sz_mono su (by decide), RV.sz_mono sm (by decide)⟩, ?_⟩
          rw [show vscaleS.val (u, m) = h.v from eh]
          conv => whnf
          obtain ⟨q, eq, pq⟩ := hideZ (angR u.p h.p)
          refine ⟨(u, h), rfl, ⟨PV.sz_mono su (by decide), PV.sz_mono sh (by decide)⟩, ?_⟩
          rw [show angleS.val (u, h) = .int .i64 q from eq]
          conv => whnf
          have hq : q ≠ 0 := by rw [pq, ph, pm]; exact fun h => hz ((ang_back u.p).1 h)
          rw [show (q == 0) = false from by simp [hq]]
          conv => whnf
          refine ⟨(), rfl, trivial, ?_⟩
          conv => whnf
          rfl
      · obtain rfl : c = 1 := by omega
        conv => whnf
        refine .inl ⟨7, [[], [], [1], [1, 2], [1, 2, 3], [0, 1, 2, 3, 4], [], [0, 1, 2, 3, 4, 5, 6]], by kernel_rfl, ?_⟩
        conv => whnf
        rw [show IntKind.i64.wrap (1 + IntKind.i64.wrap n) = 1 + n from by rw [wrapi64 (x := n) (by omega) (by omega), wrapi64 (by omega) (by omega)]]
        refine ⟨1 + n, rfl, ⟨by omega, by omega⟩, ?_⟩
        rw [show qofS.val (1 + n) = r.v from er]
        conv => whnf
        obtain ⟨g, eg, pg, sg, qg⟩ := hideP (scale_sz qu qr)
        refine ⟨(u, r), rfl, ⟨PV.sz_mono su (by decide), RV.sz_mono sr (by decide)⟩, ?_⟩
        rw [show vscaleS.val (u, r) = g.v from eg]
        conv => whnf
        have hg : ∀ x : Q2, angR g.p x = angR u.p x := fun x => by rw [pg]; exact ang_scale hr u.p x
        refine .inl ⟨2, [[], [], [0, 1], [0, 1, 2], [0, 1, 2, 3]], by kernel_rfl, ?_⟩
        conv => whnf
        obtain ⟨z, cz, ez, pz, sz, qz⟩ := hidePc (ofsz (0) (0) (by decide) (by decide))
        refine ⟨(((0 : Int), (0 : Int)) : Int × Int), rfl, ⟨⟨by decide, by decide⟩, ⟨by decide, by decide⟩⟩, ?_⟩
        rw [show vofS.val (((0 : Int), (0 : Int)) : Int × Int) = z.v from ez]
        conv => whnf
        obtain ⟨k, ek, pk⟩ := hideZ (cmpR u.p z.p)
        refine ⟨(u, z), rfl, ⟨PV.sz_mono su (by decide), PV.sz_mono sz (by decide)⟩, ?_⟩
        rw [show vcmpS.val (u, z) = .int .i64 k from ek]
        conv => whnf
        have hk : k = 0 ↔ u.p.1 = 0 ∧ u.p.2 = 0 := by rw [pk, pz, cmpR_zero]; exact Iff.rfl
        by_cases hz : u.p.1 = 0 ∧ u.p.2 = 0
        · obtain rfl : k = 0 := hk.2 hz
          conv => whnf
          refine .inl ⟨17, [[], [], [0, 1], [], [0, 1, 2, 3], [0, 1, 2, 3, 4], [0, 1, 2, 3, 4, 5], [0, 1, 2, 3, 4, 5], [0, 1, 2, 3, 4, 5, 6, 7], [0, 1, 2, 3, 4, 5, 6, 7, 8], [0, 1, 2, 3, 4, 5, 6, 7, 8, 9], [0, 1, 2, 3, 4, 5, 6, 7, 8, 9, 10], [0, 1, 2, 3, 4, 5, 6, 7, 8, 9, 10, 11], [0, 1, 2, 3, 4, 5, 6, 7, 8, 9, 10, 11], [0, 1, 2, 3, 4, 5, 6, 7, 8, 9, 10, 11, 12, 13], [0, 1, 2, 3, 4, 5, 6, 7, 8, 9, 10, 11, 12, 13, 14], [0, 1, 2, 3, 4, 5, 6, 7, 8, 9, 10, 11], [0, 1, 2, 3, 4, 5, 6, 7, 8, 9, 10, 11, 12, 13, 14, 15, 16], [0, 1, 2, 3, 4, 5, 6, 7, 8, 9, 10, 11, 12, 13, 14, 15, 16, 17]], by kernel_rfl, ?_⟩
          conv => whnf
          refine ⟨(g, v), rfl, ⟨PV.sz_mono sg (by decide), PV.sz_mono sv (by decide)⟩, ?_⟩
          rw [show angleS.val (g, v) = .int .i64 (1) from congrArg (Value.int .i64) (show angR g.p v.p = 1 from by rw [hg, ← pa])]
          conv => whnf
          refine ⟨(g, u), rfl, ⟨PV.sz_mono sg (by decide), PV.sz_mono su (by decide)⟩, ?_⟩
          rw [show angleS.val (g, u) = .int .i64 (0) from congrArg (Value.int .i64) (show angR g.p u.p = 0 from by rw [hg, ang_self])]
          conv => whnf
          obtain ⟨x, cx, ex, px, sx, qx⟩ := hidePc (ofsz (1) (0) (by decide) (by decide))
          refine ⟨(((1 : Int), (0 : Int)) : Int × Int), rfl, ⟨⟨by decide, by decide⟩, ⟨by decide, by decide⟩⟩, ?_⟩
          rw [show vofS.val (((1 : Int), (0 : Int)) : Int × Int) = x.v from ex]
          conv => whnf
          obtain ⟨y, ey, py⟩ := hideZ (angR u.p x.p)
          refine ⟨(u, x), rfl, ⟨PV.sz_mono su (by decide), PV.sz_mono sx (by decide)⟩, ?_⟩
          rw [show angleS.val (u, x) = .int .i64 y from ey]
          conv => whnf
          have hy : y < 0 := by rw [py, px]; exact (ang_axis u.p).2 hz
          rw [show decide (y < 0) = true from decide_eq_true hy]
          conv => whnf
          refine .inl ⟨7, [[], [], [], [1, 2], [0, 1, 2, 3], [0, 1, 2, 3, 4], [], [0, 1, 2, 3, 4, 5, 6], [0, 1, 2, 3, 4, 5, 6, 7], [0, 1, 2, 3, 4, 5, 6, 7, 8], [0, 1, 2, 3, 4, 5, 6, 7, 8, 9], [0, 1, 2, 3, 4, 5, 6, 7, 8, 9, 10]], by kernel_rfl, ?_⟩
          conv => whnf
          refine ⟨(-1 : Int), rfl, ⟨by decide, by decide⟩, ?_⟩
          rw [show qofS.val (-1 : Int) = m.v from em]
          conv => whnf
          obtain ⟨h, eh, ph, sh, qh⟩ := hideP (scale_sz qu qm)
          refine ⟨(u, m), rfl, ⟨PV.sz_mono su (by decide), RV.sz_mono sm (by decide)⟩, ?_⟩
          rw [show vscaleS.val (u, m) = h.v from eh]
          conv => whnf
          refine ⟨(u, h), rfl, ⟨PV.sz_mono su (by decide), PV.sz_mono sh (by decide)⟩, ?_⟩
          rw [show angleS.val (u, h) = .int .i64 (0) from congrArg (Value.int .i64) (show angR u.p h.p = 0 from by rw [ph, pm]; exact (ang_back u.p).2 hz)]
          conv => whnf
          conv => whnf
          refine ⟨(), rfl, trivial, ?_⟩
          conv => whnf
          rfl
        · have hk0 : k ≠ 0 := fun h => hz (hk.1 h)
          rw [show (k == 0) = false from by simp [hk0]]
          conv => whnf
          refine .inl ⟨17, [[], [], [0, 1], [], [0, 1, 2, 3], [0, 1, 2, 3, 4], [0, 1, 2, 3, 4, 5], [0, 1, 2, 3, 4, 5], [0, 1, 2, 3, 4, 5, 6, 7], [0, 1, 2, 3, 4, 5, 6, 7, 8], [0, 1, 2, 3, 4, 5, 6, 7, 8, 9], [0, 1, 2, 3, 4, 5, 6, 7, 8, 9, 10], [0, 1, 2, 3, 4, 5, 6, 7, 8, 9, 10, 11], [0, 1, 2, 3, 4, 5, 6, 7, 8, 9, 10, 11], [0, 1, 2, 3, 4, 5, 6, 7, 8, 9, 10, 11, 12, 13], [0, 1, 2, 3, 4, 5, 6, 7, 8, 9, 10, 11, 12, 13, 14], [0, 1, 2, 3, 4, 5, 6, 7, 8, 9, 10, 11], [0, 1, 2, 3, 4, 5, 6, 7, 8, 9, 10, 11, 12, 13, 14, 15, 16], [0, 1, 2, 3, 4, 5, 6, 7, 8, 9, 10, 11, 12, 13, 14, 15, 16, 17]], by kernel_rfl, ?_⟩
          conv => whnf
          refine ⟨(g, v), rfl, ⟨PV.sz_mono sg (by decide), PV.sz_mono sv (by decide)⟩, ?_⟩
          rw [show angleS.val (g, v) = .int .i64 (1) from congrArg (Value.int .i64) (show angR g.p v.p = 1 from by rw [hg, ← pa])]
          conv => whnf
          refine ⟨(g, u), rfl, ⟨PV.sz_mono sg (by decide), PV.sz_mono su (by decide)⟩, ?_⟩
          rw [show angleS.val (g, u) = .int .i64 (0) from congrArg (Value.int .i64) (show angR g.p u.p = 0 from by rw [hg, ang_self])]
          conv => whnf
          obtain ⟨x, cx, ex, px, sx, qx⟩ := hidePc (ofsz (1) (0) (by decide) (by decide))
          refine ⟨(((1 : Int), (0 : Int)) : Int × Int), rfl, ⟨⟨by decide, by decide⟩, ⟨by decide, by decide⟩⟩, ?_⟩
          rw [show vofS.val (((1 : Int), (0 : Int)) : Int × Int) = x.v from ex]
          conv => whnf
          obtain ⟨y, ey, py⟩ := hideZ (angR u.p x.p)
          refine ⟨(u, x), rfl, ⟨PV.sz_mono su (by decide), PV.sz_mono sx (by decide)⟩, ?_⟩
          rw [show angleS.val (u, x) = .int .i64 y from ey]
          conv => whnf
          have hy : ¬ y < 0 := by rw [py, px]; exact fun h => hz ((ang_axis u.p).1 h)
          rw [show decide (y < 0) = false from decide_eq_false hy]
          conv => whnf
          refine .inl ⟨7, [[], [], [], [1, 2], [0, 1, 2, 3], [0, 1, 2, 3, 4], [], [0, 1, 2, 3, 4, 5, 6], [0, 1, 2, 3, 4, 5, 6, 7], [0, 1, 2, 3, 4, 5, 6, 7, 8], [0, 1, 2, 3, 4, 5, 6, 7, 8, 9], [0, 1, 2, 3, 4, 5, 6, 7, 8, 9, 10]], by kernel_rfl, ?_⟩
          conv => whnf
          refine ⟨(-1 : Int), rfl, ⟨by decide, by decide⟩, ?_⟩
          rw [show qofS.val (-1 : Int) = m.v from em]
          conv => whnf
          obtain ⟨h, eh, ph, sh, qh⟩ := hideP (scale_sz qu qm)
          refine ⟨(u, m), rfl, ⟨PV.sz_mono su (by decide), RV.sz_mono sm (by decide)⟩, ?_⟩
          rw [show vscaleS.val (u, m) = h.v from eh]
          conv => whnf
          obtain ⟨q, eq, pq⟩ := hideZ (angR u.p h.p)
          refine ⟨(u, h), rfl, ⟨PV.sz_mono su (by decide), PV.sz_mono sh (by decide)⟩, ?_⟩
          rw [show angleS.val (u, h) = .int .i64 q from eq]
          conv => whnf
          have hq : q ≠ 0 := by rw [pq, ph, pm]; exact fun h => hz ((ang_back u.p).1 h)
          rw [show (q == 0) = false from by simp [hq]]
          conv => whnf
          refine ⟨(), rfl, trivial, ?_⟩
          conv => whnf
          rfl
      · obtain rfl : c = 1 := by omega
        conv => whnf
        refine .inl ⟨7, [[], [], [1], [1, 2], [1, 2, 3], [0, 1, 2, 3, 4], [], [0, 1, 2, 3, 4, 5, 6]], by kernel_rfl, ?_⟩
        conv => whnf
        rw [show IntKind.i64.wrap (1 + IntKind.i64.wrap n) = 1 + n from by rw [wrapi64 (x := n) (by omega) (by omega), wrapi64 (by omega) (by omega)]]
        refine ⟨1 + n, rfl, ⟨by omega, by omega⟩, ?_⟩
        rw [show qofS.val (1 + n) = r.v from er]
        conv => whnf
        obtain ⟨g, eg, pg, sg, qg⟩ := hideP (scale_sz qu qr)
        refine ⟨(u, r), rfl, ⟨PV.sz_mono su (by decide), RV.sz_mono sr (by decide)⟩, ?_⟩
        rw [show vscaleS.val (u, r) = g.v from eg]
        conv => whnf
        have hg : ∀ x : Q2, angR g.p x = angR u.p x := fun x => by rw [pg]; exact ang_scale hr u.p x
        refine .inl ⟨2, [[], [], [0, 1], [0, 1, 2], [0, 1, 2, 3]], by kernel_rfl, ?_⟩
        conv => whnf
        obtain ⟨z, cz, ez, pz, sz, qz⟩ := hidePc (ofsz (0) (0) (by decide) (by decide))
        refine ⟨(((0 : Int), (0 : Int)) : Int × Int), rfl, ⟨⟨by decide, by decide⟩, ⟨by decide, by decide⟩⟩, ?_⟩
        rw [show vofS.val (((0 : Int), (0 : Int)) : Int × Int) = z.v from ez]
        conv => whnf
        obtain ⟨k, ek, pk⟩ := hideZ (cmpR u.p z.p)
        refine ⟨(u, z), rfl, ⟨PV.sz_mono su (by decide), PV.sz_mono sz (by decide)⟩, ?_⟩
        rw [show vcmpS.val (u, z) = .int .i64 k from ek]
        conv => whnf
        have hk : k = 0 ↔ u.p.1 = 0 ∧ u.p.2 = 0 := by rw [pk, pz, cmpR_zero]; exact Iff.rfl
        by_cases hz : u.p.1 = 0 ∧ u.p.2 = 0
        · obtain rfl : k = 0 := hk.2 hz
          conv => whnf
          refine .inl ⟨17, [[], [], [0, 1], [], [0, 1, 2, 3], [0, 1, 2, 3, 4], [0, 1, 2, 3, 4, 5], [0, 1, 2, 3, 4, 5], [0, 1, 2, 3, 4, 5, 6, 7], [0, 1, 2, 3, 4, 5, 6, 7, 8], [0, 1, 2, 3, 4, 5, 6, 7, 8, 9], [0, 1, 2, 3, 4, 5, 6, 7, 8, 9, 10], [0, 1, 2, 3, 4, 5, 6, 7, 8, 9, 10, 11], [0, 1, 2, 3, 4, 5, 6, 7, 8, 9, 10, 11], [0, 1, 2, 3, 4, 5, 6, 7, 8, 9, 10, 11, 12, 13], [0, 1, 2, 3, 4, 5, 6, 7, 8, 9, 10, 11, 12, 13, 14], [0, 1, 2, 3, 4, 5, 6, 7, 8, 9, 10, 11], [0, 1, 2, 3, 4, 5, 6, 7, 8, 9, 10, 11, 12, 13, 14, 15, 16], [0, 1, 2, 3, 4, 5, 6, 7, 8, 9, 10, 11, 12, 13, 14, 15, 16, 17]], by kernel_rfl, ?_⟩
          conv => whnf
          refine ⟨(g, v), rfl, ⟨PV.sz_mono sg (by decide), PV.sz_mono sv (by decide)⟩, ?_⟩
          rw [show angleS.val (g, v) = .int .i64 (1) from congrArg (Value.int .i64) (show angR g.p v.p = 1 from by rw [hg, ← pa])]
          conv => whnf
          refine ⟨(g, u), rfl, ⟨PV.sz_mono sg (by decide), PV.sz_mono su (by decide)⟩, ?_⟩
          rw [show angleS.val (g, u) = .int .i64 (0) from congrArg (Value.int .i64) (show angR g.p u.p = 0 from by rw [hg, ang_self])]
          conv => whnf
          obtain ⟨x, cx, ex, px, sx, qx⟩ := hidePc (ofsz (1) (0) (by decide) (by decide))
          refine ⟨(((1 : Int), (0 : Int)) : Int × Int), rfl, ⟨⟨by decide, by decide⟩, ⟨by decide, by decide⟩⟩, ?_⟩
          rw [show vofS.val (((1 : Int), (0 : Int)) : Int × Int) = x.v from ex]
          conv => whnf
          obtain ⟨y, ey, py⟩ := hideZ (angR u.p x.p)
          refine ⟨(u, x), rfl, ⟨PV.sz_mono su (by decide), PV.sz_mono sx (by decide)⟩, ?_⟩
          rw [show angleS.val (u, x) = .int .i64 y from ey]
          conv => whnf
          have hy : y < 0 := by rw [py, px]; exact (ang_axis u.p).2 hz
          rw [show decide (y < 0) = true from decide_eq_true hy]
          conv => whnf
          refine .inl ⟨7, [[], [], [], [1, 2], [0, 1, 2, 3], [0, 1, 2, 3, 4], [], [0, 1, 2, 3, 4, 5, 6], [0, 1, 2, 3, 4, 5, 6, 7], [0, 1, 2, 3, 4, 5, 6, 7, 8], [0, 1, 2, 3, 4, 5, 6, 7, 8, 9], [0, 1, 2, 3, 4, 5, 6, 7, 8, 9, 10]], by kernel_rfl, ?_⟩
          conv => whnf
          refine ⟨(-1 : Int), rfl, ⟨by decide, by decide⟩, ?_⟩
          rw [show qofS.val (-1 : Int) = m.v from em]
          conv => whnf
          obtain ⟨h, eh, ph, sh, qh⟩ := hideP (scale_sz qu qm)
          refine ⟨(u, m), rfl, ⟨PV.sz_mono su (by decide), RV.sz_mono sm (by decide)⟩, ?_⟩
          rw [show vscaleS.val (u, m) = h.v from eh]
          conv => whnf
          refine ⟨(u, h), rfl, ⟨PV.sz_mono su (by decide), PV.sz_mono sh (by decide)⟩, ?_⟩
          rw [show angleS.val (u, h) = .int .i64 (0) from congrArg (Value.int .i64) (show angR u.p h.p = 0 from by rw [ph, pm]; exact (ang_back u.p).2 hz)]
          conv => whnf
          conv => whnf
          refine ⟨(), rfl, trivial, ?_⟩
          conv => whnf
          rfl
        · have hk0 : k ≠ 0 := fun h => hz (hk.1 h)
          rw [show (k == 0) = false from by simp [hk0]]
          conv => whnf
          refine .inl ⟨17, [[], [], [0, 1], [], [0, 1, 2, 3], [0, 1, 2, 3, 4], [0, 1, 2, 3, 4, 5], [0, 1, 2, 3, 4, 5], [0, 1, 2, 3, 4, 5, 6, 7], [0, 1, 2, 3, 4, 5, 6, 7, 8], [0, 1, 2, 3, 4, 5, 6, 7, 8, 9], [0, 1, 2, 3, 4, 5, 6, 7, 8, 9, 10], [0, 1, 2, 3, 4, 5, 6, 7, 8, 9, 10, 11], [0, 1, 2, 3, 4, 5, 6, 7, 8, 9, 10, 11], [0, 1, 2, 3, 4, 5, 6, 7, 8, 9, 10, 11, 12, 13], [0, 1, 2, 3, 4, 5, 6, 7, 8, 9, 10, 11, 12, 13, 14], [0, 1, 2, 3, 4, 5, 6, 7, 8, 9, 10, 11], [0, 1, 2, 3, 4, 5, 6, 7, 8, 9, 10, 11, 12, 13, 14, 15, 16], [0, 1, 2, 3, 4, 5, 6, 7, 8, 9, 10, 11, 12, 13, 14, 15, 16, 17]], by kernel_rfl, ?_⟩
          conv => whnf
          refine ⟨(g, v), rfl, ⟨PV.sz_mono sg (by decide), PV.sz_mono sv (by decide)⟩, ?_⟩
          rw [show angleS.val (g, v) = .int .i64 (1) from congrArg (Value.int .i64) (show angR g.p v.p = 1 from by rw [hg, ← pa])]
          conv => whnf
          refine ⟨(g, u), rfl, ⟨PV.sz_mono sg (by decide), PV.sz_mono su (by decide)⟩, ?_⟩
          rw [show angleS.val (g, u) = .int .i64 (0) from congrArg (Value.int .i64) (show angR g.p u.p = 0 from by rw [hg, ang_self])]
          conv => whnf
          obtain ⟨x, cx, ex, px, sx, qx⟩ := hidePc (ofsz (1) (0) (by decide) (by decide))
          refine ⟨(((1 : Int), (0 : Int)) : Int × Int), rfl, ⟨⟨by decide, by decide⟩, ⟨by decide, by decide⟩⟩, ?_⟩
          rw [show vofS.val (((1 : Int), (0 : Int)) : Int × Int) = x.v from ex]
          conv => whnf
          obtain ⟨y, ey, py⟩ := hideZ (angR u.p x.p)
          refine ⟨(u, x), rfl, ⟨PV.sz_mono su (by decide), PV.sz_mono sx (by decide)⟩, ?_⟩
          rw [show angleS.val (u, x) = .int .i64 y from ey]
          conv => whnf
          have hy : ¬ y < 0 := by rw [py, px]; exact fun h => hz ((ang_axis u.p).1 h)
          rw [show decide (y < 0) = false from decide_eq_false hy]
          conv => whnf
          refine .inl ⟨7, [[], [], [], [1, 2], [0, 1, 2, 3], [0, 1, 2, 3, 4], [], [0, 1, 2, 3, 4, 5, 6], [0, 1, 2, 3, 4, 5, 6, 7], [0, 1, 2, 3, 4, 5, 6, 7, 8], [0, 1, 2, 3, 4, 5, 6, 7, 8, 9], [0, 1, 2, 3, 4, 5, 6, 7, 8, 9, 10]], by kernel_rfl, ?_⟩
          conv => whnf
          refine ⟨(-1 : Int), rfl, ⟨by decide, by decide⟩, ?_⟩
          rw [show qofS.val (-1 : Int) = m.v from em]
          conv => whnf
          obtain ⟨h, eh, ph, sh, qh⟩ := hideP (scale_sz qu qm)
          refine ⟨(u, m), rfl, ⟨PV.sz_mono su (by decide), RV.sz_mono sm (by decide)⟩, ?_⟩
          rw [show vscaleS.val (u, m) = h.v from eh]
          conv => whnf
          obtain ⟨q, eq, pq⟩ := hideZ (angR u.p h.p)
          refine ⟨(u, h), rfl, ⟨PV.sz_mono su (by decide), PV.sz_mono sh (by decide)⟩, ?_⟩
          rw [show angleS.val (u, h) = .int .i64 q from eq]
          conv => whnf
          have hq : q ≠ 0 := by rw [pq, ph, pm]; exact fun h => hz ((ang_back u.p).1 h)
          rw [show (q == 0) = false from by simp [hq]]
          conv => whnf
          refine ⟨(), rfl, trivial, ?_⟩
          conv => whnf
          rfl
  · conv => whnf
    refine ⟨(), rfl, trivial, ?_⟩
    conv => whnf
    rfl
end Go.Proofs.Ytgakcbdahbagkaa
/- The statements about predicates: PredicateOrientation, PredicateCircle, PredicateSegments, PredicateTriangle, PredicateWedges, PredicateAngles. -/
set_option linter.unusedVariables false
namespace Go.Proofs.Ytgakcbdahbagkaa
open Go Go.Ae Go.ChangeShapes Go.WideShapes Go.ChangeAt Go.RowKit

theorem own : ownKnob Try.prog.godebug = none := by kernel_rfl
theorem laidOut : laidOutB Try.prog = true := by kernel_rfl
def zR : Value := .agg #[.bool false, .string ⟨#[]⟩, .string ⟨#[]⟩]
def zP : Value := .agg #[.bool false, .string ⟨#[]⟩, .string ⟨#[]⟩, .bool false, .string ⟨#[]⟩, .string ⟨#[]⟩]
set_option maxRecDepth 100000 in
theorem open_point {w : World} {r : Reach} {base : Nat} {v : Value} (h : Value.okWide Try.prog w r base 25 v) : ∃ p : PV, v = p.v :=
  open_pt Try.underlying25 (b := 4) (s := 9) (by kernel_rfl) (by kernel_rfl) Try.underlying4 Try.underlying9 h
set_option maxRecDepth 100000 in
theorem open_number {w : World} {r : Reach} {base : Nat} {v : Value} (h : Value.okWide Try.prog w r base 23 v) : ∃ p : RV, v = p.v :=
  open_rat Try.underlying23 (b := 4) (s := 9) (by kernel_rfl) (by kernel_rfl) Try.underlying4 Try.underlying9 h


set_option maxRecDepth 100000 in
theorem predicateOrientation_lifted (os : Os) (started : os.Started) (H : Type) (enc : TypeId × Value → H) :
    ReturnsInHanded {} Try.checked os 3 .any (Rows.predicateOrientationSpec.pre6 enc Try.prog Try.f3 Rows.predicateOrientationRow.domain false) (Rows.predicateOrientationSpec.post enc Try.prog Try.f3 false true false false) := by
  refine returnsInHanded_of_change (C := Try.checked) own started (by kernel_rfl) Try.func3
    (ChangeSpec.witness6 (enc := enc) (C := Try.checked) false ⟨#[], #[zP, zP, zP, zP], []⟩ 8 (by kernel_rfl) (by kernel_rfl) (by kernel_rfl) (by kernel_rfl)) ?_
  intro W base args ds gs before hval0 hW hcnd _
  have hval : ∀ (j : Nat) t v, Try.f3.params[j]? = some t → args[j]? = some v → Value.okWide Try.prog W .any base t v := hval0
  have hW' := hW
  obtain ⟨p, q, hA0, hV, rfl, hfz, hnd⟩ := hW
  have hA : DataW.TrodAll enc Try.prog W 0 (fun _ => true) true Try.f3.params.toList args.toList ds p := hA0
  rw [Try.params3] at hA hval
  obtain ⟨v0, vs0, d0, ds0, p0, q0, hargs, rfl, rfl, h0, r0⟩ := trodAll_cons hA
  obtain ⟨v1, vs1, d1, ds1, p1, q1, rfl, rfl, rfl, h1, r1⟩ := trodAll_cons r0
  obtain ⟨v2, vs2, d2, ds2, p2, q2, rfl, rfl, rfl, h2, r2⟩ := trodAll_cons r1
  obtain ⟨v3, vs3, d3, ds3, p3, q3, rfl, rfl, rfl, h3, r3⟩ := trodAll_cons r2
  obtain ⟨rfl, rfl, rfl⟩ := trodAll_nil r3
  obtain rfl : args = #[v0, v1, v2, v3] := by cases args; simp_all
  obtain ⟨rfl, rfl⟩ := trodVars_none hV
  obtain ⟨a0, rfl⟩ := open_point (hval 0 25 v0 rfl rfl)
  obtain ⟨a1, rfl⟩ := open_point (hval 1 25 v1 rfl rfl)
  obtain ⟨a2, rfl⟩ := open_point (hval 2 25 v2 rfl rfl)
  obtain ⟨a3, rfl⟩ := open_point (hval 3 25 v3 rfl rfl)
  have lt0 : ∀ x ∈ p0, x.block < W.heap.size := by obtain ⟨m, hm⟩ := h0; exact DataW.trod_lt m _ _ _ hm
  have lt1 : ∀ x ∈ p1, x.block < W.heap.size := by obtain ⟨m, hm⟩ := h1; exact DataW.trod_lt m _ _ _ hm
  have lt2 : ∀ x ∈ p2, x.block < W.heap.size := by obtain ⟨m, hm⟩ := h2; exact DataW.trod_lt m _ _ _ hm
  have lt3 : ∀ x ∈ p3, x.block < W.heap.size := by obtain ⟨m, hm⟩ := h3; exact DataW.trod_lt m _ _ _ hm
  clear hA0 hval0
  refine (calls_of_snd pOrientation_ok (i := (a0, a1, a2, a3)) (trivial) rfl rfl (b := true) rfl W).mono fun e W' ⟨he, bel⟩ => ?_
  subst he
  exact ⟨_, rfl, _, _, _, [], _, [], hW', trodAll_mk1 (shut_bool Try.underlying4 _), (trodAll_cons_mk (Below.trod laidOut (by kernel_rfl) (of_decide_eq_true (by kernel_rfl)) h0 bel lt0) (trodAll_cons_mk (Below.trod laidOut (by kernel_rfl) (of_decide_eq_true (by kernel_rfl)) h1 bel lt1) (trodAll_cons_mk (Below.trod laidOut (by kernel_rfl) (of_decide_eq_true (by kernel_rfl)) h2 bel lt2) (trodAll_cons_mk (Below.trod laidOut (by kernel_rfl) (of_decide_eq_true (by kernel_rfl)) h3 bel lt3) trodAll_mk0)))), rfl, bel.frame _, fun h => by cases h⟩

theorem predicateOrientation_holds : Rows.predicateOrientationRow.holds Try.pinned (OpenSpec.ofChange Rows.predicateOrientationSpec) :=
  OpenClaim.holds_of_wide 3 Try.f3 rfl rfl rfl rfl rfl rfl rfl ⟨rfl, rfl, rfl, rfl, rfl⟩ rfl rfl rfl rfl rfl (by kernel_rfl) Try.func3 (by kernel_rfl)
    (of_decide_eq_true (by kernel_rfl)) (by unfold Func.isWrapper; first | (rw [if_pos (by decide +kernel)]; kernel_rfl) | (rw [if_neg (by decide +kernel)]; exact ⟨rfl, rfl⟩))
    (fun os started H enc _ => predicateOrientation_lifted os started H enc)
theorem predicateOrientation_proved : Rows.PredicateOrientationSaid := predicateOrientation_holds

set_option maxRecDepth 100000 in
theorem predicateCircle_lifted (os : Os) (started : os.Started) (H : Type) (enc : TypeId × Value → H) :
    ReturnsInHanded {} Try.checked os 6 .any (Rows.predicateCircleSpec.pre6 enc Try.prog Try.f6 Rows.predicateCircleRow.domain false) (Rows.predicateCircleSpec.post enc Try.prog Try.f6 false true false false) := by
  refine returnsInHanded_of_change (C := Try.checked) own started (by kernel_rfl) Try.func6
    (ChangeSpec.witness6 (enc := enc) (C := Try.checked) false ⟨#[], #[zP, zP, zP, zP], []⟩ 8 (by kernel_rfl) (by kernel_rfl) (by kernel_rfl) (by kernel_rfl)) ?_
  intro W base args ds gs before hval0 hW hcnd _
  have hval : ∀ (j : Nat) t v, Try.f6.params[j]? = some t → args[j]? = some v → Value.okWide Try.prog W .any base t v := hval0
  have hW' := hW
  obtain ⟨p, q, hA0, hV, rfl, hfz, hnd⟩ := hW
  have hA : DataW.TrodAll enc Try.prog W 0 (fun _ => true) true Try.f6.params.toList args.toList ds p := hA0
  rw [Try.params6] at hA hval
  obtain ⟨v0, vs0, d0, ds0, p0, q0, hargs, rfl, rfl, h0, r0⟩ := trodAll_cons hA
  obtain ⟨v1, vs1, d1, ds1, p1, q1, rfl, rfl, rfl, h1, r1⟩ := trodAll_cons r0
  obtain ⟨v2, vs2, d2, ds2, p2, q2, rfl, rfl, rfl, h2, r2⟩ := trodAll_cons r1
  obtain ⟨v3, vs3, d3, ds3, p3, q3, rfl, rfl, rfl, h3, r3⟩ := trodAll_cons r2
  obtain ⟨rfl, rfl, rfl⟩ := trodAll_nil r3
  obtain rfl : args = #[v0, v1, v2, v3] := by cases args; simp_all
  obtain ⟨rfl, rfl⟩ := trodVars_none hV
  obtain ⟨a0, rfl⟩ := open_point (hval 0 25 v0 rfl rfl)
  obtain ⟨a1, rfl⟩ := open_point (hval 1 25 v1 rfl rfl)
  obtain ⟨a2, rfl⟩ := open_point (hval 2 25 v2 rfl rfl)
  obtain ⟨a3, rfl⟩ := open_point (hval 3 25 v3 rfl rfl)
  have lt0 : ∀ x ∈ p0, x.block < W.heap.size := by obtain ⟨m, hm⟩ := h0; exact DataW.trod_lt m _ _ _ hm
  have lt1 : ∀ x ∈ p1, x.block < W.heap.size := by obtain ⟨m, hm⟩ := h1; exact DataW.trod_lt m _ _ _ hm
  have lt2 : ∀ x ∈ p2, x.block < W.heap.size := by obtain ⟨m, hm⟩ := h2; exact DataW.trod_lt m _ _ _ hm
  have lt3 : ∀ x ∈ p3, x.block < W.heap.size := by obtain ⟨m, hm⟩ := h3; exact DataW.trod_lt m _ _ _ hm
  clear hA0 hval0
  refine (calls_of_snd pCircle_ok (i := (a0, a1, a2, a3)) (trivial) rfl rfl (b := true) rfl W).mono fun e W' ⟨he, bel⟩ => ?_
  subst he
  exact ⟨_, rfl, _, _, _, [], _, [], hW', trodAll_mk1 (shut_bool Try.underlying4 _), (trodAll_cons_mk (Below.trod laidOut (by kernel_rfl) (of_decide_eq_true (by kernel_rfl)) h0 bel lt0) (trodAll_cons_mk (Below.trod laidOut (by kernel_rfl) (of_decide_eq_true (by kernel_rfl)) h1 bel lt1) (trodAll_cons_mk (Below.trod laidOut (by kernel_rfl) (of_decide_eq_true (by kernel_rfl)) h2 bel lt2) (trodAll_cons_mk (Below.trod laidOut (by kernel_rfl) (of_decide_eq_true (by kernel_rfl)) h3 bel lt3) trodAll_mk0)))), rfl, bel.frame _, fun h => by cases h⟩

theorem predicateCircle_holds : Rows.predicateCircleRow.holds Try.pinned (OpenSpec.ofChange Rows.predicateCircleSpec) :=
  OpenClaim.holds_of_wide 6 Try.f6 rfl rfl rfl rfl rfl rfl rfl ⟨rfl, rfl, rfl, rfl, rfl⟩ rfl rfl rfl rfl rfl (by kernel_rfl) Try.func6 (by kernel_rfl)
    (of_decide_eq_true (by kernel_rfl)) (by unfold Func.isWrapper; first | (rw [if_pos (by decide +kernel)]; kernel_rfl) | (rw [if_neg (by decide +kernel)]; exact ⟨rfl, rfl⟩))
    (fun os started H enc _ => predicateCircle_lifted os started H enc)
theorem predicateCircle_proved : Rows.PredicateCircleSaid := predicateCircle_holds

set_option maxRecDepth 100000 in
theorem predicateTriangle_lifted (os : Os) (started : os.Started) (H : Type) (enc : TypeId × Value → H) :
    ReturnsInHanded {} Try.checked os 9 .any (Rows.predicateTriangleSpec.pre6 enc Try.prog Try.f9 Rows.predicateTriangleRow.domain false) (Rows.predicateTriangleSpec.post enc Try.prog Try.f9 false true false false) := by
  refine returnsInHanded_of_change (C := Try.checked) own started (by kernel_rfl) Try.func9
    (ChangeSpec.witness6 (enc := enc) (C := Try.checked) false ⟨#[], #[zP, zP, zP, zP], []⟩ 8 (by kernel_rfl) (by kernel_rfl) (by kernel_rfl) (by kernel_rfl)) ?_
  intro W base args ds gs before hval0 hW hcnd _
  have hval : ∀ (j : Nat) t v, Try.f9.params[j]? = some t → args[j]? = some v → Value.okWide Try.prog W .any base t v := hval0
  have hW' := hW
  obtain ⟨p, q, hA0, hV, rfl, hfz, hnd⟩ := hW
  have hA : DataW.TrodAll enc Try.prog W 0 (fun _ => true) true Try.f9.params.toList args.toList ds p := hA0
  rw [Try.params9] at hA hval
  obtain ⟨v0, vs0, d0, ds0, p0, q0, hargs, rfl, rfl, h0, r0⟩ := trodAll_cons hA
  obtain ⟨v1, vs1, d1, ds1, p1, q1, rfl, rfl, rfl, h1, r1⟩ := trodAll_cons r0
  obtain ⟨v2, vs2, d2, ds2, p2, q2, rfl, rfl, rfl, h2, r2⟩ := trodAll_cons r1
  obtain ⟨v3, vs3, d3, ds3, p3, q3, rfl, rfl, rfl, h3, r3⟩ := trodAll_cons r2
  obtain ⟨rfl, rfl, rfl⟩ := trodAll_nil r3
  obtain rfl : args = #[v0, v1, v2, v3] := by cases args; simp_all
  obtain ⟨rfl, rfl⟩ := trodVars_none hV
  obtain ⟨a0, rfl⟩ := open_point (hval 0 25 v0 rfl rfl)
  obtain ⟨a1, rfl⟩ := open_point (hval 1 25 v1 rfl rfl)
  obtain ⟨a2, rfl⟩ := open_point (hval 2 25 v2 rfl rfl)
  obtain ⟨a3, rfl⟩ := open_point (hval 3 25 v3 rfl rfl)
  have lt0 : ∀ x ∈ p0, x.block < W.heap.size := by obtain ⟨m, hm⟩ := h0; exact DataW.trod_lt m _ _ _ hm
  have lt1 : ∀ x ∈ p1, x.block < W.heap.size := by obtain ⟨m, hm⟩ := h1; exact DataW.trod_lt m _ _ _ hm
  have lt2 : ∀ x ∈ p2, x.block < W.heap.size := by obtain ⟨m, hm⟩ := h2; exact DataW.trod_lt m _ _ _ hm
  have lt3 : ∀ x ∈ p3, x.block < W.heap.size := by obtain ⟨m, hm⟩ := h3; exact DataW.trod_lt m _ _ _ hm
  clear hA0 hval0
  refine (calls_of_snd pTriangle_ok (i := (a0, a1, a2, a3)) (trivial) rfl rfl (b := true) rfl W).mono fun e W' ⟨he, bel⟩ => ?_
  subst he
  exact ⟨_, rfl, _, _, _, [], _, [], hW', trodAll_mk1 (shut_bool Try.underlying4 _), (trodAll_cons_mk (Below.trod laidOut (by kernel_rfl) (of_decide_eq_true (by kernel_rfl)) h0 bel lt0) (trodAll_cons_mk (Below.trod laidOut (by kernel_rfl) (of_decide_eq_true (by kernel_rfl)) h1 bel lt1) (trodAll_cons_mk (Below.trod laidOut (by kernel_rfl) (of_decide_eq_true (by kernel_rfl)) h2 bel lt2) (trodAll_cons_mk (Below.trod laidOut (by kernel_rfl) (of_decide_eq_true (by kernel_rfl)) h3 bel lt3) trodAll_mk0)))), rfl, bel.frame _, fun h => by cases h⟩

theorem predicateTriangle_holds : Rows.predicateTriangleRow.holds Try.pinned (OpenSpec.ofChange Rows.predicateTriangleSpec) :=
  OpenClaim.holds_of_wide 9 Try.f9 rfl rfl rfl rfl rfl rfl rfl ⟨rfl, rfl, rfl, rfl, rfl⟩ rfl rfl rfl rfl rfl (by kernel_rfl) Try.func9 (by kernel_rfl)
    (of_decide_eq_true (by kernel_rfl)) (by unfold Func.isWrapper; first | (rw [if_pos (by decide +kernel)]; kernel_rfl) | (rw [if_neg (by decide +kernel)]; exact ⟨rfl, rfl⟩))
    (fun os started H enc _ => predicateTriangle_lifted os started H enc)
theorem predicateTriangle_proved : Rows.PredicateTriangleSaid := predicateTriangle_holds

set_option maxRecDepth 100000 in
theorem predicateWedges_lifted (os : Os) (started : os.Started) (H : Type) (enc : TypeId × Value → H) :
    ReturnsInHanded {} Try.checked os 5 .any (Rows.predicateWedgesSpec.pre6 enc Try.prog Try.f5 Rows.predicateWedgesRow.domain false) (Rows.predicateWedgesSpec.post enc Try.prog Try.f5 false true false false) := by
  refine returnsInHanded_of_change (C := Try.checked) own started (by kernel_rfl) Try.func5
    (ChangeSpec.witness6 (enc := enc) (C := Try.checked) false ⟨#[], #[zP, zP, zP], []⟩ 8 (by kernel_rfl) (by kernel_rfl) (by kernel_rfl) (by kernel_rfl)) ?_
  intro W base args ds gs before hval0 hW hcnd _
  have hval : ∀ (j : Nat) t v, Try.f5.params[j]? = some t → args[j]? = some v → Value.okWide Try.prog W .any base t v := hval0
  have hW' := hW
  obtain ⟨p, q, hA0, hV, rfl, hfz, hnd⟩ := hW
  have hA : DataW.TrodAll enc Try.prog W 0 (fun _ => true) true Try.f5.params.toList args.toList ds p := hA0
  rw [Try.params5] at hA hval
  obtain ⟨v0, vs0, d0, ds0, p0, q0, hargs, rfl, rfl, h0, r0⟩ := trodAll_cons hA
  obtain ⟨v1, vs1, d1, ds1, p1, q1, rfl, rfl, rfl, h1, r1⟩ := trodAll_cons r0
  obtain ⟨v2, vs2, d2, ds2, p2, q2, rfl, rfl, rfl, h2, r2⟩ := trodAll_cons r1
  obtain ⟨rfl, rfl, rfl⟩ := trodAll_nil r2
  obtain rfl : args = #[v0, v1, v2] := by cases args; simp_all
  obtain ⟨rfl, rfl⟩ := trodVars_none hV
  obtain ⟨a0, rfl⟩ := open_point (hval 0 25 v0 rfl rfl)
  obtain ⟨a1, rfl⟩ := open_point (hval 1 25 v1 rfl rfl)
  obtain ⟨a2, rfl⟩ := open_point (hval 2 25 v2 rfl rfl)
  have lt0 : ∀ x ∈ p0, x.block < W.heap.size := by obtain ⟨m, hm⟩ := h0; exact DataW.trod_lt m _ _ _ hm
  have lt1 : ∀ x ∈ p1, x.block < W.heap.size := by obtain ⟨m, hm⟩ := h1; exact DataW.trod_lt m _ _ _ hm
  have lt2 : ∀ x ∈ p2, x.block < W.heap.size := by obtain ⟨m, hm⟩ := h2; exact DataW.trod_lt m _ _ _ hm
  clear hA0 hval0
  refine (calls_of_snd pWedges_ok (i := (a0, a1, a2)) (trivial) rfl rfl (b := true) rfl W).mono fun e W' ⟨he, bel⟩ => ?_
  subst he
  exact ⟨_, rfl, _, _, _, [], _, [], hW', trodAll_mk1 (shut_bool Try.underlying4 _), (trodAll_cons_mk (Below.trod laidOut (by kernel_rfl) (of_decide_eq_true (by kernel_rfl)) h0 bel lt0) (trodAll_cons_mk (Below.trod laidOut (by kernel_rfl) (of_decide_eq_true (by kernel_rfl)) h1 bel lt1) (trodAll_cons_mk (Below.trod laidOut (by kernel_rfl) (of_decide_eq_true (by kernel_rfl)) h2 bel lt2) trodAll_mk0))), rfl, bel.frame _, fun h => by cases h⟩

theorem predicateWedges_holds : Rows.predicateWedgesRow.holds Try.pinned (OpenSpec.ofChange Rows.predicateWedgesSpec) :=
  OpenClaim.holds_of_wide 5 Try.f5 rfl rfl rfl rfl rfl rfl rfl ⟨rfl, rfl, rfl, rfl, rfl⟩ rfl rfl rfl rfl rfl (by kernel_rfl) Try.func5 (by kernel_rfl)
    (of_decide_eq_true (by kernel_rfl)) (by unfold Func.isWrapper; first | (rw [if_pos (by decide +kernel)]; kernel_rfl) | (rw [if_neg (by decide +kernel)]; exact ⟨rfl, rfl⟩))
    (fun os started H enc _ => predicateWedges_lifted os started H enc)
theorem predicateWedges_proved : Rows.PredicateWedgesSaid := predicateWedges_holds

set_option maxRecDepth 100000 in
theorem predicateSegments_lifted (os : Os) (started : os.Started) (H : Type) (enc : TypeId × Value → H) :
    ReturnsInHanded {} Try.checked os 8 .any (Rows.predicateSegmentsSpec.pre6 enc Try.prog Try.f8 Rows.predicateSegmentsRow.domain false) (Rows.predicateSegmentsSpec.post enc Try.prog Try.f8 false true false false) := by
  refine returnsInHanded_of_change (C := Try.checked) own started (by kernel_rfl) Try.func8
    (ChangeSpec.witness6 (enc := enc) (C := Try.checked) false ⟨#[], #[zP, zP, zP, zR], []⟩ 8 (by kernel_rfl) (by kernel_rfl) (by kernel_rfl) (by kernel_rfl)) ?_
  intro W base args ds gs before hval0 hW hcnd _
  have hval : ∀ (j : Nat) t v, Try.f8.params[j]? = some t → args[j]? = some v → Value.okWide Try.prog W .any base t v := hval0
  have hW' := hW
  obtain ⟨p, q, hA0, hV, rfl, hfz, hnd⟩ := hW
  have hA : DataW.TrodAll enc Try.prog W 0 (fun _ => true) true Try.f8.params.toList args.toList ds p := hA0
  rw [Try.params8] at hA hval
  obtain ⟨v0, vs0, d0, ds0, p0, q0, hargs, rfl, rfl, h0, r0⟩ := trodAll_cons hA
  obtain ⟨v1, vs1, d1, ds1, p1, q1, rfl, rfl, rfl, h1, r1⟩ := trodAll_cons r0
  obtain ⟨v2, vs2, d2, ds2, p2, q2, rfl, rfl, rfl, h2, r2⟩ := trodAll_cons r1
  obtain ⟨v3, vs3, d3, ds3, p3, q3, rfl, rfl, rfl, h3, r3⟩ := trodAll_cons r2
  obtain ⟨rfl, rfl, rfl⟩ := trodAll_nil r3
  obtain rfl : args = #[v0, v1, v2, v3] := by cases args; simp_all
  obtain ⟨rfl, rfl⟩ := trodVars_none hV
  obtain ⟨a0, rfl⟩ := open_point (hval 0 25 v0 rfl rfl)
  obtain ⟨a1, rfl⟩ := open_point (hval 1 25 v1 rfl rfl)
  obtain ⟨a2, rfl⟩ := open_point (hval 2 25 v2 rfl rfl)
  obtain ⟨a3, rfl⟩ := open_number (hval 3 23 v3 rfl rfl)
  have lt0 : ∀ x ∈ p0, x.block < W.heap.size := by obtain ⟨m, hm⟩ := h0; exact DataW.trod_lt m _ _ _ hm
  have lt1 : ∀ x ∈ p1, x.block < W.heap.size := by obtain ⟨m, hm⟩ := h1; exact DataW.trod_lt m _ _ _ hm
  have lt2 : ∀ x ∈ p2, x.block < W.heap.size := by obtain ⟨m, hm⟩ := h2; exact DataW.trod_lt m _ _ _ hm
  have lt3 : ∀ x ∈ p3, x.block < W.heap.size := by obtain ⟨m, hm⟩ := h3; exact DataW.trod_lt m _ _ _ hm
  clear hA0 hval0
  refine (calls_of_snd pSegments_ok (i := ((a0, a1, a2), a3)) (trivial) rfl rfl (b := true) rfl W).mono fun e W' ⟨he, bel⟩ => ?_
  subst he
  exact ⟨_, rfl, _, _, _, [], _, [], hW', trodAll_mk1 (shut_bool Try.underlying4 _), (trodAll_cons_mk (Below.trod laidOut (by kernel_rfl) (of_decide_eq_true (by kernel_rfl)) h0 bel lt0) (trodAll_cons_mk (Below.trod laidOut (by kernel_rfl) (of_decide_eq_true (by kernel_rfl)) h1 bel lt1) (trodAll_cons_mk (Below.trod laidOut (by kernel_rfl) (of_decide_eq_true (by kernel_rfl)) h2 bel lt2) (trodAll_cons_mk (Below.trod laidOut (by kernel_rfl) (of_decide_eq_true (by kernel_rfl)) h3 bel lt3) trodAll_mk0)))), rfl, bel.frame _, fun h => by cases h⟩

theorem predicateSegments_holds : Rows.predicateSegmentsRow.holds Try.pinned (OpenSpec.ofChange Rows.predicateSegmentsSpec) :=
  OpenClaim.holds_of_wide 8 Try.f8 rfl rfl rfl rfl rfl rfl rfl ⟨rfl, rfl, rfl, rfl, rfl⟩ rfl rfl rfl rfl rfl (by kernel_rfl) Try.func8 (by kernel_rfl)
    (of_decide_eq_true (by kernel_rfl)) (by unfold Func.isWrapper; first | (rw [if_pos (by decide +kernel)]; kernel_rfl) | (rw [if_neg (by decide +kernel)]; exact ⟨rfl, rfl⟩))
    (fun os started H enc _ => predicateSegments_lifted os started H enc)
theorem predicateSegments_proved : Rows.PredicateSegmentsSaid := predicateSegments_holds

set_option maxRecDepth 100000 in
theorem predicateAngles_lifted (os : Os) (started : os.Started) (H : Type) (enc : TypeId × Value → H) :
    ReturnsInHanded {} Try.checked os 4 .any (Rows.predicateAnglesSpec.pre6 enc Try.prog Try.f4 Rows.predicateAnglesRow.domain false) (Rows.predicateAnglesSpec.post enc Try.prog Try.f4 false true false false) := by
  refine returnsInHanded_of_change (C := Try.checked) own started (by kernel_rfl) Try.func4
    (ChangeSpec.witness6 (enc := enc) (C := Try.checked) false ⟨#[], #[zP, zP, zP, .int .u8 0], []⟩ 8 (by kernel_rfl) (by kernel_rfl) (by kernel_rfl) (by kernel_rfl)) ?_
  intro W base args ds gs before hval0 hW hcnd _
  have hval : ∀ (j : Nat) t v, Try.f4.params[j]? = some t → args[j]? = some v → Value.okWide Try.prog W .any base t v := hval0
  have hW' := hW
  obtain ⟨p, q, hA0, hV, rfl, hfz, hnd⟩ := hW
  have hA : DataW.TrodAll enc Try.prog W 0 (fun _ => true) true Try.f4.params.toList args.toList ds p := hA0
  rw [Try.params4] at hA hval
  obtain ⟨v0, vs0, d0, ds0, p0, q0, hargs, rfl, rfl, h0, r0⟩ := trodAll_cons hA
  obtain ⟨v1, vs1, d1, ds1, p1, q1, rfl, rfl, rfl, h1, r1⟩ := trodAll_cons r0
  obtain ⟨v2, vs2, d2, ds2, p2, q2, rfl, rfl, rfl, h2, r2⟩ := trodAll_cons r1
  obtain ⟨v3, vs3, d3, ds3, p3, q3, rfl, rfl, rfl, h3, r3⟩ := trodAll_cons r2
  obtain ⟨rfl, rfl, rfl⟩ := trodAll_nil r3
  obtain rfl : args = #[v0, v1, v2, v3] := by cases args; simp_all
  obtain ⟨rfl, rfl⟩ := trodVars_none hV
  obtain ⟨a0, rfl⟩ := open_point (hval 0 25 v0 rfl rfl)
  obtain ⟨a1, rfl⟩ := open_point (hval 1 25 v1 rfl rfl)
  obtain ⟨a2, rfl⟩ := open_point (hval 2 25 v2 rfl rfl)
  obtain ⟨a3, rfl, rfl, rfl, w3⟩ := open_int Try.underlying5 (hval 3 5 v3 rfl rfl) h3
  have lt0 : ∀ x ∈ p0, x.block < W.heap.size := by obtain ⟨m, hm⟩ := h0; exact DataW.trod_lt m _ _ _ hm
  have lt1 : ∀ x ∈ p1, x.block < W.heap.size := by obtain ⟨m, hm⟩ := h1; exact DataW.trod_lt m _ _ _ hm
  have lt2 : ∀ x ∈ p2, x.block < W.heap.size := by obtain ⟨m, hm⟩ := h2; exact DataW.trod_lt m _ _ _ hm
  clear hA0 hval0
  refine (calls_of_snd pAngles_ok (i := ((a0, a1, a2), a3)) (wf_u8 w3) rfl rfl (b := true) rfl W).mono fun e W' ⟨he, bel⟩ => ?_
  subst he
  exact ⟨_, rfl, _, _, _, [], _, [], hW', trodAll_mk1 (shut_bool Try.underlying4 _), (trodAll_cons_mk (Below.trod laidOut (by kernel_rfl) (of_decide_eq_true (by kernel_rfl)) h0 bel lt0) (trodAll_cons_mk (Below.trod laidOut (by kernel_rfl) (of_decide_eq_true (by kernel_rfl)) h1 bel lt1) (trodAll_cons_mk (Below.trod laidOut (by kernel_rfl) (of_decide_eq_true (by kernel_rfl)) h2 bel lt2) (trodAll_cons_mk (shut_int Try.underlying5 w3) trodAll_mk0)))), rfl, bel.frame _, fun h => by cases h⟩

theorem predicateAngles_holds : Rows.predicateAnglesRow.holds Try.pinned (OpenSpec.ofChange Rows.predicateAnglesSpec) :=
  OpenClaim.holds_of_wide 4 Try.f4 rfl rfl rfl rfl rfl rfl rfl ⟨rfl, rfl, rfl, rfl, rfl⟩ rfl rfl rfl rfl rfl (by kernel_rfl) Try.func4 (by kernel_rfl)
    (of_decide_eq_true (by kernel_rfl)) (by unfold Func.isWrapper; first | (rw [if_pos (by decide +kernel)]; kernel_rfl) | (rw [if_neg (by decide +kernel)]; exact ⟨rfl, rfl⟩))
    (fun os started H enc _ => predicateAngles_lifted os started H enc)
theorem predicateAngles_proved : Rows.PredicateAnglesSaid := predicateAngles_holds
end Go.Proofs.Ytgakcbdahbagkaa
