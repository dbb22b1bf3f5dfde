import Derived.Test.YtgakcbdahbagkaaPI
/- The laws of predicates: segments, triangles, wedges. -/
set_option linter.unusedVariables false
set_option linter.unusedSimpArgs false
set_option maxRecDepth 20000
set_option maxHeartbeats 8000000
namespace Go.Proofs.Ytgakcbdahbagkaa
open Go Go.Ae

theorem pSegments_ok : Snd Try.prog 8 law3qS := by
  refine snd_of Eplok Dok Try.func8 (enters_of Try.func8 (by kernel_rfl) rfl) (fun _ => rfl) (fun _ => rfl) ?_
  intro ⟨⟨a, b, p⟩, t⟩ hp
  obtain ⟨k1, hk1⟩ : ∃ k, k = t.2.1.size := ⟨_, rfl⟩
  obtain ⟨k2, hk2⟩ : ∃ k, k = t.2.2.size := ⟨_, rfl⟩
  conv => whnf
  obtain ⟨G, hG⟩ : ∃ G, G = anyBig 12 [a, b, p] := ⟨_, rfl⟩
  refine ⟨some ([a, b, p], 3), [4], rfl, by show 3 ≤ 1099511627776; decide, ?_⟩
  rw [show (bigS 12).blks (some ([a, b, p], 3)) = [.flat false 3 6 (rowsP [a, b, p])] from rfl, show (bigS 12).val (some ([a, b, p], 3)) = .bool G from by rw [hG]; rfl, show (bigS 12).new (some ([a, b, p], 3)) = none from rfl]
  conv => whnf
  refine ⟨lit_blk [a, b, p], ?_⟩
  conv => whnf
  refine ⟨.bool G, rfl, ?_⟩
  have hsz := fun h => anyBig_false (hG.symm.trans h)
  clear hG
  cases hG2 : G
  · have sa : PV.sz 12 a := hsz hG2 a (by simp)
    have qa := PV.psz sa (by decide)
    have sb : PV.sz 12 b := hsz hG2 b (by simp)
    have qb := PV.psz sb (by decide)
    have sp : PV.sz 12 p := hsz hG2 p (by simp)
    have qp := PV.psz sp (by decide)
    conv => whnf
    rw [show ((((a, b, p), t) : PV3 × RV).2.2.1.size) = k1 from hk1.symm]
    by_cases h1 : 4 < k1
    · rw [show decide (((k1 : Nat) : Int) > 4) = true from decide_eq_true (by omega)]
      conv => whnf
      refine ⟨(), rfl, trivial, ?_⟩
      conv => whnf
      rfl
    · rw [show decide (((k1 : Nat) : Int) > 4) = false from decide_eq_false (by omega)]
      conv => whnf
      rw [show ((((a, b, p), t) : PV3 × RV).2.2.2.size) = k2 from hk2.symm]
      by_cases h2 : 4 < k2
      · rw [show decide (((k2 : Nat) : Int) > 4) = true from decide_eq_true (by omega)]
        conv => whnf
        refine ⟨(), rfl, trivial, ?_⟩
        conv => whnf
        rfl
      · rw [show decide (((k2 : Nat) : Int) > 4) = false from decide_eq_false (by omega)]
        have st : RV.sz 4 t := ⟨by show t.2.1.size ≤ 4; omega, by show t.2.2.size ≤ 4; omega⟩
        have qt := RV.qb' st (by decide)
        conv => whnf
        obtain ⟨q, eq, pq, sq, qq⟩ := hideP (at_sz qa qb qt)
        refine ⟨((a, b), t), rfl, ⟨⟨PV.sz_mono sa (by decide), PV.sz_mono sb (by decide)⟩, RV.sz_mono st (by decide)⟩, ?_⟩
        rw [show vatS.val ((a, b), t) = q.v from eq]
        conv => whnf
        refine .inl ⟨6, [[], [0], [0, 1], [0, 1, 2], [0, 1, 2, 3], [0, 1, 2, 3], [0, 1, 2, 3, 4, 5], [0, 1, 2, 3, 4, 5, 6], [0, 1, 2, 3, 4, 5, 6, 7], [0, 1, 2, 3, 4, 5, 6, 7, 8]], by kernel_rfl, ?_⟩
        conv => whnf
        obtain ⟨n1, en1, pn1⟩ := hideZ (cmpQ t.q 0)
        refine ⟨t, rfl, RV.sz_ok st (by decide), ?_⟩
        rw [show qsignS.val t = .int .i64 n1 from en1]
        conv => whnf
        by_cases ht0 : 0 ≤ t.q
        · rw [show decide (n1 ≥ 0) = true from decide_eq_true (by rw [pn1]; exact cmpQ_ge.2 ht0)]
          conv => whnf
          obtain ⟨o, eo, po, so, qo⟩ := hideR (q := ((1 : Int) : Rat)) (ex_nby (n := 1) (by decide))
          refine ⟨(1 : Int), rfl, ⟨by decide, by decide⟩, ?_⟩
          rw [show qofS.val (1 : Int) = o.v from eo]
          conv => whnf
          obtain ⟨n2, en2, pn2⟩ := hideZ (cmpQ t.q o.q)
          refine ⟨(t, o), rfl, ⟨RV.sz_ok st (by decide), RV.sz_ok so (by decide)⟩, ?_⟩
          rw [show qcmpS.val (t, o) = .int .i64 n2 from en2]
          conv => whnf
          by_cases ht1 : t.q ≤ 1
          · rw [show decide (n2 ≤ 0) = true from decide_eq_true (by rw [pn2, po]; exact cmpQ_le.2 ht1)]
            conv => whnf
            refine ⟨(a, b, q), rfl, ⟨PV.sz_mono sa (by decide), PV.sz_mono sb (by decide), PV.sz_mono sq (by decide)⟩, ?_⟩
            rw [show betweenS.val (a, b, q) = .bool (true) from congrArg (Value.bool) (show decide (betR a.p b.p q.p) = true from decide_eq_true (by rw [pq]; exact bet_at.2 (.inl ⟨ht0, ht1⟩)))]
            conv => whnf
            refine ⟨(a, b, a), rfl, ⟨PV.sz_mono sa (by decide), PV.sz_mono sb (by decide), PV.sz_mono sa (by decide)⟩, ?_⟩
            rw [show betweenS.val (a, b, a) = .bool (true) from congrArg (Value.bool) (show decide (betR a.p b.p a.p) = true from decide_eq_true (bet_ends a.p b.p).1)]
            conv => whnf
            refine ⟨(a, b, b), rfl, ⟨PV.sz_mono sa (by decide), PV.sz_mono sb (by decide), PV.sz_mono sb (by decide)⟩, ?_⟩
            rw [show betweenS.val (a, b, b) = .bool (true) from congrArg (Value.bool) (show decide (betR a.p b.p b.p) = true from decide_eq_true (bet_ends a.p b.p).2)]
            conv => whnf
            by_cases hon : betR a.p b.p p.p
            · refine ⟨(a, b, p), rfl, ⟨PV.sz_mono sa (by decide), PV.sz_mono sb (by decide), PV.sz_mono sp (by decide)⟩, ?_⟩
              rw [show betweenS.val (a, b, p) = .bool (true) from congrArg (Value.bool) (show decide (betR a.p b.p p.p) = true from decide_eq_true hon)]
              conv => whnf
              refine ⟨(b, a, p), rfl, ⟨PV.sz_mono sb (by decide), PV.sz_mono sa (by decide), PV.sz_mono sp (by decide)⟩, ?_⟩
              rw [show betweenS.val (b, a, p) = .bool (true) from congrArg (Value.bool) (show decide (betR b.p a.p p.p) = true from decide_eq_true (bet_symm.1 hon))]
              conv => whnf
              refine .inl ⟨25, [[], [0], [0, 1], [0, 1], [0, 1], [0, 1, 2, 3, 4], [0, 1, 2, 3, 4, 5], [0, 1, 2, 3, 4, 5, 6], [0, 1, 2, 3, 4, 5, 6, 7], [0, 1, 2, 3, 4, 5, 6, 7], [0, 1, 2, 3, 4, 5, 6, 7], [0, 1, 2, 3, 4, 5, 6, 7, 8, 9, 10], [0, 1, 2, 3, 4, 5, 6, 7, 8, 9, 10, 11], [0, 1, 2, 3, 4, 5, 6, 7, 8, 9, 10, 11, 12], [0, 1, 2, 3, 4, 5, 6, 7, 8, 9, 10, 11, 12], [0, 1, 2, 3, 4, 5, 6, 7, 8, 9, 10, 11, 12, 13, 14], [0, 1, 2, 3, 4, 5, 6, 7, 8, 9, 10, 11, 12, 13, 14, 15], [0, 1, 2, 3, 4, 5, 6, 7, 8, 9, 10, 11, 12, 13, 14, 15, 16], [0, 1, 2, 3, 4, 5, 6, 7, 8, 9, 10, 11, 12, 13, 14, 15, 16, 17], [0, 1, 2, 3, 4, 5, 6, 7, 8, 9, 10, 11, 12, 13, 14, 15, 16, 17, 18], [0, 1, 2, 3, 4, 5, 6, 7, 8, 9, 10, 11, 12, 13, 14, 15, 16, 17, 18, 19], [0, 1, 2, 3, 4, 5, 6, 7, 8, 9, 10, 11, 12, 13, 14, 15, 16, 17, 18, 19], [0, 1, 2, 3, 4, 5, 6, 7, 8, 9, 10, 11, 12, 13, 14, 15, 16, 17, 18, 19, 20, 21], [0, 1, 2, 3, 4, 5, 6, 7, 8, 9, 10, 11, 12, 13, 14, 15, 16, 17, 18, 19], [0, 1, 2, 3, 4, 5, 6, 7, 8, 9, 10, 11, 12, 13, 14, 15, 16, 17, 18, 19], [0, 1, 2, 3, 4, 5, 6, 7, 8, 9, 10, 11, 12, 13, 14, 15, 16, 17, 18, 19, 20, 21, 22, 23, 24], [0, 1, 2, 3, 4, 5, 6, 7, 8, 9, 10, 11, 12, 13, 14, 15, 16, 17, 18, 19, 20, 21, 22, 23, 24, 25], [0, 1, 2, 3, 4, 5, 6, 7, 8, 9, 10, 11, 12, 13, 14, 15, 16, 17, 18, 19, 20, 21, 22, 23, 24, 25, 26], [0, 1, 2, 3, 4, 5, 6, 7, 8, 9, 10, 11, 12, 13, 14, 15, 16, 17, 18, 19, 20, 21, 22, 23, 24, 25, 26, 27], [0, 1, 2, 3, 4, 5, 6, 7, 8, 9, 10, 11, 12, 13, 14, 15, 16, 17, 18, 19, 20, 21, 22, 23, 24, 25, 26, 27, 28]], by kernel_rfl, ?_⟩
              conv => whnf
              refine ⟨(a, b, p), rfl, ⟨PV.sz_mono sa (by decide), PV.sz_mono sb (by decide), PV.sz_mono sp (by decide)⟩, ?_⟩
              rw [show orientS.val (a, b, p) = .int .i64 (0) from congrArg (Value.int .i64) (show cmpQ (orR a.p b.p p.p) 0 = 0 from cmpQ_eq hon.1)]
              conv => whnf
              by_cases hb : betR a.p p.p b.p
              · refine ⟨(a, p, b), rfl, ⟨PV.sz_mono sa (by decide), PV.sz_mono sp (by decide), PV.sz_mono sb (by decide)⟩, ?_⟩
                rw [show betweenS.val (a, p, b) = .bool (true) from congrArg (Value.bool) (show decide (betR a.p p.p b.p) = true from decide_eq_true hb)]
                conv => whnf
                refine ⟨(b, p), rfl, ⟨PV.sz_mono sb (by decide), PV.sz_mono sp (by decide)⟩, ?_⟩
                rw [show vcmpS.val (b, p) = .int .i64 (0) from congrArg (Value.int .i64) (show cmpR b.p p.p = 0 from cmpR_zero.2 (bet_back hon hb))]
                conv => whnf
                obtain ⟨d1, ed1, pd1, sd1, qd1⟩ := hideR (dst_sz qa qp)
                refine ⟨(a, p), rfl, ⟨PV.sz_mono sa (by decide), PV.sz_mono sp (by decide)⟩, ?_⟩
                rw [show vdistS.val (a, p) = d1.v from (dist_val a p).trans ed1]
                conv => whnf
                obtain ⟨d2, ed2, pd2, sd2, qd2⟩ := hideR (dst_sz qa qb)
                refine ⟨(a, b), rfl, ⟨PV.sz_mono sa (by decide), PV.sz_mono sb (by decide)⟩, ?_⟩
                rw [show vdistS.val (a, b) = d2.v from (dist_val a b).trans ed2]
                conv => whnf
                obtain ⟨n, en, pn⟩ := hideZ (cmpQ d1.q d2.q)
                refine ⟨(d1, d2), rfl, ⟨RV.sz_ok sd1 (by decide), RV.sz_ok sd2 (by decide)⟩, ?_⟩
                rw [show qcmpS.val (d1, d2) = .int .i64 n from en]
                conv => whnf
                have hn : n ≤ 0 := by rw [pn, pd1, pd2]; exact cmpQ_le.2 (bet_dist hon)
                rw [show decide (n > 0) = false from decide_eq_false (by omega)]
                conv => whnf
                refine ⟨(), rfl, trivial, ?_⟩
                conv => whnf
                rfl
              · refine ⟨(a, p, b), rfl, ⟨PV.sz_mono sa (by decide), PV.sz_mono sp (by decide), PV.sz_mono sb (by decide)⟩, ?_⟩
                rw [show betweenS.val (a, p, b) = .bool (false) from congrArg (Value.bool) (show decide (betR a.p p.p b.p) = false from decide_eq_false hb)]
                conv => whnf
                obtain ⟨d1, ed1, pd1, sd1, qd1⟩ := hideR (dst_sz qa qp)
                refine ⟨(a, p), rfl, ⟨PV.sz_mono sa (by decide), PV.sz_mono sp (by decide)⟩, ?_⟩
                rw [show vdistS.val (a, p) = d1.v from (dist_val a p).trans ed1]
                conv => whnf
                obtain ⟨d2, ed2, pd2, sd2, qd2⟩ := hideR (dst_sz qa qb)
                refine ⟨(a, b), rfl, ⟨PV.sz_mono sa (by decide), PV.sz_mono sb (by decide)⟩, ?_⟩
                rw [show vdistS.val (a, b) = d2.v from (dist_val a b).trans ed2]
                conv => whnf
                obtain ⟨n, en, pn⟩ := hideZ (cmpQ d1.q d2.q)
                refine ⟨(d1, d2), rfl, ⟨RV.sz_ok sd1 (by decide), RV.sz_ok sd2 (by decide)⟩, ?_⟩
                rw [show qcmpS.val (d1, d2) = .int .i64 n from en]
                conv => whnf
                have hn : n ≤ 0 := by rw [pn, pd1, pd2]; exact cmpQ_le.2 (bet_dist hon)
                rw [show decide (n > 0) = false from decide_eq_false (by omega)]
                conv => whnf
                refine ⟨(), rfl, trivial, ?_⟩
                conv => whnf
                rfl
            · refine ⟨(a, b, p), rfl, ⟨PV.sz_mono sa (by decide), PV.sz_mono sb (by decide), PV.sz_mono sp (by decide)⟩, ?_⟩
              rw [show betweenS.val (a, b, p) = .bool (false) from congrArg (Value.bool) (show decide (betR a.p b.p p.p) = false from decide_eq_false hon)]
              conv => whnf
              refine ⟨(b, a, p), rfl, ⟨PV.sz_mono sb (by decide), PV.sz_mono sa (by decide), PV.sz_mono sp (by decide)⟩, ?_⟩
              rw [show betweenS.val (b, a, p) = .bool (false) from congrArg (Value.bool) (show decide (betR b.p a.p p.p) = false from decide_eq_false (fun h => hon (bet_symm.2 h)))]
              conv => whnf
              refine .inl ⟨25, [[], [0], [0, 1], [0, 1], [0, 1], [0, 1, 2, 3, 4], [0, 1, 2, 3, 4, 5], [0, 1, 2, 3, 4, 5, 6], [0, 1, 2, 3, 4, 5, 6, 7], [0, 1, 2, 3, 4, 5, 6, 7], [0, 1, 2, 3, 4, 5, 6, 7], [0, 1, 2, 3, 4, 5, 6, 7, 8, 9, 10], [0, 1, 2, 3, 4, 5, 6, 7, 8, 9, 10, 11], [0, 1, 2, 3, 4, 5, 6, 7, 8, 9, 10, 11, 12], [0, 1, 2, 3, 4, 5, 6, 7, 8, 9, 10, 11, 12], [0, 1, 2, 3, 4, 5, 6, 7, 8, 9, 10, 11, 12, 13, 14], [0, 1, 2, 3, 4, 5, 6, 7, 8, 9, 10, 11, 12, 13, 14, 15], [0, 1, 2, 3, 4, 5, 6, 7, 8, 9, 10, 11, 12, 13, 14, 15, 16], [0, 1, 2, 3, 4, 5, 6, 7, 8, 9, 10, 11, 12, 13, 14, 15, 16, 17], [0, 1, 2, 3, 4, 5, 6, 7, 8, 9, 10, 11, 12, 13, 14, 15, 16, 17, 18], [0, 1, 2, 3, 4, 5, 6, 7, 8, 9, 10, 11, 12, 13, 14, 15, 16, 17, 18, 19], [0, 1, 2, 3, 4, 5, 6, 7, 8, 9, 10, 11, 12, 13, 14, 15, 16, 17, 18, 19], [0, 1, 2, 3, 4, 5, 6, 7, 8, 9, 10, 11, 12, 13, 14, 15, 16, 17, 18, 19, 20, 21], [0, 1, 2, 3, 4, 5, 6, 7, 8, 9, 10, 11, 12, 13, 14, 15, 16, 17, 18, 19], [0, 1, 2, 3, 4, 5, 6, 7, 8, 9, 10, 11, 12, 13, 14, 15, 16, 17, 18, 19], [0, 1, 2, 3, 4, 5, 6, 7, 8, 9, 10, 11, 12, 13, 14, 15, 16, 17, 18, 19, 20, 21, 22, 23, 24], [0, 1, 2, 3, 4, 5, 6, 7, 8, 9, 10, 11, 12, 13, 14, 15, 16, 17, 18, 19, 20, 21, 22, 23, 24, 25], [0, 1, 2, 3, 4, 5, 6, 7, 8, 9, 10, 11, 12, 13, 14, 15, 16, 17, 18, 19, 20, 21, 22, 23, 24, 25, 26], [0, 1, 2, 3, 4, 5, 6, 7, 8, 9, 10, 11, 12, 13, 14, 15, 16, 17, 18, 19, 20, 21, 22, 23, 24, 25, 26, 27], [0, 1, 2, 3, 4, 5, 6, 7, 8, 9, 10, 11, 12, 13, 14, 15, 16, 17, 18, 19, 20, 21, 22, 23, 24, 25, 26, 27, 28]], by kernel_rfl, ?_⟩
              conv => whnf
              refine ⟨(), rfl, trivial, ?_⟩
              conv => whnf
              rfl
          · rw [show decide (n2 ≤ 0) = false from decide_eq_false (by rw [pn2, po]; exact fun h => ht1 (cmpQ_le.1 h))]
            have hin : ¬ (0 ≤ t.q ∧ t.q ≤ 1) := fun h => ht1 h.2
            conv => whnf
            by_cases hab : a.p.1 = b.p.1 ∧ a.p.2 = b.p.2
            · refine ⟨(a, b, q), rfl, ⟨PV.sz_mono sa (by decide), PV.sz_mono sb (by decide), PV.sz_mono sq (by decide)⟩, ?_⟩
              rw [show betweenS.val (a, b, q) = .bool (true) from congrArg (Value.bool) (show decide (betR a.p b.p q.p) = true from decide_eq_true (by rw [pq]; exact bet_at.2 (.inr hab)))]
              conv => whnf
              refine ⟨(a, b), rfl, ⟨PV.sz_mono sa (by decide), PV.sz_mono sb (by decide)⟩, ?_⟩
              rw [show vcmpS.val (a, b) = .int .i64 (0) from congrArg (Value.int .i64) (show cmpR a.p b.p = 0 from cmpR_zero.2 hab)]
              conv => whnf
              refine ⟨(a, b, a), rfl, ⟨PV.sz_mono sa (by decide), PV.sz_mono sb (by decide), PV.sz_mono sa (by decide)⟩, ?_⟩
              rw [show betweenS.val (a, b, a) = .bool (true) from congrArg (Value.bool) (show decide (betR a.p b.p a.p) = true from decide_eq_true (bet_ends a.p b.p).1)]
              conv => whnf
              refine ⟨(a, b, b), rfl, ⟨PV.sz_mono sa (by decide), PV.sz_mono sb (by decide), PV.sz_mono sb (by decide)⟩, ?_⟩
              rw [show betweenS.val (a, b, b) = .bool (true) from congrArg (Value.bool) (show decide (betR a.p b.p b.p) = true from decide_eq_true (bet_ends a.p b.p).2)]
              conv => whnf
              by_cases hon : betR a.p b.p p.p
              · refine ⟨(a, b, p), rfl, ⟨PV.sz_mono sa (by decide), PV.sz_mono sb (by decide), PV.sz_mono sp (by decide)⟩, ?_⟩
                rw [show betweenS.val (a, b, p) = .bool (true) from congrArg (Value.bool) (show decide (betR a.p b.p p.p) = true from decide_eq_true hon)]
                conv => whnf
                refine ⟨(b, a, p), rfl, ⟨PV.sz_mono sb (by decide), PV.sz_mono sa (by decide), PV.sz_mono sp (by decide)⟩, ?_⟩
                rw [show betweenS.val (b, a, p) = .bool (true) from congrArg (Value.bool) (show decide (betR b.p a.p p.p) = true from decide_eq_true (bet_symm.1 hon))]
                conv => whnf
                refine .inl ⟨25, [[], [0], [0, 1], [0, 1], [0, 1], [0, 1, 2, 3, 4], [0, 1, 2, 3, 4, 5], [0, 1, 2, 3, 4, 5, 6], [0, 1, 2, 3, 4, 5, 6, 7], [0, 1, 2, 3, 4, 5, 6, 7], [0, 1, 2, 3, 4, 5, 6, 7], [0, 1, 2, 3, 4, 5, 6, 7, 8, 9, 10], [0, 1, 2, 3, 4, 5, 6, 7, 8, 9, 10, 11], [0, 1, 2, 3, 4, 5, 6, 7, 8, 9, 10, 11, 12], [0, 1, 2, 3, 4, 5, 6, 7, 8, 9, 10, 11, 12], [0, 1, 2, 3, 4, 5, 6, 7, 8, 9, 10, 11, 12, 13, 14], [0, 1, 2, 3, 4, 5, 6, 7, 8, 9, 10, 11, 12, 13, 14, 15], [0, 1, 2, 3, 4, 5, 6, 7, 8, 9, 10, 11, 12, 13, 14, 15, 16], [0, 1, 2, 3, 4, 5, 6, 7, 8, 9, 10, 11, 12, 13, 14, 15, 16, 17], [0, 1, 2, 3, 4, 5, 6, 7, 8, 9, 10, 11, 12, 13, 14, 15, 16, 17, 18], [0, 1, 2, 3, 4, 5, 6, 7, 8, 9, 10, 11, 12, 13, 14, 15, 16, 17, 18, 19], [0, 1, 2, 3, 4, 5, 6, 7, 8, 9, 10, 11, 12, 13, 14, 15, 16, 17, 18, 19], [0, 1, 2, 3, 4, 5, 6, 7, 8, 9, 10, 11, 12, 13, 14, 15, 16, 17, 18, 19, 20, 21], [0, 1, 2, 3, 4, 5, 6, 7, 8, 9, 10, 11, 12, 13, 14, 15, 16, 17, 18, 19], [0, 1, 2, 3, 4, 5, 6, 7, 8, 9, 10, 11, 12, 13, 14, 15, 16, 17, 18, 19], [0, 1, 2, 3, 4, 5, 6, 7, 8, 9, 10, 11, 12, 13, 14, 15, 16, 17, 18, 19, 20, 21, 22, 23, 24], [0, 1, 2, 3, 4, 5, 6, 7, 8, 9, 10, 11, 12, 13, 14, 15, 16, 17, 18, 19, 20, 21, 22, 23, 24, 25], [0, 1, 2, 3, 4, 5, 6, 7, 8, 9, 10, 11, 12, 13, 14, 15, 16, 17, 18, 19, 20, 21, 22, 23, 24, 25, 26], [0, 1, 2, 3, 4, 5, 6, 7, 8, 9, 10, 11, 12, 13, 14, 15, 16, 17, 18, 19, 20, 21, 22, 23, 24, 25, 26, 27], [0, 1, 2, 3, 4, 5, 6, 7, 8, 9, 10, 11, 12, 13, 14, 15, 16, 17, 18, 19, 20, 21, 22, 23, 24, 25, 26, 27, 28]], by kernel_rfl, ?_⟩
                conv => whnf
                refine ⟨(a, b, p), rfl, ⟨PV.sz_mono sa (by decide), PV.sz_mono sb (by decide), PV.sz_mono sp (by decide)⟩, ?_⟩
                rw [show orientS.val (a, b, p) = .int .i64 (0) from congrArg (Value.int .i64) (show cmpQ (orR a.p b.p p.p) 0 = 0 from cmpQ_eq hon.1)]
                conv => whnf
                by_cases hb : betR a.p p.p b.p
                · refine ⟨(a, p, b), rfl, ⟨PV.sz_mono sa (by decide), PV.sz_mono sp (by decide), PV.sz_mono sb (by decide)⟩, ?_⟩
                  rw [show betweenS.val (a, p, b) = .bool (true) from congrArg (Value.bool) (show decide (betR a.p p.p b.p) = true from decide_eq_true hb)]
                  conv => whnf
                  refine ⟨(b, p), rfl, ⟨PV.sz_mono sb (by decide), PV.sz_mono sp (by decide)⟩, ?_⟩
                  rw [show vcmpS.val (b, p) = .int .i64 (0) from congrArg (Value.int .i64) (show cmpR b.p p.p = 0 from cmpR_zero.2 (bet_back hon hb))]
                  conv => whnf
                  obtain ⟨d1, ed1, pd1, sd1, qd1⟩ := hideR (dst_sz qa qp)
                  refine ⟨(a, p), rfl, ⟨PV.sz_mono sa (by decide), PV.sz_mono sp (by decide)⟩, ?_⟩
                  rw [show vdistS.val (a, p) = d1.v from (dist_val a p).trans ed1]
                  conv => whnf
                  obtain ⟨d2, ed2, pd2, sd2, qd2⟩ := hideR (dst_sz qa qb)
                  refine ⟨(a, b), rfl, ⟨PV.sz_mono sa (by decide), PV.sz_mono sb (by decide)⟩, ?_⟩
                  rw [show vdistS.val (a, b) = d2.v from (dist_val a b).trans ed2]
                  conv => whnf
                  obtain ⟨n, en, pn⟩ := hideZ (cmpQ d1.q d2.q)
                  refine ⟨(d1, d2), rfl, ⟨RV.sz_ok sd1 (by decide), RV.sz_ok sd2 (by decide)⟩, ?_⟩
                  rw [show qcmpS.val (d1, d2) = .int .i64 n from en]
                  conv => whnf
                  have hn : n ≤ 0 := by rw [pn, pd1, pd2]; exact cmpQ_le.2 (bet_dist hon)
                  rw [show decide (n > 0) = false from decide_eq_false (by omega)]
                  conv => whnf
                  refine ⟨(), rfl, trivial, ?_⟩
                  conv => whnf
                  rfl
                · refine ⟨(a, p, b), rfl, ⟨PV.sz_mono sa (by decide), PV.sz_mono sp (by decide), PV.sz_mono sb (by decide)⟩, ?_⟩
                  rw [show betweenS.val (a, p, b) = .bool (false) from congrArg (Value.bool) (show decide (betR a.p p.p b.p) = false from decide_eq_false hb)]
                  conv => whnf
                  obtain ⟨d1, ed1, pd1, sd1, qd1⟩ := hideR (dst_sz qa qp)
                  refine ⟨(a, p), rfl, ⟨PV.sz_mono sa (by decide), PV.sz_mono sp (by decide)⟩, ?_⟩
                  rw [show vdistS.val (a, p) = d1.v from (dist_val a p).trans ed1]
                  conv => whnf
                  obtain ⟨d2, ed2, pd2, sd2, qd2⟩ := hideR (dst_sz qa qb)
                  refine ⟨(a, b), rfl, ⟨PV.sz_mono sa (by decide), PV.sz_mono sb (by decide)⟩, ?_⟩
                  rw [show vdistS.val (a, b) = d2.v from (dist_val a b).trans ed2]
                  conv => whnf
                  obtain ⟨n, en, pn⟩ := hideZ (cmpQ d1.q d2.q)
                  refine ⟨(d1, d2), rfl, ⟨RV.sz_ok sd1 (by decide), RV.sz_ok sd2 (by decide)⟩, ?_⟩
                  rw [show qcmpS.val (d1, d2) = .int .i64 n from en]
                  conv => whnf
                  have hn : n ≤ 0 := by rw [pn, pd1, pd2]; exact cmpQ_le.2 (bet_dist hon)
                  rw [show decide (n > 0) = false from decide_eq_false (by omega)]
                  conv => whnf
                  refine ⟨(), rfl, trivial, ?_⟩
                  conv => whnf
                  rfl
              · refine ⟨(a, b, p), rfl, ⟨PV.sz_mono sa (by decide), PV.sz_mono sb (by decide), PV.sz_mono sp (by decide)⟩, ?_⟩
                rw [show betweenS.val (a, b, p) = .bool (false) from congrArg (Value.bool) (show decide (betR a.p b.p p.p) = false from decide_eq_false hon)]
                conv => whnf
                refine ⟨(b, a, p), rfl, ⟨PV.sz_mono sb (by decide), PV.sz_mono sa (by decide), PV.sz_mono sp (by decide)⟩, ?_⟩
                rw [show betweenS.val (b, a, p) = .bool (false) from congrArg (Value.bool) (show decide (betR b.p a.p p.p) = false from decide_eq_false (fun h => hon (bet_symm.2 h)))]
                conv => whnf
                refine .inl ⟨25, [[], [0], [0, 1], [0, 1], [0, 1], [0, 1, 2, 3, 4], [0, 1, 2, 3, 4, 5], [0, 1, 2, 3, 4, 5, 6], [0, 1, 2, 3, 4, 5, 6, 7], [0, 1, 2, 3, 4, 5, 6, 7], [0, 1, 2, 3, 4, 5, 6, 7], [0, 1, 2, 3, 4, 5, 6, 7, 8, 9, 10], [0, 1, 2, 3, 4, 5, 6, 7, 8, 9, 10, 11], [0, 1, 2, 3, 4, 5, 6, 7, 8, 9, 10, 11, 12], [0, 1, 2, 3, 4, 5, 6, 7, 8, 9, 10, 11, 12], [0, 1, 2, 3, 4, 5, 6, 7, 8, 9, 10, 11, 12, 13, 14], [0, 1, 2, 3, 4, 5, 6, 7, 8, 9, 10, 11, 12, 13, 14, 15], [0, 1, 2, 3, 4, 5, 6, 7, 8, 9, 10, 11, 12, 13, 14, 15, 16], [0, 1, 2, 3, 4, 5, 6, 7, 8, 9, 10, 11, 12, 13, 14, 15, 16, 17], [0, 1, 2, 3, 4, 5, 6, 7, 8, 9, 10, 11, 12, 13, 14, 15, 16, 17, 18], [0, 1, 2, 3, 4, 5, 6, 7, 8, 9, 10, 11, 12, 13, 14, 15, 16, 17, 18, 19], [0, 1, 2, 3, 4, 5, 6, 7, 8, 9, 10, 11, 12, 13, 14, 15, 16, 17, 18, 19], [0, 1, 2, 3, 4, 5, 6, 7, 8, 9, 10, 11, 12, 13, 14, 15, 16, 17, 18, 19, 20, 21], [0, 1, 2, 3, 4, 5, 6, 7, 8, 9, 10, 11, 12, 13, 14, 15, 16, 17, 18, 19], [0, 1, 2, 3, 4, 5, 6, 7, 8, 9, 10, 11, 12, 13, 14, 15, 16, 17, 18, 19], [0, 1, 2, 3, 4, 5, 6, 7, 8, 9, 10, 11, 12, 13, 14, 15, 16, 17, 18, 19, 20, 21, 22, 23, 24], [0, 1, 2, 3, 4, 5, 6, 7, 8, 9, 10, 11, 12, 13, 14, 15, 16, 17, 18, 19, 20, 21, 22, 23, 24, 25], [0, 1, 2, 3, 4, 5, 6, 7, 8, 9, 10, 11, 12, 13, 14, 15, 16, 17, 18, 19, 20, 21, 22, 23, 24, 25, 26], [0, 1, 2, 3, 4, 5, 6, 7, 8, 9, 10, 11, 12, 13, 14, 15, 16, 17, 18, 19, 20, 21, 22, 23, 24, 25, 26, 27], [0, 1, 2, 3, 4, 5, 6, 7, 8, 9, 10, 11, 12, 13, 14, 15, 16, 17, 18, 19, 20, 21, 22, 23, 24, 25, 26, 27, 28]], by kernel_rfl, ?_⟩
                conv => whnf
                refine ⟨(), rfl, trivial, ?_⟩
                conv => whnf
                rfl
            · refine ⟨(a, b, q), rfl, ⟨PV.sz_mono sa (by decide), PV.sz_mono sb (by decide), PV.sz_mono sq (by decide)⟩, ?_⟩
              rw [show betweenS.val (a, b, q) = .bool (false) from congrArg (Value.bool) (show decide (betR a.p b.p q.p) = false from decide_eq_false (by rw [pq]; exact fun h => (bet_at.1 h).elim hin hab))]
              conv => whnf
              obtain ⟨c, ec, pc⟩ := hideZ (cmpR a.p b.p)
              refine ⟨(a, b), rfl, ⟨PV.sz_mono sa (by decide), PV.sz_mono sb (by decide)⟩, ?_⟩
              rw [show vcmpS.val (a, b) = .int .i64 c from ec]
              conv => whnf
              have hc : c ≠ 0 := by rw [pc]; exact fun h => hab (cmpR_zero.1 h)
              rw [show (c == 0) = false from by simp [hc]]
              conv => whnf
              refine ⟨(a, b, a), rfl, ⟨PV.sz_mono sa (by decide), PV.sz_mono sb (by decide), PV.sz_mono sa (by decide)⟩, ?_⟩
              rw [show betweenS.val (a, b, a) = .bool (true) from congrArg (Value.bool) (show decide (betR a.p b.p a.p) = true from decide_eq_true (bet_ends a.p b.p).1)]
              conv => whnf
              refine ⟨(a, b, b), rfl, ⟨PV.sz_mono sa (by decide), PV.sz_mono sb (by decide), PV.sz_mono sb (by decide)⟩, ?_⟩
              rw [show betweenS.val (a, b, b) = .bool (true) from congrArg (Value.bool) (show decide (betR a.p b.p b.p) = true from decide_eq_true (bet_ends a.p b.p).2)]
              conv => whnf
              by_cases hon : betR a.p b.p p.p
              · refine ⟨(a, b, p), rfl, ⟨PV.sz_mono sa (by decide), PV.sz_mono sb (by decide), PV.sz_mono sp (by decide)⟩, ?_⟩
                rw [show betweenS.val (a, b, p) = .bool (true) from congrArg (Value.bool) (show decide (betR a.p b.p p.p) = true from decide_eq_true hon)]
                conv => whnf
                refine ⟨(b, a, p), rfl, ⟨PV.sz_mono sb (by decide), PV.sz_mono sa (by decide), PV.sz_mono sp (by decide)⟩, ?_⟩
                rw [show betweenS.val (b, a, p) = .bool (true) from congrArg (Value.bool) (show decide (betR b.p a.p p.p) = true from decide_eq_true (bet_symm.1 hon))]
                conv => whnf
                refine .inl ⟨25, [[], [0], [0, 1], [0, 1], [0, 1], [0, 1, 2, 3, 4], [0, 1, 2, 3, 4, 5], [0, 1, 2, 3, 4, 5, 6], [0, 1, 2, 3, 4, 5, 6, 7], [0, 1, 2, 3, 4, 5, 6, 7], [0, 1, 2, 3, 4, 5, 6, 7], [0, 1, 2, 3, 4, 5, 6, 7, 8, 9, 10], [0, 1, 2, 3, 4, 5, 6, 7, 8, 9, 10, 11], [0, 1, 2, 3, 4, 5, 6, 7, 8, 9, 10, 11, 12], [0, 1, 2, 3, 4, 5, 6, 7, 8, 9, 10, 11, 12], [0, 1, 2, 3, 4, 5, 6, 7, 8, 9, 10, 11, 12, 13, 14], [0, 1, 2, 3, 4, 5, 6, 7, 8, 9, 10, 11, 12, 13, 14, 15], [0, 1, 2, 3, 4, 5, 6, 7, 8, 9, 10, 11, 12, 13, 14, 15, 16], [0, 1, 2, 3, 4, 5, 6, 7, 8, 9, 10, 11, 12, 13, 14, 15, 16, 17], [0, 1, 2, 3, 4, 5, 6, 7, 8, 9, 10, 11, 12, 13, 14, 15, 16, 17, 18], [0, 1, 2, 3, 4, 5, 6, 7, 8, 9, 10, 11, 12, 13, 14, 15, 16, 17, 18, 19], [0, 1, 2, 3, 4, 5, 6, 7, 8, 9, 10, 11, 12, 13, 14, 15, 16, 17, 18, 19], [0, 1, 2, 3, 4, 5, 6, 7, 8, 9, 10, 11, 12, 13, 14, 15, 16, 17, 18, 19, 20, 21], [0, 1, 2, 3, 4, 5, 6, 7, 8, 9, 10, 11, 12, 13, 14, 15, 16, 17, 18, 19], [0, 1, 2, 3, 4, 5, 6, 7, 8, 9, 10, 11, 12, 13, 14, 15, 16, 17, 18, 19], [0, 1, 2, 3, 4, 5, 6, 7, 8, 9, 10, 11, 12, 13, 14, 15, 16, 17, 18, 19, 20, 21, 22, 23, 24], [0, 1, 2, 3, 4, 5, 6, 7, 8, 9, 10, 11, 12, 13, 14, 15, 16, 17, 18, 19, 20, 21, 22, 23, 24, 25], [0, 1, 2, 3, 4, 5, 6, 7, 8, 9, 10, 11, 12, 13, 14, 15, 16, 17, 18, 19, 20, 21, 22, 23, 24, 25, 26], [0, 1, 2, 3, 4, 5, 6, 7, 8, 9, 10, 11, 12, 13, 14, 15, 16, 17, 18, 19, 20, 21, 22, 23, 24, 25, 26, 27], [0, 1, 2, 3, 4, 5, 6, 7, 8, 9, 10, 11, 12, 13, 14, 15, 16, 17, 18, 19, 20, 21, 22, 23, 24, 25, 26, 27, 28]], by kernel_rfl, ?_⟩
                conv => whnf
                refine ⟨(a, b, p), rfl, ⟨PV.sz_mono sa (by decide), PV.sz_mono sb (by decide), PV.sz_mono sp (by decide)⟩, ?_⟩
                rw [show orientS.val (a, b, p) = .int .i64 (0) from congrArg (Value.int .i64) (show cmpQ (orR a.p b.p p.p) 0 = 0 from cmpQ_eq hon.1)]
                conv => whnf
                by_cases hb : betR a.p p.p b.p
                · refine ⟨(a, p, b), rfl, ⟨PV.sz_mono sa (by decide), PV.sz_mono sp (by decide), PV.sz_mono sb (by decide)⟩, ?_⟩
                  rw [show betweenS.val (a, p, b) = .bool (true) from congrArg (Value.bool) (show decide (betR a.p p.p b.p) = true from decide_eq_true hb)]
                  conv => whnf
                  refine ⟨(b, p), rfl, ⟨PV.sz_mono sb (by decide), PV.sz_mono sp (by decide)⟩, ?_⟩
                  rw [show vcmpS.val (b, p) = .int .i64 (0) from congrArg (Value.int .i64) (show cmpR b.p p.p = 0 from cmpR_zero.2 (bet_back hon hb))]
                  conv => whnf
                  obtain ⟨d1, ed1, pd1, sd1, qd1⟩ := hideR (dst_sz qa qp)
                  refine ⟨(a, p), rfl, ⟨PV.sz_mono sa (by decide), PV.sz_mono sp (by decide)⟩, ?_⟩
                  rw [show vdistS.val (a, p) = d1.v from (dist_val a p).trans ed1]
                  conv => whnf
                  obtain ⟨d2, ed2, pd2, sd2, qd2⟩ := hideR (dst_sz qa qb)
                  refine ⟨(a, b), rfl, ⟨PV.sz_mono sa (by decide), PV.sz_mono sb (by decide)⟩, ?_⟩
                  rw [show vdistS.val (a, b) = d2.v from (dist_val a b).trans ed2]
                  conv => whnf
                  obtain ⟨n, en, pn⟩ := hideZ (cmpQ d1.q d2.q)
                  refine ⟨(d1, d2), rfl, ⟨RV.sz_ok sd1 (by decide), RV.sz_ok sd2 (by decide)⟩, ?_⟩
                  rw [show qcmpS.val (d1, d2) = .int .i64 n from en]
                  conv => whnf
                  have hn : n ≤ 0 := by rw [pn, pd1, pd2]; exact cmpQ_le.2 (bet_dist hon)
                  rw [show decide (n > 0) = false from decide_eq_false (by omega)]
                  conv => whnf
                  refine ⟨(), rfl, trivial, ?_⟩
                  conv => whnf
                  rfl
                · refine ⟨(a, p, b), rfl, ⟨PV.sz_mono sa (by decide), PV.sz_mono sp (by decide), PV.sz_mono sb (by decide)⟩, ?_⟩
                  rw [show betweenS.val (a, p, b) = .bool (false) from congrArg (Value.bool) (show decide (betR a.p p.p b.p) = false from decide_eq_false hb)]
                  conv => whnf
                  obtain ⟨d1, ed1, pd1, sd1, qd1⟩ := hideR (dst_sz qa qp)
                  refine ⟨(a, p), rfl, ⟨PV.sz_mono sa (by decide), PV.sz_mono sp (by decide)⟩, ?_⟩
                  rw [show vdistS.val (a, p) = d1.v from (dist_val a p).trans ed1]
                  conv => whnf
                  obtain ⟨d2, ed2, pd2, sd2, qd2⟩ := hideR (dst_sz qa qb)
                  refine ⟨(a, b), rfl, ⟨PV.sz_mono sa (by decide), PV.sz_mono sb (by decide)⟩, ?_⟩
                  rw [show vdistS.val (a, b) = d2.v from (dist_val a b).trans ed2]
                  conv => whnf
                  obtain ⟨n, en, pn⟩ := hideZ (cmpQ d1.q d2.q)
                  refine ⟨(d1, d2), rfl, ⟨RV.sz_ok sd1 (by decide), RV.sz_ok sd2 (by decide)⟩, ?_⟩
                  rw [show qcmpS.val (d1, d2) = .int .i64 n from en]
                  conv => whnf
                  have hn : n ≤ 0 := by rw [pn, pd1, pd2]; exact cmpQ_le.2 (bet_dist hon)
                  rw [show decide (n > 0) = false from decide_eq_false (by omega)]
                  conv => whnf
                  refine ⟨(), rfl, trivial, ?_⟩
                  conv => whnf
                  rfl
              · refine ⟨(a, b, p), rfl, ⟨PV.sz_mono sa (by decide), PV.sz_mono sb (by decide), PV.sz_mono sp (by decide)⟩, ?_⟩
                rw [show betweenS.val (a, b, p) = .bool (false) from congrArg (Value.bool) (show decide (betR a.p b.p p.p) = false from decide_eq_false hon)]
                conv => whnf
                refine ⟨(b, a, p), rfl, ⟨PV.sz_mono sb (by decide), PV.sz_mono sa (by decide), PV.sz_mono sp (by decide)⟩, ?_⟩
                rw [show betweenS.val (b, a, p) = .bool (false) from congrArg (Value.bool) (show decide (betR b.p a.p p.p) = false from decide_eq_false (fun h => hon (bet_symm.2 h)))]
                conv => whnf
                refine .inl ⟨25, [[], [0], [0, 1], [0, 1], [0, 1], [0, 1, 2, 3, 4], [0, 1, 2, 3, 4, 5], [0, 1, 2, 3, 4, 5, 6], [0, 1, 2, 3, 4, 5, 6, 7], [0, 1, 2, 3, 4, 5, 6, 7], [0, 1, 2, 3, 4, 5, 6, 7], [0, 1, 2, 3, 4, 5, 6, 7, 8, 9, 10], [0, 1, 2, 3, 4, 5, 6, 7, 8, 9, 10, 11], [0, 1, 2, 3, 4, 5, 6, 7, 8, 9, 10, 11, 12], [0, 1, 2, 3, 4, 5, 6, 7, 8, 9, 10, 11, 12], [0, 1, 2, 3, 4, 5, 6, 7, 8, 9, 10, 11, 12, 13, 14], [0, 1, 2, 3, 4, 5, 6, 7, 8, 9, 10, 11, 12, 13, 14, 15], [0, 1, 2, 3, 4, 5, 6, 7, 8, 9, 10, 11, 12, 13, 14, 15, 16], [0, 1, 2, 3, 4, 5, 6, 7, 8, 9, 10, 11, 12, 13, 14, 15, 16, 17], [0, 1, 2, 3, 4, 5, 6, 7, 8, 9, 10, 11, 12, 13, 14, 15, 16, 17, 18], [0, 1, 2, 3, 4, 5, 6, 7, 8, 9, 10, 11, 12, 13, 14, 15, 16, 17, 18, 19], [0, 1, 2, 3, 4, 5, 6, 7, 8, 9, 10, 11, 12, 13, 14, 15, 16, 17, 18, 19], [0, 1, 2, 3, 4, 5, 6, 7, 8, 9, 10, 11, 12, 13, 14, 15, 16, 17, 18, 19, 20, 21], [0, 1, 2, 3, 4, 5, 6, 7, 8, 9, 10, 11, 12, 13, 14, 15, 16, 17, 18, 19], [0, 1, 2, 3, 4, 5, 6, 7, 8, 9, 10, 11, 12, 13, 14, 15, 16, 17, 18, 19], [0, 1, 2, 3, 4, 5, 6, 7, 8, 9, 10, 11, 12, 13, 14, 15, 16, 17, 18, 19, 20, 21, 22, 23, 24], [0, 1, 2, 3, 4, 5, 6, 7, 8, 9, 10, 11, 12, 13, 14, 15, 16, 17, 18, 19, 20, 21, 22, 23, 24, 25], [0, 1, 2, 3, 4, 5, 6, 7, 8, 9, 10, 11, 12, 13, 14, 15, 16, 17, 18, 19, 20, 21, 22, 23, 24, 25, 26], [0, 1, 2, 3, 4, 5, 6, 7, 8, 9, 10, 11, 12, 13, 14, 15, 16, 17, 18, 19, 20, 21, 22, 23, 24, 25, 26, 27], [0, 1, 2, 3, 4, 5, 6, 7, 8, 9, 10, 11, 12, 13, 14, 15, 16, 17, 18, 19, 20, 21, 22, 23, 24, 25, 26, 27, 28]], by kernel_rfl, ?_⟩
                conv => whnf
                refine ⟨(), rfl, trivial, ?_⟩
                conv => whnf
                rfl
        · rw [show decide (n1 ≥ 0) = false from decide_eq_false (by rw [pn1]; exact fun h => ht0 (cmpQ_ge.1 h))]
          have hin : ¬ (0 ≤ t.q ∧ t.q ≤ 1) := fun h => ht0 h.1
          conv => whnf
          by_cases hab : a.p.1 = b.p.1 ∧ a.p.2 = b.p.2
          · refine ⟨(a, b, q), rfl, ⟨PV.sz_mono sa (by decide), PV.sz_mono sb (by decide), PV.sz_mono sq (by decide)⟩, ?_⟩
            rw [show betweenS.val (a, b, q) = .bool (true) from congrArg (Value.bool) (show decide (betR a.p b.p q.p) = true from decide_eq_true (by rw [pq]; exact bet_at.2 (.inr hab)))]
            conv => whnf
            refine ⟨(a, b), rfl, ⟨PV.sz_mono sa (by decide), PV.sz_mono sb (by decide)⟩, ?_⟩
            rw [show vcmpS.val (a, b) = .int .i64 (0) from congrArg (Value.int .i64) (show cmpR a.p b.p = 0 from cmpR_zero.2 hab)]
            conv => whnf
            refine ⟨(a, b, a), rfl, ⟨PV.sz_mono sa (by decide), PV.sz_mono sb (by decide), PV.sz_mono sa (by decide)⟩, ?_⟩
            rw [show betweenS.val (a, b, a) = .bool (true) from congrArg (Value.bool) (show decide (betR a.p b.p a.p) = true from decide_eq_true (bet_ends a.p b.p).1)]
            conv => whnf
            refine ⟨(a, b, b), rfl, ⟨PV.sz_mono sa (by decide), PV.sz_mono sb (by decide), PV.sz_mono sb (by decide)⟩, ?_⟩
            rw [show betweenS.val (a, b, b) = .bool (true) from congrArg (Value.bool) (show decide (betR a.p b.p b.p) = true from decide_eq_true (bet_ends a.p b.p).2)]
            conv => whnf
            by_cases hon : betR a.p b.p p.p
            · refine ⟨(a, b, p), rfl, ⟨PV.sz_mono sa (by decide), PV.sz_mono sb (by decide), PV.sz_mono sp (by decide)⟩, ?_⟩
              rw [show betweenS.val (a, b, p) = .bool (true) from congrArg (Value.bool) (show decide (betR a.p b.p p.p) = true from decide_eq_true hon)]
              conv => whnf
              refine ⟨(b, a, p), rfl, ⟨PV.sz_mono sb (by decide), PV.sz_mono sa (by decide), PV.sz_mono sp (by decide)⟩, ?_⟩
              rw [show betweenS.val (b, a, p) = .bool (true) from congrArg (Value.bool) (show decide (betR b.p a.p p.p) = true from decide_eq_true (bet_symm.1 hon))]
              conv => whnf
              refine .inl ⟨25, [[], [0], [0, 1], [0, 1], [0, 1], [0, 1, 2, 3, 4], [0, 1, 2, 3, 4, 5], [0, 1, 2, 3, 4, 5, 6], [0, 1, 2, 3, 4, 5, 6, 7], [0, 1, 2, 3, 4, 5, 6, 7], [0, 1, 2, 3, 4, 5, 6, 7], [0, 1, 2, 3, 4, 5, 6, 7, 8, 9, 10], [0, 1, 2, 3, 4, 5, 6, 7, 8, 9, 10, 11], [0, 1, 2, 3, 4, 5, 6, 7, 8, 9, 10, 11, 12], [0, 1, 2, 3, 4, 5, 6, 7, 8, 9, 10, 11, 12], [0, 1, 2, 3, 4, 5, 6, 7, 8, 9, 10, 11, 12, 13, 14], [0, 1, 2, 3, 4, 5, 6, 7, 8, 9, 10, 11, 12, 13, 14, 15], [0, 1, 2, 3, 4, 5, 6, 7, 8, 9, 10, 11, 12, 13, 14, 15, 16], [0, 1, 2, 3, 4, 5, 6, 7, 8, 9, 10, 11, 12, 13, 14, 15, 16, 17], [0, 1, 2, 3, 4, 5, 6, 7, 8, 9, 10, 11, 12, 13, 14, 15, 16, 17, 18], [0, 1, 2, 3, 4, 5, 6, 7, 8, 9, 10, 11, 12, 13, 14, 15, 16, 17, 18, 19], [0, 1, 2, 3, 4, 5, 6, 7, 8, 9, 10, 11, 12, 13, 14, 15, 16, 17, 18, 19], [0, 1, 2, 3, 4, 5, 6, 7, 8, 9, 10, 11, 12, 13, 14, 15, 16, 17, 18, 19, 20, 21], [0, 1, 2, 3, 4, 5, 6, 7, 8, 9, 10, 11, 12, 13, 14, 15, 16, 17, 18, 19], [0, 1, 2, 3, 4, 5, 6, 7, 8, 9, 10, 11, 12, 13, 14, 15, 16, 17, 18, 19], [0, 1, 2, 3, 4, 5, 6, 7, 8, 9, 10, 11, 12, 13, 14, 15, 16, 17, 18, 19, 20, 21, 22, 23, 24], [0, 1, 2, 3, 4, 5, 6, 7, 8, 9, 10, 11, 12, 13, 14, 15, 16, 17, 18, 19, 20, 21, 22, 23, 24, 25], [0, 1, 2, 3, 4, 5, 6, 7, 8, 9, 10, 11, 12, 13, 14, 15, 16, 17, 18, 19, 20, 21, 22, 23, 24, 25, 26], [0, 1, 2, 3, 4, 5, 6, 7, 8, 9, 10, 11, 12, 13, 14, 15, 16, 17, 18, 19, 20, 21, 22, 23, 24, 25, 26, 27], [0, 1, 2, 3, 4, 5, 6, 7, 8, 9, 10, 11, 12, 13, 14, 15, 16, 17, 18, 19, 20, 21, 22, 23, 24, 25, 26, 27, 28]], by kernel_rfl, ?_⟩
              conv => whnf
              refine ⟨(a, b, p), rfl, ⟨PV.sz_mono sa (by decide), PV.sz_mono sb (by decide), PV.sz_mono sp (by decide)⟩, ?_⟩
              rw [show orientS.val (a, b, p) = .int .i64 (0) from congrArg (Value.int .i64) (show cmpQ (orR a.p b.p p.p) 0 = 0 from cmpQ_eq hon.1)]
              conv => whnf
              by_cases hb : betR a.p p.p b.p
              · refine ⟨(a, p, b), rfl, ⟨PV.sz_mono sa (by decide), PV.sz_mono sp (by decide), PV.sz_mono sb (by decide)⟩, ?_⟩
                rw [show betweenS.val (a, p, b) = .bool (true) from congrArg (Value.bool) (show decide (betR a.p p.p b.p) = true from decide_eq_true hb)]
                conv => whnf
                refine ⟨(b, p), rfl, ⟨PV.sz_mono sb (by decide), PV.sz_mono sp (by decide)⟩, ?_⟩
                rw [show vcmpS.val (b, p) = .int .i64 (0) from congrArg (Value.int .i64) (show cmpR b.p p.p = 0 from cmpR_zero.2 (bet_back hon hb))]
                conv => whnf
                obtain ⟨d1, ed1, pd1, sd1, qd1⟩ := hideR (dst_sz qa qp)
                refine ⟨(a, p), rfl, ⟨PV.sz_mono sa (by decide), PV.sz_mono sp (by decide)⟩, ?_⟩
                rw [show vdistS.val (a, p) = d1.v from (dist_val a p).trans ed1]
                conv => whnf
                obtain ⟨d2, ed2, pd2, sd2, qd2⟩ := hideR (dst_sz qa qb)
                refine ⟨(a, b), rfl, ⟨PV.sz_mono sa (by decide), PV.sz_mono sb (by decide)⟩, ?_⟩
                rw [show vdistS.val (a, b) = d2.v from (dist_val a b).trans ed2]
                conv => whnf
                obtain ⟨n, en, pn⟩ := hideZ (cmpQ d1.q d2.q)
                refine ⟨(d1, d2), rfl, ⟨RV.sz_ok sd1 (by decide), RV.sz_ok sd2 (by decide)⟩, ?_⟩
                rw [show qcmpS.val (d1, d2) = .int .i64 n from en]
                conv => whnf
                have hn : n ≤ 0 := by rw [pn, pd1, pd2]; exact cmpQ_le.2 (bet_dist hon)
                rw [show decide (n > 0) = false from decide_eq_false (by omega)]
                conv => whnf
                refine ⟨(), rfl, trivial, ?_⟩
                conv => whnf
                rfl
              · refine ⟨(a, p, b), rfl, ⟨PV.sz_mono sa (by decide), PV.sz_mono sp (by decide), PV.sz_mono sb (by decide)⟩, ?_⟩
                rw [show betweenS.val (a, p, b) = .bool (false) from congrArg (Value.bool) (show decide (betR a.p p.p b.p) = false from decide_eq_false hb)]
                conv => whnf
                obtain ⟨d1, ed1, pd1, sd1, qd1⟩ := hideR (dst_sz qa qp)
                refine ⟨(a, p), rfl, ⟨PV.sz_mono sa (by decide), PV.sz_mono sp (by decide)⟩, ?_⟩
                rw [show vdistS.val (a, p) = d1.v from (dist_val a p).trans ed1]
                conv => whnf
                obtain ⟨d2, ed2, pd2, sd2, qd2⟩ := hideR (dst_sz qa qb)
                refine ⟨(a, b), rfl, ⟨PV.sz_mono sa (by decide), PV.sz_mono sb (by decide)⟩, ?_⟩
                rw [show vdistS.val (a, b) = d2.v from (dist_val a b).trans ed2]
                conv => whnf
                obtain ⟨n, en, pn⟩ := hideZ (cmpQ d1.q d2.q)
                refine ⟨(d1, d2), rfl, ⟨RV.sz_ok sd1 (by decide), RV.sz_ok sd2 (by decide)⟩, ?_⟩
                rw [show qcmpS.val (d1, d2) = .int .i64 n from en]
                conv => whnf
                have hn : n ≤ 0 := by rw [pn, pd1, pd2]; exact cmpQ_le.2 (bet_dist hon)
                rw [show decide (n > 0) = false from decide_eq_false (by omega)]
                conv => whnf
                refine ⟨(), rfl, trivial, ?_⟩
                conv => whnf
                rfl
            · refine ⟨(a, b, p), rfl, ⟨PV.sz_mono sa (by decide), PV.sz_mono sb (by decide), PV.sz_mono sp (by decide)⟩, ?_⟩
              rw [show betweenS.val (a, b, p) = .bool (false) from congrArg (Value.bool) (show decide (betR a.p b.p p.p) = false from decide_eq_false hon)]
              conv => whnf
              refine ⟨(b, a, p), rfl, ⟨PV.sz_mono sb (by decide), PV.sz_mono sa (by decide), PV.sz_mono sp (by decide)⟩, ?_⟩
              rw [show betweenS.val (b, a, p) = .bool (false) from congrArg (Value.bool) (show decide (betR b.p a.p p.p) = false from decide_eq_false (fun h => hon (bet_symm.2 h)))]
              conv => whnf
              refine .inl ⟨25, [[], [0], [0, 1], [0, 1], [0, 1], [0, 1, 2, 3, 4], [0, 1, 2, 3, 4, 5], [0, 1, 2, 3, 4, 5, 6], [0, 1, 2, 3, 4, 5, 6, 7], [0, 1, 2, 3, 4, 5, 6, 7], [0, 1, 2, 3, 4, 5, 6, 7], [0, 1, 2, 3, 4, 5, 6, 7, 8, 9, 10], [0, 1, 2, 3, 4, 5, 6, 7, 8, 9, 10, 11], [0, 1, 2, 3, 4, 5, 6, 7, 8, 9, 10, 11, 12], [0, 1, 2, 3, 4, 5, 6, 7, 8, 9, 10, 11, 12], [0, 1, 2, 3, 4, 5, 6, 7, 8, 9, 10, 11, 12, 13, 14], [0, 1, 2, 3, 4, 5, 6, 7, 8, 9, 10, 11, 12, 13, 14, 15], [0, 1, 2, 3, 4, 5, 6, 7, 8, 9, 10, 11, 12, 13, 14, 15, 16], [0, 1, 2, 3, 4, 5, 6, 7, 8, 9, 10, 11, 12, 13, 14, 15, 16, 17], [0, 1, 2, 3, 4, 5, 6, 7, 8, 9, 10, 11, 12, 13, 14, 15, 16, 17, 18], [0, 1, 2, 3, 4, 5, 6, 7, 8, 9, 10, 11, 12, 13, 14, 15, 16, 17, 18, 19], [0, 1, 2, 3, 4, 5, 6, 7, 8, 9, 10, 11, 12, 13, 14, 15, 16, 17, 18, 19], [0, 1, 2, 3, 4, 5, 6, 7, 8, 9, 10, 11, 12, 13, 14, 15, 16, 17, 18, 19, 20, 21], [0, 1, 2, 3, 4, 5, 6, 7, 8, 9, 10, 11, 12, 13, 14, 15, 16, 17, 18, 19], [0, 1, 2, 3, 4, 5, 6, 7, 8, 9, 10, 11, 12, 13, 14, 15, 16, 17, 18, 19], [0, 1, 2, 3, 4, 5, 6, 7, 8, 9, 10, 11, 12, 13, 14, 15, 16, 17, 18, 19, 20, 21, 22, 23, 24], [0, 1, 2, 3, 4, 5, 6, 7, 8, 9, 10, 11, 12, 13, 14, 15, 16, 17, 18, 19, 20, 21, 22, 23, 24, 25], [0, 1, 2, 3, 4, 5, 6, 7, 8, 9, 10, 11, 12, 13, 14, 15, 16, 17, 18, 19, 20, 21, 22, 23, 24, 25, 26], [0, 1, 2, 3, 4, 5, 6, 7, 8, 9, 10, 11, 12, 13, 14, 15, 16, 17, 18, 19, 20, 21, 22, 23, 24, 25, 26, 27], [0, 1, 2, 3, 4, 5, 6, 7, 8, 9, 10, 11, 12, 13, 14, 15, 16, 17, 18, 19, 20, 21, 22, 23, 24, 25, 26, 27, 28]], by kernel_rfl, ?_⟩
              conv => whnf
              refine ⟨(), rfl, trivial, ?_⟩
              conv => whnf
              rfl
          · refine ⟨(a, b, q), rfl, ⟨PV.sz_mono sa (by decide), PV.sz_mono sb (by decide), PV.sz_mono sq (by decide)⟩, ?_⟩
            rw [show betweenS.val (a, b, q) = .bool (false) from congrArg (Value.bool) (show decide (betR a.p b.p q.p) = false from decide_eq_false (by rw [pq]; exact fun h => (bet_at.1 h).elim hin hab))]
            conv => whnf
            obtain ⟨c, ec, pc⟩ := hideZ (cmpR a.p b.p)
            refine ⟨(a, b), rfl, ⟨PV.sz_mono sa (by decide), PV.sz_mono sb (by decide)⟩, ?_⟩
            rw [show vcmpS.val (a, b) = .int .i64 c from ec]
            conv => whnf
            have hc : c ≠ 0 := by rw [pc]; exact fun h => hab (cmpR_zero.1 h)
            rw [show (c == 0) = false from by simp [hc]]
            conv => whnf
            refine ⟨(a, b, a), rfl, ⟨PV.sz_mono sa (by decide), PV.sz_mono sb (by decide), PV.sz_mono sa (by decide)⟩, ?_⟩
            rw [show betweenS.val (a, b, a) = .bool (true) from congrArg (Value.bool) (show decide (betR a.p b.p a.p) = true from decide_eq_true (bet_ends a.p b.p).1)]
            conv => whnf
            refine ⟨(a, b, b), rfl, ⟨PV.sz_mono sa (by decide), PV.sz_mono sb (by decide), PV.sz_mono sb (by decide)⟩, ?_⟩
            rw [show betweenS.val (a, b, b) = .bool (true) from congrArg (Value.bool) (show decide (betR a.p b.p b.p) = true from decide_eq_true (bet_ends a.p b.p).2)]
            conv => whnf
            by_cases hon : betR a.p b.p p.p
            · refine ⟨(a, b, p), rfl, ⟨PV.sz_mono sa (by decide), PV.sz_mono sb (by decide), PV.sz_mono sp (by decide)⟩, ?_⟩
              rw [show betweenS.val (a, b, p) = .bool (true) from congrArg (Value.bool) (show decide (betR a.p b.p p.p) = true from decide_eq_true hon)]
              conv => whnf
              refine ⟨(b, a, p), rfl, ⟨PV.sz_mono sb (by decide), PV.sz_mono sa (by decide), PV.sz_mono sp (by decide)⟩, ?_⟩
              rw [show betweenS.val (b, a, p) = .bool (true) from congrArg (Value.bool) (show decide (betR b.p a.p p.p) = true from decide_eq_true (bet_symm.1 hon))]
              conv => whnf
              refine .inl ⟨25, [[], [0], [0, 1], [0, 1], [0, 1], [0, 1, 2, 3, 4], [0, 1, 2, 3, 4, 5], [0, 1, 2, 3, 4, 5, 6], [0, 1, 2, 3, 4, 5, 6, 7], [0, 1, 2, 3, 4, 5, 6, 7], [0, 1, 2, 3, 4, 5, 6, 7], [0, 1, 2, 3, 4, 5, 6, 7, 8, 9, 10], [0, 1, 2, 3, 4, 5, 6, 7, 8, 9, 10, 11], [0, 1, 2, 3, 4, 5, 6, 7, 8, 9, 10, 11, 12], [0, 1, 2, 3, 4, 5, 6, 7, 8, 9, 10, 11, 12], [0, 1, 2, 3, 4, 5, 6, 7, 8, 9, 10, 11, 12, 13, 14], [0, 1, 2, 3, 4, 5, 6, 7, 8, 9, 10, 11, 12, 13, 14, 15], [0, 1, 2, 3, 4, 5, 6, 7, 8, 9, 10, 11, 12, 13, 14, 15, 16], [0, 1, 2, 3, 4, 5, 6, 7, 8, 9, 10, 11, 12, 13, 14, 15, 16, 17], [0, 1, 2, 3, 4, 5, 6, 7, 8, 9, 10, 11, 12, 13, 14, 15, 16, 17, 18], [0, 1, 2, 3, 4, 5, 6, 7, 8, 9, 10, 11, 12, 13, 14, 15, 16, 17, 18, 19], [0, 1, 2, 3, 4, 5, 6, 7, 8, 9, 10, 11, 12, 13, 14, 15, 16, 17, 18, 19], [0, 1, 2, 3, 4, 5, 6, 7, 8, 9, 10, 11, 12, 13, 14, 15, 16, 17, 18, 19, 20, 21], [0, 1, 2, 3, 4, 5, 6, 7, 8, 9, 10, 11, 12, 13, 14, 15, 16, 17, 18, 19], [0, 1, 2, 3, 4, 5, 6, 7, 8, 9, 10, 11, 12, 13, 14, 15, 16, 17, 18, 19], [0, 1, 2, 3, 4, 5, 6, 7, 8, 9, 10, 11, 12, 13, 14, 15, 16, 17, 18, 19, 20, 21, 22, 23, 24], [0, 1, 2, 3, 4, 5, 6, 7, 8, 9, 10, 11, 12, 13, 14, 15, 16, 17, 18, 19, 20, 21, 22, 23, 24, 25], [0, 1, 2, 3, 4, 5, 6, 7, 8, 9, 10, 11, 12, 13, 14, 15, 16, 17, 18, 19, 20, 21, 22, 23, 24, 25, 26], [0, 1, 2, 3, 4, 5, 6, 7, 8, 9, 10, 11, 12, 13, 14, 15, 16, 17, 18, 19, 20, 21, 22, 23, 24, 25, 26, 27], [0, 1, 2, 3, 4, 5, 6, 7, 8, 9, 10, 11, 12, 13, 14, 15, 16, 17, 18, 19, 20, 21, 22, 23, 24, 25, 26, 27, 28]], by kernel_rfl, ?_⟩
              conv => whnf
              refine ⟨(a, b, p), rfl, ⟨PV.sz_mono sa (by decide), PV.sz_mono sb (by decide), PV.sz_mono sp (by decide)⟩, ?_⟩
              rw [show orientS.val (a, b, p) = .int .i64 (0) from congrArg (Value.int .i64) (show cmpQ (orR a.p b.p p.p) 0 = 0 from cmpQ_eq hon.1)]
              conv => whnf
              by_cases hb : betR a.p p.p b.p
              · refine ⟨(a, p, b), rfl, ⟨PV.sz_mono sa (by decide), PV.sz_mono sp (by decide), PV.sz_mono sb (by decide)⟩, ?_⟩
                rw [show betweenS.val (a, p, b) = .bool (true) from congrArg (Value.bool) (show decide (betR a.p p.p b.p) = true from decide_eq_true hb)]
                conv => whnf
                refine ⟨(b, p), rfl, ⟨PV.sz_mono sb (by decide), PV.sz_mono sp (by decide)⟩, ?_⟩
                rw [show vcmpS.val (b, p) = .int .i64 (0) from congrArg (Value.int .i64) (show cmpR b.p p.p = 0 from cmpR_zero.2 (bet_back hon hb))]
                conv => whnf
                obtain ⟨d1, ed1, pd1, sd1, qd1⟩ := hideR (dst_sz qa qp)
                refine ⟨(a, p), rfl, ⟨PV.sz_mono sa (by decide), PV.sz_mono sp (by decide)⟩, ?_⟩
                rw [show vdistS.val (a, p) = d1.v from (dist_val a p).trans ed1]
                conv => whnf
                obtain ⟨d2, ed2, pd2, sd2, qd2⟩ := hideR (dst_sz qa qb)
                refine ⟨(a, b), rfl, ⟨PV.sz_mono sa (by decide), PV.sz_mono sb (by decide)⟩, ?_⟩
                rw [show vdistS.val (a, b) = d2.v from (dist_val a b).trans ed2]
                conv => whnf
                obtain ⟨n, en, pn⟩ := hideZ (cmpQ d1.q d2.q)
                refine ⟨(d1, d2), rfl, ⟨RV.sz_ok sd1 (by decide), RV.sz_ok sd2 (by decide)⟩, ?_⟩
                rw [show qcmpS.val (d1, d2) = .int .i64 n from en]
                conv => whnf
                have hn : n ≤ 0 := by rw [pn, pd1, pd2]; exact cmpQ_le.2 (bet_dist hon)
                rw [show decide (n > 0) = false from decide_eq_false (by omega)]
                conv => whnf
                refine ⟨(), rfl, trivial, ?_⟩
                conv => whnf
                rfl
              · refine ⟨(a, p, b), rfl, ⟨PV.sz_mono sa (by decide), PV.sz_mono sp (by decide), PV.sz_mono sb (by decide)⟩, ?_⟩
                rw [show betweenS.val (a, p, b) = .bool (false) from congrArg (Value.bool) (show decide (betR a.p p.p b.p) = false from decide_eq_false hb)]
                conv => whnf
                obtain ⟨d1, ed1, pd1, sd1, qd1⟩ := hideR (dst_sz qa qp)
                refine ⟨(a, p), rfl, ⟨PV.sz_mono sa (by decide), PV.sz_mono sp (by decide)⟩, ?_⟩
                rw [show vdistS.val (a, p) = d1.v from (dist_val a p).trans ed1]
                conv => whnf
                obtain ⟨d2, ed2, pd2, sd2, qd2⟩ := hideR (dst_sz qa qb)
                refine ⟨(a, b), rfl, ⟨PV.sz_mono sa (by decide), PV.sz_mono sb (by decide)⟩, ?_⟩
                rw [show vdistS.val (a, b) = d2.v from (dist_val a b).trans ed2]
                conv => whnf
                obtain ⟨n, en, pn⟩ := hideZ (cmpQ d1.q d2.q)
                refine ⟨(d1, d2), rfl, ⟨RV.sz_ok sd1 (by decide), RV.sz_ok sd2 (by decide)⟩, ?_⟩
                rw [show qcmpS.val (d1, d2) = .int .i64 n from en]
                conv => whnf
                have hn : n ≤ 0 := by rw [pn, pd1, pd2]; exact cmpQ_le.2 (bet_dist hon)
                rw [show decide (n > 0) = false from decide_eq_false (by omega)]
                conv => whnf
                refine ⟨(), rfl, trivial, ?_⟩
                conv => whnf
                rfl
            · refine ⟨(a, b, p), rfl, ⟨PV.sz_mono sa (by decide), PV.sz_mono sb (by decide), PV.sz_mono sp (by decide)⟩, ?_⟩
              rw [show betweenS.val (a, b, p) = .bool (false) from congrArg (Value.bool) (show decide (betR a.p b.p p.p) = false from decide_eq_false hon)]
              conv => whnf
              refine ⟨(b, a, p), rfl, ⟨PV.sz_mono sb (by decide), PV.sz_mono sa (by decide), PV.sz_mono sp (by decide)⟩, ?_⟩
              rw [show betweenS.val (b, a, p) = .bool (false) from congrArg (Value.bool) (show decide (betR b.p a.p p.p) = false from decide_eq_false (fun h => hon (bet_symm.2 h)))]
              conv => whnf
              refine .inl ⟨25, [[], [0], [0, 1], [0, 1], [0, 1], [0, 1, 2, 3, 4], [0, 1, 2, 3, 4, 5], [0, 1, 2, 3, 4, 5, 6], [0, 1, 2, 3, 4, 5, 6, 7], [0, 1, 2, 3, 4, 5, 6, 7], [0, 1, 2, 3, 4, 5, 6, 7], [0, 1, 2, 3, 4, 5, 6, 7, 8, 9, 10], [0, 1, 2, 3, 4, 5, 6, 7, 8, 9, 10, 11], [0, 1, 2, 3, 4, 5, 6, 7, 8, 9, 10, 11, 12], [0, 1, 2, 3, 4, 5, 6, 7, 8, 9, 10, 11, 12], [0, 1, 2, 3, 4, 5, 6, 7, 8, 9, 10, 11, 12, 13, 14], [0, 1, 2, 3, 4, 5, 6, 7, 8, 9, 10, 11, 12, 13, 14, 15], [0, 1, 2, 3, 4, 5, 6, 7, 8, 9, 10, 11, 12, 13, 14, 15, 16], [0, 1, 2, 3, 4, 5, 6, 7, 8, 9, 10, 11, 12, 13, 14, 15, 16, 17], [0, 1, 2, 3, 4, 5, 6, 7, 8, 9, 10, 11, 12, 13, 14, 15, 16, 17, 18], [0, 1, 2, 3, 4, 5, 6, 7, 8, 9, 10, 11, 12, 13, 14, 15, 16, 17, 18, 19], [0, 1, 2, 3, 4, 5, 6, 7, 8, 9, 10, 11, 12, 13, 14, 15, 16, 17, 18, 19], [0, 1, 2, 3, 4, 5, 6, 7, 8, 9, 10, 11, 12, 13, 14, 15, 16, 17, 18, 19, 20, 21], [0, 1, 2, 3, 4, 5, 6, 7, 8, 9, 10, 11, 12, 13, 14, 15, 16, 17, 18, 19], [0, 1, 2, 3, 4, 5, 6, 7, 8, 9, 10, 11, 12, 13, 14, 15, 16, 17, 18, 19], [0, 1, 2, 3, 4, 5, 6, 7, 8, 9, 10, 11, 12, 13, 14, 15, 16, 17, 18, 19, 20, 21, 22, 23, 24], [0, 1, 2, 3, 4, 5, 6, 7, 8, 9, 10, 11, 12, 13, 14, 15, 16, 17, 18, 19, 20, 21, 22, 23, 24, 25], [0, 1, 2, 3, 4, 5, 6, 7, 8, 9, 10, 11, 12, 13, 14, 15, 16, 17, 18, 19, 20, 21, 22, 23, 24, 25, 26], [0, 1, 2, 3, 4, 5, 6, 7, 8, 9, 10, 11, 12, 13, 14, 15, 16, 17, 18, 19, 20, 21, 22, 23, 24, 25, 26, 27], [0, 1, 2, 3, 4, 5, 6, 7, 8, 9, 10, 11, 12, 13, 14, 15, 16, 17, 18, 19, 20, 21, 22, 23, 24, 25, 26, 27, 28]], by kernel_rfl, ?_⟩
              conv => whnf
              refine ⟨(), rfl, trivial, ?_⟩
              conv => whnf
              rfl
  · conv => whnf
    refine ⟨(), rfl, trivial, ?_⟩
    conv => whnf
    rfl

theorem pTriangle_ok : Snd Try.prog 9 law4S := by
  refine snd_of Eplok Dok Try.func9 (enters_of Try.func9 (by kernel_rfl) rfl) (fun _ => rfl) (fun _ => rfl) ?_
  intro ⟨a, b, c, p⟩ hp
  conv => whnf
  obtain ⟨G, hG⟩ : ∃ G, G = anyBig 12 [a, b, c, p] := ⟨_, rfl⟩
  refine ⟨some ([a, b, c, p], 4), [4], rfl, by show 4 ≤ 1099511627776; decide, ?_⟩
  rw [show (bigS 12).blks (some ([a, b, c, p], 4)) = [.flat false 4 6 (rowsP [a, b, c, p])] from rfl, show (bigS 12).val (some ([a, b, c, p], 4)) = .bool G from by rw [hG]; rfl, show (bigS 12).new (some ([a, b, c, p], 4)) = none from rfl]
  conv => whnf
  refine ⟨lit_blk [a, b, c, p], ?_⟩
  conv => whnf
  refine ⟨.bool G, rfl, ?_⟩
  have hsz := fun h => anyBig_false (hG.symm.trans h)
  clear hG
  cases hG2 : G
  · have sa : PV.sz 12 a := hsz hG2 a (by simp)
    have qa := PV.psz sa (by decide)
    have sb : PV.sz 12 b := hsz hG2 b (by simp)
    have qb := PV.psz sb (by decide)
    have sc : PV.sz 12 c := hsz hG2 c (by simp)
    have qc := PV.psz sc (by decide)
    have sp : PV.sz 12 p := hsz hG2 p (by simp)
    have qp := PV.psz sp (by decide)
    conv => whnf
    by_cases hin : inR a.p b.p c.p p.p
    · have hnon := in_not_on hin
      refine ⟨((a, b, c), p), rfl, ⟨⟨PV.sz_mono sa (by decide), PV.sz_mono sb (by decide), PV.sz_mono sc (by decide)⟩, PV.sz_mono sp (by decide)⟩, ?_⟩
      rw [show insideS.val ((a, b, c), p) = .int .i64 (1) from congrArg (Value.int .i64) (show insR a.p b.p c.p p.p = 1 from ins_one.2 hin)]
      conv => whnf
      obtain ⟨s, es, ps⟩ := hideZ (cmpQ (orR a.p b.p c.p) 0)
      refine ⟨(a, b, c), rfl, ⟨PV.sz_mono sa (by decide), PV.sz_mono sb (by decide), PV.sz_mono sc (by decide)⟩, ?_⟩
      rw [show orientS.val (a, b, c) = .int .i64 s from es]
      conv => whnf
      have hs : s ≠ 0 := fun h => hin.1 (ps.symm.trans h)
      rw [show (s != 0) = true from by simp [hs]]
      conv => whnf
      refine ⟨(a, b, p), rfl, ⟨PV.sz_mono sa (by decide), PV.sz_mono sb (by decide), PV.sz_mono sp (by decide)⟩, ?_⟩
      rw [show orientS.val (a, b, p) = .int .i64 (s) from congrArg (Value.int .i64) (show cmpQ (orR a.p b.p p.p) 0 = s from hin.2.1.trans ps.symm)]
      conv => whnf
      rw [show (s == s) = true from by simp]
      conv => whnf
      refine ⟨(b, c, p), rfl, ⟨PV.sz_mono sb (by decide), PV.sz_mono sc (by decide), PV.sz_mono sp (by decide)⟩, ?_⟩
      rw [show orientS.val (b, c, p) = .int .i64 (s) from congrArg (Value.int .i64) (show cmpQ (orR b.p c.p p.p) 0 = s from hin.2.2.1.trans ps.symm)]
      conv => whnf
      rw [show (s == s) = true from by simp]
      conv => whnf
      refine ⟨(c, a, p), rfl, ⟨PV.sz_mono sc (by decide), PV.sz_mono sa (by decide), PV.sz_mono sp (by decide)⟩, ?_⟩
      rw [show orientS.val (c, a, p) = .int .i64 (s) from congrArg (Value.int .i64) (show cmpQ (orR c.p a.p p.p) 0 = s from hin.2.2.2.trans ps.symm)]
      conv => whnf
      rw [show (s == s) = true from by simp]
      conv => whnf
      refine ⟨(a, b, p), rfl, ⟨PV.sz_mono sa (by decide), PV.sz_mono sb (by decide), PV.sz_mono sp (by decide)⟩, ?_⟩
      rw [show betweenS.val (a, b, p) = .bool (false) from congrArg (Value.bool) (show decide (betR a.p b.p p.p) = false from decide_eq_false (fun h => hnon (.inl h)))]
      conv => whnf
      refine ⟨(b, c, p), rfl, ⟨PV.sz_mono sb (by decide), PV.sz_mono sc (by decide), PV.sz_mono sp (by decide)⟩, ?_⟩
      rw [show betweenS.val (b, c, p) = .bool (false) from congrArg (Value.bool) (show decide (betR b.p c.p p.p) = false from decide_eq_false (fun h => hnon (.inr (.inl h))))]
      conv => whnf
      refine ⟨(c, a, p), rfl, ⟨PV.sz_mono sc (by decide), PV.sz_mono sa (by decide), PV.sz_mono sp (by decide)⟩, ?_⟩
      rw [show betweenS.val (c, a, p) = .bool (false) from congrArg (Value.bool) (show decide (betR c.p a.p p.p) = false from decide_eq_false (fun h => hnon (.inr (.inr h))))]
      conv => whnf
      refine ⟨((b, a, c), p), rfl, ⟨⟨PV.sz_mono sb (by decide), PV.sz_mono sa (by decide), PV.sz_mono sc (by decide)⟩, PV.sz_mono sp (by decide)⟩, ?_⟩
      rw [show insideS.val ((b, a, c), p) = .int .i64 (1) from congrArg (Value.int .i64) (show insR b.p a.p c.p p.p = 1 from by rw [ins_perm1]; exact ins_one.2 hin)]
      conv => whnf
      refine ⟨((c, a, b), p), rfl, ⟨⟨PV.sz_mono sc (by decide), PV.sz_mono sa (by decide), PV.sz_mono sb (by decide)⟩, PV.sz_mono sp (by decide)⟩, ?_⟩
      rw [show insideS.val ((c, a, b), p) = .int .i64 (1) from congrArg (Value.int .i64) (show insR c.p a.p b.p p.p = 1 from by rw [ins_perm2]; exact ins_one.2 hin)]
      conv => whnf
      conv => whnf
      refine ⟨(), rfl, trivial, ?_⟩
      conv => whnf
      rfl
    · by_cases hon : onR a.p b.p c.p p.p
      · refine ⟨((a, b, c), p), rfl, ⟨⟨PV.sz_mono sa (by decide), PV.sz_mono sb (by decide), PV.sz_mono sc (by decide)⟩, PV.sz_mono sp (by decide)⟩, ?_⟩
        rw [show insideS.val ((a, b, c), p) = .int .i64 (0) from congrArg (Value.int .i64) (show insR a.p b.p c.p p.p = 0 from ins_zero.2 hon)]
        conv => whnf
        obtain ⟨s, es, ps⟩ := hideZ (cmpQ (orR a.p b.p c.p) 0)
        refine ⟨(a, b, c), rfl, ⟨PV.sz_mono sa (by decide), PV.sz_mono sb (by decide), PV.sz_mono sc (by decide)⟩, ?_⟩
        rw [show orientS.val (a, b, c) = .int .i64 s from es]
        conv => whnf
        by_cases hs : s = 0
        · subst hs
          conv => whnf
          by_cases h1 : betR a.p b.p p.p
          · refine ⟨(a, b, p), rfl, ⟨PV.sz_mono sa (by decide), PV.sz_mono sb (by decide), PV.sz_mono sp (by decide)⟩, ?_⟩
            rw [show betweenS.val (a, b, p) = .bool (true) from congrArg (Value.bool) (show decide (betR a.p b.p p.p) = true from decide_eq_true h1)]
            conv => whnf
            refine ⟨((b, a, c), p), rfl, ⟨⟨PV.sz_mono sb (by decide), PV.sz_mono sa (by decide), PV.sz_mono sc (by decide)⟩, PV.sz_mono sp (by decide)⟩, ?_⟩
            rw [show insideS.val ((b, a, c), p) = .int .i64 (0) from congrArg (Value.int .i64) (show insR b.p a.p c.p p.p = 0 from by rw [ins_perm1]; exact ins_zero.2 hon)]
            conv => whnf
            refine ⟨((c, a, b), p), rfl, ⟨⟨PV.sz_mono sc (by decide), PV.sz_mono sa (by decide), PV.sz_mono sb (by decide)⟩, PV.sz_mono sp (by decide)⟩, ?_⟩
            rw [show insideS.val ((c, a, b), p) = .int .i64 (0) from congrArg (Value.int .i64) (show insR c.p a.p b.p p.p = 0 from by rw [ins_perm2]; exact ins_zero.2 hon)]
            conv => whnf
            conv => whnf
            refine ⟨(), rfl, trivial, ?_⟩
            conv => whnf
            rfl
          · refine ⟨(a, b, p), rfl, ⟨PV.sz_mono sa (by decide), PV.sz_mono sb (by decide), PV.sz_mono sp (by decide)⟩, ?_⟩
            rw [show betweenS.val (a, b, p) = .bool (false) from congrArg (Value.bool) (show decide (betR a.p b.p p.p) = false from decide_eq_false h1)]
            conv => whnf
            by_cases h2 : betR b.p c.p p.p
            · refine ⟨(b, c, p), rfl, ⟨PV.sz_mono sb (by decide), PV.sz_mono sc (by decide), PV.sz_mono sp (by decide)⟩, ?_⟩
              rw [show betweenS.val (b, c, p) = .bool (true) from congrArg (Value.bool) (show decide (betR b.p c.p p.p) = true from decide_eq_true h2)]
              conv => whnf
              refine ⟨((b, a, c), p), rfl, ⟨⟨PV.sz_mono sb (by decide), PV.sz_mono sa (by decide), PV.sz_mono sc (by decide)⟩, PV.sz_mono sp (by decide)⟩, ?_⟩
              rw [show insideS.val ((b, a, c), p) = .int .i64 (0) from congrArg (Value.int .i64) (show insR b.p a.p c.p p.p = 0 from by rw [ins_perm1]; exact ins_zero.2 hon)]
              conv => whnf
              refine ⟨((c, a, b), p), rfl, ⟨⟨PV.sz_mono sc (by decide), PV.sz_mono sa (by decide), PV.sz_mono sb (by decide)⟩, PV.sz_mono sp (by decide)⟩, ?_⟩
              rw [show insideS.val ((c, a, b), p) = .int .i64 (0) from congrArg (Value.int .i64) (show insR c.p a.p b.p p.p = 0 from by rw [ins_perm2]; exact ins_zero.2 hon)]
              conv => whnf
              conv => whnf
              refine ⟨(), rfl, trivial, ?_⟩
              conv => whnf
              rfl
            · refine ⟨(b, c, p), rfl, ⟨PV.sz_mono sb (by decide), PV.sz_mono sc (by decide), PV.sz_mono sp (by decide)⟩, ?_⟩
              rw [show betweenS.val (b, c, p) = .bool (false) from congrArg (Value.bool) (show decide (betR b.p c.p p.p) = false from decide_eq_false h2)]
              conv => whnf
              refine ⟨(c, a, p), rfl, ⟨PV.sz_mono sc (by decide), PV.sz_mono sa (by decide), PV.sz_mono sp (by decide)⟩, ?_⟩
              rw [show betweenS.val (c, a, p) = .bool (true) from congrArg (Value.bool) (show decide (betR c.p a.p p.p) = true from decide_eq_true ((hon.resolve_left h1).resolve_left h2))]
              conv => whnf
              refine ⟨((b, a, c), p), rfl, ⟨⟨PV.sz_mono sb (by decide), PV.sz_mono sa (by decide), PV.sz_mono sc (by decide)⟩, PV.sz_mono sp (by decide)⟩, ?_⟩
              rw [show insideS.val ((b, a, c), p) = .int .i64 (0) from congrArg (Value.int .i64) (show insR b.p a.p c.p p.p = 0 from by rw [ins_perm1]; exact ins_zero.2 hon)]
              conv => whnf
              refine ⟨((c, a, b), p), rfl, ⟨⟨PV.sz_mono sc (by decide), PV.sz_mono sa (by decide), PV.sz_mono sb (by decide)⟩, PV.sz_mono sp (by decide)⟩, ?_⟩
              rw [show insideS.val ((c, a, b), p) = .int .i64 (0) from congrArg (Value.int .i64) (show insR c.p a.p b.p p.p = 0 from by rw [ins_perm2]; exact ins_zero.2 hon)]
              conv => whnf
              conv => whnf
              refine ⟨(), rfl, trivial, ?_⟩
              conv => whnf
              rfl
        · rw [show (s != 0) = true from by simp [hs]]
          conv => whnf
          obtain ⟨o1, eo1, po1⟩ := hideZ (cmpQ (orR a.p b.p p.p) 0)
          refine ⟨(a, b, p), rfl, ⟨PV.sz_mono sa (by decide), PV.sz_mono sb (by decide), PV.sz_mono sp (by decide)⟩, ?_⟩
          rw [show orientS.val (a, b, p) = .int .i64 o1 from eo1]
          conv => whnf
          by_cases e1 : o1 = s
          · rw [show (o1 == s) = true from by simp [e1]]
            conv => whnf
            obtain ⟨o2, eo2, po2⟩ := hideZ (cmpQ (orR b.p c.p p.p) 0)
            refine ⟨(b, c, p), rfl, ⟨PV.sz_mono sb (by decide), PV.sz_mono sc (by decide), PV.sz_mono sp (by decide)⟩, ?_⟩
            rw [show orientS.val (b, c, p) = .int .i64 o2 from eo2]
            conv => whnf
            by_cases e2 : o2 = s
            · rw [show (o2 == s) = true from by simp [e2]]
              conv => whnf
              obtain ⟨o3, eo3, po3⟩ := hideZ (cmpQ (orR c.p a.p p.p) 0)
              refine ⟨(c, a, p), rfl, ⟨PV.sz_mono sc (by decide), PV.sz_mono sa (by decide), PV.sz_mono sp (by decide)⟩, ?_⟩
              rw [show orientS.val (c, a, p) = .int .i64 o3 from eo3]
              conv => whnf
              by_cases e3 : o3 = s
              · exact absurd ⟨fun h => hs (ps.trans h), po1.symm.trans (e1.trans ps), po2.symm.trans (e2.trans ps), po3.symm.trans (e3.trans ps)⟩ hin
              · rw [show (o3 == s) = false from by simp [e3]]
                conv => whnf
                by_cases h1 : betR a.p b.p p.p
                · refine ⟨(a, b, p), rfl, ⟨PV.sz_mono sa (by decide), PV.sz_mono sb (by decide), PV.sz_mono sp (by decide)⟩, ?_⟩
                  rw [show betweenS.val (a, b, p) = .bool (true) from congrArg (Value.bool) (show decide (betR a.p b.p p.p) = true from decide_eq_true h1)]
                  conv => whnf
                  refine ⟨((b, a, c), p), rfl, ⟨⟨PV.sz_mono sb (by decide), PV.sz_mono sa (by decide), PV.sz_mono sc (by decide)⟩, PV.sz_mono sp (by decide)⟩, ?_⟩
                  rw [show insideS.val ((b, a, c), p) = .int .i64 (0) from congrArg (Value.int .i64) (show insR b.p a.p c.p p.p = 0 from by rw [ins_perm1]; exact ins_zero.2 hon)]
                  conv => whnf
                  refine ⟨((c, a, b), p), rfl, ⟨⟨PV.sz_mono sc (by decide), PV.sz_mono sa (by decide), PV.sz_mono sb (by decide)⟩, PV.sz_mono sp (by decide)⟩, ?_⟩
                  rw [show insideS.val ((c, a, b), p) = .int .i64 (0) from congrArg (Value.int .i64) (show insR c.p a.p b.p p.p = 0 from by rw [ins_perm2]; exact ins_zero.2 hon)]
                  conv => whnf
                  conv => whnf
                  refine ⟨(), rfl, trivial, ?_⟩
                  conv => whnf
                  rfl
                · refine ⟨(a, b, p), rfl, ⟨PV.sz_mono sa (by decide), PV.sz_mono sb (by decide), PV.sz_mono sp (by decide)⟩, ?_⟩
                  rw [show betweenS.val (a, b, p) = .bool (false) from congrArg (Value.bool) (show decide (betR a.p b.p p.p) = false from decide_eq_false h1)]
                  conv => whnf
                  by_cases h2 : betR b.p c.p p.p
                  · refine ⟨(b, c, p), rfl, ⟨PV.sz_mono sb (by decide), PV.sz_mono sc (by decide), PV.sz_mono sp (by decide)⟩, ?_⟩
                    rw [show betweenS.val (b, c, p) = .bool (true) from congrArg (Value.bool) (show decide (betR b.p c.p p.p) = true from decide_eq_true h2)]
                    conv => whnf
                    refine ⟨((b, a, c), p), rfl, ⟨⟨PV.sz_mono sb (by decide), PV.sz_mono sa (by decide), PV.sz_mono sc (by decide)⟩, PV.sz_mono sp (by decide)⟩, ?_⟩
                    rw [show insideS.val ((b, a, c), p) = .int .i64 (0) from congrArg (Value.int .i64) (show insR b.p a.p c.p p.p = 0 from by rw [ins_perm1]; exact ins_zero.2 hon)]
                    conv => whnf
                    refine ⟨((c, a, b), p), rfl, ⟨⟨PV.sz_mono sc (by decide), PV.sz_mono sa (by decide), PV.sz_mono sb (by decide)⟩, PV.sz_mono sp (by decide)⟩, ?_⟩
                    rw [show insideS.val ((c, a, b), p) = .int .i64 (0) from congrArg (Value.int .i64) (show insR c.p a.p b.p p.p = 0 from by rw [ins_perm2]; exact ins_zero.2 hon)]
                    conv => whnf
                    conv => whnf
                    refine ⟨(), rfl, trivial, ?_⟩
                    conv => whnf
                    rfl
                  · refine ⟨(b, c, p), rfl, ⟨PV.sz_mono sb (by decide), PV.sz_mono sc (by decide), PV.sz_mono sp (by decide)⟩, ?_⟩
                    rw [show betweenS.val (b, c, p) = .bool (false) from congrArg (Value.bool) (show decide (betR b.p c.p p.p) = false from decide_eq_false h2)]
                    conv => whnf
                    refine ⟨(c, a, p), rfl, ⟨PV.sz_mono sc (by decide), PV.sz_mono sa (by decide), PV.sz_mono sp (by decide)⟩, ?_⟩
                    rw [show betweenS.val (c, a, p) = .bool (true) from congrArg (Value.bool) (show decide (betR c.p a.p p.p) = true from decide_eq_true ((hon.resolve_left h1).resolve_left h2))]
                    conv => whnf
                    refine ⟨((b, a, c), p), rfl, ⟨⟨PV.sz_mono sb (by decide), PV.sz_mono sa (by decide), PV.sz_mono sc (by decide)⟩, PV.sz_mono sp (by decide)⟩, ?_⟩
                    rw [show insideS.val ((b, a, c), p) = .int .i64 (0) from congrArg (Value.int .i64) (show insR b.p a.p c.p p.p = 0 from by rw [ins_perm1]; exact ins_zero.2 hon)]
                    conv => whnf
                    refine ⟨((c, a, b), p), rfl, ⟨⟨PV.sz_mono sc (by decide), PV.sz_mono sa (by decide), PV.sz_mono sb (by decide)⟩, PV.sz_mono sp (by decide)⟩, ?_⟩
                    rw [show insideS.val ((c, a, b), p) = .int .i64 (0) from congrArg (Value.int .i64) (show insR c.p a.p b.p p.p = 0 from by rw [ins_perm2]; exact ins_zero.2 hon)]
                    conv => whnf
                    conv => whnf
                    refine ⟨(), rfl, trivial, ?_⟩
                    conv => whnf
                    rfl
            · rw [show (o2 == s) = false from by simp [e2]]
              conv => whnf
              by_cases h1 : betR a.p b.p p.p
              · refine ⟨(a, b, p), rfl, ⟨PV.sz_mono sa (by decide), PV.sz_mono sb (by decide), PV.sz_mono sp (by decide)⟩, ?_⟩
                rw [show betweenS.val (a, b, p) = .bool (true) from congrArg (Value.bool) (show decide (betR a.p b.p p.p) = true from decide_eq_true h1)]
                conv => whnf
                refine ⟨((b, a, c), p), rfl, ⟨⟨PV.sz_mono sb (by decide), PV.sz_mono sa (by decide), PV.sz_mono sc (by decide)⟩, PV.sz_mono sp (by decide)⟩, ?_⟩
                rw [show insideS.val ((b, a, c), p) = .int .i64 (0) from congrArg (Value.int .i64) (show insR b.p a.p c.p p.p = 0 from by rw [ins_perm1]; exact ins_zero.2 hon)]
                conv => whnf
                refine ⟨((c, a, b), p), rfl, ⟨⟨PV.sz_mono sc (by decide), PV.sz_mono sa (by decide), PV.sz_mono sb (by decide)⟩, PV.sz_mono sp (by decide)⟩, ?_⟩
                rw [show insideS.val ((c, a, b), p) = .int .i64 (0) from congrArg (Value.int .i64) (show insR c.p a.p b.p p.p = 0 from by rw [ins_perm2]; exact ins_zero.2 hon)]
                conv => whnf
                conv => whnf
                refine ⟨(), rfl, trivial, ?_⟩
                conv => whnf
                rfl
              · refine ⟨(a, b, p), rfl, ⟨PV.sz_mono sa (by decide), PV.sz_mono sb (by decide), PV.sz_mono sp (by decide)⟩, ?_⟩
                rw [show betweenS.val (a, b, p) = .bool (false) from congrArg (Value.bool) (show decide (betR a.p b.p p.p) = false from decide_eq_false h1)]
                conv => whnf
                by_cases h2 : betR b.p c.p p.p
                · refine ⟨(b, c, p), rfl, ⟨PV.sz_mono sb (by decide), PV.sz_mono sc (by decide), PV.sz_mono sp (by decide)⟩, ?_⟩
                  rw [show betweenS.val (b, c, p) = .bool (true) from congrArg (Value.bool) (show decide (betR b.p c.p p.p) = true from decide_eq_true h2)]
                  conv => whnf
                  refine ⟨((b, a, c), p), rfl, ⟨⟨PV.sz_mono sb (by decide), PV.sz_mono sa (by decide), PV.sz_mono sc (by decide)⟩, PV.sz_mono sp (by decide)⟩, ?_⟩
                  rw [show insideS.val ((b, a, c), p) = .int .i64 (0) from congrArg (Value.int .i64) (show insR b.p a.p c.p p.p = 0 from by rw [ins_perm1]; exact ins_zero.2 hon)]
                  conv => whnf
                  refine ⟨((c, a, b), p), rfl, ⟨⟨PV.sz_mono sc (by decide), PV.sz_mono sa (by decide), PV.sz_mono sb (by decide)⟩, PV.sz_mono sp (by decide)⟩, ?_⟩
                  rw [show insideS.val ((c, a, b), p) = .int .i64 (0) from congrArg (Value.int .i64) (show insR c.p a.p b.p p.p = 0 from by rw [ins_perm2]; exact ins_zero.2 hon)]
                  conv => whnf
                  conv => whnf
                  refine ⟨(), rfl, trivial, ?_⟩
                  conv => whnf
                  rfl
                · refine ⟨(b, c, p), rfl, ⟨PV.sz_mono sb (by decide), PV.sz_mono sc (by decide), PV.sz_mono sp (by decide)⟩, ?_⟩
                  rw [show betweenS.val (b, c, p) = .bool (false) from congrArg (Value.bool) (show decide (betR b.p c.p p.p) = false from decide_eq_false h2)]
                  conv => whnf
                  refine ⟨(c, a, p), rfl, ⟨PV.sz_mono sc (by decide), PV.sz_mono sa (by decide), PV.sz_mono sp (by decide)⟩, ?_⟩
                  rw [show betweenS.val (c, a, p) = .bool (true) from congrArg (Value.bool) (show decide (betR c.p a.p p.p) = true from decide_eq_true ((hon.resolve_left h1).resolve_left h2))]
                  conv => whnf
                  refine ⟨((b, a, c), p), rfl, ⟨⟨PV.sz_mono sb (by decide), PV.sz_mono sa (by decide), PV.sz_mono sc (by decide)⟩, PV.sz_mono sp (by decide)⟩, ?_⟩
                  rw [show insideS.val ((b, a, c), p) = .int .i64 (0) from congrArg (Value.int .i64) (show insR b.p a.p c.p p.p = 0 from by rw [ins_perm1]; exact ins_zero.2 hon)]
                  conv => whnf
                  refine ⟨((c, a, b), p), rfl, ⟨⟨PV.sz_mono sc (by decide), PV.sz_mono sa (by decide), PV.sz_mono sb (by decide)⟩, PV.sz_mono sp (by decide)⟩, ?_⟩
                  rw [show insideS.val ((c, a, b), p) = .int .i64 (0) from congrArg (Value.int .i64) (show insR c.p a.p b.p p.p = 0 from by rw [ins_perm2]; exact ins_zero.2 hon)]
                  conv => whnf
                  conv => whnf
                  refine ⟨(), rfl, trivial, ?_⟩
                  conv => whnf
                  rfl
          · rw [show (o1 == s) = false from by simp [e1]]
            conv => whnf
            by_cases h1 : betR a.p b.p p.p
            · refine ⟨(a, b, p), rfl, ⟨PV.sz_mono sa (by decide), PV.sz_mono sb (by decide), PV.sz_mono sp (by decide)⟩, ?_⟩
              rw [show betweenS.val (a, b, p) = .bool (true) from congrArg (Value.bool) (show decide (betR a.p b.p p.p) = true from decide_eq_true h1)]
              conv => whnf
              refine ⟨((b, a, c), p), rfl, ⟨⟨PV.sz_mono sb (by decide), PV.sz_mono sa (by decide), PV.sz_mono sc (by decide)⟩, PV.sz_mono sp (by decide)⟩, ?_⟩
              rw [show insideS.val ((b, a, c), p) = .int .i64 (0) from congrArg (Value.int .i64) (show insR b.p a.p c.p p.p = 0 from by rw [ins_perm1]; exact ins_zero.2 hon)]
              conv => whnf
              refine ⟨((c, a, b), p), rfl, ⟨⟨PV.sz_mono sc (by decide), PV.sz_mono sa (by decide), PV.sz_mono sb (by decide)⟩, PV.sz_mono sp (by decide)⟩, ?_⟩
              rw [show insideS.val ((c, a, b), p) = .int .i64 (0) from congrArg (Value.int .i64) (show insR c.p a.p b.p p.p = 0 from by rw [ins_perm2]; exact ins_zero.2 hon)]
              conv => whnf
              conv => whnf
              refine ⟨(), rfl, trivial, ?_⟩
              conv => whnf
              rfl
            · refine ⟨(a, b, p), rfl, ⟨PV.sz_mono sa (by decide), PV.sz_mono sb (by decide), PV.sz_mono sp (by decide)⟩, ?_⟩
              rw [show betweenS.val (a, b, p) = .bool (false) from congrArg (Value.bool) (show decide (betR a.p b.p p.p) = false from decide_eq_false h1)]
              conv => whnf
              by_cases h2 : betR b.p c.p p.p
              · refine ⟨(b, c, p), rfl, ⟨PV.sz_mono sb (by decide), PV.sz_mono sc (by decide), PV.sz_mono sp (by decide)⟩, ?_⟩
                rw [show betweenS.val (b, c, p) = .bool (true) from congrArg (Value.bool) (show decide (betR b.p c.p p.p) = true from decide_eq_true h2)]
                conv => whnf
                refine ⟨((b, a, c), p), rfl, ⟨⟨PV.sz_mono sb (by decide), PV.sz_mono sa (by decide), PV.sz_mono sc (by decide)⟩, PV.sz_mono sp (by decide)⟩, ?_⟩
                rw [show insideS.val ((b, a, c), p) = .int .i64 (0) from congrArg (Value.int .i64) (show insR b.p a.p c.p p.p = 0 from by rw [ins_perm1]; exact ins_zero.2 hon)]
                conv => whnf
                refine ⟨((c, a, b), p), rfl, ⟨⟨PV.sz_mono sc (by decide), PV.sz_mono sa (by decide), PV.sz_mono sb (by decide)⟩, PV.sz_mono sp (by decide)⟩, ?_⟩
                rw [show insideS.val ((c, a, b), p) = .int .i64 (0) from congrArg (Value.int .i64) (show insR c.p a.p b.p p.p = 0 from by rw [ins_perm2]; exact ins_zero.2 hon)]
                conv => whnf
                conv => whnf
                refine ⟨(), rfl, trivial, ?_⟩
                conv => whnf
                rfl
              · refine ⟨(b, c, p), rfl, ⟨PV.sz_mono sb (by decide), PV.sz_mono sc (by decide), PV.sz_mono sp (by decide)⟩, ?_⟩
                rw [show betweenS.val (b, c, p) = .bool (false) from congrArg (Value.bool) (show decide (betR b.p c.p p.p) = false from decide_eq_false h2)]
                conv => whnf
                refine ⟨(c, a, p), rfl, ⟨PV.sz_mono sc (by decide), PV.sz_mono sa (by decide), PV.sz_mono sp (by decide)⟩, ?_⟩
                rw [show betweenS.val (c, a, p) = .bool (true) from congrArg (Value.bool) (show decide (betR c.p a.p p.p) = true from decide_eq_true ((hon.resolve_left h1).resolve_left h2))]
                conv => whnf
                refine ⟨((b, a, c), p), rfl, ⟨⟨PV.sz_mono sb (by decide), PV.sz_mono sa (by decide), PV.sz_mono sc (by decide)⟩, PV.sz_mono sp (by decide)⟩, ?_⟩
                rw [show insideS.val ((b, a, c), p) = .int .i64 (0) from congrArg (Value.int .i64) (show insR b.p a.p c.p p.p = 0 from by rw [ins_perm1]; exact ins_zero.2 hon)]
                conv => whnf
                refine ⟨((c, a, b), p), rfl, ⟨⟨PV.sz_mono sc (by decide), PV.sz_mono sa (by decide), PV.sz_mono sb (by decide)⟩, PV.sz_mono sp (by decide)⟩, ?_⟩
                rw [show insideS.val ((c, a, b), p) = .int .i64 (0) from congrArg (Value.int .i64) (show insR c.p a.p b.p p.p = 0 from by rw [ins_perm2]; exact ins_zero.2 hon)]
                conv => whnf
                conv => whnf
                refine ⟨(), rfl, trivial, ?_⟩
                conv => whnf
                rfl
      · refine ⟨((a, b, c), p), rfl, ⟨⟨PV.sz_mono sa (by decide), PV.sz_mono sb (by decide), PV.sz_mono sc (by decide)⟩, PV.sz_mono sp (by decide)⟩, ?_⟩
        rw [show insideS.val ((a, b, c), p) = .int .i64 ((-1)) from congrArg (Value.int .i64) (show insR a.p b.p c.p p.p = (-1) from by rw [insR_eq, if_neg hon, if_neg hin])]
        conv => whnf
        obtain ⟨s, es, ps⟩ := hideZ (cmpQ (orR a.p b.p c.p) 0)
        refine ⟨(a, b, c), rfl, ⟨PV.sz_mono sa (by decide), PV.sz_mono sb (by decide), PV.sz_mono sc (by decide)⟩, ?_⟩
        rw [show orientS.val (a, b, c) = .int .i64 s from es]
        conv => whnf
        by_cases hs : s = 0
        · subst hs
          conv => whnf
          refine ⟨(a, b, p), rfl, ⟨PV.sz_mono sa (by decide), PV.sz_mono sb (by decide), PV.sz_mono sp (by decide)⟩, ?_⟩
          rw [show betweenS.val (a, b, p) = .bool (false) from congrArg (Value.bool) (show decide (betR a.p b.p p.p) = false from decide_eq_false (fun h => hon (.inl h)))]
          conv => whnf
          refine ⟨(b, c, p), rfl, ⟨PV.sz_mono sb (by decide), PV.sz_mono sc (by decide), PV.sz_mono sp (by decide)⟩, ?_⟩
          rw [show betweenS.val (b, c, p) = .bool (false) from congrArg (Value.bool) (show decide (betR b.p c.p p.p) = false from decide_eq_false (fun h => hon (.inr (.inl h))))]
          conv => whnf
          refine ⟨(c, a, p), rfl, ⟨PV.sz_mono sc (by decide), PV.sz_mono sa (by decide), PV.sz_mono sp (by decide)⟩, ?_⟩
          rw [show betweenS.val (c, a, p) = .bool (false) from congrArg (Value.bool) (show decide (betR c.p a.p p.p) = false from decide_eq_false (fun h => hon (.inr (.inr h))))]
          conv => whnf
          refine ⟨((b, a, c), p), rfl, ⟨⟨PV.sz_mono sb (by decide), PV.sz_mono sa (by decide), PV.sz_mono sc (by decide)⟩, PV.sz_mono sp (by decide)⟩, ?_⟩
          rw [show insideS.val ((b, a, c), p) = .int .i64 ((-1)) from congrArg (Value.int .i64) (show insR b.p a.p c.p p.p = (-1) from by rw [ins_perm1, insR_eq, if_neg hon, if_neg hin])]
          conv => whnf
          refine ⟨((c, a, b), p), rfl, ⟨⟨PV.sz_mono sc (by decide), PV.sz_mono sa (by decide), PV.sz_mono sb (by decide)⟩, PV.sz_mono sp (by decide)⟩, ?_⟩
          rw [show insideS.val ((c, a, b), p) = .int .i64 ((-1)) from congrArg (Value.int .i64) (show insR c.p a.p b.p p.p = (-1) from by rw [ins_perm2, insR_eq, if_neg hon, if_neg hin])]
          conv => whnf
          conv => whnf
          refine ⟨(), rfl, trivial, ?_⟩
          conv => whnf
          rfl
        · rw [show (s != 0) = true from by simp [hs]]
          conv => whnf
          obtain ⟨o1, eo1, po1⟩ := hideZ (cmpQ (orR a.p b.p p.p) 0)
          refine ⟨(a, b, p), rfl, ⟨PV.sz_mono sa (by decide), PV.sz_mono sb (by decide), PV.sz_mono sp (by decide)⟩, ?_⟩
          rw [show orientS.val (a, b, p) = .int .i64 o1 from eo1]
          conv => whnf
          by_cases e1 : o1 = s
          · rw [show (o1 == s) = true from by simp [e1]]
            conv => whnf
            obtain ⟨o2, eo2, po2⟩ := hideZ (cmpQ (orR b.p c.p p.p) 0)
            refine ⟨(b, c, p), rfl, ⟨PV.sz_mono sb (by decide), PV.sz_mono sc (by decide), PV.sz_mono sp (by decide)⟩, ?_⟩
            rw [show orientS.val (b, c, p) = .int .i64 o2 from eo2]
            conv => whnf
            by_cases e2 : o2 = s
            · rw [show (o2 == s) = true from by simp [e2]]
              conv => whnf
              obtain ⟨o3, eo3, po3⟩ := hideZ (cmpQ (orR c.p a.p p.p) 0)
              refine ⟨(c, a, p), rfl, ⟨PV.sz_mono sc (by decide), PV.sz_mono sa (by decide), PV.sz_mono sp (by decide)⟩, ?_⟩
              rw [show orientS.val (c, a, p) = .int .i64 o3 from eo3]
              conv => whnf
              by_cases e3 : o3 = s
              · exact absurd ⟨fun h => hs (ps.trans h), po1.symm.trans (e1.trans ps), po2.symm.trans (e2.trans ps), po3.symm.trans (e3.trans ps)⟩ hin
              · rw [show (o3 == s) = false from by simp [e3]]
                conv => whnf
                refine ⟨(a, b, p), rfl, ⟨PV.sz_mono sa (by decide), PV.sz_mono sb (by decide), PV.sz_mono sp (by decide)⟩, ?_⟩
                rw [show betweenS.val (a, b, p) = .bool (false) from congrArg (Value.bool) (show decide (betR a.p b.p p.p) = false from decide_eq_false (fun h => hon (.inl h)))]
                conv => whnf
                refine ⟨(b, c, p), rfl, ⟨PV.sz_mono sb (by decide), PV.sz_mono sc (by decide), PV.sz_mono sp (by decide)⟩, ?_⟩
                rw [show betweenS.val (b, c, p) = .bool (false) from congrArg (Value.bool) (show decide (betR b.p c.p p.p) = false from decide_eq_false (fun h => hon (.inr (.inl h))))]
                conv => whnf
                refine ⟨(c, a, p), rfl, ⟨PV.sz_mono sc (by decide), PV.sz_mono sa (by decide), PV.sz_mono sp (by decide)⟩, ?_⟩
                rw [show betweenS.val (c, a, p) = .bool (false) from congrArg (Value.bool) (show decide (betR c.p a.p p.p) = false from decide_eq_false (fun h => hon (.inr (.inr h))))]
                conv => whnf
                refine ⟨((b, a, c), p), rfl, ⟨⟨PV.sz_mono sb (by decide), PV.sz_mono sa (by decide), PV.sz_mono sc (by decide)⟩, PV.sz_mono sp (by decide)⟩, ?_⟩
                rw [show insideS.val ((b, a, c), p) = .int .i64 ((-1)) from congrArg (Value.int .i64) (show insR b.p a.p c.p p.p = (-1) from by rw [ins_perm1, insR_eq, if_neg hon, if_neg hin])]
                conv => whnf
                refine ⟨((c, a, b), p), rfl, ⟨⟨PV.sz_mono sc (by decide), PV.sz_mono sa (by decide), PV.sz_mono sb (by decide)⟩, PV.sz_mono sp (by decide)⟩, ?_⟩
                rw [show insideS.val ((c, a, b), p) = .int .i64 ((-1)) from congrArg (Value.int .i64) (show insR c.p a.p b.p p.p = (-1) from by rw [ins_perm2, insR_eq, if_neg hon, if_neg hin])]
                conv => whnf
                conv => whnf
                refine ⟨(), rfl, trivial, ?_⟩
                conv => whnf
                rfl
            · rw [show (o2 == s) = false from by simp [e2]]
              conv => whnf
              refine ⟨(a, b, p), rfl, ⟨PV.sz_mono sa (by decide), PV.sz_mono sb (by decide), PV.sz_mono sp (by decide)⟩, ?_⟩
              rw [show betweenS.val (a, b, p) = .bool (false) from congrArg (Value.bool) (show decide (betR a.p b.p p.p) = false from decide_eq_false (fun h => hon (.inl h)))]
              conv => whnf
              refine ⟨(b, c, p), rfl, ⟨PV.sz_mono sb (by decide), PV.sz_mono sc (by decide), PV.sz_mono sp (by decide)⟩, ?_⟩
              rw [show betweenS.val (b, c, p) = .bool (false) from congrArg (Value.bool) (show decide (betR b.p c.p p.p) = false from decide_eq_false (fun h => hon (.inr (.inl h))))]
              conv => whnf
              refine ⟨(c, a, p), rfl, ⟨PV.sz_mono sc (by decide), PV.sz_mono sa (by decide), PV.sz_mono sp (by decide)⟩, ?_⟩
              rw [show betweenS.val (c, a, p) = .bool (false) from congrArg (Value.bool) (show decide (betR c.p a.p p.p) = false from decide_eq_false (fun h => hon (.inr (.inr h))))]
              conv => whnf
              refine ⟨((b, a, c), p), rfl, ⟨⟨PV.sz_mono sb (by decide), PV.sz_mono sa (by decide), PV.sz_mono sc (by decide)⟩, PV.sz_mono sp (by decide)⟩, ?_⟩
              rw [show insideS.val ((b, a, c), p) = .int .i64 ((-1)) from congrArg (Value.int .i64) (show insR b.p a.p c.p p.p = (-1) from by rw [ins_perm1, insR_eq, if_neg hon, if_neg hin])]
              conv => whnf
              refine ⟨((c, a, b), p), rfl, ⟨⟨PV.sz_mono sc (by decide), PV.sz_mono sa (by decide), PV.sz_mono sb (by decide)⟩, PV.sz_mono sp (by decide)⟩, ?_⟩
              rw [show insideS.val ((c, a, b), p) = .int .i64 ((-1)) from congrArg (Value.int .i64) (show insR c.p a.p b.p p.p = (-1) from by rw [ins_perm2, insR_eq, if_neg hon, if_neg hin])]
              conv => whnf
              conv => whnf
              refine ⟨(), rfl, trivial, ?_⟩
              conv => whnf
              rfl
          · rw [show (o1 == s) = false from by simp [e1]]
            conv => whnf
            refine ⟨(a, b, p), rfl, ⟨PV.sz_mono sa (by decide), PV.sz_mono sb (by decide), PV.sz_mono sp (by decide)⟩, ?_⟩
            rw [show betweenS.val (a, b, p) = .bool (false) from congrArg (Value.bool) (show decide (betR a.p b.p p.p) = false from decide_eq_false (fun h => hon (.inl h)))]
            conv => whnf
            refine ⟨(b, c, p), rfl, ⟨PV.sz_mono sb (by decide), PV.sz_mono sc (by decide), PV.sz_mono sp (by decide)⟩, ?_⟩
            rw [show betweenS.val (b, c, p) = .bool (false) from congrArg (Value.bool) (show decide (betR b.p c.p p.p) = false from decide_eq_false (fun h => hon (.inr (.inl h))))]
            conv => whnf
            refine ⟨(c, a, p), rfl, ⟨PV.sz_mono sc (by decide), PV.sz_mono sa (by decide), PV.sz_mono sp (by decide)⟩, ?_⟩
            rw [show betweenS.val (c, a, p) = .bool (false) from congrArg (Value.bool) (show decide (betR c.p a.p p.p) = false from decide_eq_false (fun h => hon (.inr (.inr h))))]
            conv => whnf
            refine ⟨((b, a, c), p), rfl, ⟨⟨PV.sz_mono sb (by decide), PV.sz_mono sa (by decide), PV.sz_mono sc (by decide)⟩, PV.sz_mono sp (by decide)⟩, ?_⟩
            rw [show insideS.val ((b, a, c), p) = .int .i64 ((-1)) from congrArg (Value.int .i64) (show insR b.p a.p c.p p.p = (-1) from by rw [ins_perm1, insR_eq, if_neg hon, if_neg hin])]
            conv => whnf
            refine ⟨((c, a, b), p), rfl, ⟨⟨PV.sz_mono sc (by decide), PV.sz_mono sa (by decide), PV.sz_mono sb (by decide)⟩, PV.sz_mono sp (by decide)⟩, ?_⟩
            rw [show insideS.val ((c, a, b), p) = .int .i64 ((-1)) from congrArg (Value.int .i64) (show insR c.p a.p b.p p.p = (-1) from by rw [ins_perm2, insR_eq, if_neg hon, if_neg hin])]
            conv => whnf
            conv => whnf
            refine ⟨(), rfl, trivial, ?_⟩
            conv => whnf
            rfl
  · conv => whnf
    refine ⟨(), rfl, trivial, ?_⟩
    conv => whnf
    rfl

theorem pWedges_ok : Snd Try.prog 5 law3S := by
  refine snd_of Eplok Dok Try.func5 (enters_of Try.func5 (by kernel_rfl) rfl) (fun _ => rfl) (fun _ => rfl) ?_
  intro ⟨u, v, w⟩ hp
  conv => whnf
  obtain ⟨G, hG⟩ : ∃ G, G = anyBig 12 [u, v, w] := ⟨_, rfl⟩
  refine ⟨some ([u, v, w], 3), [3], rfl, by show 3 ≤ 1099511627776; decide, ?_⟩
  rw [show (bigS 12).blks (some ([u, v, w], 3)) = [.flat false 3 6 (rowsP [u, v, w])] from rfl, show (bigS 12).val (some ([u, v, w], 3)) = .bool G from by rw [hG]; rfl, show (bigS 12).new (some ([u, v, w], 3)) = none from rfl]
  conv => whnf
  refine ⟨lit_blk [u, v, w], ?_⟩
  conv => whnf
  refine ⟨.bool G, rfl, ?_⟩
  have hsz := fun h => anyBig_false (hG.symm.trans h)
  clear hG
  cases hG2 : G
  · have su : PV.sz 12 u := hsz hG2 u (by simp)
    have qu := PV.psz su (by decide)
    have sv : PV.sz 12 v := hsz hG2 v (by simp)
    have qv := PV.psz sv (by decide)
    have sw : PV.sz 12 w := hsz hG2 w (by simp)
    have qw := PV.psz sw (by decide)
    conv => whnf
    obtain ⟨o, co, eo, po, so, qo⟩ := hidePc (ofsz (0) (0) (by decide) (by decide))
    refine ⟨(((0 : Int), (0 : Int)) : Int × Int), rfl, ⟨⟨by decide, by decide⟩, ⟨by decide, by decide⟩⟩, ?_⟩
    rw [show vofS.val (((0 : Int), (0 : Int)) : Int × Int) = o.v from eo]
    conv => whnf
    refine .inl ⟨7, [[], [], [], [0, 1, 2], [], [], [], [0, 1, 2, 3, 4, 5, 6], [0, 1, 2, 3, 4, 5, 6, 7], [0, 1, 2, 3, 4, 5, 6, 7, 8]], by kernel_rfl, ?_⟩
    conv => whnf
    have hz : ∀ x : PV, cmpR x.p o.p = 0 ↔ halfR x.p = 0 := fun x => by rw [po, cmpR_zero, half_zero]; exact Iff.rfl
    by_cases hu : halfR u.p = 0
    · refine ⟨(u, v, w), rfl, ⟨PV.sz_mono su (by decide), PV.sz_mono sv (by decide), PV.sz_mono sw (by decide)⟩, ?_⟩
      rw [show wedgeS.val (u, v, w) = .bool (false) from congrArg (Value.bool) (show decide (wedR u.p v.p w.p) = false from decide_eq_false (wed_zero (.inl hu)))]
      conv => whnf
      refine ⟨(v, u, w), rfl, ⟨PV.sz_mono sv (by decide), PV.sz_mono su (by decide), PV.sz_mono sw (by decide)⟩, ?_⟩
      rw [show wedgeS.val (v, u, w) = .bool (false) from congrArg (Value.bool) (show decide (wedR v.p u.p w.p) = false from decide_eq_false (wed_zero (.inr (.inl hu))))]
      conv => whnf
      refine ⟨(u, o), rfl, ⟨PV.sz_mono su (by decide), PV.sz_mono so (by decide)⟩, ?_⟩
      rw [show vcmpS.val (u, o) = .int .i64 (0) from congrArg (Value.int .i64) (show cmpR u.p o.p = 0 from (hz u).2 hu)]
      conv => whnf
      conv => whnf
      refine ⟨(), rfl, trivial, ?_⟩
      conv => whnf
      rfl
    · by_cases hv : halfR v.p = 0
      · refine ⟨(u, v, w), rfl, ⟨PV.sz_mono su (by decide), PV.sz_mono sv (by decide), PV.sz_mono sw (by decide)⟩, ?_⟩
        rw [show wedgeS.val (u, v, w) = .bool (false) from congrArg (Value.bool) (show decide (wedR u.p v.p w.p) = false from decide_eq_false (wed_zero (.inr (.inl hv))))]
        conv => whnf
        refine ⟨(v, u, w), rfl, ⟨PV.sz_mono sv (by decide), PV.sz_mono su (by decide), PV.sz_mono sw (by decide)⟩, ?_⟩
        rw [show wedgeS.val (v, u, w) = .bool (false) from congrArg (Value.bool) (show decide (wedR v.p u.p w.p) = false from decide_eq_false (wed_zero (.inl hv)))]
        conv => whnf
        obtain ⟨k, ek, pk⟩ := hideZ (cmpR u.p o.p)
        refine ⟨(u, o), rfl, ⟨PV.sz_mono su (by decide), PV.sz_mono so (by decide)⟩, ?_⟩
        rw [show vcmpS.val (u, o) = .int .i64 k from ek]
        conv => whnf
        rw [show (k == 0) = false from by simp only [beq_eq_false_iff_ne]; rw [pk]; exact fun h => hu ((hz u).1 h)]
        conv => whnf
        refine ⟨(v, o), rfl, ⟨PV.sz_mono sv (by decide), PV.sz_mono so (by decide)⟩, ?_⟩
        rw [show vcmpS.val (v, o) = .int .i64 (0) from congrArg (Value.int .i64) (show cmpR v.p o.p = 0 from (hz v).2 hv)]
        conv => whnf
        conv => whnf
        refine ⟨(), rfl, trivial, ?_⟩
        conv => whnf
        rfl
      · by_cases hw : halfR w.p = 0
        · refine ⟨(u, v, w), rfl, ⟨PV.sz_mono su (by decide), PV.sz_mono sv (by decide), PV.sz_mono sw (by decide)⟩, ?_⟩
          rw [show wedgeS.val (u, v, w) = .bool (false) from congrArg (Value.bool) (show decide (wedR u.p v.p w.p) = false from decide_eq_false (wed_zero (.inr (.inr hw))))]
          conv => whnf
          refine ⟨(v, u, w), rfl, ⟨PV.sz_mono sv (by decide), PV.sz_mono su (by decide), PV.sz_mono sw (by decide)⟩, ?_⟩
          rw [show wedgeS.val (v, u, w) = .bool (false) from congrArg (Value.bool) (show decide (wedR v.p u.p w.p) = false from decide_eq_false (wed_zero (.inr (.inr hw))))]
          conv => whnf
          obtain ⟨k, ek, pk⟩ := hideZ (cmpR u.p o.p)
          refine ⟨(u, o), rfl, ⟨PV.sz_mono su (by decide), PV.sz_mono so (by decide)⟩, ?_⟩
          rw [show vcmpS.val (u, o) = .int .i64 k from ek]
          conv => whnf
          rw [show (k == 0) = false from by simp only [beq_eq_false_iff_ne]; rw [pk]; exact fun h => hu ((hz u).1 h)]
          conv => whnf
          obtain ⟨l, el, pl⟩ := hideZ (cmpR v.p o.p)
          refine ⟨(v, o), rfl, ⟨PV.sz_mono sv (by decide), PV.sz_mono so (by decide)⟩, ?_⟩
          rw [show vcmpS.val (v, o) = .int .i64 l from el]
          conv => whnf
          rw [show (l == 0) = false from by simp only [beq_eq_false_iff_ne]; rw [pl]; exact fun h => hv ((hz v).1 h)]
          conv => whnf
          refine ⟨(w, o), rfl, ⟨PV.sz_mono sw (by decide), PV.sz_mono so (by decide)⟩, ?_⟩
          rw [show vcmpS.val (w, o) = .int .i64 (0) from congrArg (Value.int .i64) (show cmpR w.p o.p = 0 from (hz w).2 hw)]
          conv => whnf
          conv => whnf
          refine ⟨(), rfl, trivial, ?_⟩
          conv => whnf
          rfl
        · by_cases h1 : angR u.p w.p = 0 ∨ angR v.p w.p = 0
          · obtain ⟨n1, n2⟩ := wed_same h1
            refine ⟨(u, v, w), rfl, ⟨PV.sz_mono su (by decide), PV.sz_mono sv (by decide), PV.sz_mono sw (by decide)⟩, ?_⟩
            rw [show wedgeS.val (u, v, w) = .bool (false) from congrArg (Value.bool) (show decide (wedR u.p v.p w.p) = false from decide_eq_false n1)]
            conv => whnf
            refine ⟨(v, u, w), rfl, ⟨PV.sz_mono sv (by decide), PV.sz_mono su (by decide), PV.sz_mono sw (by decide)⟩, ?_⟩
            rw [show wedgeS.val (v, u, w) = .bool (false) from congrArg (Value.bool) (show decide (wedR v.p u.p w.p) = false from decide_eq_false n2)]
            conv => whnf
            obtain ⟨k, ek, pk⟩ := hideZ (cmpR u.p o.p)
            refine ⟨(u, o), rfl, ⟨PV.sz_mono su (by decide), PV.sz_mono so (by decide)⟩, ?_⟩
            rw [show vcmpS.val (u, o) = .int .i64 k from ek]
            conv => whnf
            rw [show (k == 0) = false from by simp only [beq_eq_false_iff_ne]; rw [pk]; exact fun h => hu ((hz u).1 h)]
            conv => whnf
            obtain ⟨l, el, pl⟩ := hideZ (cmpR v.p o.p)
            refine ⟨(v, o), rfl, ⟨PV.sz_mono sv (by decide), PV.sz_mono so (by decide)⟩, ?_⟩
            rw [show vcmpS.val (v, o) = .int .i64 l from el]
            conv => whnf
            rw [show (l == 0) = false from by simp only [beq_eq_false_iff_ne]; rw [pl]; exact fun h => hv ((hz v).1 h)]
            conv => whnf
            obtain ⟨m, em, pm⟩ := hideZ (cmpR w.p o.p)
            refine ⟨(w, o), rfl, ⟨PV.sz_mono sw (by decide), PV.sz_mono so (by decide)⟩, ?_⟩
            rw [show vcmpS.val (w, o) = .int .i64 m from em]
            conv => whnf
            rw [show (m == 0) = false from by simp only [beq_eq_false_iff_ne]; rw [pm]; exact fun h => hw ((hz w).1 h)]
            conv => whnf
            by_cases h2 : angR u.p w.p = 0
            · refine ⟨(u, w), rfl, ⟨PV.sz_mono su (by decide), PV.sz_mono sw (by decide)⟩, ?_⟩
              rw [show angleS.val (u, w) = .int .i64 (0) from congrArg (Value.int .i64) (show angR u.p w.p = 0 from h2)]
              conv => whnf
              conv => whnf
              refine ⟨(), rfl, trivial, ?_⟩
              conv => whnf
              rfl
            · obtain ⟨n, en, pn⟩ := hideZ (angR u.p w.p)
              refine ⟨(u, w), rfl, ⟨PV.sz_mono su (by decide), PV.sz_mono sw (by decide)⟩, ?_⟩
              rw [show angleS.val (u, w) = .int .i64 n from en]
              conv => whnf
              rw [show (n == 0) = false from by simp only [beq_eq_false_iff_ne]; rw [pn]; exact h2]
              conv => whnf
              refine ⟨(v, w), rfl, ⟨PV.sz_mono sv (by decide), PV.sz_mono sw (by decide)⟩, ?_⟩
              rw [show angleS.val (v, w) = .int .i64 (0) from congrArg (Value.int .i64) (show angR v.p w.p = 0 from h1.resolve_left h2)]
              conv => whnf
              conv => whnf
              refine ⟨(), rfl, trivial, ?_⟩
              conv => whnf
              rfl
          · have g1 : angR u.p w.p ≠ 0 := fun h => h1 (.inl h)
            have g2 : angR v.p w.p ≠ 0 := fun h => h1 (.inr h)
            obtain ⟨b1, eb1, pb1⟩ := hideB (decide (wedR u.p v.p w.p))
            refine ⟨(u, v, w), rfl, ⟨PV.sz_mono su (by decide), PV.sz_mono sv (by decide), PV.sz_mono sw (by decide)⟩, ?_⟩
            rw [show wedgeS.val (u, v, w) = .bool b1 from eb1]
            conv => whnf
            obtain ⟨b2, eb2, pb2⟩ := hideB (decide (wedR v.p u.p w.p))
            refine ⟨(v, u, w), rfl, ⟨PV.sz_mono sv (by decide), PV.sz_mono su (by decide), PV.sz_mono sw (by decide)⟩, ?_⟩
            rw [show wedgeS.val (v, u, w) = .bool b2 from eb2]
            conv => whnf
            obtain ⟨k, ek, pk⟩ := hideZ (cmpR u.p o.p)
            refine ⟨(u, o), rfl, ⟨PV.sz_mono su (by decide), PV.sz_mono so (by decide)⟩, ?_⟩
            rw [show vcmpS.val (u, o) = .int .i64 k from ek]
            conv => whnf
            rw [show (k == 0) = false from by simp only [beq_eq_false_iff_ne]; rw [pk]; exact fun h => hu ((hz u).1 h)]
            conv => whnf
            obtain ⟨l, el, pl⟩ := hideZ (cmpR v.p o.p)
            refine ⟨(v, o), rfl, ⟨PV.sz_mono sv (by decide), PV.sz_mono so (by decide)⟩, ?_⟩
            rw [show vcmpS.val (v, o) = .int .i64 l from el]
            conv => whnf
            rw [show (l == 0) = false from by simp only [beq_eq_false_iff_ne]; rw [pl]; exact fun h => hv ((hz v).1 h)]
            conv => whnf
            obtain ⟨m, em, pm⟩ := hideZ (cmpR w.p o.p)
            refine ⟨(w, o), rfl, ⟨PV.sz_mono sw (by decide), PV.sz_mono so (by decide)⟩, ?_⟩
            rw [show vcmpS.val (w, o) = .int .i64 m from em]
            conv => whnf
            rw [show (m == 0) = false from by simp only [beq_eq_false_iff_ne]; rw [pm]; exact fun h => hw ((hz w).1 h)]
            conv => whnf
            obtain ⟨n, en, pn⟩ := hideZ (angR u.p w.p)
            refine ⟨(u, w), rfl, ⟨PV.sz_mono su (by decide), PV.sz_mono sw (by decide)⟩, ?_⟩
            rw [show angleS.val (u, w) = .int .i64 n from en]
            conv => whnf
            rw [show (n == 0) = false from by simp only [beq_eq_false_iff_ne]; rw [pn]; exact g1]
            conv => whnf
            obtain ⟨n2, en2, pn2⟩ := hideZ (angR v.p w.p)
            refine ⟨(v, w), rfl, ⟨PV.sz_mono sv (by decide), PV.sz_mono sw (by decide)⟩, ?_⟩
            rw [show angleS.val (v, w) = .int .i64 n2 from en2]
            conv => whnf
            rw [show (n2 == 0) = false from by simp only [beq_eq_false_iff_ne]; rw [pn2]; exact g2]
            conv => whnf
            by_cases h3 : angR u.p v.p = 0
            · obtain ⟨w1, w2⟩ := wed_both hu hv hw g1 h3
              obtain rfl : b1 = true := by rw [pb1]; exact decide_eq_true w1
              obtain rfl : b2 = true := by rw [pb2]; exact decide_eq_true w2
              refine ⟨(u, v), rfl, ⟨PV.sz_mono su (by decide), PV.sz_mono sv (by decide)⟩, ?_⟩
              rw [show angleS.val (u, v) = .int .i64 (0) from congrArg (Value.int .i64) (show angR u.p v.p = 0 from h3)]
              conv => whnf
              conv => whnf
              refine ⟨(), rfl, trivial, ?_⟩
              conv => whnf
              rfl
            · have hone := wed_one hu hv hw g1 g2 h3
              obtain ⟨n3, en3, pn3⟩ := hideZ (angR u.p v.p)
              refine ⟨(u, v), rfl, ⟨PV.sz_mono su (by decide), PV.sz_mono sv (by decide)⟩, ?_⟩
              rw [show angleS.val (u, v) = .int .i64 n3 from en3]
              conv => whnf
              rw [show (n3 == 0) = false from by simp only [beq_eq_false_iff_ne]; rw [pn3]; exact h3]
              conv => whnf
              obtain ⟨r, er, pr⟩ := hideZ (cmpQ (orR o.p u.p v.p) 0)
              refine ⟨(o, u, v), rfl, ⟨PV.sz_mono so (by decide), PV.sz_mono su (by decide), PV.sz_mono sv (by decide)⟩, ?_⟩
              rw [show orientS.val (o, u, v) = .int .i64 r from er]
              conv => whnf
              rw [or_zero u.p v.p po] at pr
              by_cases h4 : 0 < crossR u.p v.p
              · obtain rfl : r = 1 := by rw [pr]; exact cmpQ_gt h4
                have hl := wed_left hu hv hw g1 h4
                obtain ⟨r1, er1, pr1⟩ := hideZ (cmpQ (orR o.p u.p w.p) 0)
                refine ⟨(o, u, w), rfl, ⟨PV.sz_mono so (by decide), PV.sz_mono su (by decide), PV.sz_mono sw (by decide)⟩, ?_⟩
                rw [show orientS.val (o, u, w) = .int .i64 r1 from er1]
                conv => whnf
                rw [or_zero u.p w.p po] at pr1
                by_cases h5 : 0 < crossR u.p w.p
                · obtain rfl : r1 = 1 := by rw [pr1]; exact cmpQ_gt h5
                  conv => whnf
                  obtain ⟨r2, er2, pr2⟩ := hideZ (cmpQ (orR o.p w.p v.p) 0)
                  refine ⟨(o, w, v), rfl, ⟨PV.sz_mono so (by decide), PV.sz_mono sw (by decide), PV.sz_mono sv (by decide)⟩, ?_⟩
                  rw [show orientS.val (o, w, v) = .int .i64 r2 from er2]
                  conv => whnf
                  rw [or_zero w.p v.p po] at pr2
                  by_cases h6 : 0 < crossR w.p v.p
                  · obtain rfl : r2 = 1 := by rw [pr2]; exact cmpQ_gt h6
                    obtain rfl : b1 = true := by rw [pb1]; exact decide_eq_true (hl.2 ⟨h5, h6⟩)
                    obtain rfl : b2 = false := by rw [pb2]; exact decide_eq_false (fun h => hone.1 h (hl.2 ⟨h5, h6⟩))
                    conv => whnf
                    refine ⟨(), rfl, trivial, ?_⟩
                    conv => whnf
                    rfl
                  · rw [show (r2 == 1) = false from by simp only [beq_eq_false_iff_ne]; rw [pr2]; exact fun h => h6 (cmpQ_one.1 h)]
                    have hnl : ¬ wedR u.p v.p w.p := fun h => h6 (hl.1 h).2
                    obtain rfl : b1 = false := by rw [pb1]; exact decide_eq_false hnl
                    obtain rfl : b2 = true := by rw [pb2]; exact decide_eq_true (hone.2 hnl)
                    conv => whnf
                    refine ⟨(), rfl, trivial, ?_⟩
                    conv => whnf
                    rfl
                · rw [show (r1 == 1) = false from by simp only [beq_eq_false_iff_ne]; rw [pr1]; exact fun h => h5 (cmpQ_one.1 h)]
                  have hnl : ¬ wedR u.p v.p w.p := fun h => h5 (hl.1 h).1
                  obtain rfl : b1 = false := by rw [pb1]; exact decide_eq_false hnl
                  obtain rfl : b2 = true := by rw [pb2]; exact decide_eq_true (hone.2 hnl)
                  conv => whnf
                  refine ⟨(), rfl, trivial, ?_⟩
                  conv => whnf
                  rfl
              · rw [show (r == 1) = false from by simp only [beq_eq_false_iff_ne]; rw [pr]; exact fun h => h4 (cmpQ_one.1 h)]
                conv => whnf
                by_cases hx : wedR u.p v.p w.p
                · obtain rfl : b1 = true := by rw [pb1]; exact decide_eq_true hx
                  obtain rfl : b2 = false := by rw [pb2]; exact decide_eq_false (fun h => hone.1 h hx)
                  conv => whnf
                  refine ⟨(), rfl, trivial, ?_⟩
                  conv => whnf
                  rfl
                · obtain rfl : b1 = false := by rw [pb1]; exact decide_eq_false hx
                  obtain rfl : b2 = true := by rw [pb2]; exact decide_eq_true (hone.2 hx)
                  conv => whnf
                  refine ⟨(), rfl, trivial, ?_⟩
                  conv => whnf
                  rfl
  · conv => whnf
    refine ⟨(), rfl, trivial, ?_⟩
    conv => whnf
    rfl
end Go.Proofs.Ytgakcbdahbagkaa
