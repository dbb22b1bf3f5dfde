import Derived.Test.YtppeponndkfbkaaRows
import Derived.Test.YtppeponndkfbkaaQJ
/- Laws of lines that do without the reference. -/
set_option linter.unusedVariables false
set_option linter.unusedSimpArgs false
set_option maxRecDepth 20000
set_option maxHeartbeats 4000000
namespace Go.Proofs.Ytppeponndkfbkaa
open Go Go.Ae

def Elw : Env := { tt := tt, eqs := eqsL, Φ := fun g => match g with
  | 17 => some (.q greatLS)
  | 18 => some (.p awakeS)
  | 19 => some (.p throughS)
  | 21 => some (.p sideS)
  | 22 => some (.p lcheckS)
  | 28 => some (.p (footS 1))
  | 29 => some (.p (footS 2))
  | 32 => some (.p bisectS)
  | 33 => some (.p meetS)
  | 34 => some (.p parallelS)
  | 23 => some (.p orientS)
  | 20 => some (.p vcmpS)
  | 30 => some (.p vdistS)
  | 31 => some (.p vaddS)
  | 16 => some (.p qcmpS)
  | 35 => some (.p qmulS)
  | _ => none }
theorem Elwok : EnvOk Try.prog Elw := ⟨tt_ok, eqs_ok, (fun g S h => by
  simp only [Elw] at h
  split at h
  · cases h; exact greatL_ok
  · cases h; exact awake9_ok
  · cases h; exact through_ok
  · cases h; exact side_ok
  · cases h; exact lcheck_ok
  · cases h; exact foot_ok
  · cases h; exact mirror_ok
  · cases h; exact bisect_ok
  · cases h; exact meet_ok
  · cases h; exact parallel_ok
  · cases h; exact orient_ok
  · cases h; exact vcmp_ok
  · cases h; exact vdist_ok
  · cases h; exact vadd_ok
  · cases h; exact qcmp_ok
  · cases h; exact qmul_ok
  · cases h), fun g F h => by simp [Elw] at h⟩
theorem sides_ok : Snd Try.prog 4 law3S := by
  refine snd_of Elwok Dok Try.func4 (enters_of Try.func4 (by kernel_rfl) rfl) (fun _ => rfl) (fun _ => rfl) ?_
  intro ⟨p, q, r⟩ hp
  conv => whnf
  obtain ⟨G, hG⟩ : ∃ G, G = greatL [] [p, q, r] := ⟨_, rfl⟩
  refine ⟨((none : LL), (some ([p, q, r], 3) : PL)), [3], rfl, ⟨by show 0 ≤ 1099511627776; decide, by show 3 ≤ 1099511627776; decide⟩, ?_⟩
  rw [show greatLS.blks ((none : LL), (some ([p, q, r], 3) : PL)) = [.flat false 3 6 (rowsP [p, q, r])] from rfl, show greatLS.val ((none : LL), (some ([p, q, r], 3) : PL)) = .bool G from by rw [hG]; rfl, show greatLS.new ((none : LL), (some ([p, q, r], 3) : PL)) = none from rfl]
  conv => whnf
  refine ⟨lit_blk [p, q, r], ?_⟩
  conv => whnf
  refine ⟨.bool G, rfl, ?_⟩
  conv => whnf
  have hsz := fun h => great_false (hG.symm.trans h)
  clear hG
  cases hG2 : G
  · obtain ⟨hls, hps⟩ := hsz hG2
    have sp : PV.sz 20 p := hps p (by simp)
    have qp := PV.psz sp (by decide)
    have sq : PV.sz 20 q := hps q (by simp)
    have qq := PV.psz sq (by decide)
    have sr : PV.sz 20 r := hps r (by simp)
    have qr := PV.psz sr (by decide)
    conv => whnf
    obtain ⟨l, e, el, pl, sl, ql⟩ := hideLE (thrV_sz qp qq)
    refine ⟨(p, q), rfl, ⟨PV.sz_mono sp (by decide), PV.sz_mono sq (by decide)⟩, ?_⟩
    rw [show throughS.val (p, q) = .tuple ⟨[l.v, .int .i64 e]⟩ from el]
    conv => whnf
    obtain ⟨m, f, em, pm, sm, qm⟩ := hideLE (thrV_sz qq qp)
    refine ⟨(q, p), rfl, ⟨PV.sz_mono sq (by decide), PV.sz_mono sp (by decide)⟩, ?_⟩
    rw [show throughS.val (q, p) = .tuple ⟨[m.v, .int .i64 f]⟩ from em]
    conv => whnf
    by_cases h : cmpR p.p q.p = 0
    · rw [thrV_eq h] at pl
      rw [thrV_eq (cmpR_swap0.2 h)] at pm
      obtain ⟨cl, rfl⟩ : zeroL = l ∧ (12 : Int) = e := ⟨congrArg Prod.fst pl, congrArg Prod.snd pl⟩
      obtain ⟨cm, rfl⟩ : zeroL = m ∧ (12 : Int) = f := ⟨congrArg Prod.fst pm, congrArg Prod.snd pm⟩
      conv => whnf
      refine ⟨(p, q), rfl, ⟨PV.sz_mono sp (by decide), PV.sz_mono sq (by decide)⟩, ?_⟩
      rw [show vcmpS.val (p, q) = .int .i64 (0) from congrArg (Value.int .i64) (show cmpR p.p q.p = 0 from h)]
      conv => whnf
      conv => whnf
      refine ⟨(), rfl, trivial, ?_⟩
      conv => whnf
      rfl
    · rw [thrV_ne h] at pl
      rw [thrV_ne (fun e => h (cmpR_swap0.1 e))] at pm
      obtain ⟨cl, rfl⟩ : linV (thrR p.p q.p) = l ∧ (0 : Int) = e := ⟨congrArg Prod.fst pl, congrArg Prod.snd pl⟩
      obtain ⟨cm, rfl⟩ : linV (thrR q.p p.p) = m ∧ (0 : Int) = f := ⟨congrArg Prod.fst pm, congrArg Prod.snd pm⟩
      have hne : p.p ≠ q.p := fun e => h (cmpR_eq0.2 e)
      have hl : l.q = thrR p.p q.p := by rw [← cl, linV_q]
      have hm : m.q = thrR q.p p.p := by rw [← cm, linV_q]
      have il : isL l.q := by rw [hl]; exact thr_isL hne
      have im : isL m.q := by rw [hm]; exact thr_isL (Ne.symm hne)
      conv => whnf
      obtain ⟨a, g1, ea, pa⟩ := hideZE (sidV l.q p.p)
      refine ⟨(l, p), rfl, ⟨R3.sz_mono sl (by decide), PV.sz_mono sp (by decide)⟩, ?_⟩
      rw [show sideS.val (l, p) = .tuple ⟨[.int .i64 a, .int .i64 g1]⟩ from ea]
      conv => whnf
      rw [sidV_ok il, hl, thr_val, (orR_val_self _ _).1] at pa
      obtain ⟨ca, rfl⟩ : cmpQ 0 0 = a ∧ (0 : Int) = g1 := ⟨congrArg Prod.fst pa, congrArg Prod.snd pa⟩
      obtain rfl : 0 = a := ca
      obtain ⟨b, g2, eb, pb⟩ := hideZE (sidV l.q q.p)
      refine ⟨(l, q), rfl, ⟨R3.sz_mono sl (by decide), PV.sz_mono sq (by decide)⟩, ?_⟩
      rw [show sideS.val (l, q) = .tuple ⟨[.int .i64 b, .int .i64 g2]⟩ from eb]
      conv => whnf
      rw [sidV_ok il, hl, thr_val, (orR_val_self _ _).2] at pb
      obtain ⟨cb, rfl⟩ : cmpQ 0 0 = b ∧ (0 : Int) = g2 := ⟨congrArg Prod.fst pb, congrArg Prod.snd pb⟩
      obtain rfl : 0 = b := cb
      obtain ⟨s, g3, es, ps⟩ := hideZE (sidV l.q r.p)
      refine ⟨(l, r), rfl, ⟨R3.sz_mono sl (by decide), PV.sz_mono sr (by decide)⟩, ?_⟩
      rw [show sideS.val (l, r) = .tuple ⟨[.int .i64 s, .int .i64 g3]⟩ from es]
      conv => whnf
      rw [sidV_ok il, hl, thr_val] at ps
      obtain ⟨cs, rfl⟩ : cmpQ (orR p.p q.p r.p) 0 = s ∧ (0 : Int) = g3 := ⟨congrArg Prod.fst ps, congrArg Prod.snd ps⟩
      obtain ⟨t, g4, et, pt⟩ := hideZE (sidV m.q r.p)
      refine ⟨(m, r), rfl, ⟨R3.sz_mono sm (by decide), PV.sz_mono sr (by decide)⟩, ?_⟩
      rw [show sideS.val (m, r) = .tuple ⟨[.int .i64 t, .int .i64 g4]⟩ from et]
      conv => whnf
      rw [sidV_ok im, hm, thr_val, orR_back, cmpQ_neg', cs] at pt
      obtain ⟨ct, rfl⟩ : -s = t ∧ (0 : Int) = g4 := ⟨congrArg Prod.fst pt, congrArg Prod.snd pt⟩
      subst ct
      have hs := cmpQ_range (orR p.p q.p r.p) 0
      rw [cs] at hs
      refine ⟨l, rfl, R3.sz_mono sl (by decide), ?_⟩
      rw [show lcheckS.val l = .int .i64 (0) from congrArg (Value.int .i64) (show chkV l.q = 0 from chkV_ok il)]
      conv => whnf
      refine ⟨(p, q, r), rfl, ⟨PV.sz_mono sp (by decide), PV.sz_mono sq (by decide), PV.sz_mono sr (by decide)⟩, ?_⟩
      rw [show orientS.val (p, q, r) = .int .i64 (s) from congrArg (Value.int .i64) (show cmpQ (orR p.p q.p r.p) 0 = s from cs)]
      conv => whnf
      rw [show (s == s) = true from by simp]
      conv => whnf
      rw [show (-s == IntKind.i64.wrap (0 - s)) = true from by rcases hs with rfl | rfl | rfl <;> rfl]
      conv => whnf
      obtain ⟨z, ez, pz⟩ := hideZ (cmpR p.p q.p)
      refine ⟨(p, q), rfl, ⟨PV.sz_mono sp (by decide), PV.sz_mono sq (by decide)⟩, ?_⟩
      rw [show vcmpS.val (p, q) = .int .i64 z from ez]
      conv => whnf
      rw [show (z != 0) = true from by rw [pz]; simp [h]]
      conv => whnf
      refine ⟨(), rfl, trivial, ?_⟩
      conv => whnf
      rfl
  · conv => whnf
    refine ⟨(), rfl, trivial, ?_⟩
    conv => whnf
    rfl
theorem bisects_ok : Snd Try.prog 7 law3S := by
  refine snd_of Elwok Dok Try.func7 (enters_of Try.func7 (by kernel_rfl) rfl) (fun _ => rfl) (fun _ => rfl) ?_
  intro ⟨p, q, r⟩ hp
  conv => whnf
  obtain ⟨G, hG⟩ : ∃ G, G = greatL [] [p, q, r] := ⟨_, rfl⟩
  refine ⟨((none : LL), (some ([p, q, r], 3) : PL)), [3], rfl, ⟨by show 0 ≤ 1099511627776; decide, by show 3 ≤ 1099511627776; decide⟩, ?_⟩
  rw [show greatLS.blks ((none : LL), (some ([p, q, r], 3) : PL)) = [.flat false 3 6 (rowsP [p, q, r])] from rfl, show greatLS.val ((none : LL), (some ([p, q, r], 3) : PL)) = .bool G from by rw [hG]; rfl, show greatLS.new ((none : LL), (some ([p, q, r], 3) : PL)) = none from rfl]
  conv => whnf
  refine ⟨lit_blk [p, q, r], ?_⟩
  conv => whnf
  refine ⟨.bool G, rfl, ?_⟩
  conv => whnf
  have hsz := fun h => great_false (hG.symm.trans h)
  clear hG
  cases hG2 : G
  · obtain ⟨hls, hps⟩ := hsz hG2
    have sp : PV.sz 20 p := hps p (by simp)
    have qp := PV.psz sp (by decide)
    have sq : PV.sz 20 q := hps q (by simp)
    have qq := PV.psz sq (by decide)
    have sr : PV.sz 20 r := hps r (by simp)
    have qr := PV.psz sr (by decide)
    conv => whnf
    obtain ⟨l, e, el, pl, sl, ql⟩ := hideLE (bisV_sz qp qq)
    refine ⟨(p, q), rfl, ⟨PV.sz_mono sp (by decide), PV.sz_mono sq (by decide)⟩, ?_⟩
    rw [show bisectS.val (p, q) = .tuple ⟨[l.v, .int .i64 e]⟩ from el]
    conv => whnf
    by_cases h : cmpR p.p q.p = 0
    · rw [bisV_eq h] at pl
      obtain ⟨cl, rfl⟩ : zeroL = l ∧ (12 : Int) = e := ⟨congrArg Prod.fst pl, congrArg Prod.snd pl⟩
      conv => whnf
      refine ⟨(p, q), rfl, ⟨PV.sz_mono sp (by decide), PV.sz_mono sq (by decide)⟩, ?_⟩
      rw [show vcmpS.val (p, q) = .int .i64 (0) from congrArg (Value.int .i64) (show cmpR p.p q.p = 0 from h)]
      conv => whnf
      conv => whnf
      refine ⟨(), rfl, trivial, ?_⟩
      conv => whnf
      rfl
    · rw [bisV_ne h] at pl
      obtain ⟨cl, rfl⟩ : linV (bisR p.p q.p) = l ∧ (0 : Int) = e := ⟨congrArg Prod.fst pl, congrArg Prod.snd pl⟩
      have hne : p.p ≠ q.p := fun e => h (cmpR_eq0.2 e)
      have hl : l.q = bisR p.p q.p := by rw [← cl, linV_q]
      have il : isL l.q := by rw [hl]; exact bis_isL hne
      conv => whnf
      obtain ⟨s, g1, es, ps⟩ := hideZE (sidV l.q r.p)
      refine ⟨(l, r), rfl, ⟨R3.sz_mono sl (by decide), PV.sz_mono sr (by decide)⟩, ?_⟩
      rw [show sideS.val (l, r) = .tuple ⟨[.int .i64 s, .int .i64 g1]⟩ from es]
      conv => whnf
      rw [sidV_ok il, hl, bis_val, ← cmpQ_sub] at ps
      obtain ⟨cs, rfl⟩ : cmpQ (dstR r.p p.p) (dstR r.p q.p) = s ∧ (0 : Int) = g1 := ⟨congrArg Prod.fst ps, congrArg Prod.snd ps⟩
      obtain ⟨u, g2, eu, pu, su, qu⟩ := hidePE (footV_sz qb2 ql qp)
      refine ⟨(l, p), rfl, ⟨R3.sz_mono sl (by decide), PV.sz_mono sp (by decide)⟩, ?_⟩
      rw [show (footS 2).val (l, p) = .tuple ⟨[u.v, .int .i64 g2]⟩ from eu]
      conv => whnf
      rw [footV_ok il, hl, bis_mirror hne] at pu
      obtain ⟨cu, rfl⟩ : ptV q.p = u ∧ (0 : Int) = g2 := ⟨congrArg Prod.fst pu, congrArg Prod.snd pu⟩
      have hu : u.p = q.p := by rw [← cu, ptV_p]
      refine .inl ⟨20, [[], [0], [0, 1], [0, 1, 2], [0, 1, 2, 3], [0, 1, 2, 3, 4], [0, 1, 2, 3, 4, 5], [0, 1, 2, 3, 4, 5, 6], [0, 1, 2, 3, 4, 5, 6], [0, 1, 2, 3, 4, 5, 6], [0, 1, 2, 3, 4, 5, 6, 8, 9], [0, 1, 2, 3, 4, 5, 6], [0, 1, 2, 3, 4, 5, 6], [0, 1, 2, 3, 4, 5, 6, 8, 9, 10, 11, 12], [0, 1, 2, 3, 4, 5, 6, 8, 9, 10, 11, 12, 13], [0, 1, 2, 3, 4, 5, 6, 7, 8, 9, 10, 11, 12, 13, 14], [0, 1, 2, 3, 4, 5, 6, 7, 8, 9, 10, 11, 12, 13, 14, 15], [0, 1, 2, 3, 4, 5, 6, 7, 8, 9, 10, 11, 12, 13, 14, 15, 16], [0, 1, 2, 3, 4, 5, 6, 7, 8, 9, 10, 11, 12, 13, 14, 15, 16, 17], [0, 1, 2, 3, 4, 5, 6, 7, 8, 9, 10, 11, 12, 13, 14, 15, 16, 17], [0, 1, 2, 3, 4, 5, 6, 7, 8, 9, 10, 11, 12, 13, 14, 15, 16, 17, 18, 19], [0, 1, 2, 3, 4, 5, 6, 7, 8, 9, 10, 11, 12, 13, 14, 15, 16, 17, 18, 19, 20], [0, 1, 2, 3, 4, 5, 6, 7, 8, 9, 10, 11, 12, 13, 14, 15, 16, 17, 18, 19, 20, 21], [0, 1, 2, 3, 4, 5, 6, 7, 8, 9, 10, 11, 12, 13, 14, 15, 16, 17, 18, 19, 20, 21, 22], [0, 1, 2, 3, 4, 5, 6, 7, 8, 9, 10, 11, 12, 13, 14, 15, 16, 17, 18, 19, 20, 21, 22, 23], [0, 1, 2, 3, 4, 5, 6, 7, 8, 9, 10, 11, 12, 13, 14, 15, 16, 17, 18, 19, 20, 21, 22, 23, 24], [0, 1, 2, 3, 4, 5, 6, 7, 8, 9, 10, 11, 12, 13, 14, 15, 16, 17, 18, 19, 20, 21, 22, 23, 24, 25]], by kernel_rfl, ?_⟩
      conv => whnf
      obtain ⟨d1, ed1, pd1, sd1, qd1⟩ := hideR (dst_sz qr qp)
      refine ⟨(r, p), rfl, ⟨PV.sz_mono sr (by decide), PV.sz_mono sp (by decide)⟩, ?_⟩
      rw [show vdistS.val (r, p) = d1.v from (dist_val r p).trans ed1]
      conv => whnf
      obtain ⟨d2, ed2, pd2, sd2, qd2⟩ := hideR (dst_sz qr qq)
      refine ⟨(r, q), rfl, ⟨PV.sz_mono sr (by decide), PV.sz_mono sq (by decide)⟩, ?_⟩
      rw [show vdistS.val (r, q) = d2.v from (dist_val r q).trans ed2]
      conv => whnf
      refine ⟨(d1, d2), rfl, ⟨RV.sz_ok sd1 (by decide), RV.sz_ok sd2 (by decide)⟩, ?_⟩
      rw [show qcmpS.val (d1, d2) = .int .i64 (s) from congrArg (Value.int .i64) (show cmpQ d1.q d2.q = s from by rw [pd1, pd2]; exact cs)]
      conv => whnf
      rw [show (s == s) = true from by simp]
      conv => whnf
      refine ⟨(u, q), rfl, ⟨PV.sz_mono su (by decide), PV.sz_mono sq (by decide)⟩, ?_⟩
      rw [show vcmpS.val (u, q) = .int .i64 (0) from congrArg (Value.int .i64) (show cmpR u.p q.p = 0 from by rw [hu]; exact cmpR_eq0.2 rfl)]
      conv => whnf
      conv => whnf
      refine ⟨(), rfl, trivial, ?_⟩
      conv => whnf
      rfl
  · conv => whnf
    refine ⟨(), rfl, trivial, ?_⟩
    conv => whnf
    rfl
theorem feet_ok : Snd Try.prog 6 lawLPPS := by
  refine snd_of Elwok Dok Try.func6 (enters_of Try.func6 (by kernel_rfl) rfl) (fun _ => rfl) (fun _ => rfl) ?_
  intro ⟨l, p, q⟩ hp
  conv => whnf
  obtain ⟨G, hG⟩ : ∃ G, G = greatL [l] [p, q] := ⟨_, rfl⟩
  refine ⟨((some ([l], 1) : LL), (some ([p, q], 2) : PL)), [3, 4], rfl, ⟨by show 1 ≤ 1099511627776; decide, by show 2 ≤ 1099511627776; decide⟩, ?_⟩
  rw [show greatLS.blks ((some ([l], 1) : LL), (some ([p, q], 2) : PL)) = [.flat false 1 9 (rowsLn [l]), .flat false 2 6 (rowsP [p, q])] from rfl, show greatLS.val ((some ([l], 1) : LL), (some ([p, q], 2) : PL)) = .bool G from by rw [hG]; rfl, show greatLS.new ((some ([l], 1) : LL), (some ([p, q], 2) : PL)) = none from rfl]
  conv => whnf
  refine ⟨lit_blkL [l], lit_blk [p, q], ?_⟩
  conv => whnf
  refine ⟨.bool G, rfl, ?_⟩
  conv => whnf
  have hsz := fun h => great_false (hG.symm.trans h)
  clear hG
  cases hG2 : G
  · obtain ⟨hls, hps⟩ := hsz hG2
    have sl : R3.sz 20 l := hls l (by simp)
    have ql := R3.qsz sl (by decide)
    have sp : PV.sz 20 p := hps p (by simp)
    have qp := PV.psz sp (by decide)
    have sq : PV.sz 20 q := hps q (by simp)
    have qq := PV.psz sq (by decide)
    conv => whnf
    obtain ⟨c, ec, pc⟩ := hideZ (chkV l.q)
    refine ⟨l, rfl, R3.sz_mono sl (by decide), ?_⟩
    rw [show lcheckS.val l = .int .i64 c from ec]
    conv => whnf
    by_cases il : isL l.q
    · obtain rfl : c = 0 := by rw [pc, chkV_ok il]
      conv => whnf
      obtain ⟨u, g1, eu, pu, su, qu⟩ := hidePE (footV_sz (qb1 (Nat.le_refl 1)) ql qp)
      refine ⟨(l, p), rfl, ⟨R3.sz_mono sl (by decide), PV.sz_mono sp (by decide)⟩, ?_⟩
      rw [show (footS 1).val (l, p) = .tuple ⟨[u.v, .int .i64 g1]⟩ from eu]
      conv => whnf
      rw [footV_ok il] at pu
      obtain ⟨cu, rfl⟩ : ptV (footR 1 l.q p.p) = u ∧ (0 : Int) = g1 := ⟨congrArg Prod.fst pu, congrArg Prod.snd pu⟩
      obtain ⟨v, g2, ev, pv, sv, qv⟩ := hidePE (footV_sz (qb1 (Nat.le_refl 1)) ql qq)
      refine ⟨(l, q), rfl, ⟨R3.sz_mono sl (by decide), PV.sz_mono sq (by decide)⟩, ?_⟩
      rw [show (footS 1).val (l, q) = .tuple ⟨[v.v, .int .i64 g2]⟩ from ev]
      conv => whnf
      rw [footV_ok il] at pv
      obtain ⟨cv, rfl⟩ : ptV (footR 1 l.q q.p) = v ∧ (0 : Int) = g2 := ⟨congrArg Prod.fst pv, congrArg Prod.snd pv⟩
      obtain ⟨m, g3, em, pm, sm, qm⟩ := hidePE (footV_sz qb2 ql qp)
      refine ⟨(l, p), rfl, ⟨R3.sz_mono sl (by decide), PV.sz_mono sp (by decide)⟩, ?_⟩
      rw [show (footS 2).val (l, p) = .tuple ⟨[m.v, .int .i64 g3]⟩ from em]
      conv => whnf
      rw [footV_ok il] at pm
      obtain ⟨cm, rfl⟩ : ptV (footR 2 l.q p.p) = m ∧ (0 : Int) = g3 := ⟨congrArg Prod.fst pm, congrArg Prod.snd pm⟩
      have hu : u.p = footR 1 l.q p.p := by rw [← cu, ptV_p]
      have hv : v.p = footR 1 l.q q.p := by rw [← cv, ptV_p]
      have hm : m.p = footR 2 l.q p.p := by rw [← cm, ptV_p]
      obtain ⟨b, g4, eb, pb, sb, qb⟩ := hidePE (footV_sz qb2 ql qm)
      refine ⟨(l, m), rfl, ⟨R3.sz_mono sl (by decide), PV.sz_mono sm (by decide)⟩, ?_⟩
      rw [show (footS 2).val (l, m) = .tuple ⟨[b.v, .int .i64 g4]⟩ from eb]
      conv => whnf
      rw [footV_ok il, hm, mirror_twice il] at pb
      obtain ⟨cb, rfl⟩ : ptV p.p = b ∧ (0 : Int) = g4 := ⟨congrArg Prod.fst pb, congrArg Prod.snd pb⟩
      have hb : b.p = p.p := by rw [← cb, ptV_p]
      obtain ⟨o, g5, eo, po⟩ := hideZE (sidV l.q u.p)
      refine ⟨(l, u), rfl, ⟨R3.sz_mono sl (by decide), PV.sz_mono su (by decide)⟩, ?_⟩
      rw [show sideS.val (l, u) = .tuple ⟨[.int .i64 o, .int .i64 g5]⟩ from eo]
      conv => whnf
      rw [sidV_ok il, hu, val_foot il, show (1 - 1 : Rat) * valR l.q p.p = 0 from by grind] at po
      obtain ⟨co, rfl⟩ : cmpQ 0 0 = o ∧ (0 : Int) = g5 := ⟨congrArg Prod.fst po, congrArg Prod.snd po⟩
      obtain rfl : 0 = o := co
      obtain ⟨s, g6, es, ps⟩ := hideZE (sidV l.q p.p)
      refine ⟨(l, p), rfl, ⟨R3.sz_mono sl (by decide), PV.sz_mono sp (by decide)⟩, ?_⟩
      rw [show sideS.val (l, p) = .tuple ⟨[.int .i64 s, .int .i64 g6]⟩ from es]
      conv => whnf
      rw [sidV_ok il] at ps
      obtain ⟨cs, rfl⟩ : cmpQ (valR l.q p.p) 0 = s ∧ (0 : Int) = g6 := ⟨congrArg Prod.fst ps, congrArg Prod.snd ps⟩
      have hs := cmpQ_range (valR l.q p.p) 0
      rw [cs] at hs
      obtain ⟨t, g7, et, pt⟩ := hideZE (sidV l.q m.p)
      refine ⟨(l, m), rfl, ⟨R3.sz_mono sl (by decide), PV.sz_mono sm (by decide)⟩, ?_⟩
      rw [show sideS.val (l, m) = .tuple ⟨[.int .i64 t, .int .i64 g7]⟩ from et]
      conv => whnf
      rw [sidV_ok il, hm, val_foot il, show (1 - 2 : Rat) * valR l.q p.p = -valR l.q p.p from by grind, cmpQ_neg', cs] at pt
      obtain ⟨ct, rfl⟩ : -s = t ∧ (0 : Int) = g7 := ⟨congrArg Prod.fst pt, congrArg Prod.snd pt⟩
      subst ct
      rw [show ((0 : Int) != 0) = false from rfl]
      conv => whnf
      rw [show (-s != IntKind.i64.wrap (0 - s)) = false from by rcases hs with rfl | rfl | rfl <;> rfl]
      conv => whnf
      refine .inl ⟨5, [[], [], [0, 1], [], [], [0, 1, 2, 3, 4], [0, 1, 2, 3, 4, 5], [0, 1, 2, 3, 4, 5, 6]], by kernel_rfl, ?_⟩
      conv => whnf
      obtain ⟨d1, ed1, pd1, sd1, qd1⟩ := hideR (dst_sz qp qu)
      refine ⟨(p, u), rfl, ⟨PV.sz_mono sp (by decide), PV.sz_mono su (by decide)⟩, ?_⟩
      rw [show vdistS.val (p, u) = d1.v from (dist_val p u).trans ed1]
      conv => whnf
      obtain ⟨d2, ed2, pd2, sd2, qd2⟩ := hideR (dst_sz qp qv)
      refine ⟨(p, v), rfl, ⟨PV.sz_mono sp (by decide), PV.sz_mono sv (by decide)⟩, ?_⟩
      rw [show vdistS.val (p, v) = d2.v from (dist_val p v).trans ed2]
      conv => whnf
      obtain ⟨n, en, pn⟩ := hideZ (cmpQ d1.q d2.q)
      refine ⟨(d1, d2), rfl, ⟨RV.sz_ok sd1 (by decide), RV.sz_ok sd2 (by decide)⟩, ?_⟩
      rw [show qcmpS.val (d1, d2) = .int .i64 n from en]
      conv => whnf
      have hon : valR l.q v.p = 0 := by rw [hv, val_foot il]; grind
      obtain ⟨n1, n2⟩ := near_le il p.p hon
      rw [← hu, ← pd1, ← pd2, ← pn] at n1 n2
      refine .inl ⟨22, [[], [0], [0, 1], [0, 1, 2], [0, 1, 2, 3], [0, 1, 2], [0, 1, 2], [0, 1, 2, 5, 6], [0, 1, 2, 3, 4, 5, 6, 7], [0, 1, 2, 3, 4, 5, 6, 7, 8], [0, 1, 2, 3, 4, 5, 6, 7, 8, 9], [0, 1, 2, 3, 4, 5, 6, 7, 8, 9, 10], [0, 1, 2, 3, 4, 5, 6, 7, 8, 9, 10], [0, 1, 2, 3, 4, 5, 6, 7, 8, 9, 10, 11, 12], [0, 1, 2, 3, 4, 5, 6, 7, 8, 9, 10, 11, 12, 13], [0, 1, 2, 3, 4, 5, 6, 7, 8, 9, 10, 11, 12, 13, 14], [0, 1, 2, 3, 4, 5, 6, 7, 8, 9, 10, 11, 12, 13, 14, 15], [0, 1, 2, 3, 4, 5, 6, 7, 8, 9, 10, 11, 12, 13, 14, 15, 16], [0, 1, 2, 3, 4, 5, 6, 7, 8, 9, 10, 11, 12, 13, 14, 15, 16], [0, 1, 2, 3, 4, 5, 6, 7, 8, 9, 10, 11, 12, 13, 14, 15, 16, 17, 18], [0, 1, 2, 3, 4, 5, 6, 7, 8, 9, 10, 11, 12, 13, 14, 15, 16], [0, 1, 2, 3, 4, 5, 6, 7, 8, 9, 10, 11, 12, 13, 14, 15, 16], [0, 1, 2, 3, 4, 5, 6, 7, 8, 9, 10, 11, 12, 13, 14, 15, 16, 17, 18, 19, 20, 21], [0, 1, 2, 3, 4, 5, 6, 7, 8, 9, 10, 11, 12, 13, 14, 15, 16, 17, 18, 19, 20, 21, 22], [0, 1, 2, 3, 4, 5, 6, 7, 8, 9, 10, 11, 12, 13, 14, 15, 16, 17, 18, 19, 20, 21, 22, 23], [0, 1, 2, 3, 4, 5, 6, 7, 8, 9, 10, 11, 12, 13, 14, 15, 16, 17, 18, 19, 20, 21, 22, 23, 24], [0, 1, 2, 3, 4, 5, 6, 7, 8, 9, 10, 11, 12, 13, 14, 15, 16, 17, 18, 19, 20, 21, 22, 23, 24, 25], [0, 1, 2, 3, 4, 5, 6, 7, 8, 9, 10, 11, 12, 13, 14, 15, 16, 17, 18, 19, 20, 21, 22, 23, 24, 25, 26], [0, 1, 2, 3, 4, 5, 6, 7, 8, 9, 10, 11, 12, 13, 14, 15, 16, 17, 18, 19, 20, 21, 22, 23, 24, 25, 26, 27]], by kernel_rfl, ?_⟩
      conv => whnf
      rw [show decide (n ≤ 0) = true from decide_eq_true n1]
      conv => whnf
      rw [eqPQ v u, show ((n == 0) == decide (v = u)) = true from by
        have k := canP_eq cv.symm cu.symm
        rw [← hv, ← hu] at k
        by_cases h0 : n = 0
        · rw [decide_eq_true (k.2 (n2.1 h0)), h0]; rfl
        · rw [decide_eq_false (fun e => h0 (n2.2 (k.1 e)))]; simp [h0]]
      conv => whnf
      refine ⟨(b, p), rfl, ⟨PV.sz_mono sb (by decide), PV.sz_mono sp (by decide)⟩, ?_⟩
      rw [show vcmpS.val (b, p) = .int .i64 (0) from congrArg (Value.int .i64) (show cmpR b.p p.p = 0 from by rw [hb]; exact cmpR_eq0.2 rfl)]
      conv => whnf
      obtain ⟨x, ex, px, sx, qx⟩ := hideP (add_sz qp qm)
      refine ⟨(p, m), rfl, ⟨PV.sz_mono sp (by decide), PV.sz_mono sm (by decide)⟩, ?_⟩
      rw [show vaddS.val (p, m) = x.v from ex]
      conv => whnf
      obtain ⟨y, ey, py, sy, qy⟩ := hideP (add_sz qu qu)
      refine ⟨(u, u), rfl, ⟨PV.sz_mono su (by decide), PV.sz_mono su (by decide)⟩, ?_⟩
      rw [show vaddS.val (u, u) = y.v from ey]
      conv => whnf
      have hxy : x = y := by rw [(PV.v_eq ex).symm, (PV.v_eq ey).symm, hm, hu, foot_mid]
      rw [eqPQ x y, decide_eq_true hxy]
      conv => whnf
      refine ⟨(), rfl, trivial, ?_⟩
      conv => whnf
      rfl
    · have hc : c ≠ 0 := by rw [pc, chkV_no il]; decide
      rw [show (c != 0) = true from by simp [hc]]
      conv => whnf
      refine ⟨(), rfl, trivial, ?_⟩
      conv => whnf
      rfl
  · conv => whnf
    refine ⟨(), rfl, trivial, ?_⟩
    conv => whnf
    rfl
theorem meets_ok : Snd Try.prog 8 lawLLPS := by
  refine snd_of Elwok Dok Try.func8 (enters_of Try.func8 (by kernel_rfl) rfl) (fun _ => rfl) (fun _ => rfl) ?_
  intro ⟨⟨l, m⟩, p⟩ hp
  conv => whnf
  obtain ⟨G, hG⟩ : ∃ G, G = greatL [l, m] [p] := ⟨_, rfl⟩
  refine ⟨((some ([l, m], 2) : LL), (some ([p], 1) : PL)), [3, 4], rfl, ⟨by show 2 ≤ 1099511627776; decide, by show 1 ≤ 1099511627776; decide⟩, ?_⟩
  rw [show greatLS.blks ((some ([l, m], 2) : LL), (some ([p], 1) : PL)) = [.flat false 2 9 (rowsLn [l, m]), .flat false 1 6 (rowsP [p])] from rfl, show greatLS.val ((some ([l, m], 2) : LL), (some ([p], 1) : PL)) = .bool G from by rw [hG]; rfl, show greatLS.new ((some ([l, m], 2) : LL), (some ([p], 1) : PL)) = none from rfl]
  conv => whnf
  refine ⟨lit_blkL [l, m], lit_blk [p], ?_⟩
  conv => whnf
  refine ⟨.bool G, rfl, ?_⟩
  conv => whnf
  have hsz := fun h => great_false (hG.symm.trans h)
  clear hG
  cases hG2 : G
  · obtain ⟨hls, hps⟩ := hsz hG2
    have sl : R3.sz 20 l := hls l (by simp)
    have ql := R3.qsz sl (by decide)
    have sm : R3.sz 20 m := hls m (by simp)
    have qm := R3.qsz sm (by decide)
    have sp : PV.sz 20 p := hps p (by simp)
    have qp := PV.psz sp (by decide)
    conv => whnf
    obtain ⟨c, ec, pc⟩ := hideZ (chkV l.q)
    refine ⟨l, rfl, R3.sz_mono sl (by decide), ?_⟩
    rw [show lcheckS.val l = .int .i64 c from ec]
    conv => whnf
    by_cases il : isL l.q
    · obtain rfl : c = 0 := by rw [pc, chkV_ok il]
      conv => whnf
      obtain ⟨c2, ec2, pc2⟩ := hideZ (chkV m.q)
      refine ⟨m, rfl, R3.sz_mono sm (by decide), ?_⟩
      rw [show lcheckS.val m = .int .i64 c2 from ec2]
      conv => whnf
      by_cases im : isL m.q
      · obtain rfl : c2 = 0 := by rw [pc2, chkV_ok im]
        conv => whnf
        obtain ⟨u, e, eu, pu, su, qu⟩ := hidePE (metV_sz ql qm)
        refine ⟨(l, m), rfl, ⟨R3.sz_mono sl (by decide), R3.sz_mono sm (by decide)⟩, ?_⟩
        rw [show meetS.val (l, m) = .tuple ⟨[u.v, .int .i64 e]⟩ from eu]
        conv => whnf
        obtain ⟨r, f, er, pr, sr, qr⟩ := hideLE (parV_sz qm qp)
        refine ⟨(m, p), rfl, ⟨R3.sz_mono sm (by decide), PV.sz_mono sp (by decide)⟩, ?_⟩
        rw [show parallelS.val (m, p) = .tuple ⟨[r.v, .int .i64 f]⟩ from er]
        conv => whnf
        rw [parV_ok im] at pr
        obtain ⟨cr, rfl⟩ : linV (parR m.q p.p) = r ∧ (0 : Int) = f := ⟨congrArg Prod.fst pr, congrArg Prod.snd pr⟩
        have hr : r.q = parR m.q p.p := by rw [← cr, linV_q]
        have ir : isL r.q := by rw [hr]; exact im
        obtain ⟨s, g, es, ps⟩ := hideZE (sidV r.q p.p)
        refine ⟨(r, p), rfl, ⟨R3.sz_mono sr (by decide), PV.sz_mono sp (by decide)⟩, ?_⟩
        rw [show sideS.val (r, p) = .tuple ⟨[.int .i64 s, .int .i64 g]⟩ from es]
        conv => whnf
        rw [sidV_ok ir, hr, par_val] at ps
        obtain ⟨cs, rfl⟩ : cmpQ 0 0 = s ∧ (0 : Int) = g := ⟨congrArg Prod.fst ps, congrArg Prod.snd ps⟩
        obtain rfl : 0 = s := cs
        obtain ⟨u2, h, eu2, pu2, su2, qu2⟩ := hidePE (metV_sz ql qr)
        refine ⟨(l, r), rfl, ⟨R3.sz_mono sl (by decide), R3.sz_mono sr (by decide)⟩, ?_⟩
        rw [show meetS.val (l, r) = .tuple ⟨[u2.v, .int .i64 h]⟩ from eu2]
        conv => whnf
        obtain ⟨u3, i, eu3, pu3, su3, qu3⟩ := hidePE (metV_sz qm qr)
        refine ⟨(m, r), rfl, ⟨R3.sz_mono sm (by decide), R3.sz_mono sr (by decide)⟩, ?_⟩
        rw [show meetS.val (m, r) = .tuple ⟨[u3.v, .int .i64 i]⟩ from eu3]
        conv => whnf
        rw [metV_par im ir (by rw [hr, par_self])] at pu3
        obtain ⟨cu3, rfl⟩ : zeroP = u3 ∧ (24 : Int) = i := ⟨congrArg Prod.fst pu3, congrArg Prod.snd pu3⟩
        by_cases hd : detR l.q m.q = 0
        · rw [metV_par il im hd] at pu
          rw [metV_par il ir (by rw [hr, par_det, hd])] at pu2
          obtain ⟨cu, rfl⟩ : zeroP = u ∧ (24 : Int) = e := ⟨congrArg Prod.fst pu, congrArg Prod.snd pu⟩
          obtain ⟨cu2, rfl⟩ : zeroP = u2 ∧ (24 : Int) = h := ⟨congrArg Prod.fst pu2, congrArg Prod.snd pu2⟩
          rw [show ((0 : Int) != 0) = false from rfl, show ((24 : Int) != 24) = false from rfl]
          conv => whnf
          rw [show ((24 : Int) != 24) = false from rfl]
          conv => whnf
          obtain ⟨a, b, k⟩ := l
          obtain ⟨a', b', k'⟩ := m
          have sa := sl.1
          have sb := sl.2.1
          have sa' := sm.1
          have sb' := sm.2.1
          have qa : QB a.q _ := ql.1
          have qb : QB b.q _ := ql.2.1
          have qa' : QB a'.q _ := qm.1
          have qb' : QB b'.q _ := qm.2.1
          refine .inl ⟨12, [[], [0], [0, 1], [0, 1, 2], [0, 1, 2, 3], [0, 1, 2], [0, 1, 2, 5], [0, 1, 2, 3, 4, 5, 6], [0, 1, 2], [0, 1, 2, 8], [0, 1, 2], [0, 1, 2, 10], [0, 1, 2, 3, 4, 5, 6, 7, 8, 9, 10, 11], [0, 1, 2, 3, 4, 5, 6, 7, 8, 9, 10, 11, 12], [0, 1, 2, 3, 4, 5, 6, 7, 8, 9, 10, 11, 12, 13], [0, 1, 2, 3, 4, 5, 6, 7, 8, 9, 10, 11, 12, 13, 14], [0, 1, 2, 3, 4, 5, 6, 7, 8, 9, 10, 11, 12, 13, 14, 15], [0, 1, 2, 3, 4, 5, 6, 7, 8, 9, 10, 11, 12, 13, 14, 15, 16], [0, 1, 2, 3, 4, 5, 6, 7, 8, 9, 10, 11, 12, 13, 14, 15, 16, 17]], by kernel_rfl, ?_⟩
          conv => whnf
          obtain ⟨x, ex, px, sx, qx⟩ := hideR (QB.mul qa qb')
          refine ⟨(a, b'), rfl, ⟨RV.sz_ok sa (by decide), RV.sz_ok sb' (by decide)⟩, ?_⟩
          rw [show qmulS.val (a, b') = x.v from ex]
          conv => whnf
          obtain ⟨y, ey, py, sy, qy⟩ := hideR (QB.mul qb qa')
          refine ⟨(b, a'), rfl, ⟨RV.sz_ok sb (by decide), RV.sz_ok sa' (by decide)⟩, ?_⟩
          rw [show qmulS.val (b, a') = y.v from ey]
          conv => whnf
          have hxy : x = y := by
            rw [(RV.v_eq ex).symm, (RV.v_eq ey).symm]
            have : a.q * b'.q - b.q * a'.q = 0 := hd
            congr 1
            grind
          rw [eqCells_rat x y, decide_eq_true hxy]
          conv => whnf
          refine ⟨(), rfl, trivial, ?_⟩
          conv => whnf
          rfl
        · rw [metV_one il im hd] at pu
          rw [metV_one il ir (by rw [hr, par_det]; exact hd)] at pu2
          obtain ⟨cu, rfl⟩ : ptV (metR l.q m.q) = u ∧ (0 : Int) = e := ⟨congrArg Prod.fst pu, congrArg Prod.snd pu⟩
          obtain ⟨cu2, rfl⟩ : ptV (metR l.q r.q) = u2 ∧ (0 : Int) = h := ⟨congrArg Prod.fst pu2, congrArg Prod.snd pu2⟩
          rw [show ((0 : Int) != 0) = false from rfl]
          conv => whnf
          rw [show ((24 : Int) != 24) = false from rfl]
          conv => whnf
          have hu : u.p = metR l.q m.q := by rw [← cu, ptV_p]
          obtain ⟨v1, v2⟩ := met_on hd
          obtain ⟨a, j, ea, pa⟩ := hideZE (sidV l.q u.p)
          refine ⟨(l, u), rfl, ⟨R3.sz_mono sl (by decide), PV.sz_mono su (by decide)⟩, ?_⟩
          rw [show sideS.val (l, u) = .tuple ⟨[.int .i64 a, .int .i64 j]⟩ from ea]
          conv => whnf
          rw [sidV_ok il, hu, v1] at pa
          obtain ⟨ca, rfl⟩ : cmpQ 0 0 = a ∧ (0 : Int) = j := ⟨congrArg Prod.fst pa, congrArg Prod.snd pa⟩
          obtain rfl : 0 = a := ca
          obtain ⟨b, j2, eb, pb⟩ := hideZE (sidV m.q u.p)
          refine ⟨(m, u), rfl, ⟨R3.sz_mono sm (by decide), PV.sz_mono su (by decide)⟩, ?_⟩
          rw [show sideS.val (m, u) = .tuple ⟨[.int .i64 b, .int .i64 j2]⟩ from eb]
          conv => whnf
          rw [sidV_ok im, hu, v2] at pb
          obtain ⟨cb, rfl⟩ : cmpQ 0 0 = b ∧ (0 : Int) = j2 := ⟨congrArg Prod.fst pb, congrArg Prod.snd pb⟩
          obtain rfl : 0 = b := cb
          obtain ⟨w, n, ew, pw, sw, qw⟩ := hidePE (metV_sz qm ql)
          refine ⟨(m, l), rfl, ⟨R3.sz_mono sm (by decide), R3.sz_mono sl (by decide)⟩, ?_⟩
          rw [show meetS.val (m, l) = .tuple ⟨[w.v, .int .i64 n]⟩ from ew]
          conv => whnf
          rw [metV_one im il (by rw [det_swap]; grind), met_swap hd] at pw
          obtain ⟨cw, rfl⟩ : ptV (metR l.q m.q) = w ∧ (0 : Int) = n := ⟨congrArg Prod.fst pw, congrArg Prod.snd pw⟩
          rw [show ((0 : Int) == 0) = true from rfl]
          conv => whnf
          rw [eqPQ w u, show decide (w = u) = true from decide_eq_true (cw.symm.trans cu)]
          conv => whnf
          refine ⟨(), rfl, trivial, ?_⟩
          conv => whnf
          rfl
      · have hc : c2 ≠ 0 := by rw [pc2, chkV_no im]; decide
        rw [show (c2 != 0) = true from by simp [hc]]
        conv => whnf
        refine ⟨(), rfl, trivial, ?_⟩
        conv => whnf
        rfl
    · have hc : c ≠ 0 := by rw [pc, chkV_no il]; decide
      rw [show (c != 0) = true from by simp [hc]]
      conv => whnf
      refine ⟨(), rfl, trivial, ?_⟩
      conv => whnf
      rfl
  · conv => whnf
    refine ⟨(), rfl, trivial, ?_⟩
    conv => whnf
    rfl
end Go.Proofs.Ytppeponndkfbkaa
/- The statements about lines: LineSides, LineFeet, LineBisects, LineMeets. -/
set_option linter.unusedVariables false
namespace Go.Proofs.Ytppeponndkfbkaa
open Go Go.Ae Go.ChangeShapes Go.WideShapes Go.ChangeAt Go.RowKit

theorem own : ownKnob Try.prog.godebug = none := by kernel_rfl
theorem laidOut : laidOutB Try.prog = true := by kernel_rfl
def zP : Value := .agg #[.bool false, .string ⟨#[]⟩, .string ⟨#[]⟩, .bool false, .string ⟨#[]⟩, .string ⟨#[]⟩]
def zL : Value := .agg #[.bool false, .string ⟨#[]⟩, .string ⟨#[]⟩, .bool false, .string ⟨#[]⟩, .string ⟨#[]⟩, .bool false, .string ⟨#[]⟩, .string ⟨#[]⟩]
set_option maxRecDepth 100000 in
theorem open_point {w : World} {r : Reach} {base : Nat} {v : Value} (h : Value.okWide Try.prog w r base 28 v) : ∃ p : PV, v = p.v :=
  open_pt Try.underlying28 (b := 4) (s := 9) (by kernel_rfl) (by kernel_rfl) Try.underlying4 Try.underlying9 h
set_option maxRecDepth 100000 in
theorem open_aline {w : World} {r : Reach} {base : Nat} {v : Value} (h : Value.okWide Try.prog w r base 41 v) : ∃ p : R3, v = p.v :=
  open_ln Try.underlying41 (b := 4) (s := 9) (by kernel_rfl) (by kernel_rfl) Try.underlying4 Try.underlying9 h

set_option maxRecDepth 100000 in
theorem lineSides_lifted (os : Os) (started : os.Started) (H : Type) (enc : TypeId × Value → H) :
    ReturnsInHanded {} Try.checked os 4 .any (Rows.lineSidesSpec.pre6 enc Try.prog Try.f4 Rows.lineSidesRow.domain false) (Rows.lineSidesSpec.post enc Try.prog Try.f4 false true false false) := by
  refine returnsInHanded_of_change (C := Try.checked) own started (by kernel_rfl) Try.func4
    (ChangeSpec.witness6 (enc := enc) (C := Try.checked) false ⟨#[], #[zP, zP, zP], []⟩ 8 (by kernel_rfl) (by kernel_rfl) (by kernel_rfl) (by kernel_rfl)) ?_
  intro W base args ds gs before hval0 hW hcnd _
  have hval : ∀ (j : Nat) t v, Try.f4.params[j]? = some t → args[j]? = some v → Value.okWide Try.prog W .any base t v := hval0
  have hW' := hW
  obtain ⟨p, q, hA0, hV, rfl, hfz, hnd⟩ := hW
  have hA : DataW.TrodAll enc Try.prog W 0 (fun _ => true) true Try.f4.params.toList args.toList ds p := hA0
  rw [Try.params4] at hA hval
  obtain ⟨v0, vs0, d0, ds0, p0, q0, hargs, rfl, rfl, h0, r0⟩ := trodAll_cons hA
  obtain ⟨v1, vs1, d1, ds1, p1, q1, rfl, rfl, rfl, h1, r1⟩ := trodAll_cons r0
  obtain ⟨v2, vs2, d2, ds2, p2, q2, rfl, rfl, rfl, h2, r2⟩ := trodAll_cons r1
  obtain ⟨rfl, rfl, rfl⟩ := trodAll_nil r2
  obtain rfl : args = #[v0, v1, v2] := by cases args; simp_all
  obtain ⟨rfl, rfl⟩ := trodVars_none hV
  obtain ⟨a0, rfl⟩ := open_point (hval 0 28 v0 rfl rfl)
  obtain ⟨a1, rfl⟩ := open_point (hval 1 28 v1 rfl rfl)
  obtain ⟨a2, rfl⟩ := open_point (hval 2 28 v2 rfl rfl)
  have lt0 : ∀ x ∈ p0, x.block < W.heap.size := by obtain ⟨m, hm⟩ := h0; exact DataW.trod_lt m _ _ _ hm
  have lt1 : ∀ x ∈ p1, x.block < W.heap.size := by obtain ⟨m, hm⟩ := h1; exact DataW.trod_lt m _ _ _ hm
  have lt2 : ∀ x ∈ p2, x.block < W.heap.size := by obtain ⟨m, hm⟩ := h2; exact DataW.trod_lt m _ _ _ hm
  clear hA0 hval0
  refine (calls_of_snd sides_ok (i := (a0, a1, a2)) (trivial) rfl rfl (b := true) rfl W).mono fun e W' ⟨he, bel⟩ => ?_
  subst he
  exact ⟨_, rfl, _, _, _, [], _, [], hW', trodAll_mk1 (shut_bool Try.underlying4 _), (trodAll_cons_mk (Below.trod laidOut (by kernel_rfl) (of_decide_eq_true (by kernel_rfl)) h0 bel lt0) (trodAll_cons_mk (Below.trod laidOut (by kernel_rfl) (of_decide_eq_true (by kernel_rfl)) h1 bel lt1) (trodAll_cons_mk (Below.trod laidOut (by kernel_rfl) (of_decide_eq_true (by kernel_rfl)) h2 bel lt2) trodAll_mk0))), rfl, bel.frame _, fun h => by cases h⟩

theorem lineSides_holds : Rows.lineSidesRow.holds Try.pinned (OpenSpec.ofChange Rows.lineSidesSpec) :=
  OpenClaim.holds_of_wide 4 Try.f4 rfl rfl rfl rfl rfl rfl rfl ⟨rfl, rfl, rfl, rfl, rfl⟩ rfl rfl rfl rfl rfl (by kernel_rfl) Try.func4 (by kernel_rfl)
    (of_decide_eq_true (by kernel_rfl)) (by unfold Func.isWrapper; first | (rw [if_pos (by decide +kernel)]; kernel_rfl) | (rw [if_neg (by decide +kernel)]; exact ⟨rfl, rfl⟩))
    (fun os started H enc _ => lineSides_lifted os started H enc)
theorem lineSides_proved : Rows.LineSidesSaid := lineSides_holds

set_option maxRecDepth 100000 in
theorem lineBisects_lifted (os : Os) (started : os.Started) (H : Type) (enc : TypeId × Value → H) :
    ReturnsInHanded {} Try.checked os 7 .any (Rows.lineBisectsSpec.pre6 enc Try.prog Try.f7 Rows.lineBisectsRow.domain false) (Rows.lineBisectsSpec.post enc Try.prog Try.f7 false true false false) := by
  refine returnsInHanded_of_change (C := Try.checked) own started (by kernel_rfl) Try.func7
    (ChangeSpec.witness6 (enc := enc) (C := Try.checked) false ⟨#[], #[zP, zP, zP], []⟩ 8 (by kernel_rfl) (by kernel_rfl) (by kernel_rfl) (by kernel_rfl)) ?_
  intro W base args ds gs before hval0 hW hcnd _
  have hval : ∀ (j : Nat) t v, Try.f7.params[j]? = some t → args[j]? = some v → Value.okWide Try.prog W .any base t v := hval0
  have hW' := hW
  obtain ⟨p, q, hA0, hV, rfl, hfz, hnd⟩ := hW
  have hA : DataW.TrodAll enc Try.prog W 0 (fun _ => true) true Try.f7.params.toList args.toList ds p := hA0
  rw [Try.params7] at hA hval
  obtain ⟨v0, vs0, d0, ds0, p0, q0, hargs, rfl, rfl, h0, r0⟩ := trodAll_cons hA
  obtain ⟨v1, vs1, d1, ds1, p1, q1, rfl, rfl, rfl, h1, r1⟩ := trodAll_cons r0
  obtain ⟨v2, vs2, d2, ds2, p2, q2, rfl, rfl, rfl, h2, r2⟩ := trodAll_cons r1
  obtain ⟨rfl, rfl, rfl⟩ := trodAll_nil r2
  obtain rfl : args = #[v0, v1, v2] := by cases args; simp_all
  obtain ⟨rfl, rfl⟩ := trodVars_none hV
  obtain ⟨a0, rfl⟩ := open_point (hval 0 28 v0 rfl rfl)
  obtain ⟨a1, rfl⟩ := open_point (hval 1 28 v1 rfl rfl)
  obtain ⟨a2, rfl⟩ := open_point (hval 2 28 v2 rfl rfl)
  have lt0 : ∀ x ∈ p0, x.block < W.heap.size := by obtain ⟨m, hm⟩ := h0; exact DataW.trod_lt m _ _ _ hm
  have lt1 : ∀ x ∈ p1, x.block < W.heap.size := by obtain ⟨m, hm⟩ := h1; exact DataW.trod_lt m _ _ _ hm
  have lt2 : ∀ x ∈ p2, x.block < W.heap.size := by obtain ⟨m, hm⟩ := h2; exact DataW.trod_lt m _ _ _ hm
  clear hA0 hval0
  refine (calls_of_snd bisects_ok (i := (a0, a1, a2)) (trivial) rfl rfl (b := true) rfl W).mono fun e W' ⟨he, bel⟩ => ?_
  subst he
  exact ⟨_, rfl, _, _, _, [], _, [], hW', trodAll_mk1 (shut_bool Try.underlying4 _), (trodAll_cons_mk (Below.trod laidOut (by kernel_rfl) (of_decide_eq_true (by kernel_rfl)) h0 bel lt0) (trodAll_cons_mk (Below.trod laidOut (by kernel_rfl) (of_decide_eq_true (by kernel_rfl)) h1 bel lt1) (trodAll_cons_mk (Below.trod laidOut (by kernel_rfl) (of_decide_eq_true (by kernel_rfl)) h2 bel lt2) trodAll_mk0))), rfl, bel.frame _, fun h => by cases h⟩

theorem lineBisects_holds : Rows.lineBisectsRow.holds Try.pinned (OpenSpec.ofChange Rows.lineBisectsSpec) :=
  OpenClaim.holds_of_wide 7 Try.f7 rfl rfl rfl rfl rfl rfl rfl ⟨rfl, rfl, rfl, rfl, rfl⟩ rfl rfl rfl rfl rfl (by kernel_rfl) Try.func7 (by kernel_rfl)
    (of_decide_eq_true (by kernel_rfl)) (by unfold Func.isWrapper; first | (rw [if_pos (by decide +kernel)]; kernel_rfl) | (rw [if_neg (by decide +kernel)]; exact ⟨rfl, rfl⟩))
    (fun os started H enc _ => lineBisects_lifted os started H enc)
theorem lineBisects_proved : Rows.LineBisectsSaid := lineBisects_holds

set_option maxRecDepth 100000 in
theorem lineFeet_lifted (os : Os) (started : os.Started) (H : Type) (enc : TypeId × Value → H) :
    ReturnsInHanded {} Try.checked os 6 .any (Rows.lineFeetSpec.pre6 enc Try.prog Try.f6 Rows.lineFeetRow.domain false) (Rows.lineFeetSpec.post enc Try.prog Try.f6 false true false false) := by
  refine returnsInHanded_of_change (C := Try.checked) own started (by kernel_rfl) Try.func6
    (ChangeSpec.witness6 (enc := enc) (C := Try.checked) false ⟨#[], #[zL, zP, zP], []⟩ 8 (by kernel_rfl) (by kernel_rfl) (by kernel_rfl) (by kernel_rfl)) ?_
  intro W base args ds gs before hval0 hW hcnd _
  have hval : ∀ (j : Nat) t v, Try.f6.params[j]? = some t → args[j]? = some v → Value.okWide Try.prog W .any base t v := hval0
  have hW' := hW
  obtain ⟨p, q, hA0, hV, rfl, hfz, hnd⟩ := hW
  have hA : DataW.TrodAll enc Try.prog W 0 (fun _ => true) true Try.f6.params.toList args.toList ds p := hA0
  rw [Try.params6] at hA hval
  obtain ⟨v0, vs0, d0, ds0, p0, q0, hargs, rfl, rfl, h0, r0⟩ := trodAll_cons hA
  obtain ⟨v1, vs1, d1, ds1, p1, q1, rfl, rfl, rfl, h1, r1⟩ := trodAll_cons r0
  obtain ⟨v2, vs2, d2, ds2, p2, q2, rfl, rfl, rfl, h2, r2⟩ := trodAll_cons r1
  obtain ⟨rfl, rfl, rfl⟩ := trodAll_nil r2
  obtain rfl : args = #[v0, v1, v2] := by cases args; simp_all
  obtain ⟨rfl, rfl⟩ := trodVars_none hV
  obtain ⟨a0, rfl⟩ := open_aline (hval 0 41 v0 rfl rfl)
  obtain ⟨a1, rfl⟩ := open_point (hval 1 28 v1 rfl rfl)
  obtain ⟨a2, rfl⟩ := open_point (hval 2 28 v2 rfl rfl)
  have lt0 : ∀ x ∈ p0, x.block < W.heap.size := by obtain ⟨m, hm⟩ := h0; exact DataW.trod_lt m _ _ _ hm
  have lt1 : ∀ x ∈ p1, x.block < W.heap.size := by obtain ⟨m, hm⟩ := h1; exact DataW.trod_lt m _ _ _ hm
  have lt2 : ∀ x ∈ p2, x.block < W.heap.size := by obtain ⟨m, hm⟩ := h2; exact DataW.trod_lt m _ _ _ hm
  clear hA0 hval0
  refine (calls_of_snd feet_ok (i := (a0, a1, a2)) (trivial) rfl rfl (b := true) rfl W).mono fun e W' ⟨he, bel⟩ => ?_
  subst he
  exact ⟨_, rfl, _, _, _, [], _, [], hW', trodAll_mk1 (shut_bool Try.underlying4 _), (trodAll_cons_mk (Below.trod laidOut (by kernel_rfl) (of_decide_eq_true (by kernel_rfl)) h0 bel lt0) (trodAll_cons_mk (Below.trod laidOut (by kernel_rfl) (of_decide_eq_true (by kernel_rfl)) h1 bel lt1) (trodAll_cons_mk (Below.trod laidOut (by kernel_rfl) (of_decide_eq_true (by kernel_rfl)) h2 bel lt2) trodAll_mk0))), rfl, bel.frame _, fun h => by cases h⟩

theorem lineFeet_holds : Rows.lineFeetRow.holds Try.pinned (OpenSpec.ofChange Rows.lineFeetSpec) :=
  OpenClaim.holds_of_wide 6 Try.f6 rfl rfl rfl rfl rfl rfl rfl ⟨rfl, rfl, rfl, rfl, rfl⟩ rfl rfl rfl rfl rfl (by kernel_rfl) Try.func6 (by kernel_rfl)
    (of_decide_eq_true (by kernel_rfl)) (by unfold Func.isWrapper; first | (rw [if_pos (by decide +kernel)]; kernel_rfl) | (rw [if_neg (by decide +kernel)]; exact ⟨rfl, rfl⟩))
    (fun os started H enc _ => lineFeet_lifted os started H enc)
theorem lineFeet_proved : Rows.LineFeetSaid := lineFeet_holds

set_option maxRecDepth 100000 in
theorem lineMeets_lifted (os : Os) (started : os.Started) (H : Type) (enc : TypeId × Value → H) :
    ReturnsInHanded {} Try.checked os 8 .any (Rows.lineMeetsSpec.pre6 enc Try.prog Try.f8 Rows.lineMeetsRow.domain false) (Rows.lineMeetsSpec.post enc Try.prog Try.f8 false true false false) := by
  refine returnsInHanded_of_change (C := Try.checked) own started (by kernel_rfl) Try.func8
    (ChangeSpec.witness6 (enc := enc) (C := Try.checked) false ⟨#[], #[zL, zL, zP], []⟩ 8 (by kernel_rfl) (by kernel_rfl) (by kernel_rfl) (by kernel_rfl)) ?_
  intro W base args ds gs before hval0 hW hcnd _
  have hval : ∀ (j : Nat) t v, Try.f8.params[j]? = some t → args[j]? = some v → Value.okWide Try.prog W .any base t v := hval0
  have hW' := hW
  obtain ⟨p, q, hA0, hV, rfl, hfz, hnd⟩ := hW
  have hA : DataW.TrodAll enc Try.prog W 0 (fun _ => true) true Try.f8.params.toList args.toList ds p := hA0
  rw [Try.params8] at hA hval
  obtain ⟨v0, vs0, d0, ds0, p0, q0, hargs, rfl, rfl, h0, r0⟩ := trodAll_cons hA
  obtain ⟨v1, vs1, d1, ds1, p1, q1, rfl, rfl, rfl, h1, r1⟩ := trodAll_cons r0
  obtain ⟨v2, vs2, d2, ds2, p2, q2, rfl, rfl, rfl, h2, r2⟩ := trodAll_cons r1
  obtain ⟨rfl, rfl, rfl⟩ := trodAll_nil r2
  obtain rfl : args = #[v0, v1, v2] := by cases args; simp_all
  obtain ⟨rfl, rfl⟩ := trodVars_none hV
  obtain ⟨a0, rfl⟩ := open_aline (hval 0 41 v0 rfl rfl)
  obtain ⟨a1, rfl⟩ := open_aline (hval 1 41 v1 rfl rfl)
  obtain ⟨a2, rfl⟩ := open_point (hval 2 28 v2 rfl rfl)
  have lt0 : ∀ x ∈ p0, x.block < W.heap.size := by obtain ⟨m, hm⟩ := h0; exact DataW.trod_lt m _ _ _ hm
  have lt1 : ∀ x ∈ p1, x.block < W.heap.size := by obtain ⟨m, hm⟩ := h1; exact DataW.trod_lt m _ _ _ hm
  have lt2 : ∀ x ∈ p2, x.block < W.heap.size := by obtain ⟨m, hm⟩ := h2; exact DataW.trod_lt m _ _ _ hm
  clear hA0 hval0
  refine (calls_of_snd meets_ok (i := ((a0, a1), a2)) (trivial) rfl rfl (b := true) rfl W).mono fun e W' ⟨he, bel⟩ => ?_
  subst he
  exact ⟨_, rfl, _, _, _, [], _, [], hW', trodAll_mk1 (shut_bool Try.underlying4 _), (trodAll_cons_mk (Below.trod laidOut (by kernel_rfl) (of_decide_eq_true (by kernel_rfl)) h0 bel lt0) (trodAll_cons_mk (Below.trod laidOut (by kernel_rfl) (of_decide_eq_true (by kernel_rfl)) h1 bel lt1) (trodAll_cons_mk (Below.trod laidOut (by kernel_rfl) (of_decide_eq_true (by kernel_rfl)) h2 bel lt2) trodAll_mk0))), rfl, bel.frame _, fun h => by cases h⟩

theorem lineMeets_holds : Rows.lineMeetsRow.holds Try.pinned (OpenSpec.ofChange Rows.lineMeetsSpec) :=
  OpenClaim.holds_of_wide 8 Try.f8 rfl rfl rfl rfl rfl rfl rfl ⟨rfl, rfl, rfl, rfl, rfl⟩ rfl rfl rfl rfl rfl (by kernel_rfl) Try.func8 (by kernel_rfl)
    (of_decide_eq_true (by kernel_rfl)) (by unfold Func.isWrapper; first | (rw [if_pos (by decide +kernel)]; kernel_rfl) | (rw [if_neg (by decide +kernel)]; exact ⟨rfl, rfl⟩))
    (fun os started H enc _ => lineMeets_lifted os started H enc)
theorem lineMeets_proved : Rows.LineMeetsSaid := lineMeets_holds
end Go.Proofs.Ytppeponndkfbkaa
