import Derived.Test.YtppeponndkfbkaaGreatRows
import Derived.Test.YtppeponndkfbkaaGreatQI
set_option linter.unusedVariables false
set_option linter.unusedSimpArgs false
/- Contracts of the reference lines. -/
set_option maxRecDepth 20000
set_option maxHeartbeats 1000000
namespace Go.Proofs.YtppeponndkfbkaaGreat
open Go Go.Ae
def Eq9a : Env := { tt := tt, eqs := [], Φ := fun g => match g with
 | 45 => some (.p qsubS)
 | 86 => some (.p qaddS)
 | 87 => some (.p qmulS)
 | 49 => some (.p qsignS)
 | 99 => some (.p qquoS)
 | 56 => some (.p qofS)
 | 59 => some (.p qnormS)
 | 55 => some (.p vsubS)
 | 54 => some (.p vscaleS)
 | 57 => some (.p vdotS)
 | 44 => some (.p vcmpS)
 | _ => none }
theorem Eq9aok : EnvOk Tryz.prog Eq9a := ⟨tt_ok, fun t h => by simp [Eq9a] at h, (fun g S h => by
 simp only [Eq9a] at h
 split at h
 ·cases h; exact rqsub_ok
 ·cases h; exact rqadd_ok
 ·cases h; exact rqmul_ok
 ·cases h; exact rqsign_ok
 ·cases h; exact rquo_ok
 ·cases h; exact rqof_ok
 ·cases h; exact rqnorm_ok
 ·cases h; exact rvsub_ok
 ·cases h; exact rvscale_ok
 ·cases h; exact rvdot_ok
 ·cases h; exact rvcmp_ok
 ·cases h), fun g F h => by simp [Eq9a] at h⟩
theorem rlalong_ok : Snd Tryz.prog 46 ralongS := by
 refine snd_of Eq9aok Dok Tryz.func46 (enters_of Tryz.func46 (by kernel_rfl) rfl) (fun _ => rfl) (fun _ => rfl) ?_
 intro ⟨l, p⟩ hp
 have hp : l.sz 67108864 ∧ p.sz 67108864 := hp
 obtain ⟨sl, sp⟩ := hp
 have ql := R3.qsz sl (by decide)
 have qp := PV.psz sp (by decide)
 obtain ⟨a, b, r⟩ := l
 obtain ⟨x, y⟩ := p
 have sa := sl.1
 have sb := sl.2.1
 have sr := sl.2.2
 have sx := sp.1
 have sy := sp.2
 have qa : QB a.q _ := ql.1
 have qb : QB b.q _ := ql.2.1
 have qr : QB r.q _ := ql.2.2
 have qx : QB x.q _ := qp.1
 have qy : QB y.q _ := qp.2
 conv => whnf
 refine .inl ⟨9, [[], [0], [], [2], [0, 1, 2, 3], [], [5], [], [7], [0, 1, 2, 3, 4, 5, 6, 7, 8], [0, 1, 2, 3, 4, 5, 6, 7, 8, 9], [0, 1, 2, 3, 4, 5, 6, 7, 8, 9, 10]], by kernel_rfl, ?_⟩
 conv => whnf
 obtain ⟨m, em, pm, sm, qm⟩ := hideR (QB.mul qa qx)
 refine ⟨(a, x), rfl, ⟨RV.sz_ok sa (by decide), RV.sz_ok sx (by decide)⟩, ?_⟩
 rw [show qmulS.val (a, x) = m.v from em]
 conv => whnf
 obtain ⟨n, en, pn, sn, qn⟩ := hideR (QB.mul qb qy)
 refine ⟨(b, y), rfl, ⟨RV.sz_ok sb (by decide), RV.sz_ok sy (by decide)⟩, ?_⟩
 rw [show qmulS.val (b, y) = n.v from en]
 conv => whnf
 obtain ⟨s, es, ps, ss, qs⟩ := hideR (QB.add qm qn)
 refine ⟨(m, n), rfl, ⟨RV.sz_ok sm (by decide), RV.sz_ok sn (by decide)⟩, ?_⟩
 rw [show qaddS.val (m, n) = s.v from es]
 conv => whnf
 show s.v = (RV.of (dotR (nrm (R3.q (a, b, r))) (PV.p (x, y)))).v
 rw [(RV.v_eq es).symm, pm, pn]
 rfl
def Eq9b : Env := { tt := tt, eqs := [], Φ := fun g => match g with
 | 46 => some (.p ralongS)
 | 45 => some (.p qsubS)
 | 87 => some (.p qmulS)
 | 49 => some (.p qsignS)
 | 99 => some (.p qquoS)
 | _ => none }
theorem Eq9bok : EnvOk Tryz.prog Eq9b := ⟨tt_ok, fun t h => by simp [Eq9b] at h, (fun g S h => by
 simp only [Eq9b] at h
 split at h
 ·cases h; exact rlalong_ok
 ·cases h; exact rqsub_ok
 ·cases h; exact rqmul_ok
 ·cases h; exact rqsign_ok
 ·cases h; exact rquo_ok
 ·cases h), fun g F h => by simp [Eq9b] at h⟩
theorem excess_ok : Snd Tryz.prog 50 excessS := by
 refine snd_of Eq9bok Dok Tryz.func50 (enters_of Tryz.func50 (by kernel_rfl) rfl) (fun _ => rfl) (fun _ => rfl) ?_
 intro ⟨l, p⟩ hp
 have hp : l.sz 1048576 ∧ p.sz 1048576 := hp
 obtain ⟨sl, sp⟩ := hp
 have ql := R3.qsz sl (by decide)
 have qp := PV.psz sp (by decide)
 conv => whnf
 refine .inl ⟨5, [[], [], [0, 1], [], [3], [0, 1, 2, 3, 4], [0, 1, 2, 3, 4, 5]], by kernel_rfl, ?_⟩
 conv => whnf
 obtain ⟨m, em, pm, sm, qm⟩ := hideR (dot_sz (nrm_sz ql) qp)
 refine ⟨(l, p), rfl, ⟨R3.sz_mono sl (by decide), PV.sz_mono sp (by decide)⟩, ?_⟩
 rw [show ralongS.val (l, p) = m.v from em]
 conv => whnf
 obtain ⟨a, b, r⟩ := l
 have sr := sl.2.2
 have qr : QB r.q _ := ql.2.2
 obtain ⟨s, es, ps, ss, qs⟩ := hideR (QB.sub qm qr)
 refine ⟨(m, r), rfl, ⟨RV.sz_ok sm (by decide), RV.sz_ok sr (by decide)⟩, ?_⟩
 rw [show qsubS.val (m, r) = s.v from es]
 conv => whnf
 show s.v = (RV.of (valR (R3.q (a, b, r)) p.p)).v
 rw [(RV.v_eq es).symm, pm]
 rfl
theorem rdet_ok : Snd Tryz.prog 62 rdetS := by
 refine snd_of Eq9bok Dok Tryz.func62 (enters_of Tryz.func62 (by kernel_rfl) rfl) (fun _ => rfl) (fun _ => rfl) ?_
 intro ⟨⟨a, b⟩, ⟨c, d⟩⟩ hp
 have hp : (a.sz 1048576 ∧ b.sz 1048576) ∧ c.sz 1048576 ∧ d.sz 1048576 := hp
 obtain ⟨⟨sa, sb⟩, sc, sd⟩ := hp
 have qa := RV.qb' sa (by decide)
 have qb := RV.qb' sb (by decide)
 have qc := RV.qb' sc (by decide)
 have qd := RV.qb' sd (by decide)
 conv => whnf
 refine .inl ⟨5, [[], [], [0, 1], [], [], [0, 1, 2, 3, 4], [0, 1, 2, 3, 4, 5], [0, 1, 2, 3, 4, 5, 6]], by kernel_rfl, ?_⟩
 conv => whnf
 obtain ⟨m, em, pm, sm, qm⟩ := hideR (QB.mul qa qd)
 refine ⟨(a, d), rfl, ⟨RV.sz_ok sa (by decide), RV.sz_ok sd (by decide)⟩, ?_⟩
 rw [show qmulS.val (a, d) = m.v from em]
 conv => whnf
 obtain ⟨n, en, pn, sn, qn⟩ := hideR (QB.mul qb qc)
 refine ⟨(b, c), rfl, ⟨RV.sz_ok sb (by decide), RV.sz_ok sc (by decide)⟩, ?_⟩
 rw [show qmulS.val (b, c) = n.v from en]
 conv => whnf
 obtain ⟨s, es, ps, ss, qs⟩ := hideR (QB.sub qm qn)
 refine ⟨(m, n), rfl, ⟨RV.sz_ok sm (by decide), RV.sz_ok sn (by decide)⟩, ?_⟩
 rw [show qsubS.val (m, n) = s.v from es]
 conv => whnf
 show s.v = (RV.of (a.q * d.q - b.q * c.q)).v
 rw [(RV.v_eq es).symm, pm, pn]
theorem rquot_ok : Snd Tryz.prog 63 rquotS := by
 refine snd_of Eq9bok Dok Tryz.func63 (enters_of Tryz.func63 (by kernel_rfl) rfl) (fun _ => rfl) (fun _ => rfl) ?_
 intro ⟨a, b⟩ hp
 have hp : a.ok ∧ b.ok := hp
 obtain ⟨ha, hb⟩ := hp
 have sa : a.sz 8589934592 := ha
 have sb : b.sz 8589934592 := hb
 have qa := RV.qb' sa (by decide)
 have qb := RV.qb' sb (by decide)
 conv => whnf
 obtain ⟨s, es, ps, ss, qs⟩ := hideR (QB.div qa qb (by decide))
 obtain ⟨e, ee, pe⟩ := hideZ (if b.q = 0 then 10 else 0)
 refine ⟨(a, b), rfl, ⟨RV.sz_ok sa (by decide), RV.sz_ok sb (by decide)⟩, ?_⟩
 rw [show qquoS.val (a, b) = .tuple ⟨[s.v, .int .i64 e]⟩ from by rw [← es, ← ee]; rfl]
 conv => whnf
 show s.v = (RV.of (a.q / b.q)).v
 rw [(RV.v_eq es).symm]
theorem rlcheck_ok : Snd Tryz.prog 18 lcheckS := by
 refine snd_of Eq9aok Dok Tryz.func18 (enters_of Tryz.func18 (by kernel_rfl) rfl) (fun _ => rfl) (fun _ => rfl) ?_
 intro ⟨a, b, c⟩ hp
 have hp : RV.sz 1048576 a ∧ RV.sz 1048576 b ∧ RV.sz 1048576 c := hp
 obtain ⟨sa, sb, sc⟩ := hp
 have fin : ∀ z : Int, z = chkV (R3.q (a, b, c)) → Value.int .i64 z = lcheckS.val (a, b, c) := fun z h => by rw [h]; rfl
 conv => whnf
 obtain ⟨m, em, pm⟩ := hideZ (cmpQ a.q 0)
 refine ⟨a, rfl, RV.sz_ok sa (by decide), ?_⟩
 rw [show qsignS.val a = .int .i64 m from em]
 conv => whnf
 by_cases h : m = 0
 ·have h1 : a.q = 0 := cmpQ_zero.1 (by rw [← pm]; exact h)
  subst h
  conv => whnf
  obtain ⟨n, en, pn⟩ := hideZ (cmpQ b.q 0)
  refine ⟨b, rfl, RV.sz_ok sb (by decide), ?_⟩
  rw [show qsignS.val b = .int .i64 n from en]
  conv => whnf
  by_cases h2 : n = 0
  ·have h3 : b.q = 0 := cmpQ_zero.1 (by rw [← pn]; exact h2)
   subst h2
   conv => whnf
   exact fin _ (if_pos ⟨h1, h3⟩).symm
  ·rw [show (n == 0) = false from by simp [h2]]
   conv => whnf
   exact fin _ (if_neg (fun e => h2 (by rw [pn]; exact cmpQ_eq e.2))).symm
 ·rw [show (m == 0) = false from by simp [h]]
  conv => whnf
  exact fin _ (if_neg (fun e => h (by rw [pm]; exact cmpQ_eq e.1))).symm
def Eq9c : Env := { tt := tt, eqs := [], Φ := fun g => match g with
 | 18 => some (.p lcheckS)
 | 46 => some (.p ralongS)
 | 50 => some (.p excessS)
 | 62 => some (.p rdetS)
 | 63 => some (.p rquotS)
 | 45 => some (.p qsubS)
 | 87 => some (.p qmulS)
 | 49 => some (.p qsignS)
 | 56 => some (.p qofS)
 | 59 => some (.p qnormS)
 | 55 => some (.p vsubS)
 | 54 => some (.p vscaleS)
 | 57 => some (.p vdotS)
 | 44 => some (.p vcmpS)
 | _ => none }
theorem Eq9cok : EnvOk Tryz.prog Eq9c := ⟨tt_ok, fun t h => by simp [Eq9c] at h, (fun g S h => by
 simp only [Eq9c] at h
 split at h
 ·cases h; exact rlcheck_ok
 ·cases h; exact rlalong_ok
 ·cases h; exact excess_ok
 ·cases h; exact rdet_ok
 ·cases h; exact rquot_ok
 ·cases h; exact rqsub_ok
 ·cases h; exact rqmul_ok
 ·cases h; exact rqsign_ok
 ·cases h; exact rqof_ok
 ·cases h; exact rqnorm_ok
 ·cases h; exact rvsub_ok
 ·cases h; exact rvscale_ok
 ·cases h; exact rvdot_ok
 ·cases h; exact rvcmp_ok
 ·cases h), fun g F h => by simp [Eq9c] at h⟩
theorem rthrough_ok : Snd Tryz.prog 10 throughS := by
 refine snd_of Eq9cok Dok Tryz.func10 (enters_of Tryz.func10 (by kernel_rfl) rfl) (fun _ => rfl) (fun _ => rfl) ?_
 intro ⟨p, q⟩ hp
 have hp : p.sz 1048576 ∧ q.sz 1048576 := hp
 obtain ⟨sp, sq⟩ := hp
 have qp := PV.psz sp (by decide)
 have qq := PV.psz sq (by decide)
 have fin : ∀ (x : R3) (z : Int), thrV p.p q.p = (x, z) → Value.tuple ⟨[x.v, .int .i64 z]⟩ = throughS.val (p, q) := fun x z h => by
  show _ = LE.v (thrV p.p q.p)
  rw [h]; rfl
 conv => whnf
 obtain ⟨m, em, pm⟩ := hideZ (cmpR p.p q.p)
 refine ⟨(p, q), rfl, ⟨PV.sz_mono sp (by decide), PV.sz_mono sq (by decide)⟩, ?_⟩
 rw [show vcmpS.val (p, q) = .int .i64 m from em]
 conv => whnf
 refine br_intro (fun h => ?_) (fun h => ?_)
 ·have h : m = 0 := by simpa using h
  conv => whnf
  exact fin zeroL 12 (if_pos (by rw [← pm]; exact h))
 ·have h : m ≠ 0 := by intro e; subst e; simp at h
  obtain ⟨p1, p2⟩ := p
  have sp1 := sp.1
  have sp2 := sp.2
  have qp1 : QB p1.q _ := qp.1
  have qp2 : QB p2.q _ := qp.2
  obtain ⟨q1, q2⟩ := q
  have sq1 := sq.1
  have sq2 := sq.2
  have qq1 : QB q1.q _ := qq.1
  have qq2 : QB q2.q _ := qq.2
  conv => whnf
  refine .inl ⟨12, [[], [0], [], [2], [0, 1, 2, 3], [], [5], [], [7], [0, 1, 2, 3, 4, 5, 6, 7, 8], [0, 1, 2, 3, 4, 5, 6, 7, 8, 9], [], [0, 1, 2, 3, 4, 5, 6, 7, 8, 9, 10, 11]], by kernel_rfl, ?_⟩
  conv => whnf
  obtain ⟨a, ea, pa, sa, qa⟩ := hideR (QB.sub qp2 qq2)
  refine ⟨(p2, q2), rfl, ⟨RV.sz_ok sp2 (by decide), RV.sz_ok sq2 (by decide)⟩, ?_⟩
  rw [show qsubS.val (p2, q2) = a.v from ea]
  conv => whnf
  obtain ⟨b, eb, pb, sb, qb⟩ := hideR (QB.sub qq1 qp1)
  refine ⟨(q1, p1), rfl, ⟨RV.sz_ok sq1 (by decide), RV.sz_ok sp1 (by decide)⟩, ?_⟩
  rw [show qsubS.val (q1, p1) = b.v from eb]
  conv => whnf
  obtain ⟨o, ho⟩ : ∃ o, o = zeroR := ⟨_, rfl⟩
  have so : o.sz 1 := by rw [ho]; exact zeroR_sz 1
  have qo : QB o.q 1 := by rw [ho]; exact zeroR_qb
  have hoc : R3.v (a, b, o) = .agg ⟨[.bool a.1, .string a.2.1, .string a.2.2, .bool b.1, .string b.2.1, .string b.2.2, .bool false, .string ⟨#[]⟩, .string ⟨#[]⟩]⟩ := by rw [ho]; rfl
  rw [← hoc]
  obtain ⟨c, ec, pc, sc, qc⟩ := hideR (dot_sz (nrm_sz (mkLq qa qb qo)) (mkQ qp1 qp2))
  refine ⟨((a, b, o), (p1, p2)), rfl, ⟨R3.sz_mono (mkL sa sb so) (by decide), PV.sz_mono (mkP sp1 sp2) (by decide)⟩, ?_⟩
  rw [show ralongS.val ((a, b, o), (p1, p2)) = c.v from ec]
  conv => whnf
  have ha := (RV.v_eq ea).symm
  have hb := (RV.v_eq eb).symm
  have hc := (RV.v_eq ec).symm
  refine fin (a, b, c) 0 ?_
  unfold thrV
  rw [if_neg (by rw [← pm]; exact h), hc, ha, hb]
  unfold dotR nrm R3.q
  dsimp only
  rw [RV.of_q, RV.of_q]
  rfl
theorem rside_ok : Snd Tryz.prog 12 sideS := by
 refine snd_of Eq9cok Dok Tryz.func12 (enters_of Tryz.func12 (by kernel_rfl) rfl) (fun _ => rfl) (fun _ => rfl) ?_
 intro ⟨l, p⟩ hp
 have hp : l.sz 1048576 ∧ p.sz 1048576 := hp
 obtain ⟨sl, sp⟩ := hp
 have ql := R3.qsz sl (by decide)
 have qp := PV.psz sp (by decide)
 have fin : ∀ (x z : Int), sidV l.q p.p = (x, z) → Value.tuple ⟨[.int .i64 x, .int .i64 z]⟩ = sideS.val (l, p) := fun x z h => by
  show _ = ZE.v (sidV l.q p.p)
  rw [h]; rfl
 conv => whnf
 obtain ⟨c, ec, pc⟩ := hideZ (chkV l.q)
 refine ⟨l, rfl, R3.sz_mono sl (by decide), ?_⟩
 rw [show lcheckS.val l = .int .i64 c from ec]
 conv => whnf
 by_cases h : c = 0
 ·have h1 : isL l.q := fun e => by rw [pc] at h; exact absurd ((if_pos e).symm.trans h) (by decide)
  subst h
  conv => whnf
  obtain ⟨v, ev, pv, sv, qv⟩ := hideR (val_sz ql qp)
  refine ⟨(l, p), rfl, ⟨R3.sz_mono sl (by decide), PV.sz_mono sp (by decide)⟩, ?_⟩
  rw [show excessS.val (l, p) = v.v from ev]
  conv => whnf
  obtain ⟨z, ez, pz⟩ := hideZ (cmpQ v.q 0)
  refine ⟨v, rfl, RV.sz_ok sv (by decide), ?_⟩
  rw [show qsignS.val v = .int .i64 z from ez]
  conv => whnf
  refine fin z 0 ?_
  unfold sidV
  rw [if_pos h1, pz, pv]
 ·rw [show (c != 0) = true from by simp [h]]
  conv => whnf
  exact fin 0 1 (if_neg (fun e => h (by rw [pc]; exact if_neg e)))
theorem rbisect_ok : Snd Tryz.prog 14 bisectS := by
 refine snd_of Eq9cok Dok Tryz.func14 (enters_of Tryz.func14 (by kernel_rfl) rfl) (fun _ => rfl) (fun _ => rfl) ?_
 intro ⟨p, q⟩ hp
 have hp : p.sz 1048576 ∧ q.sz 1048576 := hp
 obtain ⟨sp, sq⟩ := hp
 have qp := PV.psz sp (by decide)
 have qq := PV.psz sq (by decide)
 have fin : ∀ (x : R3) (z : Int), bisV p.p q.p = (x, z) → Value.tuple ⟨[x.v, .int .i64 z]⟩ = bisectS.val (p, q) := fun x z h => by
  show _ = LE.v (bisV p.p q.p)
  rw [h]; rfl
 conv => whnf
 obtain ⟨m, em, pm⟩ := hideZ (cmpR p.p q.p)
 refine ⟨(p, q), rfl, ⟨PV.sz_mono sp (by decide), PV.sz_mono sq (by decide)⟩, ?_⟩
 rw [show vcmpS.val (p, q) = .int .i64 m from em]
 conv => whnf
 refine br_intro (fun h => ?_) (fun h => ?_)
 ·have h : m = 0 := by simpa using h
  conv => whnf
  exact fin zeroL 12 (if_pos (by rw [← pm]; exact h))
 ·have h : m ≠ 0 := by intro e; subst e; simp at h
  conv => whnf
  obtain ⟨d, ed, pd, sd, qd⟩ := hideP (sub_sz qq qp)
  refine ⟨(q, p), rfl, ⟨PV.sz_mono sq (by decide), PV.sz_mono sp (by decide)⟩, ?_⟩
  rw [show vsubS.val (q, p) = d.v from ed]
  conv => whnf
  obtain ⟨t, et, pt, st, qt⟩ := hideR (q := ((2 : Int) : Rat)) (QB.of_int (n := 2) (k := 1) (nby_le (show Int.natAbs 2 < C ^ 1 by decide)) (by decide))
  refine ⟨(2 : Int), rfl, ⟨by decide, by decide⟩, ?_⟩
  rw [show qofS.val (2 : Int) = t.v from et]
  conv => whnf
  obtain ⟨n, en, pn, sn, qn⟩ := hideP (scale_sz qd qt)
  refine ⟨(d, t), rfl, ⟨PV.sz_mono sd (by decide), RV.sz_mono st (by decide)⟩, ?_⟩
  rw [show vscaleS.val (d, t) = n.v from en]
  conv => whnf
  have hn := (PV.v_eq en).symm
  refine .inl ⟨11, [[], [0], [], [2], [], [], [4, 5], [], [], [4, 5, 6, 7, 8], [4, 5, 6, 7, 8, 9], [0, 1, 2, 3, 4, 5, 6, 7, 8, 9, 10], [0, 1, 2, 3, 4, 5, 6, 7, 8, 9, 10, 11], [0, 1, 2, 3, 4, 5, 6, 7, 8, 9, 10, 11, 12]], by kernel_rfl, ?_⟩
  conv => whnf
  obtain ⟨a, ea, pa, sa, qa⟩ := hideR (dot_sz qq qq)
  refine ⟨(q, q), rfl, ⟨PV.sz_mono sq (by decide), PV.sz_mono sq (by decide)⟩, ?_⟩
  rw [show vdotS.val (q, q) = a.v from ea]
  conv => whnf
  obtain ⟨b, eb, pb, sb, qb⟩ := hideR (dot_sz qp qp)
  refine ⟨(p, p), rfl, ⟨PV.sz_mono sp (by decide), PV.sz_mono sp (by decide)⟩, ?_⟩
  rw [show vdotS.val (p, p) = b.v from eb]
  conv => whnf
  obtain ⟨c, ec, pc, sc, qc⟩ := hideR (QB.sub qa qb)
  refine ⟨(a, b), rfl, ⟨RV.sz_ok sa (by decide), RV.sz_ok sb (by decide)⟩, ?_⟩
  rw [show qsubS.val (a, b) = c.v from ec]
  conv => whnf
  have hc := (RV.v_eq ec).symm
  refine fin (n.1, n.2, c) 0 ?_
  unfold bisV
  rw [if_neg (by rw [← pm]; exact h), hn, hc, pa, pb, pd, pt]
  congr 2
theorem rparallel_ok : Snd Tryz.prog 16 parallelS := by
 refine snd_of Eq9cok Dok Tryz.func16 (enters_of Tryz.func16 (by kernel_rfl) rfl) (fun _ => rfl) (fun _ => rfl) ?_
 intro ⟨l, p⟩ hp
 have hp : l.sz 1048576 ∧ p.sz 1048576 := hp
 obtain ⟨sl, sp⟩ := hp
 have ql := R3.qsz sl (by decide)
 have qp := PV.psz sp (by decide)
 have fin : ∀ (x : R3) (z : Int), parV l.q p.p = (x, z) → Value.tuple ⟨[x.v, .int .i64 z]⟩ = parallelS.val (l, p) := fun x z h => by
  show _ = LE.v (parV l.q p.p)
  rw [h]; rfl
 conv => whnf
 obtain ⟨c, ec, pc⟩ := hideZ (chkV l.q)
 refine ⟨l, rfl, R3.sz_mono sl (by decide), ?_⟩
 rw [show lcheckS.val l = .int .i64 c from ec]
 conv => whnf
 by_cases h : c = 0
 ·have h1 : isL l.q := fun e => by rw [pc] at h; exact absurd ((if_pos e).symm.trans h) (by decide)
  subst h
  obtain ⟨a, b, r⟩ := l
  have sa := sl.1
  have sb := sl.2.1
  have qa : QB a.q _ := ql.1
  have qb : QB b.q _ := ql.2.1
  conv => whnf
  refine .inl ⟨8, [[], [0], [0, 1], [], [3], [0, 1, 2, 3, 4], [], [], [0, 1, 2, 3, 4, 5, 6, 7], [0, 1, 2, 3, 4, 5, 6, 7, 8], [0, 1, 2, 3, 4, 5, 6, 7, 8, 9], [0, 1, 2, 3, 4, 5, 6, 7, 8, 9, 10]], by kernel_rfl, ?_⟩
  conv => whnf
  obtain ⟨x, ex, px, sx, qx⟩ := hideR (qa)
  refine ⟨a, rfl, RV.sz_ok sa (by decide), ?_⟩
  rw [show qnormS.val a = x.v from ex]
  conv => whnf
  obtain ⟨y, ey, py, sy, qy⟩ := hideR (qb)
  refine ⟨b, rfl, RV.sz_ok sb (by decide), ?_⟩
  rw [show qnormS.val b = y.v from ey]
  conv => whnf
  have sr := sl.2.2
  have qr : QB r.q _ := ql.2.2
  obtain ⟨z, ez, pz, sz, qz⟩ := hideR (dot_sz (nrm_sz (mkLq qa qb qr)) qp)
  refine ⟨((a, b, r), p), rfl, ⟨R3.sz_mono (mkL sa sb sr) (by decide), PV.sz_mono sp (by decide)⟩, ?_⟩
  rw [show ralongS.val ((a, b, r), p) = z.v from ez]
  conv => whnf
  have hx := (RV.v_eq ex).symm
  have hy := (RV.v_eq ey).symm
  have hz := (RV.v_eq ez).symm
  refine fin (x, y, z) 0 ?_
  unfold parV
  rw [if_pos h1, hx, hy, hz]
  rfl
 ·rw [show (c != 0) = true from by simp [h]]
  conv => whnf
  exact fin zeroL 1 (if_neg (fun e => h (by rw [pc]; exact if_neg e)))
theorem rmeet_ok : Snd Tryz.prog 20 meetS := by
 refine snd_of Eq9cok Dok Tryz.func20 (enters_of Tryz.func20 (by kernel_rfl) rfl) (fun _ => rfl) (fun _ => rfl) ?_
 intro ⟨l, m⟩ hp
 have hp : l.sz 1048576 ∧ m.sz 1048576 := hp
 obtain ⟨sl, sm⟩ := hp
 have ql := R3.qsz sl (by decide)
 have qm := R3.qsz sm (by decide)
 have fin : ∀ (x : PV) (z : Int), metV l.q m.q = (x, z) → Value.tuple ⟨[x.v, .int .i64 z]⟩ = meetS.val (l, m) := fun x z h => by
  show _ = PE.v (metV l.q m.q)
  rw [h]; rfl
 conv => whnf
 obtain ⟨c, ec, pc⟩ := hideZ (chkV l.q)
 refine ⟨l, rfl, R3.sz_mono sl (by decide), ?_⟩
 rw [show lcheckS.val l = .int .i64 c from ec]
 conv => whnf
 by_cases h : c = 0
 ·have h1 : isL l.q := fun e => by rw [pc] at h; exact absurd ((if_pos e).symm.trans h) (by decide)
  subst h
  conv => whnf
  obtain ⟨c2, ec2, pc2⟩ := hideZ (chkV m.q)
  refine ⟨m, rfl, R3.sz_mono sm (by decide), ?_⟩
  rw [show lcheckS.val m = .int .i64 c2 from ec2]
  conv => whnf
  by_cases h2 : c2 = 0
  ·have h3 : isL m.q := fun e => by rw [pc2] at h2; exact absurd ((if_pos e).symm.trans h2) (by decide)
   subst h2
   obtain ⟨a, b, r⟩ := l
   obtain ⟨a', b', r'⟩ := m
   have sa := sl.1
   have sb := sl.2.1
   have sr := sl.2.2
   have sa' := sm.1
   have sb' := sm.2.1
   have sr' := sm.2.2
   have qa : QB a.q _ := ql.1
   have qb : QB b.q _ := ql.2.1
   have qr : QB r.q _ := ql.2.2
   have qa' : QB a'.q _ := qm.1
   have qb' : QB b'.q _ := qm.2.1
   have qr' : QB r'.q _ := qm.2.2
   conv => whnf
   obtain ⟨d, ed, pd, sd, qd⟩ := hideR (QB.sub (QB.mul qa qb') (QB.mul qb qa'))
   refine ⟨((a, b), (a', b')), rfl, ⟨⟨RV.sz_mono sa (by decide), RV.sz_mono sb (by decide)⟩, RV.sz_mono sa' (by decide), RV.sz_mono sb' (by decide)⟩, ?_⟩
   rw [show rdetS.val ((a, b), (a', b')) = d.v from ed]
   conv => whnf
   have hd : d.q = detR (R3.q (a, b, r)) (R3.q (a', b', r')) := pd
   obtain ⟨z, ez, pz⟩ := hideZ (cmpQ d.q 0)
   refine ⟨d, rfl, RV.sz_ok sd (by decide), ?_⟩
   rw [show qsignS.val d = .int .i64 z from ez]
   conv => whnf
   by_cases h4 : d.q = 0
   ·obtain rfl : z = 0 := by rw [pz]; exact cmpQ_eq h4
    conv => whnf
    refine fin zeroP 24 ?_
    unfold metV
    rw [if_pos ⟨h1, h3⟩, if_pos (by rw [← hd]; exact h4)]
   ·rw [show (z == 0) = false from by rw [pz]; simpa using fun e => h4 (cmpQ_zero.1 e)]
    conv => whnf
    refine .inl ⟨21, [[], [0], [], [2], [], [4], [], [6], [0, 1, 2, 3, 4, 5, 6, 7], [], [0, 1, 2, 3, 4, 5, 6, 7, 8, 9], [], [11], [], [13], [], [15], [], [17], [0, 1, 2, 3, 4, 5, 6, 7, 8, 9, 10, 11, 12, 13, 14, 15, 16, 17, 18], [], [0, 1, 2, 3, 4, 5, 6, 7, 8, 9, 10, 11, 12, 13, 14, 15, 16, 17, 18, 19, 20], [0, 1, 2, 3, 4, 5, 6, 7, 8, 9, 10, 11, 12, 13, 14, 15, 16, 17, 18, 19, 20, 21], [0, 1, 2, 3, 4, 5, 6, 7, 8, 9, 10, 11, 12, 13, 14, 15, 16, 17, 18, 19, 20, 21, 22], [0, 1, 2, 3, 4, 5, 6, 7, 8, 9, 10, 11, 12, 13, 14, 15, 16, 17, 18, 19, 20, 21, 22, 23]], by kernel_rfl, ?_⟩
    conv => whnf
    obtain ⟨x1, ex1, px1, sx1, qx1⟩ := hideR (QB.sub (QB.mul qr qb') (QB.mul qb qr'))
    refine ⟨((r, b), (r', b')), rfl, ⟨⟨RV.sz_mono sr (by decide), RV.sz_mono sb (by decide)⟩, RV.sz_mono sr' (by decide), RV.sz_mono sb' (by decide)⟩, ?_⟩
    rw [show rdetS.val ((r, b), (r', b')) = x1.v from ex1]
    conv => whnf
    obtain ⟨x, ex, px, sx, qx⟩ := hideR (QB.div qx1 qd (by decide))
    refine ⟨(x1, d), rfl, ⟨RV.sz_ok sx1 (by decide), RV.sz_ok sd (by decide)⟩, ?_⟩
    rw [show rquotS.val (x1, d) = x.v from ex]
    conv => whnf
    obtain ⟨y1, ey1, py1, sy1, qy1⟩ := hideR (QB.sub (QB.mul qa qr') (QB.mul qr qa'))
    refine ⟨((a, r), (a', r')), rfl, ⟨⟨RV.sz_mono sa (by decide), RV.sz_mono sr (by decide)⟩, RV.sz_mono sa' (by decide), RV.sz_mono sr' (by decide)⟩, ?_⟩
    rw [show rdetS.val ((a, r), (a', r')) = y1.v from ey1]
    conv => whnf
    obtain ⟨y, ey, py, sy, qy⟩ := hideR (QB.div qy1 qd (by decide))
    refine ⟨(y1, d), rfl, ⟨RV.sz_ok sy1 (by decide), RV.sz_ok sd (by decide)⟩, ?_⟩
    rw [show rquotS.val (y1, d) = y.v from ey]
    conv => whnf
    refine fin (x, y) 0 ?_
    have hx := (RV.v_eq ex).symm
    have hy := (RV.v_eq ey).symm
    unfold metV
    rw [if_pos ⟨h1, h3⟩, if_neg (by rw [← hd]; exact h4), hx, hy, px1, py1, hd]
    rfl
  ·rw [show (c2 != 0) = true from by simp [h2]]
   conv => whnf
   exact fin zeroP 1 (if_neg (fun e => h2 (by rw [pc2]; exact if_neg e.2)))
 ·rw [show (c != 0) = true from by simp [h]]
  conv => whnf
  exact fin zeroP 1 (if_neg (fun e => h (by rw [pc]; exact if_neg e.1)))
theorem rshift_ok : Snd Tryz.prog 66 rshiftS := by
 refine snd_of Eq9cok Dok Tryz.func66 (enters_of Tryz.func66 (by kernel_rfl) rfl) (fun _ => rfl) (fun _ => rfl) ?_
 intro ⟨⟨l, p⟩, i⟩ hp
 have hp : (l.sz 1048576 ∧ p.sz 1048576) ∧ (i = 1 ∨ i = 2) := hp
 obtain ⟨⟨sl, sp⟩, hi⟩ := hp
 have ql := R3.qsz sl (by decide)
 have qp := PV.psz sp (by decide)
 obtain ⟨a, b, r⟩ := l
 have sa := sl.1
 have sb := sl.2.1
 have sr := sl.2.2
 have qa : QB a.q _ := ql.1
 have qb : QB b.q _ := ql.2.1
 have qr : QB r.q _ := ql.2.2
 conv => whnf
 refine .inl ⟨8, [[], [], [0, 1], [], [], [0, 1, 2, 3, 4], [0, 1, 2, 3, 4, 5], [], [0, 1, 2, 3, 4, 5, 6, 7]], by kernel_rfl, ?_⟩
 conv => whnf
 obtain ⟨e, ee, pe, se, qe⟩ := hideR (val_sz (mkLq qa qb qr) qp)
 refine ⟨((a, b, r), p), rfl, ⟨R3.sz_mono (mkL sa sb sr) (by decide), PV.sz_mono sp (by decide)⟩, ?_⟩
 rw [show excessS.val ((a, b, r), p) = e.v from ee]
 conv => whnf
 obtain ⟨d, ed, pd, sd, qd⟩ := hideR (dot_sz (mkQ qa qb) (mkQ qa qb))
 refine ⟨((a, b), (a, b)), rfl, ⟨PV.sz_mono (mkP sa sb) (by decide), PV.sz_mono (mkP sa sb) (by decide)⟩, ?_⟩
 rw [show vdotS.val ((a, b), (a, b)) = d.v from ed]
 conv => whnf
 obtain ⟨t, et, pt, st, qt⟩ := hideR (QB.div qe qd (by decide))
 refine ⟨(e, d), rfl, ⟨RV.sz_ok se (by decide), RV.sz_ok sd (by decide)⟩, ?_⟩
 rw [show rquotS.val (e, d) = t.v from et]
 conv => whnf
 refine .inl ⟨7, [[], [], [], [2], [], [2, 3, 4], [1, 2, 3, 4, 5], [0, 1, 2, 3, 4, 5, 6], [0, 1, 2, 3, 4, 5, 6, 7]], by kernel_rfl, ?_⟩
 conv => whnf
 obtain ⟨k, ek, pk, sk, qk⟩ := hideR (q := ((i : Int) : Rat)) (QB.of_int (n := i) (k := 1) (by rcases hi with rfl | rfl <;> exact nby_le (by decide)) (by decide))
 refine ⟨i, rfl, by rcases hi with rfl | rfl <;> exact ⟨by decide, by decide⟩, ?_⟩
 rw [show qofS.val i = k.v from ek]
 conv => whnf
 obtain ⟨m, em, pm, sm, qm⟩ := hideR (QB.mul qk qt)
 refine ⟨(k, t), rfl, ⟨RV.sz_ok sk (by decide), RV.sz_ok st (by decide)⟩, ?_⟩
 rw [show qmulS.val (k, t) = m.v from em]
 conv => whnf
 obtain ⟨v, ev, pv, sv, qv⟩ := hideP (scale_sz (mkQ qa qb) qm)
 refine ⟨((a, b), m), rfl, ⟨PV.sz_mono (mkP sa sb) (by decide), RV.sz_mono sm (by decide)⟩, ?_⟩
 rw [show vscaleS.val ((a, b), m) = v.v from ev]
 conv => whnf
 obtain ⟨w, ew, pw, sw, qw⟩ := hideP (sub_sz qp qv)
 refine ⟨(p, v), rfl, ⟨PV.sz_mono sp (by decide), PV.sz_mono sv (by decide)⟩, ?_⟩
 rw [show vsubS.val (p, v) = w.v from ew]
 conv => whnf
 have hw := (PV.v_eq ew).symm
 show w.v = (ptV (footR (i : Rat) (R3.q (a, b, r)) p.p)).v
 rw [hw, pv, pm, pk, pt, pe, pd]
 rfl
def Eq9d : Env := { tt := tt, eqs := [], Φ := fun g => match g with
 | 18 => some (.p lcheckS)
 | 66 => some (.p rshiftS)
 | _ => none }
theorem Eq9dok : EnvOk Tryz.prog Eq9d := ⟨tt_ok, fun t h => by simp [Eq9d] at h, (fun g S h => by
 simp only [Eq9d] at h
 split at h
 ·cases h; exact rlcheck_ok
 ·cases h; exact rshift_ok
 ·cases h), fun g F h => by simp [Eq9d] at h⟩
theorem rfoot_ok : Snd Tryz.prog 22 (footS 1) := by
 refine snd_of Eq9dok Dok Tryz.func22 (enters_of Tryz.func22 (by kernel_rfl) rfl) (fun _ => rfl) (fun _ => rfl) ?_
 intro ⟨l, p⟩ hp
 have hp : l.sz 1048576 ∧ p.sz 1048576 := hp
 obtain ⟨sl, sp⟩ := hp
 have fin : ∀ (x : PV) (z : Int), footV 1 l.q p.p = (x, z) → Value.tuple ⟨[x.v, .int .i64 z]⟩ = (footS 1).val (l, p) := fun x z h => by
  show _ = PE.v (footV 1 l.q p.p)
  rw [h]; rfl
 conv => whnf
 obtain ⟨c, ec, pc⟩ := hideZ (chkV l.q)
 refine ⟨l, rfl, R3.sz_mono sl (by decide), ?_⟩
 rw [show lcheckS.val l = .int .i64 c from ec]
 conv => whnf
 by_cases h : c = 0
 ·have h1 : isL l.q := fun e => by rw [pc] at h; exact absurd ((if_pos e).symm.trans h) (by decide)
  subst h
  conv => whnf
  obtain ⟨x, hx⟩ : ∃ x, x = ptV (footR ((1 : Int) : Rat) l.q p.p) := ⟨_, rfl⟩
  refine ⟨((l, p), 1), rfl, ⟨⟨sl, sp⟩, by show (1 : Int) = 1 ∨ (1 : Int) = 2; decide⟩, ?_⟩
  rw [show rshiftS.val ((l, p), 1) = x.v from by rw [hx]; rfl]
  conv => whnf
  refine fin x 0 ?_
  unfold footV
  rw [if_pos h1, hx]
  rfl
 ·rw [show (c != 0) = true from by simp [h]]
  conv => whnf
  exact fin zeroP 1 (if_neg (fun e => h (by rw [pc]; exact if_neg e)))
theorem rmirror_ok : Snd Tryz.prog 24 (footS 2) := by
 refine snd_of Eq9dok Dok Tryz.func24 (enters_of Tryz.func24 (by kernel_rfl) rfl) (fun _ => rfl) (fun _ => rfl) ?_
 intro ⟨l, p⟩ hp
 have hp : l.sz 1048576 ∧ p.sz 1048576 := hp
 obtain ⟨sl, sp⟩ := hp
 have fin : ∀ (x : PV) (z : Int), footV 2 l.q p.p = (x, z) → Value.tuple ⟨[x.v, .int .i64 z]⟩ = (footS 2).val (l, p) := fun x z h => by
  show _ = PE.v (footV 2 l.q p.p)
  rw [h]; rfl
 conv => whnf
 obtain ⟨c, ec, pc⟩ := hideZ (chkV l.q)
 refine ⟨l, rfl, R3.sz_mono sl (by decide), ?_⟩
 rw [show lcheckS.val l = .int .i64 c from ec]
 conv => whnf
 by_cases h : c = 0
 ·have h1 : isL l.q := fun e => by rw [pc] at h; exact absurd ((if_pos e).symm.trans h) (by decide)
  subst h
  conv => whnf
  obtain ⟨x, hx⟩ : ∃ x, x = ptV (footR ((2 : Int) : Rat) l.q p.p) := ⟨_, rfl⟩
  refine ⟨((l, p), 2), rfl, ⟨⟨sl, sp⟩, by show (2 : Int) = 1 ∨ (2 : Int) = 2; decide⟩, ?_⟩
  rw [show rshiftS.val ((l, p), 2) = x.v from by rw [hx]; rfl]
  conv => whnf
  refine fin x 0 ?_
  unfold footV
  rw [if_pos h1, hx]
  rfl
 ·rw [show (c != 0) = true from by simp [h]]
  conv => whnf
  exact fin zeroP 1 (if_neg (fun e => h (by rw [pc]; exact if_neg e)))
end Go.Proofs.YtppeponndkfbkaaGreat
/- Laws of lines against the reference. -/
set_option maxRecDepth 20000
set_option maxHeartbeats 4000000
namespace Go.Proofs.YtppeponndkfbkaaGreat
open Go Go.Ae
def Elz : Env := { tt := tt, eqs := eqsL, Φ := fun g => match g with
 | 7 => some (.q greatLS)
 | 8 => some (.p awakeS)
 | 9 => some (.p throughS)
 | 11 => some (.p sideS)
 | 17 => some (.p lcheckS)
 | 21 => some (.p (footS 1))
 | 23 => some (.p (footS 2))
 | 13 => some (.p bisectS)
 | 19 => some (.p meetS)
 | 15 => some (.p parallelS)
 | 10 => some (.p throughS)
 | 12 => some (.p sideS)
 | 18 => some (.p lcheckS)
 | 22 => some (.p (footS 1))
 | 24 => some (.p (footS 2))
 | 14 => some (.p bisectS)
 | 20 => some (.p meetS)
 | 16 => some (.p parallelS)
 | _ => none }
theorem Elzok : EnvOk Tryz.prog Elz := ⟨tt_ok, eqs_ok, (fun g S h => by
 simp only [Elz] at h
 split at h
 ·cases h; exact greatL_ok
 ·cases h; exact awake9_ok
 ·cases h; exact through_ok
 ·cases h; exact side_ok
 ·cases h; exact lcheck_ok
 ·cases h; exact foot_ok
 ·cases h; exact mirror_ok
 ·cases h; exact bisect_ok
 ·cases h; exact meet_ok
 ·cases h; exact parallel_ok
 ·cases h; exact rthrough_ok
 ·cases h; exact rside_ok
 ·cases h; exact rlcheck_ok
 ·cases h; exact rfoot_ok
 ·cases h; exact rmirror_ok
 ·cases h; exact rbisect_ok
 ·cases h; exact rmeet_ok
 ·cases h; exact rparallel_ok
 ·cases h), fun g F h => by simp [Elz] at h⟩
theorem basics_ok : Snd Tryz.prog 3 lawLPPS := by
 refine snd_of Elzok Dok Tryz.func3 (enters_of Tryz.func3 (by kernel_rfl) rfl) (fun _ => rfl) (fun _ => rfl) ?_
 intro ⟨l, p, q⟩ hp
 conv => whnf
 obtain ⟨G, hG⟩ : ∃ G, G = greatL [l] [p, q] := ⟨_, rfl⟩
 refine ⟨((some ([l], 1) : LL), (some ([p, q], 2) : PL)), [3, 4], rfl, ⟨by show 1 ≤ 1099511627776; decide, by show 2 ≤ 1099511627776; decide⟩, ?_⟩
 rw [show greatLS.blks ((some ([l], 1) : LL), (some ([p, q], 2) : PL)) = [.flat false 1 9 (rowsLn [l]), .flat false 2 6 (rowsP [p, q])] from rfl, show greatLS.val ((some ([l], 1) : LL), (some ([p, q], 2) : PL)) = .bool G from by rw [hG]; rfl, show greatLS.new ((some ([l], 1) : LL), (some ([p, q], 2) : PL)) = none from rfl]
 conv => whnf
 refine ⟨lit_blkL [l], lit_blk [p, q], ?_⟩
 conv => whnf
 refine ⟨.bool G, rfl, ?_⟩
 conv => whnf
 have hsz := fun h => great_false (hG.symm.trans h)
 clear hG
 cases hG2 : G
 ·obtain ⟨hls, hps⟩ := hsz hG2
  have sl : R3.sz 20 l := hls l (by simp)
  have ql := R3.qsz sl (by decide)
  have sp : PV.sz 20 p := hps p (by simp)
  have qp := PV.psz sp (by decide)
  have sq : PV.sz 20 q := hps q (by simp)
  have qq := PV.psz sq (by decide)
  conv => whnf
  obtain ⟨a, e, ea, pa, sa, qa⟩ := hideLE (thrV_sz qp qq)
  refine ⟨(p, q), rfl, ⟨PV.sz_mono sp (by decide), PV.sz_mono sq (by decide)⟩, ?_⟩
  rw [show throughS.val (p, q) = .tuple ⟨[a.v, .int .i64 e]⟩ from ea]
  conv => whnf
  obtain ⟨b, f, eb, pb, sb, qb⟩ := hideLE (thrV_sz qp qq)
  refine ⟨(p, q), rfl, ⟨PV.sz_mono sp (by decide), PV.sz_mono sq (by decide)⟩, ?_⟩
  rw [show throughS.val (p, q) = .tuple ⟨[b.v, .int .i64 f]⟩ from eb]
  conv => whnf
  obtain ⟨rfl, rfl⟩ := pair_eq pa pb
  obtain ⟨s, g, es, ps⟩ := hideZE (sidV l.q p.p)
  refine ⟨(l, p), rfl, ⟨R3.sz_mono sl (by decide), PV.sz_mono sp (by decide)⟩, ?_⟩
  rw [show sideS.val (l, p) = .tuple ⟨[.int .i64 s, .int .i64 g]⟩ from es]
  conv => whnf
  obtain ⟨t, h, et, pt⟩ := hideZE (sidV l.q p.p)
  refine ⟨(l, p), rfl, ⟨R3.sz_mono sl (by decide), PV.sz_mono sp (by decide)⟩, ?_⟩
  rw [show sideS.val (l, p) = .tuple ⟨[.int .i64 t, .int .i64 h]⟩ from et]
  conv => whnf
  obtain ⟨rfl, rfl⟩ := pair_eq ps pt
  obtain ⟨c, i, ec, pc, sc, qc⟩ := hideLE (bisV_sz qp qq)
  refine ⟨(p, q), rfl, ⟨PV.sz_mono sp (by decide), PV.sz_mono sq (by decide)⟩, ?_⟩
  rw [show bisectS.val (p, q) = .tuple ⟨[c.v, .int .i64 i]⟩ from ec]
  conv => whnf
  obtain ⟨d, j, ed, pd, sd, qd⟩ := hideLE (bisV_sz qp qq)
  refine ⟨(p, q), rfl, ⟨PV.sz_mono sp (by decide), PV.sz_mono sq (by decide)⟩, ?_⟩
  rw [show bisectS.val (p, q) = .tuple ⟨[d.v, .int .i64 j]⟩ from ed]
  conv => whnf
  obtain ⟨rfl, rfl⟩ := pair_eq pc pd
  obtain ⟨x, k, ex, px, sx, qx⟩ := hideLE (parV_sz ql qp)
  refine ⟨(l, p), rfl, ⟨R3.sz_mono sl (by decide), PV.sz_mono sp (by decide)⟩, ?_⟩
  rw [show parallelS.val (l, p) = .tuple ⟨[x.v, .int .i64 k]⟩ from ex]
  conv => whnf
  obtain ⟨y, m, ey, py, sy, qy⟩ := hideLE (parV_sz ql qp)
  refine ⟨(l, p), rfl, ⟨R3.sz_mono sl (by decide), PV.sz_mono sp (by decide)⟩, ?_⟩
  rw [show parallelS.val (l, p) = .tuple ⟨[y.v, .int .i64 m]⟩ from ey]
  conv => whnf
  obtain ⟨rfl, rfl⟩ := pair_eq px py
  refine .inl ⟨43, [[], [], [0, 1], [0, 1, 2], [0, 1, 2, 3], [0, 1, 2, 3], [0, 1, 2, 3, 4, 5], [0, 1, 2, 3, 4, 5, 6], [0, 1, 2, 3, 4, 5, 6, 7], [0, 1, 2, 3, 4, 5, 6, 7, 8], [0, 1, 2, 3, 4, 5, 6, 7, 8, 9], [0, 1, 2, 3, 4, 5, 6, 7, 8], [0, 1, 2, 3, 4, 5, 6, 7, 8, 9, 10, 11], [0, 1, 2, 3, 4, 5, 6, 7, 8, 9, 10, 11, 12], [0, 1, 2, 3, 4, 5, 6, 7, 8, 9, 10, 11, 12, 13], [0, 1, 2, 3, 4, 5, 6, 7, 8, 9, 10, 11, 12, 13, 14], [0, 1, 2, 3, 4, 5, 6, 7, 8, 9, 10, 11, 12, 13, 14, 15], [0, 1, 2, 3, 4, 5, 6, 7, 8, 9, 10, 11, 12, 13, 14, 15], [0, 1, 2, 3, 4, 5, 6, 7, 8, 9, 10, 11, 12, 13, 14, 15, 16, 17], [0, 1, 2, 3, 4, 5, 6, 7, 8, 9, 10, 11, 12, 13, 14, 15, 16, 17, 18], [0, 1, 2, 3, 4, 5, 6, 7, 8, 9, 10, 11, 12, 13, 14, 15, 16, 17, 18, 19], [0, 1, 2, 3, 4, 5, 6, 7, 8, 9, 10, 11, 12, 13, 14, 15, 16, 17, 18, 19, 20], [0, 1, 2, 3, 4, 5, 6, 7, 8, 9, 10, 11, 12, 13, 14, 15, 16, 17, 18, 19, 20], [0, 1, 2, 3, 4, 5, 6, 7, 8, 9, 10, 11, 12, 13, 14, 15, 16, 17, 18, 19, 20, 21, 22], [0, 1, 2, 3, 4, 5, 6, 7, 8, 9, 10, 11, 12, 13, 14, 15, 16, 17, 18, 19, 20, 21, 22, 23], [0, 1, 2, 3, 4, 5, 6, 7, 8, 9, 10, 11, 12, 13, 14, 15, 16, 17, 18, 19, 20, 21, 22, 23, 24], [0, 1, 2, 3, 4, 5, 6, 7, 8, 9, 10, 11, 12, 13, 14, 15, 16, 17, 18, 19, 20, 21, 22, 23, 24, 25], [0, 1, 2, 3, 4, 5, 6, 7, 8, 9, 10, 11, 12, 13, 14, 15, 16, 17, 18, 19, 20, 21, 22, 23, 24, 25], [0, 1, 2, 3, 4, 5, 6, 7, 8, 9, 10, 11, 12, 13, 14, 15, 16, 17, 18, 19, 20, 21, 22, 23, 24, 25, 26, 27], [0, 1, 2, 3, 4, 5, 6, 7, 8, 9, 10, 11, 12, 13, 14, 15, 16, 17, 18, 19, 20, 21, 22, 23, 24, 25, 26, 27, 28], [0, 1, 2, 3, 4, 5, 6, 7, 8, 9, 10, 11, 12, 13, 14, 15, 16, 17, 18, 19, 20, 21, 22, 23, 24, 25, 26, 27, 28, 29], [0, 1, 2, 3, 4, 5, 6, 7, 8, 9, 10, 11, 12, 13, 14, 15, 16, 17, 18, 19, 20, 21, 22, 23, 24, 25, 26, 27, 28, 29, 30], [0, 1, 2, 3, 4, 5, 6, 7, 8, 9, 10, 11, 12, 13, 14, 15, 16, 17, 18, 19, 20, 21, 22, 23, 24, 25, 26, 27, 28, 29, 30], [0, 1, 2, 3, 4, 5, 6, 7, 8, 9, 10, 11, 12, 13, 14, 15, 16, 17, 18, 19, 20, 21, 22, 23, 24, 25, 26, 27, 28, 29, 30, 31, 32], [0, 1, 2, 3, 4, 5, 6, 7, 8, 9, 10, 11, 12, 13, 14, 15, 16, 17, 18, 19, 20, 21, 22, 23, 24, 25, 26, 27, 28, 29, 30, 31, 32, 33], [0, 1, 2, 3, 4, 5, 6, 7, 8, 9, 10, 11, 12, 13, 14, 15, 16, 17, 18, 19, 20, 21, 22, 23, 24, 25, 26, 27, 28, 29, 30, 31, 32, 33, 34], [0, 1, 2, 3, 4, 5, 6, 7, 8, 9, 10, 11, 12, 13, 14, 15, 16, 17, 18, 19, 20, 21, 22, 23, 24, 25, 26, 27, 28, 29, 30, 31, 32, 33, 34, 35], [0, 1, 2, 3, 4, 5, 6, 7, 8, 9, 10, 11, 12, 13, 14, 15, 16, 17, 18, 19, 20, 21, 22, 23, 24, 25, 26, 27, 28, 29, 30, 31, 32, 33, 34, 35], [0, 1, 2, 3, 4, 5, 6, 7, 8, 9, 10, 11, 12, 13, 14, 15, 16, 17, 18, 19, 20, 21, 22, 23, 24, 25, 26, 27, 28, 29, 30, 31, 32, 33, 34, 35, 36, 37], [0, 1, 2, 3, 4, 5, 6, 7, 8, 9, 10, 11, 12, 13, 14, 15, 16, 17, 18, 19, 20, 21, 22, 23, 24, 25, 26, 27, 28, 29, 30, 31, 32, 33, 34, 35, 36, 37, 38], [0, 1, 2, 3, 4, 5, 6, 7, 8, 9, 10, 11, 12, 13, 14, 15, 16, 17, 18, 19, 20, 21, 22, 23, 24, 25, 26, 27, 28, 29, 30, 31, 32, 33, 34, 35, 36, 37, 38, 39], [0, 1, 2, 3, 4, 5, 6, 7, 8, 9, 10, 11, 12, 13, 14, 15, 16, 17, 18, 19, 20, 21, 22, 23, 24, 25, 26, 27, 28, 29, 30, 31, 32, 33, 34, 35, 36, 37, 38, 39, 40], [0, 1, 2, 3, 4, 5, 6, 7, 8, 9, 10, 11, 12, 13, 14, 15, 16, 17, 18, 19, 20, 21, 22, 23, 24, 25, 26, 27, 28, 29, 30, 31, 32, 33, 34, 35, 36, 37, 38, 39, 40], [0, 1, 2, 3, 4, 5, 6, 7, 8, 9, 10, 11, 12, 13, 14, 15, 16, 17, 18, 19, 20, 21, 22, 23, 24, 25, 26, 27, 28, 29, 30, 31, 32, 33, 34, 35, 36, 37, 38, 39, 40, 41, 42], [0, 1, 2, 3, 4, 5, 6, 7, 8, 9, 10, 11, 12, 13, 14, 15, 16, 17, 18, 19, 20, 21, 22, 23, 24, 25, 26, 27, 28, 29, 30, 31, 32, 33, 34, 35, 36, 37, 38, 39, 40, 41, 42, 43], [0, 1, 2, 3, 4, 5, 6, 7, 8, 9, 10, 11, 12, 13, 14, 15, 16, 17, 18, 19, 20, 21, 22, 23, 24, 25, 26, 27, 28, 29, 30, 31, 32, 33, 34, 35, 36, 37, 38, 39, 40, 41, 42, 43, 44], [0, 1, 2, 3, 4, 5, 6, 7, 8, 9, 10, 11, 12, 13, 14, 15, 16, 17, 18, 19, 20, 21, 22, 23, 24, 25, 26, 27, 28, 29, 30, 31, 32, 33, 34, 35, 36, 37, 38, 39, 40, 41, 42, 43, 44, 45], [0, 1, 2, 3, 4, 5, 6, 7, 8, 9, 10, 11, 12, 13, 14, 15, 16, 17, 18, 19, 20, 21, 22, 23, 24, 25, 26, 27, 28, 29, 30, 31, 32, 33, 34, 35, 36, 37, 38, 39, 40, 41, 42, 43, 44, 45, 46], [0, 1, 2, 3, 4, 5, 6, 7, 8, 9, 10, 11, 12, 13, 14, 15, 16, 17, 18, 19, 20, 21, 22, 23, 24, 25, 26, 27, 28, 29, 30, 31, 32, 33, 34, 35, 36, 37, 38, 39, 40, 41, 42, 43, 44, 45, 46, 47]], by kernel_rfl, ?_⟩
  conv => whnf
  rw [eqL a]
  conv => whnf
  rw [show (e == e) = true from by simp]
  conv => whnf
  obtain ⟨z, ez, pz⟩ := hideZ (chkV l.q)
  refine ⟨l, rfl, R3.sz_mono sl (by decide), ?_⟩
  rw [show lcheckS.val l = .int .i64 z from ez]
  conv => whnf
  obtain ⟨z2, hz2⟩ : ∃ z2 : Int, z2 = z := ⟨_, rfl⟩
  refine ⟨l, rfl, R3.sz_mono sl (by decide), ?_⟩
  rw [show lcheckS.val l = .int .i64 (z) from congrArg (Value.int .i64) (show chkV l.q = z from pz.symm)]
  conv => whnf
  rw [show (z == z) = true from by simp]
  conv => whnf
  rw [show (s == s) = true from by simp]
  conv => whnf
  rw [show (g == g) = true from by simp]
  conv => whnf
  rw [eqL c]
  conv => whnf
  rw [show (i == i) = true from by simp]
  conv => whnf
  rw [eqL x]
  conv => whnf
  rw [show (k == k) = true from by simp]
  conv => whnf
  refine ⟨(), rfl, trivial, ?_⟩
  conv => whnf
  rfl
 ·conv => whnf
  refine ⟨(), rfl, trivial, ?_⟩
  conv => whnf
  rfl
theorem points_ok : Snd Tryz.prog 4 lawLLPS := by
 refine snd_of Elzok Dok Tryz.func4 (enters_of Tryz.func4 (by kernel_rfl) rfl) (fun _ => rfl) (fun _ => rfl) ?_
 intro ⟨⟨l, m⟩, p⟩ hp
 conv => whnf
 obtain ⟨G, hG⟩ : ∃ G, G = greatL [l, m] [p] := ⟨_, rfl⟩
 refine ⟨((some ([l, m], 2) : LL), (some ([p], 1) : PL)), [3, 4], rfl, ⟨by show 2 ≤ 1099511627776; decide, by show 1 ≤ 1099511627776; decide⟩, ?_⟩
 rw [show greatLS.blks ((some ([l, m], 2) : LL), (some ([p], 1) : PL)) = [.flat false 2 9 (rowsLn [l, m]), .flat false 1 6 (rowsP [p])] from rfl, show greatLS.val ((some ([l, m], 2) : LL), (some ([p], 1) : PL)) = .bool G from by rw [hG]; rfl, show greatLS.new ((some ([l, m], 2) : LL), (some ([p], 1) : PL)) = none from rfl]
 conv => whnf
 refine ⟨lit_blkL [l, m], lit_blk [p], ?_⟩
 conv => whnf
 refine ⟨.bool G, rfl, ?_⟩
 conv => whnf
 have hsz := fun h => great_false (hG.symm.trans h)
 clear hG
 cases hG2 : G
 ·obtain ⟨hls, hps⟩ := hsz hG2
  have sl : R3.sz 20 l := hls l (by simp)
  have ql := R3.qsz sl (by decide)
  have sm : R3.sz 20 m := hls m (by simp)
  have qm := R3.qsz sm (by decide)
  have sp : PV.sz 20 p := hps p (by simp)
  have qp := PV.psz sp (by decide)
  conv => whnf
  obtain ⟨a, e, ea, pa, sa, qa⟩ := hidePE (metV_sz ql qm)
  refine ⟨(l, m), rfl, ⟨R3.sz_mono sl (by decide), R3.sz_mono sm (by decide)⟩, ?_⟩
  rw [show meetS.val (l, m) = .tuple ⟨[a.v, .int .i64 e]⟩ from ea]
  conv => whnf
  obtain ⟨b, f, eb, pb, sb, qb⟩ := hidePE (metV_sz ql qm)
  refine ⟨(l, m), rfl, ⟨R3.sz_mono sl (by decide), R3.sz_mono sm (by decide)⟩, ?_⟩
  rw [show meetS.val (l, m) = .tuple ⟨[b.v, .int .i64 f]⟩ from eb]
  conv => whnf
  obtain ⟨rfl, rfl⟩ := pair_eq pa pb
  obtain ⟨c, g, ec, pc, sc, qc⟩ := hidePE (footV_sz (qb1 (Nat.le_refl 1)) ql qp)
  refine ⟨(l, p), rfl, ⟨R3.sz_mono sl (by decide), PV.sz_mono sp (by decide)⟩, ?_⟩
  rw [show (footS 1).val (l, p) = .tuple ⟨[c.v, .int .i64 g]⟩ from ec]
  conv => whnf
  obtain ⟨d, h, ed, pd, sd, qd⟩ := hidePE (footV_sz (qb1 (Nat.le_refl 1)) ql qp)
  refine ⟨(l, p), rfl, ⟨R3.sz_mono sl (by decide), PV.sz_mono sp (by decide)⟩, ?_⟩
  rw [show (footS 1).val (l, p) = .tuple ⟨[d.v, .int .i64 h]⟩ from ed]
  conv => whnf
  obtain ⟨rfl, rfl⟩ := pair_eq pc pd
  obtain ⟨x, i, ex, px, sx, qx⟩ := hidePE (footV_sz qb2 ql qp)
  refine ⟨(l, p), rfl, ⟨R3.sz_mono sl (by decide), PV.sz_mono sp (by decide)⟩, ?_⟩
  rw [show (footS 2).val (l, p) = .tuple ⟨[x.v, .int .i64 i]⟩ from ex]
  conv => whnf
  obtain ⟨y, j, ey, py, sy, qy⟩ := hidePE (footV_sz qb2 ql qp)
  refine ⟨(l, p), rfl, ⟨R3.sz_mono sl (by decide), PV.sz_mono sp (by decide)⟩, ?_⟩
  rw [show (footS 2).val (l, p) = .tuple ⟨[y.v, .int .i64 j]⟩ from ey]
  conv => whnf
  obtain ⟨rfl, rfl⟩ := pair_eq px py
  rw [eqPQ a a, decide_eq_true rfl]
  conv => whnf
  rw [show (e == e) = true from by simp]
  conv => whnf
  rw [eqPQ c c, decide_eq_true rfl]
  conv => whnf
  rw [show (g == g) = true from by simp]
  conv => whnf
  rw [eqPQ x x, decide_eq_true rfl]
  conv => whnf
  rw [show (i == i) = true from by simp]
  conv => whnf
  refine ⟨(), rfl, trivial, ?_⟩
  conv => whnf
  rfl
 ·conv => whnf
  refine ⟨(), rfl, trivial, ?_⟩
  conv => whnf
  rfl
end Go.Proofs.YtppeponndkfbkaaGreat
/- The statements about lines: LineBasics, LinePoints. -/
namespace Go.Proofs.YtppeponndkfbkaaGreat
open Go Go.Ae Go.ChangeShapes Go.WideShapes Go.ChangeAt Go.RowKit
theorem own : ownKnob Tryz.prog.godebug = none := by kernel_rfl
theorem laidOut : laidOutB Tryz.prog = true := by kernel_rfl
def zP : Value := .agg #[.bool false, .string ⟨#[]⟩, .string ⟨#[]⟩, .bool false, .string ⟨#[]⟩, .string ⟨#[]⟩]
def zL : Value := .agg #[.bool false, .string ⟨#[]⟩, .string ⟨#[]⟩, .bool false, .string ⟨#[]⟩, .string ⟨#[]⟩, .bool false, .string ⟨#[]⟩, .string ⟨#[]⟩]
set_option maxRecDepth 100000 in
theorem open_point {w : World} {r : Reach} {base : Nat} {v : Value} (h : Value.okWide Tryz.prog w r base 27 v) : ∃ p : PV, v = p.v :=
 open_pt Tryz.underlying27 (b := 4) (s := 9) (by kernel_rfl) (by kernel_rfl) Tryz.underlying4 Tryz.underlying9 h
set_option maxRecDepth 100000 in
theorem open_aline {w : World} {r : Reach} {base : Nat} {v : Value} (h : Value.okWide Tryz.prog w r base 25 v) : ∃ p : R3, v = p.v :=
 open_ln Tryz.underlying25 (b := 4) (s := 9) (by kernel_rfl) (by kernel_rfl) Tryz.underlying4 Tryz.underlying9 h
set_option maxRecDepth 100000 in
theorem lineBasics_lifted (os : Os) (started : os.Started) (H : Type) (enc : TypeId × Value → H) :
  ReturnsInHanded {} Tryz.checked os 3 .any (Rows.lineBasicsSpec.pre6 enc Tryz.prog Tryz.f3 Rows.lineBasicsRow.domain false) (Rows.lineBasicsSpec.post enc Tryz.prog Tryz.f3 false true false false) := by
 refine returnsInHanded_of_change (C := Tryz.checked) own started (by kernel_rfl) Tryz.func3
  (ChangeSpec.witness6 (enc := enc) (C := Tryz.checked) false ⟨#[], #[zL, zP, zP], []⟩ 8 (by kernel_rfl) (by kernel_rfl) (by kernel_rfl) (by kernel_rfl)) ?_
 intro W base args ds gs before hval0 hW hcnd _
 have hval : ∀ (j : Nat) t v, Tryz.f3.params[j]? = some t → args[j]? = some v → Value.okWide Tryz.prog W .any base t v := hval0
 have hW' := hW
 obtain ⟨p, q, hA0, hV, rfl, hfz, hnd⟩ := hW
 have hA : DataW.TrodAll enc Tryz.prog W 0 (fun _ => true) true Tryz.f3.params.toList args.toList ds p := hA0
 rw [Tryz.params3] at hA hval
 obtain ⟨v0, vs0, d0, ds0, p0, q0, hargs, rfl, rfl, h0, r0⟩ := trodAll_cons hA
 obtain ⟨v1, vs1, d1, ds1, p1, q1, rfl, rfl, rfl, h1, r1⟩ := trodAll_cons r0
 obtain ⟨v2, vs2, d2, ds2, p2, q2, rfl, rfl, rfl, h2, r2⟩ := trodAll_cons r1
 obtain ⟨rfl, rfl, rfl⟩ := trodAll_nil r2
 obtain rfl : args = #[v0, v1, v2] := by cases args; simp_all
 obtain ⟨rfl, rfl⟩ := trodVars_none hV
 obtain ⟨a0, rfl⟩ := open_aline (hval 0 25 v0 rfl rfl)
 obtain ⟨a1, rfl⟩ := open_point (hval 1 27 v1 rfl rfl)
 obtain ⟨a2, rfl⟩ := open_point (hval 2 27 v2 rfl rfl)
 have lt0 : ∀ x ∈ p0, x.block < W.heap.size := by obtain ⟨m, hm⟩ := h0; exact DataW.trod_lt m _ _ _ hm
 have lt1 : ∀ x ∈ p1, x.block < W.heap.size := by obtain ⟨m, hm⟩ := h1; exact DataW.trod_lt m _ _ _ hm
 have lt2 : ∀ x ∈ p2, x.block < W.heap.size := by obtain ⟨m, hm⟩ := h2; exact DataW.trod_lt m _ _ _ hm
 clear hA0 hval0
 refine (calls_of_snd basics_ok (i := (a0, a1, a2)) (trivial) rfl rfl (b := true) rfl W).mono fun e W' ⟨he, bel⟩ => ?_
 subst he
 exact ⟨_, rfl, _, _, _, [], _, [], hW', trodAll_mk1 (shut_bool Tryz.underlying4 _), (trodAll_cons_mk (Below.trod laidOut (by kernel_rfl) (of_decide_eq_true (by kernel_rfl)) h0 bel lt0) (trodAll_cons_mk (Below.trod laidOut (by kernel_rfl) (of_decide_eq_true (by kernel_rfl)) h1 bel lt1) (trodAll_cons_mk (Below.trod laidOut (by kernel_rfl) (of_decide_eq_true (by kernel_rfl)) h2 bel lt2) trodAll_mk0))), rfl, bel.frame _, fun h => by cases h⟩
theorem lineBasics_holds : Rows.lineBasicsRow.holds Tryz.pinned (OpenSpec.ofChange Rows.lineBasicsSpec) :=
 OpenClaim.holds_of_wide 3 Tryz.f3 rfl rfl rfl rfl rfl rfl rfl ⟨rfl, rfl, rfl, rfl, rfl⟩ rfl rfl rfl rfl rfl (by kernel_rfl) Tryz.func3 (by kernel_rfl)
  (of_decide_eq_true (by kernel_rfl)) (by unfold Func.isWrapper; first | (rw [if_pos (by decide +kernel)]; kernel_rfl) | (rw [if_neg (by decide +kernel)]; exact ⟨rfl, rfl⟩))
  (fun os started H enc _ => lineBasics_lifted os started H enc)
theorem lineBasics_proved : Rows.LineBasicsSaid := lineBasics_holds
set_option maxRecDepth 100000 in
theorem linePoints_lifted (os : Os) (started : os.Started) (H : Type) (enc : TypeId × Value → H) :
  ReturnsInHanded {} Tryz.checked os 4 .any (Rows.linePointsSpec.pre6 enc Tryz.prog Tryz.f4 Rows.linePointsRow.domain false) (Rows.linePointsSpec.post enc Tryz.prog Tryz.f4 false true false false) := by
 refine returnsInHanded_of_change (C := Tryz.checked) own started (by kernel_rfl) Tryz.func4
  (ChangeSpec.witness6 (enc := enc) (C := Tryz.checked) false ⟨#[], #[zL, zL, zP], []⟩ 8 (by kernel_rfl) (by kernel_rfl) (by kernel_rfl) (by kernel_rfl)) ?_
 intro W base args ds gs before hval0 hW hcnd _
 have hval : ∀ (j : Nat) t v, Tryz.f4.params[j]? = some t → args[j]? = some v → Value.okWide Tryz.prog W .any base t v := hval0
 have hW' := hW
 obtain ⟨p, q, hA0, hV, rfl, hfz, hnd⟩ := hW
 have hA : DataW.TrodAll enc Tryz.prog W 0 (fun _ => true) true Tryz.f4.params.toList args.toList ds p := hA0
 rw [Tryz.params4] at hA hval
 obtain ⟨v0, vs0, d0, ds0, p0, q0, hargs, rfl, rfl, h0, r0⟩ := trodAll_cons hA
 obtain ⟨v1, vs1, d1, ds1, p1, q1, rfl, rfl, rfl, h1, r1⟩ := trodAll_cons r0
 obtain ⟨v2, vs2, d2, ds2, p2, q2, rfl, rfl, rfl, h2, r2⟩ := trodAll_cons r1
 obtain ⟨rfl, rfl, rfl⟩ := trodAll_nil r2
 obtain rfl : args = #[v0, v1, v2] := by cases args; simp_all
 obtain ⟨rfl, rfl⟩ := trodVars_none hV
 obtain ⟨a0, rfl⟩ := open_aline (hval 0 25 v0 rfl rfl)
 obtain ⟨a1, rfl⟩ := open_aline (hval 1 25 v1 rfl rfl)
 obtain ⟨a2, rfl⟩ := open_point (hval 2 27 v2 rfl rfl)
 have lt0 : ∀ x ∈ p0, x.block < W.heap.size := by obtain ⟨m, hm⟩ := h0; exact DataW.trod_lt m _ _ _ hm
 have lt1 : ∀ x ∈ p1, x.block < W.heap.size := by obtain ⟨m, hm⟩ := h1; exact DataW.trod_lt m _ _ _ hm
 have lt2 : ∀ x ∈ p2, x.block < W.heap.size := by obtain ⟨m, hm⟩ := h2; exact DataW.trod_lt m _ _ _ hm
 clear hA0 hval0
 refine (calls_of_snd points_ok (i := ((a0, a1), a2)) (trivial) rfl rfl (b := true) rfl W).mono fun e W' ⟨he, bel⟩ => ?_
 subst he
 exact ⟨_, rfl, _, _, _, [], _, [], hW', trodAll_mk1 (shut_bool Tryz.underlying4 _), (trodAll_cons_mk (Below.trod laidOut (by kernel_rfl) (of_decide_eq_true (by kernel_rfl)) h0 bel lt0) (trodAll_cons_mk (Below.trod laidOut (by kernel_rfl) (of_decide_eq_true (by kernel_rfl)) h1 bel lt1) (trodAll_cons_mk (Below.trod laidOut (by kernel_rfl) (of_decide_eq_true (by kernel_rfl)) h2 bel lt2) trodAll_mk0))), rfl, bel.frame _, fun h => by cases h⟩
theorem linePoints_holds : Rows.linePointsRow.holds Tryz.pinned (OpenSpec.ofChange Rows.linePointsSpec) :=
 OpenClaim.holds_of_wide 4 Tryz.f4 rfl rfl rfl rfl rfl rfl rfl ⟨rfl, rfl, rfl, rfl, rfl⟩ rfl rfl rfl rfl rfl (by kernel_rfl) Tryz.func4 (by kernel_rfl)
  (of_decide_eq_true (by kernel_rfl)) (by unfold Func.isWrapper; first | (rw [if_pos (by decide +kernel)]; kernel_rfl) | (rw [if_neg (by decide +kernel)]; exact ⟨rfl, rfl⟩))
  (fun os started H enc _ => linePoints_lifted os started H enc)
theorem linePoints_proved : Rows.LinePointsSaid := linePoints_holds
end Go.Proofs.YtppeponndkfbkaaGreat
