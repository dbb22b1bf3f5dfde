import Derived.Test.YtppeponndkfbkaaRH
set_option linter.unusedVariables false
set_option linter.unusedSimpArgs false
/- Contracts of rational: quotients of rationals. -/
set_option maxRecDepth 20000
set_option maxHeartbeats 1000000
namespace Go.Proofs.Ytppeponndkfbkaa
open Go Go.Ae
def Emn : Env := { tt := tt, eqs := [], Φ := fun g => match g with
 | 81 => some (.p ofRS)
 | 55 => some (.p mulS)
 | 79 => some (.p qnewS)
 | _ => none }
theorem Emnok : EnvOk Try.prog Emn := ⟨tt_ok, fun t h => by simp [Emn] at h, (fun g S h => by
 simp only [Emn] at h
 split at h
 ·cases h; exact ofR_ok
 ·cases h; exact mul_ok
 ·cases h; exact qnew_ok
 ·cases h), fun g F h => by simp [Emn] at h⟩
theorem qquo_ok : Snd Try.prog 72 qquoS := by
 refine snd_of Emnok Dok Try.func72 (enters_of Try.func72 (by kernel_rfl) rfl) (fun _ => rfl) (fun _ => rfl) ?_
 intro ⟨⟨b, s, t⟩, ⟨b', s', t'⟩⟩ hp
 have hp : RV.ok (b, s, t) ∧ RV.ok (b', s', t') := hp
 obtain ⟨x, hx⟩ : ∃ x, x = RV.den (b, s, t) := ⟨_, rfl⟩
 obtain ⟨y, hy⟩ : ∃ x, x = RV.den (b', s', t') := ⟨_, rfl⟩
 have f1 := RV.fracOk hp.1
 have f2 := RV.fracOk hp.2
 have g1 := RV.den_z (b, s, t)
 have g2 := RV.den_z (b', s', t')
 rw [← hx] at f1 g1
 rw [← hy] at f2 g2
 have hq := quo_q (b, s, t) (b', s', t')
 obtain ⟨B1, m1, h1⟩ := EI.mk' (IV.z (b, s) * IV.z (false, y))
 obtain ⟨B2, m2, h2⟩ := EI.mk' (IV.z (false, x) * IV.z (b', s'))
 have z1 := h1.mul_size (nby_z f1.1.1) (nby_z f2.1.2)
 have z2 := h2.mul_size (nby_z f1.1.2) (nby_z f2.1.1)
 obtain ⟨w, hw⟩ : ∃ w, w = RV.q (b, s, t) / RV.q (b', s', t') := ⟨_, rfl⟩
 obtain ⟨e, he⟩ : ∃ e : Int, e = if RV.q (b', s', t') = 0 then 10 else 0 := ⟨_, rfl⟩
 have hN : qnewS.val ((B1, m1), (B2, m2)) = .tuple ⟨[(RV.of w).v, .int .i64 e]⟩ := by
  show quoV (IV.z (B1, m1)) (IV.z (B2, m2)) = _
  rw [h1.val, h2.val, g1, g2, hw, he]
  exact hq
 conv => whnf
 refine .inl ⟨6, [[], [0], [], [0, 1, 2], [], [], [0, 1, 2, 3, 4, 5], [0, 1, 2, 3, 4, 5, 6]], by kernel_rfl, ?_⟩
 conv => whnf
 refine ⟨(b, s, t), rfl, by have := hp.1.2; show t.size ≤ _; exact Nat.le_trans this (by decide), ?_⟩
 rw [show ofRS.val (b, s, t) = .agg ⟨[.bool b, .string s, .bool false, .string x]⟩ from by rw [hx]; rfl]
 conv => whnf
 refine ⟨(b', s', t'), rfl, by have := hp.2.2; show t'.size ≤ _; exact Nat.le_trans this (by decide), ?_⟩
 rw [show ofRS.val (b', s', t') = .agg ⟨[.bool b', .string s', .bool false, .string y]⟩ from by rw [hy]; rfl]
 conv => whnf
 refine .inl ⟨13, [[], [0], [], [2], [0, 1, 2, 3], [], [5], [], [7], [0, 1, 2, 3, 4, 5, 6, 7, 8], [0, 1, 2, 3, 4, 5, 6, 7, 8, 9], [0, 1, 2, 3, 4, 5, 6, 7, 8, 9, 10], [0, 1, 2, 3, 4, 5, 6, 7, 8, 9, 10], [0, 1, 2, 3, 4, 5, 6, 7, 8, 9, 10, 11, 12], [0, 1, 2, 3, 4, 5, 6, 7, 8, 9, 10, 11, 12, 13]], by kernel_rfl, ?_⟩
 conv => whnf
 refine ⟨((b, s), (false, y)), rfl, ⟨Nat.le_trans f1.1.1 (by decide), Nat.le_trans f2.1.2 (by decide)⟩, ?_⟩
 rw [show mulS.val ((b, s), (false, y)) = .agg ⟨[.bool B1, .string m1]⟩ from h1.enc]
 conv => whnf
 refine ⟨((false, x), (b', s')), rfl, ⟨Nat.le_trans f1.1.2 (by decide), Nat.le_trans f2.1.1 (by decide)⟩, ?_⟩
 rw [show mulS.val ((false, x), (b', s')) = .agg ⟨[.bool B2, .string m2]⟩ from h2.enc]
 conv => whnf
 refine ⟨((B1, m1), (B2, m2)), rfl, ⟨by show m1.size ≤ _; omega, by show m2.size ≤ _; omega⟩, ?_⟩
 rw [hN]
 conv => whnf
 show Value.tuple ⟨[(RV.of w).v, .int .i64 e]⟩ = Value.tuple ⟨[encQ _, .int .i64 _]⟩
 rw [hw, he]
 rfl
end Go.Proofs.Ytppeponndkfbkaa
/- Contracts of line. -/
set_option maxRecDepth 20000
set_option maxHeartbeats 1000000
namespace Go.Proofs.Ytppeponndkfbkaa
open Go Go.Ae
def Ela : Env := { tt := tt, eqs := [], Φ := fun g => match g with
 | 31 => some (.p vaddS)
 | 49 => some (.p vsubS)
 | 37 => some (.p vofS)
 | 40 => some (.p vdotS)
 | 41 => some (.p vcrossS)
 | 20 => some (.p vcmpS)
 | 68 => some (.p vscaleS)
 | 61 => some (.p qnegS)
 | 70 => some (.p qsubS)
 | 72 => some (.p qquoS)
 | 50 => some (.p qsignS)
 | 39 => some (.p qofS)
 | _ => none }
theorem Elaok : EnvOk Try.prog Ela := ⟨tt_ok, fun t h => by simp [Ela] at h, (fun g S h => by
 simp only [Ela] at h
 split at h
 ·cases h; exact vadd_ok
 ·cases h; exact vsub_ok
 ·cases h; exact vof_ok
 ·cases h; exact vdot_ok
 ·cases h; exact vcross_ok
 ·cases h; exact vcmp_ok
 ·cases h; exact vscale_ok
 ·cases h; exact qneg_ok
 ·cases h; exact qsub_ok
 ·cases h; exact qquo_ok
 ·cases h; exact qsign_ok
 ·cases h; exact qof_ok
 ·cases h), fun g F h => by simp [Ela] at h⟩
theorem normal_ok : Snd Try.prog 71 normalS := by
 refine snd_of Elaok Dok Try.func71 (enters_of Try.func71 (by kernel_rfl) rfl) (fun _ => rfl) (fun _ => rfl) ?_
 intro l hp
 conv => whnf
 rfl
theorem along_ok : Snd Try.prog 60 alongS := by
 refine snd_of Elaok Dok Try.func60 (enters_of Try.func60 (by kernel_rfl) rfl) (fun _ => rfl) (fun _ => rfl) ?_
 intro ⟨n, p⟩ hp
 have hp : n.sz 67108864 ∧ p.sz 67108864 := hp
 obtain ⟨sn, sp⟩ := hp
 have qn := PV.psz sn (by decide)
 have qp := PV.psz sp (by decide)
 conv => whnf
 refine .inl ⟨2, [[], [], [0, 1], [0, 1, 2]], by kernel_rfl, ?_⟩
 conv => whnf
 obtain ⟨z, cz, ez, pz, sz, qz⟩ := hidePc (ofsz (0) (0) (by decide) (by decide))
 refine ⟨(((0 : Int), (0 : Int)) : Int × Int), rfl, ⟨⟨by decide, by decide⟩, ⟨by decide, by decide⟩⟩, ?_⟩
 rw [show vofS.val (((0 : Int), (0 : Int)) : Int × Int) = z.v from ez]
 conv => whnf
 obtain ⟨a, ea, pa, sa, qa⟩ := hideP (add_sz qn qz)
 refine ⟨(n, z), rfl, ⟨PV.sz_mono sn (by decide), PV.sz_mono sz (by decide)⟩, ?_⟩
 rw [show vaddS.val (n, z) = a.v from ea]
 conv => whnf
 refine .inl ⟨7, [[], [0], [], [2], [], [], [4, 5], [0, 1, 2, 3, 4, 5, 6], [0, 1, 2, 3, 4, 5, 6, 7]], by kernel_rfl, ?_⟩
 conv => whnf
 obtain ⟨d, ed, pd, sd, qd⟩ := hideR (dot_sz qa qp)
 refine ⟨(a, p), rfl, ⟨PV.sz_mono sa (by decide), PV.sz_mono sp (by decide)⟩, ?_⟩
 rw [show vdotS.val (a, p) = d.v from ed]
 conv => whnf
 have ha := (PV.v_eq ea).symm
 have hd := (RV.v_eq ed).symm
 rw [addz _ _ pz] at ha pa
 rw [pa] at hd
 show R3.v (a.1, a.2, d) = (linV (n.p.1, n.p.2, dotR n.p p.p)).v
 rw [ha, hd]
 rfl
def Elb : Env := { tt := tt, eqs := [], Φ := fun g => match g with
 | 60 => some (.p alongS)
 | 71 => some (.p normalS)
 | 31 => some (.p vaddS)
 | 49 => some (.p vsubS)
 | 40 => some (.p vdotS)
 | 41 => some (.p vcrossS)
 | 20 => some (.p vcmpS)
 | 68 => some (.p vscaleS)
 | 61 => some (.p qnegS)
 | 70 => some (.p qsubS)
 | 72 => some (.p qquoS)
 | 50 => some (.p qsignS)
 | 39 => some (.p qofS)
 | _ => none }
theorem Elbok : EnvOk Try.prog Elb := ⟨tt_ok, fun t h => by simp [Elb] at h, (fun g S h => by
 simp only [Elb] at h
 split at h
 ·cases h; exact along_ok
 ·cases h; exact normal_ok
 ·cases h; exact vadd_ok
 ·cases h; exact vsub_ok
 ·cases h; exact vdot_ok
 ·cases h; exact vcross_ok
 ·cases h; exact vcmp_ok
 ·cases h; exact vscale_ok
 ·cases h; exact qneg_ok
 ·cases h; exact qsub_ok
 ·cases h; exact qquo_ok
 ·cases h; exact qsign_ok
 ·cases h; exact qof_ok
 ·cases h), fun g F h => by simp [Elb] at h⟩
theorem lcheck_ok : Snd Try.prog 22 lcheckS := by
 refine snd_of Elbok Dok Try.func22 (enters_of Try.func22 (by kernel_rfl) rfl) (fun _ => rfl) (fun _ => rfl) ?_
 intro ⟨a, b, c⟩ hp
 have hp : RV.sz 1048576 a ∧ RV.sz 1048576 b ∧ RV.sz 1048576 c := hp
 obtain ⟨sa, sb, sc⟩ := hp
 have fin : ∀ z : Int, z = chkV (R3.q (a, b, c)) → Value.int .i64 z = lcheckS.val (a, b, c) := fun z h => by rw [h]; rfl
 conv => whnf
 obtain ⟨m, em, pm⟩ := hideZ (cmpQ a.q 0)
 refine ⟨a, rfl, RV.sz_ok sa (by decide), ?_⟩
 rw [show qsignS.val a = .int .i64 m from em]
 conv => whnf
 by_cases h : m = 0
 ·have h1 : a.q = 0 := cmpQ_zero.1 (by rw [← pm]; exact h)
  subst h
  conv => whnf
  obtain ⟨n, en, pn⟩ := hideZ (cmpQ b.q 0)
  refine ⟨b, rfl, RV.sz_ok sb (by decide), ?_⟩
  rw [show qsignS.val b = .int .i64 n from en]
  conv => whnf
  by_cases h2 : n = 0
  ·have h3 : b.q = 0 := cmpQ_zero.1 (by rw [← pn]; exact h2)
   subst h2
   conv => whnf
   exact fin _ (if_pos ⟨h1, h3⟩).symm
  ·rw [show (n == 0) = false from by simp [h2]]
   conv => whnf
   exact fin _ (if_neg (fun e => h2 (by rw [pn]; exact cmpQ_eq e.2))).symm
 ·rw [show (m == 0) = false from by simp [h]]
  conv => whnf
  exact fin _ (if_neg (fun e => h (by rw [pm]; exact cmpQ_eq e.1))).symm
theorem through_ok : Snd Try.prog 19 throughS := by
 refine snd_of Elbok Dok Try.func19 (enters_of Try.func19 (by kernel_rfl) rfl) (fun _ => rfl) (fun _ => rfl) ?_
 intro ⟨p, q⟩ hp
 have hp : p.sz 1048576 ∧ q.sz 1048576 := hp
 obtain ⟨sp, sq⟩ := hp
 have qp := PV.psz sp (by decide)
 have qq := PV.psz sq (by decide)
 have fin : ∀ (x : R3) (z : Int), thrV p.p q.p = (x, z) → Value.tuple ⟨[x.v, .int .i64 z]⟩ = throughS.val (p, q) := fun x z h => by
  show _ = LE.v (thrV p.p q.p)
  rw [h]; rfl
 conv => whnf
 obtain ⟨m, em, pm⟩ := hideZ (cmpR p.p q.p)
 refine ⟨(p, q), rfl, ⟨PV.sz_mono sp (by decide), PV.sz_mono sq (by decide)⟩, ?_⟩
 rw [show vcmpS.val (p, q) = .int .i64 m from em]
 conv => whnf
 refine br_intro (fun h => ?_) (fun h => ?_)
 ·have h : m = 0 := by simpa using h
  conv => whnf
  exact fin zeroL 12 (if_pos (by rw [← pm]; exact h))
 ·have h : m ≠ 0 := by intro e; subst e; simp at h
  conv => whnf
  obtain ⟨d, ed, pd, sd, qd⟩ := hideP (sub_sz qq qp)
  refine ⟨(q, p), rfl, ⟨PV.sz_mono sq (by decide), PV.sz_mono sp (by decide)⟩, ?_⟩
  rw [show vsubS.val (q, p) = d.v from ed]
  conv => whnf
  obtain ⟨x, y⟩ := d
  have sx := sd.1
  have sy := sd.2
  have qx : QB x.q _ := qd.1
  have qy : QB y.q _ := qd.2
  refine .inl ⟨7, [[], [0], [0, 1], [], [3], [0, 1, 2, 3, 4], [], [0, 1, 2, 3, 4, 5, 6], [0, 1, 2, 3, 4, 5, 6, 7], [0, 1, 2, 3, 4, 5, 6, 7, 8]], by kernel_rfl, ?_⟩
  conv => whnf
  obtain ⟨w, ew, pw, sw, qw⟩ := hideR (QB.neg qy)
  refine ⟨y, rfl, RV.sz_ok sy (by decide), ?_⟩
  rw [show qnegS.val y = w.v from ew]
  conv => whnf
  obtain ⟨l, el, pl, sl, ql⟩ := hideL (along_sz (mkQ qw qx) qp)
  refine ⟨((w, x), p), rfl, ⟨PV.sz_mono (mkP sw sx) (by decide), PV.sz_mono sp (by decide)⟩, ?_⟩
  rw [show alongS.val ((w, x), p) = l.v from el]
  conv => whnf
  have hw := (RV.v_eq ew).symm
  refine fin l 0 ?_
  have hl : l = linV (w.q, x.q, dotR (w.q, x.q) p.p) := (R3.v_eq el).symm
  unfold thrV
  rw [if_neg (by rw [← pm]; exact h), hl]
  congr 2
  have h1 : x.q = q.p.1 - p.p.1 := congrArg Prod.fst pd
  have h2 : y.q = q.p.2 - p.p.2 := congrArg Prod.snd pd
  rw [pw, h1, h2]
  unfold thrR dotR
  ext <;> dsimp only <;> grind
def Elc : Env := { tt := tt, eqs := [], Φ := fun g => match g with
 | 22 => some (.p lcheckS)
 | 60 => some (.p alongS)
 | 71 => some (.p normalS)
 | 31 => some (.p vaddS)
 | 49 => some (.p vsubS)
 | 40 => some (.p vdotS)
 | 41 => some (.p vcrossS)
 | 20 => some (.p vcmpS)
 | 68 => some (.p vscaleS)
 | 61 => some (.p qnegS)
 | 70 => some (.p qsubS)
 | 72 => some (.p qquoS)
 | 50 => some (.p qsignS)
 | 39 => some (.p qofS)
 | _ => none }
theorem Elcok : EnvOk Try.prog Elc := ⟨tt_ok, fun t h => by simp [Elc] at h, (fun g S h => by
 simp only [Elc] at h
 split at h
 ·cases h; exact lcheck_ok
 ·cases h; exact along_ok
 ·cases h; exact normal_ok
 ·cases h; exact vadd_ok
 ·cases h; exact vsub_ok
 ·cases h; exact vdot_ok
 ·cases h; exact vcross_ok
 ·cases h; exact vcmp_ok
 ·cases h; exact vscale_ok
 ·cases h; exact qneg_ok
 ·cases h; exact qsub_ok
 ·cases h; exact qquo_ok
 ·cases h; exact qsign_ok
 ·cases h; exact qof_ok
 ·cases h), fun g F h => by simp [Elc] at h⟩
theorem value_ok : QSnd Try.prog 90 lvalS := by
 refine qsnd_of Elcok Dok Try.func90 (enters_of Try.func90 (by kernel_rfl) rfl) ?_ ?_ ?_
 ·intro i b hb; simp [lvalS] at hb; rw [hb]; rfl
 ·intro i b hb; simp [lvalS] at hb
 intro ⟨l, p⟩ hp
 have hp : l.sz 1048576 ∧ p.sz 1048576 := hp
 obtain ⟨sl, sp⟩ := hp
 have ql := R3.qsz sl (by decide)
 have qp := PV.psz sp (by decide)
 unfold qRes
 rw [show lvalS.blks (l, p) = [.flat false 1 9 (fun _ => l.cells)] from rfl, show lvalS.args (l, p) = [p.v, .pointer (some ⟨0, 0, none⟩)] from rfl, show lvalS.new (l, p) = none from rfl]
 conv => whnf
 refine .inl ⟨6, [[], [0], [], [0, 1, 2], [], [4], [0, 1, 2, 3, 4, 5], [0, 1, 2, 3, 4, 5, 6]], by kernel_rfl, ?_⟩
 conv => whnf
 refine ⟨by decide, ?_⟩
 conv => whnf
 obtain ⟨n, en, pn, sn, qn⟩ := hideN sl ql
 refine ⟨l, rfl, trivial, ?_⟩
 rw [show normalS.val l = n.v from en]
 conv => whnf
 obtain ⟨d, ed, pd, sd, qd⟩ := hideR (dot_sz qn qp)
 refine ⟨(n, p), rfl, ⟨PV.sz_mono sn (by decide), PV.sz_mono sp (by decide)⟩, ?_⟩
 rw [show vdotS.val (n, p) = d.v from ed]
 conv => whnf
 refine ⟨by decide, ?_⟩
 obtain ⟨a, b, r⟩ := l
 have sr := sl.2.2
 have qr : QB r.q _ := ql.2.2
 conv => whnf
 obtain ⟨v, ev, pv, sv, qv⟩ := hideR (QB.sub qd qr)
 refine ⟨(d, r), rfl, ⟨RV.sz_ok sd (by decide), RV.sz_ok sr (by decide)⟩, ?_⟩
 rw [show qsubS.val (d, r) = v.v from ev]
 conv => whnf
 refine ⟨v.v, ?_, .refl _⟩
 rw [show lvalS.val ((a, b, r), p) = v.v from by
  show (RV.of (valR (R3.q (a, b, r)) p.p)).v = _
  rw [← ev, pd, pn]; rfl]
 rfl
def Eld0 : Env := { tt := tt, eqs := [], Φ := fun g => match g with
 | 39 => some (.p qofS)
 | _ => none }
theorem Eld0ok : EnvOk Try.prog Eld0 := ⟨tt_ok, fun t h => by simp [Eld0] at h, (fun g S h => by
 simp only [Eld0] at h
 split at h
 ·cases h; exact qof_ok
 ·cases h), fun g F h => by simp [Eld0] at h⟩
theorem lvalue_ok : QSnd Try.prog 62 (lvalueS 90) := by
 refine qsnd_of Eld0ok Dok Try.func62 (enters_of Try.func62 (by kernel_rfl) rfl) ?_ ?_ ?_
 ·intro i b hb; simp [lvalueS] at hb
 ·intro i b hb; simp [lvalueS] at hb; rw [← hb]; rfl
 intro l hp
 unfold qRes
 rw [show (lvalueS 90).new l = some (.flat true 1 9 (fun _ => l.cells)) from rfl]
 conv => whnf
 refine ⟨0, ?_⟩
 conv => whnf
 exact ⟨⟨rfl, line_blk l⟩, _, rfl, .refl _⟩
def Elv : Env := { tt := tt, eqs := [], Φ := fun g => match g with
 | 62 => some (.q (lvalueS 90))
 | 90 => some (.q lvalS)
 | 22 => some (.p lcheckS)
 | 60 => some (.p alongS)
 | 71 => some (.p normalS)
 | 31 => some (.p vaddS)
 | 40 => some (.p vdotS)
 | 68 => some (.p vscaleS)
 | 61 => some (.p qnegS)
 | 72 => some (.p qquoS)
 | 50 => some (.p qsignS)
 | 39 => some (.p qofS)
 | _ => none }
theorem Elvok : EnvOk Try.prog Elv := ⟨tt_ok, fun t h => by simp [Elv] at h, (fun g S h => by
 simp only [Elv] at h
 split at h
 ·cases h; exact lvalue_ok
 ·cases h; exact value_ok
 ·cases h; exact lcheck_ok
 ·cases h; exact along_ok
 ·cases h; exact normal_ok
 ·cases h; exact vadd_ok
 ·cases h; exact vdot_ok
 ·cases h; exact vscale_ok
 ·cases h; exact qneg_ok
 ·cases h; exact qquo_ok
 ·cases h; exact qsign_ok
 ·cases h; exact qof_ok
 ·cases h), fun g F h => by simp [Elv] at h⟩
theorem side_ok : Snd Try.prog 21 sideS := by
 refine snd_of Elvok Dok Try.func21 (enters_of Try.func21 (by kernel_rfl) rfl) (fun _ => rfl) (fun _ => rfl) ?_
 intro ⟨l, p⟩ hp
 have hp : l.sz 1048576 ∧ p.sz 1048576 := hp
 obtain ⟨sl, sp⟩ := hp
 have ql := R3.qsz sl (by decide)
 have qp := PV.psz sp (by decide)
 have fin : ∀ (x z : Int), sidV l.q p.p = (x, z) → Value.tuple ⟨[.int .i64 x, .int .i64 z]⟩ = sideS.val (l, p) := fun x z h => by
  show _ = ZE.v (sidV l.q p.p)
  rw [h]; rfl
 conv => whnf
 obtain ⟨c, ec, pc⟩ := hideZ (chkV l.q)
 refine ⟨l, rfl, R3.sz_mono sl (by decide), ?_⟩
 rw [show lcheckS.val l = .int .i64 c from ec]
 conv => whnf
 by_cases h : c = 0
 ·have h1 : isL l.q := fun e => by rw [pc] at h; exact absurd ((if_pos e).symm.trans h) (by decide)
  subst h
  conv => whnf
  refine .inl ⟨3, [[], [0], [], [0, 1, 2], [0, 1, 2, 3], [0, 1, 2, 3, 4], [0, 1, 2, 3, 4, 5]], by kernel_rfl, ?_⟩
  conv => whnf
  refine ⟨l, [], rfl, trivial, ?_⟩
  rw [show (lvalueS 90).new l = some (.flat true 1 9 (fun _ => R3.cells l)) from rfl]
  conv => whnf
  refine ⟨_, rfl, ?_⟩
  conv => whnf
  obtain ⟨v, ev, pv, sv, qv⟩ := hideR (val_sz ql qp)
  refine ⟨(l, p), [3], rfl, ⟨R3.sz_mono sl (by decide), PV.sz_mono sp (by decide)⟩, ?_⟩
  rw [show lvalS.blks (l, p) = [.flat false 1 9 (fun _ => R3.cells l)] from rfl, show lvalS.val (l, p) = v.v from ev, show lvalS.new (l, p) = none from rfl]
  conv => whnf
  refine ⟨line_blk2 l, ?_⟩
  conv => whnf
  refine ⟨_, rfl, ?_⟩
  conv => whnf
  obtain ⟨z, ez, pz⟩ := hideZ (cmpQ v.q 0)
  refine ⟨v, rfl, RV.sz_ok sv (by decide), ?_⟩
  rw [show qsignS.val v = .int .i64 z from ez]
  conv => whnf
  refine fin z 0 ?_
  unfold sidV
  rw [if_pos h1, pz, pv]
 ·rw [show (c != 0) = true from by simp [h]]
  conv => whnf
  exact fin 0 1 (if_neg (fun e => h (by rw [pc]; exact if_neg e)))
theorem step_ok : Snd Try.prog 67 stepS := by
 refine snd_of Elvok Dok Try.func67 (enters_of Try.func67 (by kernel_rfl) rfl) (fun _ => rfl) (fun _ => rfl) ?_
 intro ⟨l, p⟩ hp
 have hp : l.sz 1048576 ∧ p.sz 1048576 ∧ isL l.q := hp
 obtain ⟨sl, sp, h1⟩ := hp
 have ql := R3.qsz sl (by decide)
 have qp := PV.psz sp (by decide)
 conv => whnf
 obtain ⟨n, en, pn, sn, qn⟩ := hideN sl ql
 refine ⟨l, rfl, trivial, ?_⟩
 rw [show normalS.val l = n.v from en]
 conv => whnf
 refine .inr (.inr (.inl ⟨12, 1, [[], [0], [], [0, 1, 2], [], [], [0, 1, 2, 3, 4, 5], [0, 1, 2, 3, 4, 5, 6], [0, 1, 2, 3, 4, 5, 6, 7], [0, 1, 2, 3, 4, 5, 6, 7, 8], [0, 1, 2, 3, 4, 5, 6, 7, 8], [], [0, 1, 2, 3, 4, 5, 6, 7, 8, 9, 11], [0, 1, 2, 3, 4, 5, 6, 7, 8, 9, 10, 11, 12]], [10], by kernel_rfl, ?_⟩))
 conv => whnf
 refine ⟨l, [], rfl, trivial, ?_⟩
 rw [show (lvalueS 90).new l = some (.flat true 1 9 (fun _ => R3.cells l)) from rfl]
 conv => whnf
 refine ⟨_, rfl, ?_⟩
 conv => whnf
 obtain ⟨v, ev, pv, sv, qv⟩ := hideR (val_sz ql qp)
 refine ⟨(l, p), [5], rfl, ⟨R3.sz_mono sl (by decide), PV.sz_mono sp (by decide)⟩, ?_⟩
 rw [show lvalS.blks (l, p) = [.flat false 1 9 (fun _ => R3.cells l)] from rfl, show lvalS.val (l, p) = v.v from ev, show lvalS.new (l, p) = none from rfl]
 conv => whnf
 refine ⟨line_blk2 l, ?_⟩
 conv => whnf
 refine ⟨_, rfl, ?_⟩
 conv => whnf
 obtain ⟨d, ed, pd, sd, qd⟩ := hideR (dot_sz qn qn)
 refine ⟨(n, n), rfl, ⟨PV.sz_mono sn (by decide), PV.sz_mono sn (by decide)⟩, ?_⟩
 rw [show vdotS.val (n, n) = d.v from ed]
 conv => whnf
 obtain ⟨k, ek, pk, sk, qk⟩ := hideR (QB.div qv qd (by decide))
 obtain ⟨e, ee, pe⟩ := hideZ (if d.q = 0 then 10 else 0)
 refine ⟨(v, d), rfl, ⟨RV.sz_ok sv (by decide), RV.sz_ok sd (by decide)⟩, ?_⟩
 rw [show qquoS.val (v, d) = .tuple ⟨[k.v, .int .i64 e]⟩ from by rw [← ek, ← ee]; rfl]
 conv => whnf
 refine .inl ⟨3, [[], [], [1], [0, 1, 2], [0, 1, 2, 3]], by kernel_rfl, ?_⟩
 conv => whnf
 obtain ⟨j, ej, pj, sj, qj⟩ := hideR (QB.neg qk)
 refine ⟨k, rfl, RV.sz_ok sk (by decide), ?_⟩
 rw [show qnegS.val k = j.v from ej]
 conv => whnf
 obtain ⟨w, ew, pw, sw, qw⟩ := hideP (scale_sz qn qj)
 refine ⟨(n, j), rfl, ⟨PV.sz_mono sn (by decide), RV.sz_mono sj (by decide)⟩, ?_⟩
 rw [show vscaleS.val (n, j) = w.v from ew]
 conv => whnf
 have hw := (PV.v_eq ew).symm
 show w.v = (ptV (scR (-(valR l.q p.p / dotR (nrm l.q) (nrm l.q))) (nrm l.q))).v
 rw [hw, pj, pk, pv, pd, pn]
def Els : Env := { tt := tt, eqs := [], Φ := fun g => match g with
 | 67 => some (.p stepS)
 | 22 => some (.p lcheckS)
 | 31 => some (.p vaddS)
 | 68 => some (.p vscaleS)
 | 39 => some (.p qofS)
 | _ => none }
theorem Elsok : EnvOk Try.prog Els := ⟨tt_ok, fun t h => by simp [Els] at h, (fun g S h => by
 simp only [Els] at h
 split at h
 ·cases h; exact step_ok
 ·cases h; exact lcheck_ok
 ·cases h; exact vadd_ok
 ·cases h; exact vscale_ok
 ·cases h; exact qof_ok
 ·cases h), fun g F h => by simp [Els] at h⟩
theorem foot_ok : Snd Try.prog 28 (footS 1) := by
 refine snd_of Elsok Dok Try.func28 (enters_of Try.func28 (by kernel_rfl) rfl) (fun _ => rfl) (fun _ => rfl) ?_
 intro ⟨l, p⟩ hp
 have hp : l.sz 1048576 ∧ p.sz 1048576 := hp
 obtain ⟨sl, sp⟩ := hp
 have ql := R3.qsz sl (by decide)
 have qp := PV.psz sp (by decide)
 have fin : ∀ (x : PV) (z : Int), footV 1 l.q p.p = (x, z) → Value.tuple ⟨[x.v, .int .i64 z]⟩ = (footS 1).val (l, p) := fun x z h => by
  show _ = PE.v (footV 1 l.q p.p)
  rw [h]; rfl
 conv => whnf
 obtain ⟨c, ec, pc⟩ := hideZ (chkV l.q)
 refine ⟨l, rfl, R3.sz_mono sl (by decide), ?_⟩
 rw [show lcheckS.val l = .int .i64 c from ec]
 conv => whnf
 by_cases h : c = 0
 ·have h1 : isL l.q := fun e => by rw [pc] at h; exact absurd ((if_pos e).symm.trans h) (by decide)
  subst h
  conv => whnf
  refine .inl ⟨4, [[], [], [], [1, 2], [0, 1, 2, 3], [0, 1, 2, 3, 4], [0, 1, 2, 3, 4, 5]], by kernel_rfl, ?_⟩
  conv => whnf
  obtain ⟨s, es, ps, ss, qs⟩ := hideP (step_sz ql qp)
  refine ⟨(l, p), rfl, ⟨R3.sz_mono sl (by decide), PV.sz_mono sp (by decide), h1⟩, ?_⟩
  rw [show stepS.val (l, p) = s.v from es]
  conv => whnf
  obtain ⟨x, ex, px, sx, qx⟩ := hideP (add_sz qp qs)
  refine ⟨(p, s), rfl, ⟨PV.sz_mono sp (by decide), PV.sz_mono ss (by decide)⟩, ?_⟩
  rw [show vaddS.val (p, s) = x.v from ex]
  conv => whnf
  refine fin x 0 ?_
  have hx := (PV.v_eq ex).symm
  unfold footV
  rw [if_pos h1, hx, ps, foot_step]
 ·rw [show (c != 0) = true from by simp [h]]
  conv => whnf
  exact fin zeroP 1 (if_neg (fun e => h (by rw [pc]; exact if_neg e)))
end Go.Proofs.Ytppeponndkfbkaa
/- Contracts of vector and of the reference vectors: lists. -/
set_option maxRecDepth 20000
set_option maxHeartbeats 1000000
namespace Go.Proofs.Ytppeponndkfbkaa
open Go Go.Ae
end Go.Proofs.Ytppeponndkfbkaa
/- Contracts of vector and of the reference vectors: square distance, boxes. -/
set_option maxRecDepth 20000
set_option maxHeartbeats 1000000
namespace Go.Proofs.Ytppeponndkfbkaa
open Go Go.Ae
end Go.Proofs.Ytppeponndkfbkaa
/- Contracts of predicate: orientations. -/
set_option maxRecDepth 20000
set_option maxHeartbeats 1000000
namespace Go.Proofs.Ytppeponndkfbkaa
open Go Go.Ae
def Epa : Env := { tt := tt, eqs := [], Φ := fun g => match g with
 | 49 => some (.p vsubS)
 | 41 => some (.p vcrossS)
 | 40 => some (.p vdotS)
 | 50 => some (.p qsignS)
 | 35 => some (.p qmulS)
 | 70 => some (.p qsubS)
 | 69 => some (.p qaddS)
 | _ => none }
theorem Epaok : EnvOk Try.prog Epa := ⟨tt_ok, fun t h => by simp [Epa] at h, (fun g S h => by
 simp only [Epa] at h
 split at h
 ·cases h; exact vsub_ok
 ·cases h; exact vcross_ok
 ·cases h; exact vdot_ok
 ·cases h; exact qsign_ok
 ·cases h; exact qmul_ok
 ·cases h; exact qsub_ok
 ·cases h; exact qadd_ok
 ·cases h), fun g F h => by simp [Epa] at h⟩
theorem orient_ok : Snd Try.prog 23 orientS := by
 refine snd_of Epaok Dok Try.func23 (enters_of Try.func23 (by kernel_rfl) rfl) (fun _ => rfl) (fun _ => rfl) ?_
 intro ⟨a, b, c⟩ hp
 obtain ⟨sa, sb, sc⟩ : a.sz 1048576 ∧ b.sz 1048576 ∧ c.sz 1048576 := hp
 have pa : Q2.sz 1048576 a.p := PV.psz sa (by decide)
 have pb : Q2.sz 1048576 b.p := PV.psz sb (by decide)
 have pc : Q2.sz 1048576 c.p := PV.psz sc (by decide)
 obtain ⟨w, hw⟩ : ∃ w, w = orR a.p b.p c.p := ⟨_, rfl⟩
 obtain ⟨u, hu⟩ : ∃ u, u = ptV (subR b.p a.p) := ⟨_, rfl⟩
 obtain ⟨v, hv⟩ : ∃ v, v = ptV (subR c.p a.p) := ⟨_, rfl⟩
 have su : u.sz 1073741824 := by rw [hu]; exact ptV_sz (sub_sz pb pa) (by decide)
 have sv : v.sz 1073741824 := by rw [hv]; exact ptV_sz (sub_sz pc pa) (by decide)
 have sw : (RV.of w).ok := by rw [hw]; exact of_okL (cross_sz (sub_sz pb pa) (sub_sz pc pa)) (by decide)
 conv => whnf
 refine .inl ⟨5, [[], [], [0, 1], [], [], [0, 1, 2, 3, 4], [0, 1, 2, 3, 4, 5], [0, 1, 2, 3, 4, 5, 6], [0, 1, 2, 3, 4, 5, 6, 7]], by kernel_rfl, ?_⟩
 conv => whnf
 refine ⟨(b, a), rfl, ⟨PV.sz_mono sb (by decide), PV.sz_mono sa (by decide)⟩, ?_⟩
 rw [show vsubS.val (b, a) = u.v from by rw [sub_val, hu]]
 conv => whnf
 refine ⟨(c, a), rfl, ⟨PV.sz_mono sc (by decide), PV.sz_mono sa (by decide)⟩, ?_⟩
 rw [show vsubS.val (c, a) = v.v from by rw [sub_val, hv]]
 conv => whnf
 refine ⟨(u, v), rfl, ⟨su, sv⟩, ?_⟩
 rw [show vcrossS.val (u, v) = (RV.of w).v from by rw [cross_val, hu, hv, ptV_p, ptV_p, hw]; rfl]
 conv => whnf
 refine ⟨RV.of w, rfl, sw, ?_⟩
 rw [sign_val, RV.of_q]
 conv => whnf
 show Value.int .i64 _ = Value.int .i64 _
 rw [hw]
end Go.Proofs.Ytppeponndkfbkaa
/- slices.Clone of points. -/
set_option maxRecDepth 20000
set_option maxHeartbeats 4000000
namespace Go.Proofs.Ytppeponndkfbkaa
open Go Go.Ae
def Eld : Env := { tt := tt, eqs := [], Φ := fun g => match g with
 | 14 => some (.p vcheckS)
 | _ => none }
theorem Eldok : EnvOk Try.prog Eld := ⟨tt_ok, fun t h => by simp [Eld] at h, (fun g S h => by
 simp only [Eld] at h
 split at h
 ·cases h; exact vcheck_ok
 ·cases h), fun g F h => by simp [Eld] at h⟩
theorem clone_ok : QSnd Try.prog 12 cloneS := by
 refine qsnd_of Eldok Dok Try.func12 (enters_of Try.func12 (by kernel_rfl) rfl) ?_ ?_ ?_
 ·intro i b hb
  cases i with
  | none => simp [cloneS, PL.blks] at hb
  | some i => simp [cloneS, PL.blks] at hb; rw [hb]; rfl
 ·intro i b hb
  cases i with
  | none => simp [cloneS] at hb
  | some i => simp [cloneS] at hb; rw [← hb]; rfl
 intro i hp
 cases i with
 | none =>
  conv => whnf
  exact ⟨_, rfl, .refl _⟩
 | some i =>
  obtain ⟨l, c⟩ := i
  have hp : l.length ≤ 1099511627776 := hp
  obtain ⟨n, hn⟩ : ∃ n, n = l.length := ⟨_, rfl⟩
  obtain ⟨g, hg⟩ : ∃ g, g = rowsP l := ⟨_, rfl⟩
  have hs : ∀ r, r < n → allS (g r) = true := fun r hr => by rw [hg]; rfl
  rw [← hn] at hp
  unfold qRes
  rw [show cloneS.new (some (l, c)) = some (.flat true n 6 g) from by rw [hn, hg]; rfl, show cloneS.val (some (l, c)) = .slice (some ⟨1, 0, none⟩) n capU from by rw [hn]; rfl, show cloneS.blks (some (l, c)) = [.flat false n 6 g] from by rw [hn, hg]; rfl, show cloneS.args (some (l, c)) = [.slice (some ⟨0, 0, none⟩) n c] from by rw [hn]; rfl]
  clear hg hn
  conv => whnf
  refine ⟨by omega, ?_⟩
  conv => whnf
  refine br_intro (fun h => ?_) (fun h => ?_)
  ·have h : n ≤ 0 := by
    have := Nat.le_of_ble_eq_true h
    have : 0 + n ≤ 0 := this
    omega
   obtain rfl : n = 0 := by omega
   refine ⟨rfl, ?_⟩
   conv => whnf
   refine ⟨1, ?_⟩
   conv => whnf
   exact ⟨⟨rfl, BlkLe.flat_rows (fun h => h) (fun r hr => absurd hr (Nat.not_lt_zero r)) (fun r hr => absurd hr (Nat.not_lt_zero r))⟩, .slice (some ⟨2 - 1, 0, none⟩) 0 capU, rfl, .cap _ _ _ rfl⟩
  ·refine ⟨⟨Nat.le_refl _, Nat.le_trans (Nat.mul_le_mul_right _ (show 0 + n ≤ 1099511627776 by omega)) (by decide)⟩, ?_⟩
   conv => whnf
   rw [show (0 + (Src.fl n fun j => g (rowAdd 0 j)).m) = n from Nat.zero_add n, show 0 + n = n from Nat.zero_add n]
   refine ⟨2, ?_⟩
   conv => whnf
   exact ⟨⟨rfl, BlkLe.flat_rows (fun h => h) (fun r hr => by rw [appGet_hi (Nat.zero_le _)]; simp [rowAdd_eq]) hs⟩, _, rfl, .refl _⟩
end Go.Proofs.Ytppeponndkfbkaa
/- Contracts of line: needless points. -/
set_option maxRecDepth 20000
set_option maxHeartbeats 4000000
namespace Go.Proofs.Ytppeponndkfbkaa
open Go Go.Ae
def Eg0 : Env := { tt := tt, eqs := [], Φ := fun g => match g with
 | 39 => some (.p qofS)
 | _ => none }
theorem Eg0ok : EnvOk Try.prog Eg0 := ⟨tt_ok, fun t h => by simp [Eg0] at h, (fun g S h => by
 simp only [Eg0] at h
 split at h
 ·cases h; exact qof_ok
 ·cases h), fun g F h => by simp [Eg0] at h⟩
theorem grow_ft : FTOk Try.prog 108 (fnK Eg0 drawT Try.f108) := by
 exact ft_of Eg0ok Dok Try.func108 (enters_of Try.func108 (by kernel_rfl) rfl)
def Eg1W : FuncId → Option FT := fun g => match g with
 | 108 => some (fnK Eg0 drawT Try.f108)
 | _ => none
def Eg1 : Env := { tt := tt, eqs := [], Ψ := Eg1W, over := true, Φ := fun g => match g with
 | _ => none }
theorem Eg1ok : EnvOk Try.prog Eg1 := ⟨tt_ok, fun t h => by simp [Eg1] at h, (fun g S h => by
 change none = some S at h
 cases h), (fun g F h => by
 simp only [Eg1, Eg1W] at h
 split at h
 ·cases h; exact grow_ft
 ·cases h)⟩
theorem concat_ft : FTOk Try.prog 94 (fnK Eg1 drawT Try.f94) := by
 exact ft_of Eg1ok Dok Try.func94 (enters_of Try.func94 (by kernel_rfl) rfl)
theorem delete_ft : FTOk Try.prog 93 (fnK Eg0 drawT Try.f93) := by
 exact ft_of Eg0ok Dok Try.func93 (enters_of Try.func93 (by kernel_rfl) rfl)
def Eg2W : FuncId → Option FT := fun g => match g with
 | 93 => some (limFT (fnK Eg0 drawT Try.f93))
 | 94 => some (fnK Eg1 drawT Try.f94)
 | _ => none
def Eg2 : Env := { tt := tt, eqs := eqsL, Ψ := Eg2W, Φ := fun g => match g with
 | 12 => some (.q cloneS)
 | 23 => some (.p orientS)
 | 20 => some (.p vcmpS)
 | _ => none }
theorem Eg2ok : EnvOk Try.prog Eg2 := ⟨tt_ok, eqs_ok, (fun g S h => by
 simp only [Eg2] at h
 split at h
 ·cases h; exact clone_ok
 ·cases h; exact orient_ok
 ·cases h; exact vcmp_ok
 ·cases h), (fun g F h => by
 simp only [Eg2, Eg2W] at h
 split at h
 ·cases h; exact (lim_ft delete_ft)
 ·cases h; exact concat_ft
 ·cases h)⟩
theorem clean_ok : QSnd Try.prog 66 cleanS := by
 refine qsnd_of Eg2ok Dok Try.func66 (enters_of Try.func66 (by kernel_rfl) rfl) ?_ ?_ ?_
 ·intro i b hb; simp [cleanS] at hb; rw [hb]; rfl
 ·intro i b hb; simp [cleanS] at hb; rw [← hb]; rfl
 intro ⟨L0, c⟩ hp
 have hp : L0 ≠ [] ∧ L0.length ≤ 1099511627776 ∧ ∀ v ∈ L0, Q2.sz 1048576 v := hp
 obtain ⟨hne0, hlen, hsz0⟩ := hp
 obtain ⟨n0, hn0⟩ : ∃ n, n = L0.length := ⟨_, rfl⟩
 obtain ⟨g, hg⟩ : ∃ g, g = rowsQ L0 := ⟨_, rfl⟩
 obtain ⟨cu, hcu⟩ : ∃ cu, cu = capU := ⟨_, rfl⟩
 obtain ⟨gs, hgs⟩ : ∃ g, g = rowsQ (rotR (cleanL L0)) := ⟨_, rfl⟩
 obtain ⟨M, hM⟩ : ∃ M, M = (cleanL L0).length := ⟨_, rfl⟩
 unfold qRes
 rw [show cleanS.blks (L0, c) = [.flat false n0 6 g] from by rw [hn0, hg]; rfl, show cleanS.args (L0, c) = [.slice (some ⟨0, 0, none⟩) n0 c] from by rw [hn0]; rfl,
  show cleanS.val (L0, c) = .slice (some ⟨1, 0, none⟩) M cu from by rw [hcu, hM]; rfl, show cleanS.new (L0, c) = some (.flat true M 6 gs) from by rw [hgs, hM]; rfl]
 rw [← hn0] at hlen
 conv => whnf
 refine ⟨some (pvs L0, c), [0], by rw [show cloneS.args (some (pvs L0, c)) = [.slice (some ⟨0, 0, none⟩) n0 c] from by rw [hn0, ← pvs_length L0]; rfl]; rfl, by show (pvs L0).length ≤ 1099511627776; rw [pvs_length]; omega, ?_⟩
 rw [show cloneS.blks (some (pvs L0, c)) = [.flat false n0 6 g] from by rw [hn0, hg, ← pvs_length L0]; rfl, show cloneS.val (some (pvs L0, c)) = .slice (some ⟨1, 0, none⟩) n0 cu from by rw [hn0, hcu, ← pvs_length L0]; rfl, show cloneS.new (some (pvs L0, c)) = some (.flat true n0 6 g) from by rw [hn0, hg, ← pvs_length L0]; rfl]
 conv => whnf
 refine ⟨BlkLe.flat_flat (fun h => h) (fun r hr => by rw [hg]; rfl), ?_⟩
 conv => whnf
 refine ⟨_, rfl, ?_⟩
 conv => whnf
 refine .inl ⟨fun mm tz hz => ∃ (L : List Q2) (n : Nat) (G : Nat → List Value), Pat [some (.slice (some ⟨1, 0, none⟩) n cu), none, none, none, none, none, none, none, none, none, none, none, none, none, none, none, none, none, none, none, none, none, none, none, none, none, none, none, none, none, none, none, none, none, none, none, none, none, none, none, none, none, none, none, none, none, none, none, none, none, none, none, none, none, none, none, none, none, none, none, none, none, none, none, none, none, none, none, none, none, none, none, none, none, none, none, none, none, none, none, none, none, none, none, none, none, none, none, none, none, none, none, none, none, none] tz ∧ hz = [some (.flat false n0 6 g), some (.flat true n0 6 G)] ∧ n = mm ∧ ((L ≠ [] ∧ n = L.length ∧ n ≤ n0) ∧ cleanL L0 = cleanL L ∧ (∀ v ∈ L, Q2.sz 1048576 v) ∧ ∀ r, r < n → G r = rowsQ L r), .inr ⟨[0, 1], [0], ?_⟩, ?_⟩
 ·conv => whnf
  intro _
  conv => whnf
  refine ⟨_, L0, n0, g, (.keep (.s8 (.s8 (.s8 (.s8 (.s8 (.s8 (.s8 (.s8 (.s8 (.s8 (.s8 (.skip (.skip (.skip (.skip (.skip (.skip (.nil))))))))))))))))))), rfl, rfl, ?_⟩
  exact ⟨⟨hne0, hn0, Nat.le_refl _⟩, rfl, hsz0, fun r _ => by rw [hg]⟩
 rintro mm tms _ ⟨L, n, G, hpat, rfl, rfl, ⟨⟨hne, hn, hnn⟩, hcl, hsz, hG⟩⟩
 obtain ⟨az, rfl⟩ : ∃ az : Nat → Value, tms = [.slice (some ⟨1, 0, none⟩) n cu, az 1, az 2, az 3, az 4, az 5, az 6, az 7, az 8, az 9, az 10, az 11, az 12, az 13, az 14, az 15, az 16, az 17, az 18, az 19, az 20, az 21, az 22, az 23, az 24, az 25, az 26, az 27, az 28, az 29, az 30, az 31, az 32, az 33, az 34, az 35, az 36, az 37, az 38, az 39, az 40, az 41, az 42, az 43, az 44, az 45, az 46, az 47, az 48, az 49, az 50, az 51, az 52, az 53, az 54, az 55, az 56, az 57, az 58, az 59, az 60, az 61, az 62, az 63, az 64, az 65, az 66, az 67, az 68, az 69, az 70, az 71, az 72, az 73, az 74, az 75, az 76, az 77, az 78, az 79, az 80, az 81, az 82, az 83, az 84, az 85, az 86, az 87, az 88, az 89, az 90, az 91, az 92, az 93, az 94] := pat_fill hpat
 clear hpat
 have hpos : 0 < n := by rw [hn]; exact List.length_pos_iff.2 hne
 have row : ∀ k, k < n → ∃ u : PV, u = ptV (at2 L k) ∧ G k = u.cells ∧ u.p = at2 L k ∧ u.sz 1048576 ∧ Q2.sz 1048576 u.p := fun k hk => by
  obtain ⟨u, h1, h2, h3⟩ := hideAt (L := L) (k := k) (by omega) hsz
  exact ⟨u, h1, by rw [hG k hk]; exact h2, h3⟩
 conv => whnf
 refine .inl ⟨fun mm tz hz => ∃ (k : Nat), Pat [some (.slice (some ⟨1, 0, none⟩) n cu), none, none, some (.int .i64 n), some (.int .i64 (-1)), none, none, none, none, none, none, none, none, none, some (.int .i64 n), some (.int .i64 k), none, none, none, none, none, none, none, none, none, none, none, none, none, none, none, none, none, none, none, none, none, none, none, none, none, none, none, none, none, none, none, none, none, none, none, none, none, none, none, none, none, none, none, none, none, none, none, none, none, none, none, none, none, none, none, none, none, none, none, none, none, none, none, none, none, none, none, none, none, none, none, none, none, none, none, none, none, none, none] tz ∧ hz = [some (.flat false n0 6 g), some (.flat true n0 6 G)] ∧ n - k = mm ∧ (k ≤ n ∧ ∀ j, j < k → ¬ nd L j), .inr ⟨[0, 1], [0, 3, 4, 14, 15], ?_⟩, ?_⟩
 ·conv => whnf
  intro _
  conv => whnf
  refine ⟨_, 0, (.keep (.skip (.skip (.keep (.keep (.s8 (.skip (.keep (.keep (.s8 (.s8 (.s8 (.s8 (.s8 (.s8 (.s8 (.s8 (.s8 (.skip (.skip (.skip (.skip (.skip (.skip (.skip (.nil)))))))))))))))))))))))))), rfl, rfl, ?_⟩
  exact ⟨Nat.zero_le _, fun j hj => absurd hj (by omega)⟩
 rintro mm tms _ ⟨k, hpat, rfl, rfl, ⟨hk, hup⟩⟩
 obtain ⟨az, rfl⟩ : ∃ az : Nat → Value, tms = [.slice (some ⟨1, 0, none⟩) n cu, az 1, az 2, .int .i64 n, .int .i64 (-1), az 5, az 6, az 7, az 8, az 9, az 10, az 11, az 12, az 13, .int .i64 n, .int .i64 k, az 16, az 17, az 18, az 19, az 20, az 21, az 22, az 23, az 24, az 25, az 26, az 27, az 28, az 29, az 30, az 31, az 32, az 33, az 34, az 35, az 36, az 37, az 38, az 39, az 40, az 41, az 42, az 43, az 44, az 45, az 46, az 47, az 48, az 49, az 50, az 51, az 52, az 53, az 54, az 55, az 56, az 57, az 58, az 59, az 60, az 61, az 62, az 63, az 64, az 65, az 66, az 67, az 68, az 69, az 70, az 71, az 72, az 73, az 74, az 75, az 76, az 77, az 78, az 79, az 80, az 81, az 82, az 83, az 84, az 85, az 86, az 87, az 88, az 89, az 90, az 91, az 92, az 93, az 94] := pat_fill hpat
 clear hpat
 conv => whnf
 refine br_intro (fun h1 => ?_) (fun h1 => ?_)
 ·have h1 : k < n := by
   have := of_decide_eq_true h1
   omega
  conv => whnf
  refine .inl ⟨39, [[], [0], [0, 1], [0, 1, 2], [0, 1, 2], [0, 1, 2, 3, 4], [0, 1, 2, 3, 4, 5], [0, 1, 2], [0, 1, 2], [0, 1, 2, 8], [0, 1, 2], [0, 1, 2, 8, 9, 10], [0, 1, 2, 7, 8, 9, 10, 11], [0, 1, 2, 7, 8, 9, 10, 11, 12], [0, 1, 2, 3, 4, 5, 6, 7, 8, 9, 10, 11, 12, 13], [0, 1, 2, 3, 4, 5, 6, 7, 8, 9, 10, 11, 12, 13, 14], [0, 1, 2, 3, 4, 5, 6, 7, 8, 9, 10, 11, 12, 13, 14, 15], [0, 1, 2, 3, 4, 5, 6, 7, 8, 9, 10, 11, 12, 13, 14, 15, 16], [0, 1, 2, 3, 4, 5, 6, 7, 8, 9, 10, 11, 12, 13, 14, 15, 16, 17], [0, 1, 2, 3, 4, 5, 6, 7, 8, 9, 10, 11, 12, 13, 14, 15, 16, 17, 18], [0, 1, 2, 3, 4, 5, 6, 7, 8, 9, 10, 11, 12, 13, 14, 15, 16, 17, 18], [0, 1, 2, 3, 4, 5, 6, 7, 8, 9, 10, 11, 12, 13, 14, 15, 16, 17, 18], [0, 1, 2, 3, 4, 5, 6, 7, 8, 9, 10, 11, 12, 13, 14, 15, 16, 17, 18, 20, 21], [0, 1, 2, 3, 4, 5, 6, 7, 8, 9, 10, 11, 12, 13, 14, 15, 16, 17, 18, 20, 21, 22], [0, 1, 2, 3, 4, 5, 6, 7, 8, 9, 10, 11, 12, 13, 14, 15, 16, 17, 18], [0, 1, 2, 3, 4, 5, 6, 7, 8, 9, 10, 11, 12, 13, 14, 15, 16, 17, 18, 20, 21, 22, 23, 24], [0, 1, 2, 3, 4, 5, 6, 7, 8, 9, 10, 11, 12, 13, 14, 15, 16, 17, 18, 19, 20, 21, 22, 23, 24, 25], [0, 1, 2, 3, 4, 5, 6, 7, 8, 9, 10, 11, 12, 13, 14, 15, 16, 17, 18, 19, 20, 21, 22, 23, 24, 25, 26], [0, 1, 2, 3, 4, 5, 6, 7, 8, 9, 10, 11, 12, 13, 14, 15, 16, 17, 18], [0, 1, 2, 3, 4, 5, 6, 7, 8, 9, 10, 11, 12, 13, 14, 15, 16, 17, 18], [0, 1, 2, 3, 4, 5, 6, 7, 8, 9, 10, 11, 12, 13, 14, 15, 16, 17, 18, 28, 29], [0, 1, 2, 3, 4, 5, 6, 7, 8, 9, 10, 11, 12, 13, 14, 15, 16, 17, 18, 28, 29, 30], [0, 1, 2, 3, 4, 5, 6, 7, 8, 9, 10, 11, 12, 13, 14, 15, 16, 17, 18], [0, 1, 2, 3, 4, 5, 6, 7, 8, 9, 10, 11, 12, 13, 14, 15, 16, 17, 18], [0, 1, 2, 3, 4, 5, 6, 7, 8, 9, 10, 11, 12, 13, 14, 15, 16, 17, 18, 33], [0, 1, 2, 3, 4, 5, 6, 7, 8, 9, 10, 11, 12, 13, 14, 15, 16, 17, 18], [0, 1, 2, 3, 4, 5, 6, 7, 8, 9, 10, 11, 12, 13, 14, 15, 16, 17, 18, 33, 34, 35], [0, 1, 2, 3, 4, 5, 6, 7, 8, 9, 10, 11, 12, 13, 14, 15, 16, 17, 18, 32, 33, 34, 35, 36], [0, 1, 2, 3, 4, 5, 6, 7, 8, 9, 10, 11, 12, 13, 14, 15, 16, 17, 18, 32, 33, 34, 35, 36, 37], [0, 1, 2, 3, 4, 5, 6, 7, 8, 9, 10, 11, 12, 13, 14, 15, 16, 17, 18, 19, 20, 21, 22, 23, 24, 25, 26, 27, 28, 29, 30, 31, 32, 33, 34, 35, 36, 37, 38], [0, 1, 2, 3, 4, 5, 6, 7, 8, 9, 10, 11, 12, 13, 14, 15, 16, 17, 18, 19, 20, 21, 22, 23, 24, 25, 26, 27, 28, 29, 30, 31, 32, 33, 34, 35, 36, 37, 38, 39], [0, 1, 2, 3, 4, 5, 6, 7, 8, 9, 10, 11, 12, 13, 14, 15, 16, 17, 18, 19, 20, 21, 22, 23, 24, 25, 26, 27, 28, 29, 30, 31, 32, 33, 34, 35, 36, 37, 38, 39, 40], [0, 1, 2, 3, 4, 5, 6, 7, 8, 9, 10, 11, 12, 13, 14, 15, 16, 17, 18, 19, 20, 21, 22, 23, 24, 25, 26, 27, 28, 29, 30, 31, 32, 33, 34, 35, 36, 37, 38, 39, 40, 41], [0, 1, 2, 3, 4, 5, 6, 7, 8, 9, 10, 11, 12, 13, 14, 15, 16, 17, 18, 19, 20, 21, 22, 23, 24, 25, 26, 27, 28, 29, 30, 31, 32, 33, 34, 35, 36, 37, 38, 39, 40, 41, 42]], by kernel_rfl, ?_⟩
  conv => whnf
  have e7 : IntKind.i64.wrap ((k : Int) + 1) = ((k + 1 : Nat) : Int) := by rw [wrapi64 (by omega) (by omega)]; rfl
  by_cases hn1 : 1 < n
  ·rw [show decide ((n : Int) > 1) = true from decide_eq_true (by omega)]
   obtain ⟨p, cp, rp, pp, sp, qp⟩ := row k h1
   obtain ⟨q, cq, rq, pq, sq, qq⟩ := row (nxt n k) (nxt_lt (by omega))
   have hnx := nxt_i h1 (by omega)
   have hnl := nxt_lt h1
   obtain ⟨j, hj⟩ : ∃ j, j = nxt n k := ⟨_, rfl⟩
   rw [← hj] at hnx hnl rq
   conv => whnf
   refine ⟨⟨by omega, by omega⟩, ?_⟩
   simp only [toNat_cast, rowAdd_eq, Nat.zero_add]
   conv => whnf
   refine ⟨by show k < n0; omega, ?_⟩
   conv => whnf
   rw [rp]
   conv => whnf
   rw [show decide ((n : Int) ≠ 0) = true from decide_eq_true (by omega)]
   conv => whnf
   rw [hnx]
   refine ⟨⟨by omega, by omega⟩, ?_⟩
   simp only [toNat_cast, rowAdd_eq, Nat.zero_add]
   conv => whnf
   refine ⟨by show j < n0; omega, ?_⟩
   conv => whnf
   rw [rq]
   conv => whnf
   rw [eqPQ p q]
   by_cases ne : p = q
   ·have hnk : nd L k := ⟨by omega, .inl (by rw [← hn]; exact (canP_eq cp cq).1 ne)⟩
    rw [decide_eq_true ne]
    conv => whnf
    refine ⟨hcu, ?_⟩
    rw [← hcu, e7]
    conv => whnf
    refine ⟨⟨by omega, by omega, by omega, Int.le_refl _⟩, ?_⟩
    conv => whnf
    rw [show ((k : Int) == ((k + 1 : Nat) : Int)) = false from by rw [beq_eq_false_iff_ne]; omega]
    conv => whnf
    refine .inl ⟨6, [[], [], [0, 1], [], [], [3, 4], [0, 1, 2, 3, 4, 5], [0, 1, 2, 3, 4, 5, 6]], by kernel_rfl, ?_⟩
    conv => whnf
    refine ⟨⟨Int.le_refl _, by omega, by omega⟩, ?_⟩
    conv => whnf
    refine ⟨⟨by omega, by omega, Int.le_refl _⟩, ?_⟩
    conv => whnf
    obtain ⟨ce, hce⟩ : ∃ c, c = n - (k + 1) := ⟨_, rfl⟩
    rw [show Int.toNat ((k + 1 : Nat) : Int) = k + 1 from rfl, show Int.toNat (n : Int) = n from rfl, show Int.toNat 0 = 0 from rfl, show Int.toNat (k : Int) = k from rfl, show rowAdd 0 (k + 1) = k + 1 from rfl, show rowAdd 0 0 = 0 from rfl, Nat.sub_zero, Nat.sub_zero, ← hce, ← hcu]
    refine ⟨by omega, ?_⟩
    conv => whnf
    obtain ⟨G1, hG1⟩ : ∃ F, F = overGet G (rowAdd 0 k) (fun j => G (rowAdd (k + 1) j)) ce := ⟨_, rfl⟩
    rw [← hG1]
    refine ⟨⟨by omega, by omega⟩, ?_⟩
    conv => whnf
    refine ⟨⟨by omega, by omega, by omega⟩, ?_⟩
    conv => whnf
    rw [show Int.toNat ((k + ce : Nat) : Int) = k + ce from rfl, show Int.toNat (n : Int) = n from rfl, show rowAdd 0 (k + ce) = k + ce from rfl]
    refine ⟨⟨by omega, rfl⟩, ?_⟩
    conv => whnf
    refine .inr ⟨[0, 1], [0], ?_⟩
    conv => whnf
    intro _
    conv => whnf
    refine ⟨_, ?_, L.eraseIdx k, k + ce, _, (.keep (.s8 (.s8 (.s8 (.s8 (.s8 (.s8 (.s8 (.s8 (.s8 (.s8 (.s8 (.skip (.skip (.skip (.skip (.skip (.skip (.nil))))))))))))))))))), rfl, rfl, ?_⟩
    ·omega
    ·have h2 : 1 < n := by rw [hn]; exact hnk.1
     have hl : (L.eraseIdx k).length = n - 1 := by rw [List.length_eraseIdx_of_lt (by omega)]; omega
     refine ⟨⟨fun e => ?_, by omega, by omega⟩, hcl.trans (cleanL_step (firstNd_some (by omega) hnk hup)), fun v hv => hsz v ((List.eraseIdx_sublist L k).subset hv), fun r hr => ?_⟩
     ·rw [e] at hl
      simp at hl
      omega
     ·rw [hG1]
      exact del_rows hG hn h1 hce r (by omega)
   rw [decide_eq_false ne]
   conv => whnf
   by_cases hn2 : 2 < n
   ·rw [show decide ((n : Int) > 2) = true from decide_eq_true (by omega)]
    obtain ⟨o, co, ro, po, so, qo⟩ := row (prv n k) (prv_lt (by omega))
    have hpx := prv_i h1 (by omega)
    have hpl := prv_lt h1
    obtain ⟨i, hi⟩ : ∃ i, i = prv n k := ⟨_, rfl⟩
    rw [← hi] at hpx hpl ro
    conv => whnf
    rw [show decide ((n : Int) ≠ 0) = true from decide_eq_true (by omega)]
    conv => whnf
    rw [hpx]
    refine ⟨⟨by omega, by omega⟩, ?_⟩
    simp only [toNat_cast, rowAdd_eq, Nat.zero_add]
    conv => whnf
    refine ⟨by show i < n0; omega, ?_⟩
    conv => whnf
    rw [ro]
    conv => whnf
    refine ⟨⟨by omega, by omega⟩, ?_⟩
    simp only [toNat_cast, rowAdd_eq, Nat.zero_add]
    conv => whnf
    refine ⟨by show k < n0; omega, ?_⟩
    conv => whnf
    rw [rp]
    conv => whnf
    rw [show decide ((n : Int) ≠ 0) = true from decide_eq_true (by omega)]
    conv => whnf
    rw [hnx]
    refine ⟨⟨by omega, by omega⟩, ?_⟩
    simp only [toNat_cast, rowAdd_eq, Nat.zero_add]
    conv => whnf
    refine ⟨by show j < n0; omega, ?_⟩
    conv => whnf
    rw [rq]
    conv => whnf
    obtain ⟨z, ez, pz⟩ := hideZ (cmpQ (orR o.p p.p q.p) 0)
    refine ⟨(o, p, q), rfl, ⟨PV.sz_mono so (by decide), PV.sz_mono sp (by decide), PV.sz_mono sq (by decide)⟩, ?_⟩
    rw [show orientS.val (o, p, q) = .int .i64 z from ez]
    conv => whnf
    by_cases hor : cmpQ (orR o.p p.p q.p) 0 = 0
    ·have hnk : nd L k := ⟨by omega, .inr ⟨by omega, by
      have := cmpQ_zero.1 hor
      rw [po, pp, pq, hn] at this; exact this⟩⟩
     rw [show (z == 0) = true from by rw [pz]; simp [hor]]
     conv => whnf
     refine ⟨hcu, ?_⟩
     rw [← hcu, e7]
     conv => whnf
     refine ⟨⟨by omega, by omega, by omega, Int.le_refl _⟩, ?_⟩
     conv => whnf
     rw [show ((k : Int) == ((k + 1 : Nat) : Int)) = false from by rw [beq_eq_false_iff_ne]; omega]
     conv => whnf
     refine .inl ⟨6, [[], [], [0, 1], [], [], [3, 4], [0, 1, 2, 3, 4, 5], [0, 1, 2, 3, 4, 5, 6]], by kernel_rfl, ?_⟩
     conv => whnf
     refine ⟨⟨Int.le_refl _, by omega, by omega⟩, ?_⟩
     conv => whnf
     refine ⟨⟨by omega, by omega, Int.le_refl _⟩, ?_⟩
     conv => whnf
     obtain ⟨ce, hce⟩ : ∃ c, c = n - (k + 1) := ⟨_, rfl⟩
     rw [show Int.toNat ((k + 1 : Nat) : Int) = k + 1 from rfl, show Int.toNat (n : Int) = n from rfl, show Int.toNat 0 = 0 from rfl, show Int.toNat (k : Int) = k from rfl, show rowAdd 0 (k + 1) = k + 1 from rfl, show rowAdd 0 0 = 0 from rfl, Nat.sub_zero, Nat.sub_zero, ← hce, ← hcu]
     refine ⟨by omega, ?_⟩
     conv => whnf
     obtain ⟨G1, hG1⟩ : ∃ F, F = overGet G (rowAdd 0 k) (fun j => G (rowAdd (k + 1) j)) ce := ⟨_, rfl⟩
     rw [← hG1]
     refine ⟨⟨by omega, by omega⟩, ?_⟩
     conv => whnf
     refine ⟨⟨by omega, by omega, by omega⟩, ?_⟩
     conv => whnf
     rw [show Int.toNat ((k + ce : Nat) : Int) = k + ce from rfl, show Int.toNat (n : Int) = n from rfl, show rowAdd 0 (k + ce) = k + ce from rfl]
     refine ⟨⟨by omega, rfl⟩, ?_⟩
     conv => whnf
     refine .inr ⟨[0, 1], [0], ?_⟩
     conv => whnf
     intro _
     conv => whnf
     refine ⟨_, ?_, L.eraseIdx k, k + ce, _, (.keep (.s8 (.s8 (.s8 (.s8 (.s8 (.s8 (.s8 (.s8 (.s8 (.s8 (.s8 (.skip (.skip (.skip (.skip (.skip (.skip (.nil))))))))))))))))))), rfl, rfl, ?_⟩
     ·omega
     ·have h2 : 1 < n := by rw [hn]; exact hnk.1
      have hl : (L.eraseIdx k).length = n - 1 := by rw [List.length_eraseIdx_of_lt (by omega)]; omega
      refine ⟨⟨fun e => ?_, by omega, by omega⟩, hcl.trans (cleanL_step (firstNd_some (by omega) hnk hup)), fun v hv => hsz v ((List.eraseIdx_sublist L k).subset hv), fun r hr => ?_⟩
      ·rw [e] at hl
       simp at hl
       omega
      ·rw [hG1]
       exact del_rows hG hn h1 hce r (by omega)
    ·have hnk : ¬ nd L k := fun ⟨_, h⟩ => by
      rcases h with h | ⟨_, h⟩
      ·exact ne ((canP_eq cp cq).2 (by rw [hn]; exact h))
      ·exact hor (cmpQ_zero.2 (by rw [po, pp, pq, hn]; exact h))
     rw [show (z == 0) = false from by rw [pz]; simp [hor]]
     have hup' : ∀ j, j < k + 1 → ¬ nd L j := fun j hj => by
      rcases Nat.lt_or_ge j k with h | h
      ·exact hup j h
      ·have : j = k := by omega
       rw [this]; exact hnk
     conv => whnf
     rw [e7]
     refine .inr ⟨[0, 1], [0, 3, 4, 14, 15], ?_⟩
     conv => whnf
     intro _
     conv => whnf
     refine ⟨_, ?_, k + 1, (.keep (.skip (.skip (.keep (.keep (.s8 (.skip (.keep (.keep (.s8 (.s8 (.s8 (.s8 (.s8 (.s8 (.s8 (.s8 (.s8 (.skip (.skip (.skip (.skip (.skip (.skip (.skip (.nil)))))))))))))))))))))))))), rfl, rfl, ?_⟩
     ·omega
     ·exact ⟨by omega, hup'⟩
   ·have hnk : ¬ nd L k := fun ⟨_, h⟩ => by
     rcases h with h | ⟨h, _⟩
     ·exact ne ((canP_eq cp cq).2 (by rw [hn]; exact h))
     ·omega
    rw [show decide ((n : Int) > 2) = false from decide_eq_false (by omega)]
    have hup' : ∀ j, j < k + 1 → ¬ nd L j := fun j hj => by
     rcases Nat.lt_or_ge j k with h | h
     ·exact hup j h
     ·have : j = k := by omega
      rw [this]; exact hnk
    conv => whnf
    rw [e7]
    refine .inr ⟨[0, 1], [0, 3, 4, 14, 15], ?_⟩
    conv => whnf
    intro _
    conv => whnf
    refine ⟨_, ?_, k + 1, (.keep (.skip (.skip (.keep (.keep (.s8 (.skip (.keep (.keep (.s8 (.s8 (.s8 (.s8 (.s8 (.s8 (.s8 (.s8 (.s8 (.skip (.skip (.skip (.skip (.skip (.skip (.skip (.nil)))))))))))))))))))))))))), rfl, rfl, ?_⟩
    ·omega
    ·exact ⟨by omega, hup'⟩
  ·have hnk : ¬ nd L k := fun ⟨h, _⟩ => by omega
   rw [show decide ((n : Int) > 1) = false from decide_eq_false (by omega)]
   have hup' : ∀ j, j < k + 1 → ¬ nd L j := fun j hj => by
    rcases Nat.lt_or_ge j k with h | h
    ·exact hup j h
    ·have : j = k := by omega
     rw [this]; exact hnk
   conv => whnf
   rw [e7]
   refine .inr ⟨[0, 1], [0, 3, 4, 14, 15], ?_⟩
   conv => whnf
   intro _
   conv => whnf
   refine ⟨_, ?_, k + 1, (.keep (.skip (.skip (.keep (.keep (.s8 (.skip (.keep (.keep (.s8 (.s8 (.s8 (.s8 (.s8 (.s8 (.s8 (.s8 (.s8 (.skip (.skip (.skip (.skip (.skip (.skip (.skip (.nil)))))))))))))))))))))))))), rfl, rfl, ?_⟩
   ·omega
   ·exact ⟨by omega, hup'⟩
 ·have h1 : k = n := by
   have := of_decide_eq_false h1
   omega
  subst h1
  have hnd : firstNd L = none := firstNd_none fun j hj => hup j (by omega)
  have hcl : cleanL L0 = L := hcl.trans (cleanL_stop hnd)
  have hMk : M = k := by rw [hM, hcl, hn]
  rw [hMk]
  rw [hcl] at hgs
  conv => whnf
  skip
  skip
  refine .inl ⟨fun mm tz hz => ∃ (i : Nat) (m : Nat), Pat [some (.slice (some ⟨1, 0, none⟩) k cu), none, none, none, none, none, some (.int .i64 m), none, none, none, none, none, none, none, none, none, none, none, none, none, none, none, none, none, none, none, none, none, none, none, none, none, none, none, none, none, none, none, none, none, none, none, none, none, none, none, none, none, none, none, none, none, none, none, none, none, none, none, none, none, none, none, none, none, none, none, none, none, none, none, none, some (.slice (some ⟨1, 0, none⟩) k cu), some (.int .i64 k), some (.int .i64 i), none, none, none, none, none, none, none, none, none, none, none, none, none, none, none, none, none, none, none, none, none] tz ∧ hz = [some (.flat false n0 6 g), some (.flat true n0 6 G)] ∧ k - i = mm ∧ (i ≤ k ∧ m = leastUp L i), .inr ⟨[0, 1], [0, 6, 71, 72, 73], ?_⟩, ?_⟩
  ·conv => whnf
   intro _
   conv => whnf
   refine ⟨_, 0, 0, (.keep (.skip (.skip (.skip (.skip (.skip (.keep (.s8 (.s8 (.s8 (.s8 (.s8 (.s8 (.s8 (.s8 (.keep (.keep (.keep (.s8 (.s8 (.skip (.skip (.skip (.skip (.skip (.nil)))))))))))))))))))))))))), rfl, rfl, ?_⟩
   exact ⟨Nat.zero_le _, rfl⟩
  rintro mm tms _ ⟨i, m, hpat, rfl, rfl, ⟨hi, hm⟩⟩
  obtain ⟨az, rfl⟩ : ∃ az : Nat → Value, tms = [.slice (some ⟨1, 0, none⟩) k cu, az 1, az 2, az 3, az 4, az 5, .int .i64 m, az 7, az 8, az 9, az 10, az 11, az 12, az 13, az 14, az 15, az 16, az 17, az 18, az 19, az 20, az 21, az 22, az 23, az 24, az 25, az 26, az 27, az 28, az 29, az 30, az 31, az 32, az 33, az 34, az 35, az 36, az 37, az 38, az 39, az 40, az 41, az 42, az 43, az 44, az 45, az 46, az 47, az 48, az 49, az 50, az 51, az 52, az 53, az 54, az 55, az 56, az 57, az 58, az 59, az 60, az 61, az 62, az 63, az 64, az 65, az 66, az 67, az 68, az 69, az 70, .slice (some ⟨1, 0, none⟩) k cu, .int .i64 k, .int .i64 i, az 74, az 75, az 76, az 77, az 78, az 79, az 80, az 81, az 82, az 83, az 84, az 85, az 86, az 87, az 88, az 89, az 90, az 91, az 92, az 93, az 94] := pat_fill hpat
  clear hpat
  have hml : m < k := by rw [hm, hn]; exact (leastUp_spec L i (by omega)).1 (by omega)
  conv => whnf
  refine br_intro (fun h1 => ?_) (fun h1 => ?_)
  ·have h1 : i < k := by
    have := of_decide_eq_true h1
    omega
   have e7 : IntKind.i64.wrap ((i : Int) + 1) = ((i + 1 : Nat) : Int) := by rw [wrapi64 (by omega) (by omega)]; rfl
   obtain ⟨p, cp, rp, pp, sp, qp⟩ := row i (by omega)
   obtain ⟨q, cq, rq, pq, sq, qq⟩ := row m (by omega)
   conv => whnf
   refine ⟨⟨by omega, by omega⟩, ?_⟩
   simp only [toNat_cast, rowAdd_eq, Nat.zero_add]
   conv => whnf
   refine ⟨by show i < n0; omega, ?_⟩
   conv => whnf
   rw [rp]
   conv => whnf
   refine .inl ⟨5, [[], [], [], [1, 2], [1, 2, 3], [0, 1, 2, 3, 4], [0, 1, 2, 3, 4, 5]], by kernel_rfl, ?_⟩
   conv => whnf
   refine ⟨⟨by omega, by omega⟩, ?_⟩
   simp only [toNat_cast, rowAdd_eq, Nat.zero_add]
   conv => whnf
   refine ⟨by show m < n0; omega, ?_⟩
   conv => whnf
   rw [rq]
   conv => whnf
   obtain ⟨z, ez, pz⟩ := hideZ (cmpR p.p q.p)
   refine ⟨(p, q), rfl, ⟨PV.sz_mono sp (by decide), PV.sz_mono sq (by decide)⟩, ?_⟩
   rw [show vcmpS.val (p, q) = .int .i64 z from ez]
   conv => whnf
   rw [pp, pq] at pz
   have hup : leastUp L (i + 1) = if z < 0 then i else m := by
    show (if cmpR (at2 L i) (at2 L (leastUp L i)) < 0 then i else leastUp L i) = _
    rw [pz, hm]
   refine br_intro (fun h2 => ?_) (fun h2 => ?_)
   ·have h2 : z < 0 := of_decide_eq_true h2
    conv => whnf
    rw [e7]
    refine .inr ⟨[0, 1], [0, 6, 71, 72, 73], ?_⟩
    conv => whnf
    intro _
    conv => whnf
    refine ⟨_, ?_, i + 1, i, (.keep (.skip (.skip (.skip (.skip (.skip (.keep (.s8 (.s8 (.s8 (.s8 (.s8 (.s8 (.s8 (.s8 (.keep (.keep (.keep (.s8 (.s8 (.skip (.skip (.skip (.skip (.skip (.nil)))))))))))))))))))))))))), rfl, rfl, ?_⟩
    ·omega
    ·exact ⟨by omega, by rw [hup, if_pos h2]⟩
   ·have h2 : ¬ z < 0 := of_decide_eq_false h2
    conv => whnf
    rw [e7]
    refine .inr ⟨[0, 1], [0, 6, 71, 72, 73], ?_⟩
    conv => whnf
    intro _
    conv => whnf
    refine ⟨_, ?_, i + 1, m, (.keep (.skip (.skip (.skip (.skip (.skip (.keep (.s8 (.s8 (.s8 (.s8 (.s8 (.s8 (.s8 (.s8 (.keep (.keep (.keep (.s8 (.s8 (.skip (.skip (.skip (.skip (.skip (.nil)))))))))))))))))))))))))), rfl, rfl, ?_⟩
    ·omega
    ·exact ⟨by omega, by rw [hup, if_neg h2]⟩
  ·have h1 : i = k := by
    have := of_decide_eq_false h1
    omega
   subst h1
   conv => whnf
   refine .inl ⟨6, [[], [], [0, 1], [], [], [3, 4], [0, 1, 2, 3, 4, 5], [0, 1, 2, 3, 4, 5, 6], [0, 1, 2, 3, 4, 5, 6, 7]], by kernel_rfl, ?_⟩
   conv => whnf
   refine ⟨⟨by omega, by omega, by omega⟩, ?_⟩
   rw [show Int.toNat (i : Int) - Int.toNat (m : Int) = i - m from rfl, show Int.toNat (m : Int) = m from rfl, rowAdd_eq, Nat.zero_add]
   conv => whnf
   refine ⟨⟨by omega, by omega, by omega⟩, ?_⟩
   conv => whnf
   obtain ⟨a, ha⟩ : ∃ a, a = i - m := ⟨_, rfl⟩
   obtain ⟨ca, hca⟩ : ∃ a, a = capSub cu m := ⟨_, rfl⟩
   obtain ⟨cb, hcb⟩ : ∃ a, a = capSub cu (Int.toNat 0) := ⟨_, rfl⟩
   rw [← ha, ← hca, ← hcb, show rowAdd 0 (Int.toNat 0) = 0 from rfl, show Int.toNat (m : Int) - Int.toNat 0 = m from rfl, Nat.zero_add]
   have w1 : IntKind.i64.wrap (0 + (a : Int)) = (a : Int) := by rw [wrapi64 (by omega) (by omega)]; omega
   have w2 : IntKind.i64.wrap ((a : Int) + (m : Int)) = (i : Int) := by rw [wrapi64 (by omega) (by omega)]; omega
   refine .inr ⟨3, ?_⟩
   conv => whnf
   refine ⟨by decide, ?_⟩
   conv => whnf
   rw [w1, show decide ((a : Int) < 0) = false from decide_eq_false (by omega)]
   conv => whnf
   refine ⟨by decide, ?_⟩
   conv => whnf
   rw [w2, show decide ((i : Int) < 0) = false from decide_eq_false (by omega)]
   conv => whnf
   have w3 : IntKind.i64.wrap ((i : Int) - IntKind.i64.wrap (0 - ((0 : Nat) : Int))) = (i : Int) := by
    rw [show IntKind.i64.wrap (0 - ((0 : Nat) : Int)) = 0 from rfl, wrapi64 (by omega) (by omega)]; omega
   rw [w3, show decide ((i : Int) > 0) = true from decide_eq_true (by omega)]
   conv => whnf
   refine ⟨⟨by omega, by omega, by omega⟩, ?_⟩
   conv => whnf
   refine ⟨⟨by omega, by show (i : Int) * ((80 : Nat) : Int) ≤ _; omega⟩, ?_⟩
   conv => whnf
   refine ⟨⟨by omega, by omega, by omega⟩, ?_⟩
   rw [show (0 : Int).toNat = 0 from rfl, show rowAdd 0 0 = 0 from rfl]
   conv => whnf
   refine .inr ⟨3, ?_⟩
   conv => whnf
   refine ⟨by decide, ?_⟩
   conv => whnf
   refine ⟨by omega, ?_⟩
   conv => whnf
   rw [show Int.toNat (((0 : Nat) : Int)) - 0 = 0 from rfl, show (Src.fl a fun j => G (rowAdd (0 + m) j)).m = a from rfl, Nat.zero_add]
   refine ⟨⟨by decide, ⟨Nat.zero_le _, rfl⟩, by show (0 + a) * 80 ≤ _; omega⟩, ?_⟩
   conv => whnf
   refine ⟨[25, 26, 27], ?_⟩
   conv => whnf
   intro _
   conv => whnf
   refine ⟨by decide, ?_⟩
   conv => whnf
   refine ⟨by omega, ?_⟩
   conv => whnf
   rw [show (Src.fl m fun j => G (rowAdd 0 j)).m = m from rfl]
   refine ⟨⟨by decide, ⟨Nat.le_refl _, rfl⟩, by show (0 + a + m) * 80 ≤ _; omega⟩, ?_⟩
   conv => whnf
   refine ⟨[25, 26, 27], ?_⟩
   conv => whnf
   intro _
   conv => whnf
   rw [show 0 + a + m = i from by omega]
   refine ⟨9, ?_⟩
   conv => whnf
   refine ⟨⟨rfl, BlkLe.flat_rows (fun h => h) (fun r hr => ?_) (fun r hr => by rw [hgs]; rfl)⟩, _, rfl, by rw [hcu]; exact .refl _⟩
   rw [hgs, rot_rowsG (fun r hr => hG r (by omega)) (by omega) (by omega) r (by omega), hm, hn]
   rfl
end Go.Proofs.Ytppeponndkfbkaa
/- Contracts of line: the part of a box on the left of lines. -/
set_option maxRecDepth 20000
set_option maxHeartbeats 4000000
namespace Go.Proofs.Ytppeponndkfbkaa
open Go Go.Ae
def Ecq : Env := { tt := tt, eqs := [], Φ := fun g => match g with
 | 22 => some (.p lcheckS)
 | _ => none }
theorem Ecqok : EnvOk Try.prog Ecq := ⟨tt_ok, fun t h => by simp [Ecq] at h, (fun g S h => by
 simp only [Ecq] at h
 split at h
 ·cases h; exact lcheck_ok
 ·cases h), fun g F h => by simp [Ecq] at h⟩
theorem lnot_ok : Snd Try.prog 63 lnotS := by
 refine snd_of Ecqok Dok Try.func63 (enters_of Try.func63 (by kernel_rfl) rfl) (fun _ => rfl) (fun _ => rfl) ?_
 intro l hp
 have sl : l.sz 1048576 := hp
 have fin : ∀ (z : Bool), z = decide (¬ isL l.q) → Value.bool z = lnotS.val l := fun z h => by rw [h]; rfl
 conv => whnf
 obtain ⟨c, ec, pc⟩ := hideZ (chkV l.q)
 refine ⟨l, rfl, R3.sz_mono sl (by decide), ?_⟩
 rw [show lcheckS.val l = .int .i64 c from ec]
 conv => whnf
 refine fin _ ?_
 rw [pc]
 unfold chkV
 by_cases h : isL l.q
 ·rw [if_neg h, decide_eq_false (fun e => e h)]; rfl
 ·have h2 : l.q.1 = 0 ∧ l.q.2.1 = 0 := Classical.byContradiction h
  rw [if_pos h2, decide_eq_true h]; rfl
def Eci : Env := { tt := tt, eqs := [], Φ := fun g => match g with
 | 63 => some (.p lnotS)
 | _ => none }
theorem Eciok : EnvOk Try.prog Eci := ⟨tt_ok, fun t h => by simp [Eci] at h, (fun g S h => by
 simp only [Eci] at h
 split at h
 ·cases h; exact lnot_ok
 ·cases h), fun g F h => by simp [Eci] at h⟩
theorem lindex_ft : FTOk Try.prog 87 (fnK Eci drawT Try.f87) := by
 exact ft_of Eciok Dok Try.func87 (enters_of Try.func87 (by kernel_rfl) rfl)
def EcjW : FuncId → Option FT := fun g => match g with
 | 87 => some (fnK Eci drawT Try.f87)
 | _ => none
def Ecj : Env := { tt := tt, eqs := [], Ψ := EcjW, Φ := fun g => match g with
 | _ => none }
theorem Ecjok : EnvOk Try.prog Ecj := ⟨tt_ok, fun t h => by simp [Ecj] at h, (fun g S h => by
 change none = some S at h
 cases h), (fun g F h => by
 simp only [Ecj, EcjW] at h
 split at h
 ·cases h; exact lindex_ft
 ·cases h)⟩
theorem lcontains_ft : FTOk Try.prog 56 (fnK Ecj drawT Try.f56) := by
 exact ft_of Ecjok Dok Try.func56 (enters_of Try.func56 (by kernel_rfl) rfl)
def Ecx : Env := { tt := tt, eqs := [], Φ := fun g => match g with
 | 90 => some (.q lvalS)
 | 50 => some (.p qsignS)
 | 70 => some (.p qsubS)
 | 72 => some (.p qquoS)
 | 42 => some (.p vatS)
 | _ => none }
theorem Ecxok : EnvOk Try.prog Ecx := ⟨tt_ok, fun t h => by simp [Ecx] at h, (fun g S h => by
 simp only [Ecx] at h
 split at h
 ·cases h; exact value_ok
 ·cases h; exact qsign_ok
 ·cases h; exact qsub_ok
 ·cases h; exact qquo_ok
 ·cases h; exact vat_ok
 ·cases h), fun g F h => by simp [Ecx] at h⟩
def cut1I : Nat → FT → Nu → FT := fun l G nu => fnK { Ecx with ys := [(l, G)], nu := nu } drawT Try.f92
theorem cut1_it : ITOk Try.prog 92 cut1I := by
 exact it_of Ecxok Dok Try.func92 (enters_of Try.func92 (by kernel_rfl) rfl)
def EcaI : FuncId → Option (Nat → FT → Nu → FT) := fun g => match g with
 | 92 => some cut1I
 | _ => none
def Eca : Env := { tt := tt, eqs := [], It := EcaI, Φ := fun g => match g with
 | _ => none }
theorem Ecaok : EnvOk Try.prog Eca := ⟨tt_ok, fun t h => by simp [Eca] at h, (fun g S h => by
 change none = some S at h
 cases h), fun g F h => by simp [Eca] at h⟩
theorem Ecaits : ItsOk Try.prog Eca := fun f I h => by
 simp only [Eca, EcaI] at h
 split at h
 ·cases h; exact cut1_it
 ·cases h
theorem appseq_ft : FTOk Try.prog 91 (fnK Eca drawT Try.f91) := by
 exact ft_of Ecaok Dok Try.func91 (enters_of Try.func91 (by kernel_rfl) rfl) (hI := Ecaits)
def EccW : FuncId → Option FT := fun g => match g with
 | 91 => some (fnK Eca drawT Try.f91)
 | _ => none
def Ecc : Env := { tt := tt, eqs := [], Ψ := EccW, Φ := fun g => match g with
 | _ => none }
theorem Eccok : EnvOk Try.prog Ecc := ⟨tt_ok, fun t h => by simp [Ecc] at h, (fun g S h => by
 change none = some S at h
 cases h), (fun g F h => by
 simp only [Ecc, EccW] at h
 split at h
 ·cases h; exact appseq_ft
 ·cases h)⟩
theorem collect_ft : FTOk Try.prog 64 (fnK Ecc drawT Try.f64) := by
 exact ft_of Eccok Dok Try.func64 (enters_of Try.func64 (by kernel_rfl) rfl)
def Ecv : Env := { tt := tt, eqs := [], Φ := fun g => match g with
 | 62 => some (.q (lvalueS 90))
 | _ => none }
theorem Ecvok : EnvOk Try.prog Ecv := ⟨tt_ok, fun t h => by simp [Ecv] at h, (fun g S h => by
 simp only [Ecv] at h
 split at h
 ·cases h; exact lvalue_ok
 ·cases h), fun g F h => by simp [Ecv] at h⟩
theorem cut_ft0 : FTOk Try.prog 65 (fnK Ecv drawT Try.f65) := by
 exact ft_of Ecvok Dok Try.func65 (enters_of Try.func65 (by kernel_rfl) rfl)
theorem cut_ft : FTOk Try.prog 65 (weakFT (fnK Ecv drawT Try.f65)) := weak_ft cut_ft0
def EcoW : FuncId → Option FT := fun g => match g with
 | 65 => some (weakFT (fnK Ecv drawT Try.f65))
 | 64 => some (fnK Ecc drawT Try.f64)
 | 56 => some (fnK Ecj drawT Try.f56)
 | _ => none
def Eco : Env := { tt := tt, eqs := [], Ψ := EcoW, Φ := fun g => match g with
 | 66 => some (.q cleanS)
 | 37 => some (.p vofS)
 | 31 => some (.p vaddS)
 | 16 => some (.p qcmpS)
 | _ => none }
theorem Ecook : EnvOk Try.prog Eco := ⟨tt_ok, fun t h => by simp [Eco] at h, (fun g S h => by
 simp only [Eco] at h
 split at h
 ·cases h; exact clean_ok
 ·cases h; exact vof_ok
 ·cases h; exact vadd_ok
 ·cases h; exact qcmp_ok
 ·cases h), (fun g F h => by
 simp only [Eco, EcoW] at h
 split at h
 ·cases h; exact cut_ft
 ·cases h; exact collect_ft
 ·cases h; exact lcontains_ft
 ·cases h)⟩
theorem common_ok : QSnd Try.prog 25 commonS := by
 refine qsnd_of Ecook Dok Try.func25 (enters_of Try.func25 (by kernel_rfl) rfl) ?_ ?_ ?_
 ·intro ⟨b, i⟩ B hb
  cases i with
  | none => simp [commonS, LL.blks] at hb
  | some i => simp [commonS, LL.blks] at hb; rw [hb]; rfl
 ·intro i B hb
  have hb : (if comE i.1.p (qs i.2.list) = 0 then some (Blk.flat true (comP i.1.p (qs i.2.list)).length 6 (rowsQ (comP i.1.p (qs i.2.list)))) else none) = some B := hb
  split at hb
  ·rw [← Option.some.inj hb]; rfl
  ·cases hb
 intro ⟨b, i⟩ hp
 have hp : comOk b i.list := hp
 obtain ⟨⟨sb1, sb2⟩, hlen, hsl, hsz⟩ := hp
 cases i with
 | none =>
  have hsz : 0 ≤ 60 → ∀ k, k ≤ 0 → (partR b.p ((qs []).take k)).length ≤ 274877906944 ∧ ∀ v ∈ partR b.p ((qs []).take k), Q2.sz 262144 v := hsz
  obtain ⟨⟨x1, y1⟩, ⟨x2, y2⟩⟩ := b
  have sx1 := sb1.1
  have sy1 := sb1.2
  have sx2 := sb2.1
  have sy2 := sb2.2
  obtain ⟨B, hB⟩ : ∃ B, B = XV.p ((x1, y1), (x2, y2)) := ⟨_, rfl⟩
  have hLs : ∀ v ∈ boxR B, Q2.sz 262144 v := by rw [hB]; exact (hsz (by decide) 0 (Nat.le_refl _)).2
  obtain ⟨K, hK⟩ : ∃ K, K = qRes commonS (((x1, y1), (x2, y2)), none) := ⟨_, rfl⟩
  have fin0 : ∀ (e : Int) (H : Heap), comE B [] = e → e ≠ 0 → K (.tuple ⟨[.slice none 0 0, .int .i64 e]⟩) H := fun e H he h0 => by
   obtain ⟨f1, f2⟩ := common_err (b := ((x1, y1), (x2, y2))) (i := none) (by rw [hB] at he; exact he) h0
   rw [hK]
   unfold qRes
   rw [f1, f2]
   exact ⟨_, rfl, .refl _⟩
  rw [show commonS.blks (((x1, y1), (x2, y2)), none) = [] from rfl, show commonS.args (((x1, y1), (x2, y2)), none) = [XV.v ((x1, y1), (x2, y2)), .slice none 0 0] from rfl, ← hK]
  conv => whnf
  obtain ⟨z1, ez1, pz1⟩ := hideZ (cmpQ x1.q x2.q)
  refine ⟨(x1, x2), rfl, ⟨RV.sz_ok sx1 (by decide), RV.sz_ok sx2 (by decide)⟩, ?_⟩
  rw [show qcmpS.val (x1, x2) = .int .i64 z1 from ez1]
  conv => whnf
  by_cases h1 : x2.q < x1.q
  ·rw [show decide (z1 > 0) = true from decide_eq_true (by rw [pz1]; exact cmpQ_pos.2 h1)]
   conv => whnf
   exact fin0 1 _ (if_pos (.inl fun e => by rw [hB] at e; have := e.1; exact absurd h1 (Rat.not_lt.2 this))) (by decide)
  rw [show decide (z1 > 0) = false from decide_eq_false (by rw [pz1]; exact fun e => h1 (cmpQ_pos.1 e))]
  conv => whnf
  obtain ⟨z2, ez2, pz2⟩ := hideZ (cmpQ y1.q y2.q)
  refine ⟨(y1, y2), rfl, ⟨RV.sz_ok sy1 (by decide), RV.sz_ok sy2 (by decide)⟩, ?_⟩
  rw [show qcmpS.val (y1, y2) = .int .i64 z2 from ez2]
  conv => whnf
  by_cases h2 : y2.q < y1.q
  ·rw [show decide (z2 > 0) = true from decide_eq_true (by rw [pz2]; exact cmpQ_pos.2 h2)]
   conv => whnf
   exact fin0 1 _ (if_pos (.inl fun e => by rw [hB] at e; have := e.2; exact absurd h2 (Rat.not_lt.2 this))) (by decide)
  rw [show decide (z2 > 0) = false from decide_eq_false (by rw [pz2]; exact fun e => h2 (cmpQ_pos.1 e))]
  have hok : okB B := by rw [hB]; exact ⟨Rat.not_lt.1 h1, Rat.not_lt.1 h2⟩
  conv => whnf
  refine .inr ⟨1, ?_⟩
  conv => whnf
  have hE : comE B [] = if (cleanL (boxR B)).length < 3 then 12 else 0 := by
   unfold comE
   rw [if_neg (fun e => e.elim (fun e => e hok) (fun e => by cases e)), if_neg (by decide)]
   rfl
  have qx1 := RV.qb' sx1 (by decide)
  have qy1 := RV.qb' sy1 (by decide)
  have qx2 := RV.qb' sx2 (by decide)
  have qy2 := RV.qb' sy2 (by decide)
  obtain ⟨o, co, eo, po, so, qo⟩ := hidePc (ofsz (0) (0) (by decide) (by decide))
  refine ⟨(((0 : Int), (0 : Int)) : Int × Int), rfl, ⟨⟨by decide, by decide⟩, ⟨by decide, by decide⟩⟩, ?_⟩
  rw [show vofS.val (((0 : Int), (0 : Int)) : Int × Int) = o.v from eo]
  conv => whnf
  refine .inl ⟨10, [[], [0], [], [0, 1, 2], [], [4], [], [0, 1, 2, 3, 4, 5, 6], [], [], [0, 1, 2, 3, 4, 5, 6, 7, 8, 9], [0, 1, 2, 3, 4, 5, 6, 7, 8, 9, 10]], by kernel_rfl, ?_⟩
  conv => whnf
  obtain ⟨lo, elo, plo, slo, qlo⟩ := hideP (add_sz (mkQ qx1 qy1) qo)
  refine ⟨((x1, y1), o), rfl, ⟨PV.sz_mono (mkP sx1 sy1) (by decide), PV.sz_mono so (by decide)⟩, ?_⟩
  rw [show vaddS.val ((x1, y1), o) = lo.v from elo]
  conv => whnf
  obtain ⟨hi', ehi', phi', shi', qhi'⟩ := hideP (add_sz (mkQ qx2 qy2) qo)
  refine ⟨((x2, y2), o), rfl, ⟨PV.sz_mono (mkP sx2 sy2) (by decide), PV.sz_mono so (by decide)⟩, ?_⟩
  rw [show vaddS.val ((x2, y2), o) = hi'.v from ehi']
  conv => whnf
  have clo := (PV.v_eq elo).symm
  have chi := (PV.v_eq ehi').symm
  rw [addz _ _ po, show PV.p (x1, y1) = B.1 from by rw [hB]; rfl] at clo
  rw [addz _ _ po, show PV.p (x2, y2) = B.2 from by rw [hB]; rfl] at chi
  obtain ⟨lx, ly⟩ := lo
  obtain ⟨hx, hy⟩ := hi'
  have b1 : lx = RV.of B.1.1 := congrArg Prod.fst clo
  have b2 : ly = RV.of B.1.2 := congrArg Prod.snd clo
  have b3 : hx = RV.of B.2.1 := congrArg Prod.fst chi
  have b4 : hy = RV.of B.2.2 := congrArg Prod.snd chi
  refine .inr ⟨1, ?_⟩
  conv => whnf
  have hcom : comP B [] = rotR (cleanL (boxR B)) := rfl
  obtain ⟨L, hL⟩ : ∃ L, L = boxR B := ⟨_, rfl⟩
  have hl4 : L.length = 4 := by rw [hL]; rfl
  have hW := box_blk b1 b2 b3 b4
  rw [← hL] at hcom hE hW hLs
  have hRl : (rotR (cleanL L)).length = (cleanL L).length := rotR_length _
  obtain ⟨M, hM⟩ : ∃ M, M = (cleanL L).length := ⟨_, rfl⟩
  obtain ⟨gs, hgs⟩ : ∃ M, M = rowsQ (rotR (cleanL L)) := ⟨_, rfl⟩
  obtain ⟨cu, hcu⟩ : ∃ c, c = capU := ⟨_, rfl⟩
  rw [← hM] at hE hRl
  refine ⟨(L, 4), [12], by rw [show cleanS.args (L, 4) = [Value.slice (some ⟨0, 0, none⟩) L.length 4] from rfl, hl4]; rfl, ⟨(fun e => by have e : L = [] := e; rw [e] at hl4; cases hl4), by show L.length ≤ _; omega, fun v hv => Q2.mono (hLs v hv) (by decide)⟩, ?_⟩
  rw [show cleanS.blks (L, 4) = [.flat false L.length 6 (rowsQ L)] from rfl, show cleanS.val (L, 4) = .slice (some ⟨1, 0, none⟩) M cu from by rw [hM, hcu]; rfl, show cleanS.new (L, 4) = some (.flat true M 6 gs) from by rw [hM, hgs]; rfl]
  conv => whnf
  refine ⟨⟨(fun h => by cases h), hW.esz, hW.n, hW.row, hW.flat⟩, ?_⟩
  conv => whnf
  refine ⟨_, rfl, ?_⟩
  conv => whnf
  by_cases h7 : M < 3
  ·rw [show decide ((M : Int) < 3) = true from decide_eq_true (by omega)]
   conv => whnf
   exact fin0 12 _ (by rw [hE, if_pos h7]) (by decide)
  ·rw [show decide ((M : Int) < 3) = false from decide_eq_false (by omega)]
   rw [if_neg h7] at hE
   conv => whnf
   obtain ⟨f1, f2⟩ := common_new (b := ((x1, y1), (x2, y2))) (i := none) (by rw [hB] at hE; exact hE) (by rw [hB] at hcom; exact hcom) hRl hgs
   rw [hK]
   unfold qRes
   rw [f1, f2]
   refine ⟨13, ?_⟩
   conv => whnf
   exact ⟨⟨rfl, BlkLe.flat_flat (fun h => h) (fun r hr => by rw [hgs]; rfl)⟩, _, rfl, by rw [hcu]; exact .refl _⟩
 | some i =>
  obtain ⟨l, c⟩ := i
  have hlen : l.length ≤ 1099511627776 := hlen
  have hsl : ∀ m ∈ l, R3.sz 1048576 m := hsl
  have hsz : l.length ≤ 60 → ∀ k, k ≤ l.length → (partR b.p ((qs l).take k)).length ≤ 274877906944 ∧ ∀ v ∈ partR b.p ((qs l).take k), Q2.sz 262144 v := hsz
  obtain ⟨N, hN⟩ : ∃ N, N = l.length := ⟨_, rfl⟩
  obtain ⟨G, hG⟩ : ∃ g, g = rowsLn l := ⟨_, rfl⟩
  obtain ⟨⟨x1, y1⟩, ⟨x2, y2⟩⟩ := b
  have sx1 := sb1.1
  have sy1 := sb1.2
  have sx2 := sb2.1
  have sy2 := sb2.2
  obtain ⟨B, hB⟩ : ∃ B, B = XV.p ((x1, y1), (x2, y2)) := ⟨_, rfl⟩
  obtain ⟨Q, hQ⟩ : ∃ Q, Q = qs l := ⟨_, rfl⟩
  rw [← hB, ← hQ] at hsz
  obtain ⟨K, hK⟩ : ∃ K, K = qRes commonS (((x1, y1), (x2, y2)), some (l, c)) := ⟨_, rfl⟩
  have fin0 : ∀ (e : Int) (H : Heap), comE B Q = e → e ≠ 0 → K (.tuple ⟨[.slice none 0 0, .int .i64 e]⟩) H := fun e H he h0 => by
   obtain ⟨f1, f2⟩ := common_err (b := ((x1, y1), (x2, y2))) (i := some (l, c)) (by rw [hB, hQ] at he; exact he) h0
   rw [hK]
   unfold qRes
   rw [f1, f2]
   exact ⟨_, rfl, .refl _⟩
  have qlen : Q.length = N := by rw [hQ, hN]; exact List.length_map ..
  rw [show commonS.blks (((x1, y1), (x2, y2)), some (l, c)) = [.flat false N 9 G] from by rw [hN, hG]; rfl, show commonS.args (((x1, y1), (x2, y2)), some (l, c)) = [XV.v ((x1, y1), (x2, y2)), .slice (some ⟨0, 0, none⟩) N c] from by rw [hN]; rfl, ← hK]
  rw [← hN] at hlen
  conv => whnf
  obtain ⟨z1, ez1, pz1⟩ := hideZ (cmpQ x1.q x2.q)
  refine ⟨(x1, x2), rfl, ⟨RV.sz_ok sx1 (by decide), RV.sz_ok sx2 (by decide)⟩, ?_⟩
  rw [show qcmpS.val (x1, x2) = .int .i64 z1 from ez1]
  conv => whnf
  by_cases h1 : x2.q < x1.q
  ·rw [show decide (z1 > 0) = true from decide_eq_true (by rw [pz1]; exact cmpQ_pos.2 h1)]
   conv => whnf
   exact fin0 1 _ (if_pos (.inl fun e => by rw [hB] at e; have := e.1; exact absurd h1 (Rat.not_lt.2 this))) (by decide)
  rw [show decide (z1 > 0) = false from decide_eq_false (by rw [pz1]; exact fun e => h1 (cmpQ_pos.1 e))]
  conv => whnf
  obtain ⟨z2, ez2, pz2⟩ := hideZ (cmpQ y1.q y2.q)
  refine ⟨(y1, y2), rfl, ⟨RV.sz_ok sy1 (by decide), RV.sz_ok sy2 (by decide)⟩, ?_⟩
  rw [show qcmpS.val (y1, y2) = .int .i64 z2 from ez2]
  conv => whnf
  by_cases h2 : y2.q < y1.q
  ·rw [show decide (z2 > 0) = true from decide_eq_true (by rw [pz2]; exact cmpQ_pos.2 h2)]
   conv => whnf
   exact fin0 1 _ (if_pos (.inl fun e => by rw [hB] at e; have := e.2; exact absurd h2 (Rat.not_lt.2 this))) (by decide)
  rw [show decide (z2 > 0) = false from decide_eq_false (by rw [pz2]; exact fun e => h2 (cmpQ_pos.1 e))]
  have hok : okB B := by rw [hB]; exact ⟨Rat.not_lt.1 h1, Rat.not_lt.1 h2⟩
  conv => whnf
  refine .inl ⟨fun mm tz hz => ∃ (i : Nat), Pat [some (.slice (some ⟨0, 0, none⟩) N c), some (.func (.func 63) #[] #[]), none, none, none, none, none, some (.int .i64 N), some (.int .i64 i), none, none, none, none, none, none, none, none, none, none] tz ∧ hz = [some (.flat false N 9 G), some (.expl true 12 [XV.cells ((x1, y1), (x2, y2))])] ∧ N - i = mm ∧ (i ≤ N ∧ goodUp l i), .inr ⟨[0, 1], [0, 1, 7, 8], ?_⟩, ?_⟩
  ·conv => whnf
   intro _
   conv => whnf
   refine ⟨_, 0, (.keep (.keep (.skip (.skip (.skip (.skip (.skip (.keep (.keep (.s8 (.skip (.skip (.nil))))))))))))), rfl, rfl, ?_⟩
   exact ⟨Nat.zero_le _, goodUp_start _⟩
  rintro mm tms _ ⟨i, hpat, rfl, rfl, ⟨hi, hU⟩⟩
  obtain ⟨az, rfl⟩ : ∃ az : Nat → Value, tms = [.slice (some ⟨0, 0, none⟩) N c, .func (.func 63) #[] #[], az 2, az 3, az 4, az 5, az 6, .int .i64 N, .int .i64 i, az 9, az 10, az 11, az 12, az 13, az 14, az 15, az 16, az 17, az 18] := pat_fill hpat
  clear hpat
  conv => whnf
  refine br_intro (fun h3 => ?_) (fun h3 => ?_)
  ·have h3 : i < N := by
    have := of_decide_eq_true h3
    omega
   have e7 : IntKind.i64.wrap ((i : Int) + 1) = ((i + 1 : Nat) : Int) := by rw [wrapi64 (by omega) (by omega)]; rfl
   obtain ⟨m, hml, hmm, hrow⟩ := rowsLn_get (l := l) (k := i) (by omega)
   rw [← hG] at hrow
   conv => whnf
   refine ⟨⟨by omega, by omega⟩, ?_⟩
   simp only [toNat_cast, rowAdd_eq, Nat.zero_add]
   conv => whnf
   refine ⟨by show i < N; omega, ?_⟩
   conv => whnf
   rw [hrow]
   conv => whnf
   refine ⟨m, rfl, hsl m hmm, ?_⟩
   by_cases h4 : isL m.q
   ·rw [show lnotS.val m = .bool false from congrArg Value.bool (decide_eq_false fun e => e h4)]
    conv => whnf
    rw [e7]
    refine .inr ⟨[0, 1], [0, 1, 7, 8], ?_⟩
    conv => whnf
    intro _
    conv => whnf
    refine ⟨_, ?_, i + 1, (.keep (.keep (.skip (.skip (.skip (.skip (.skip (.keep (.keep (.s8 (.skip (.skip (.nil))))))))))))), rfl, rfl, ?_⟩
    ·omega
    ·exact ⟨by omega, goodUp_step hU hml h4⟩
   ·rw [show lnotS.val m = .bool true from congrArg Value.bool (decide_eq_true h4)]
    conv => whnf
    exact fin0 1 _ (if_pos (.inr (by rw [hQ]; exact bad_of hmm h4))) (by decide)
  ·have h3 : i = N := by
    have := of_decide_eq_false h3
    omega
   subst h3
   have hgood : badL Q = false := by rw [hQ]; exact goodUp_end (by rw [← hN]; exact hU)
   conv => whnf
   by_cases h5 : 60 < i
   ·rw [show decide ((i : Int) > 60) = true from decide_eq_true (by omega)]
    conv => whnf
    exact fin0 4 _ (by
     unfold comE
     rw [if_neg (fun e => e.elim (fun e => e hok) (fun e => by rw [hgood] at e; cases e)), if_pos (by rw [qlen]; exact h5)]) (by decide)
   rw [show decide ((i : Int) > 60) = false from decide_eq_false (by omega)]
   have hE : comE B Q = if partR B Q = [] then 11 else if (cleanL (partR B Q)).length < 3 then 12 else 0 := by
    unfold comE
    rw [if_neg (fun e => e.elim (fun e => e hok) (fun e => by rw [hgood] at e; cases e)), if_neg (by rw [qlen]; exact h5)]
   have q1 := mkQ (RV.qb' sx1 (by decide)) (RV.qb' sy1 (by decide))
   have q2 := mkQ (RV.qb' sx2 (by decide)) (RV.qb' sy2 (by decide))
   conv => whnf
   obtain ⟨o, co, eo, po, so, qo⟩ := hidePc (ofsz (0) (0) (by decide) (by decide))
   refine ⟨(((0 : Int), (0 : Int)) : Int × Int), rfl, ⟨⟨by decide, by decide⟩, ⟨by decide, by decide⟩⟩, ?_⟩
   rw [show vofS.val (((0 : Int), (0 : Int)) : Int × Int) = o.v from eo]
   conv => whnf
   refine .inl ⟨10, [[], [0], [], [0, 1, 2], [], [4], [], [0, 1, 2, 3, 4, 5, 6], [], [], [0, 1, 2, 3, 4, 5, 6, 7, 8, 9], [0, 1, 2, 3, 4, 5, 6, 7, 8, 9, 10]], by kernel_rfl, ?_⟩
   conv => whnf
   have qx1 := RV.qb' sx1 (by decide)
   have qy1 := RV.qb' sy1 (by decide)
   have qx2 := RV.qb' sx2 (by decide)
   have qy2 := RV.qb' sy2 (by decide)
   obtain ⟨lo, elo, plo, slo, qlo⟩ := hideP (add_sz (mkQ qx1 qy1) qo)
   refine ⟨((x1, y1), o), rfl, ⟨PV.sz_mono (mkP sx1 sy1) (by decide), PV.sz_mono so (by decide)⟩, ?_⟩
   rw [show vaddS.val ((x1, y1), o) = lo.v from elo]
   conv => whnf
   obtain ⟨hi', ehi', phi', shi', qhi'⟩ := hideP (add_sz (mkQ qx2 qy2) qo)
   refine ⟨((x2, y2), o), rfl, ⟨PV.sz_mono (mkP sx2 sy2) (by decide), PV.sz_mono so (by decide)⟩, ?_⟩
   rw [show vaddS.val ((x2, y2), o) = hi'.v from ehi']
   conv => whnf
   have clo := (PV.v_eq elo).symm
   have chi := (PV.v_eq ehi').symm
   rw [addz _ _ po, show PV.p (x1, y1) = B.1 from by rw [hB]; rfl] at clo
   rw [addz _ _ po, show PV.p (x2, y2) = B.2 from by rw [hB]; rfl] at chi
   obtain ⟨lx, ly⟩ := lo
   obtain ⟨hx, hy⟩ := hi'
   have b1 : lx = RV.of B.1.1 := congrArg Prod.fst clo
   have b2 : ly = RV.of B.1.2 := congrArg Prod.snd clo
   have b3 : hx = RV.of B.2.1 := congrArg Prod.fst chi
   have b4 : hy = RV.of B.2.2 := congrArg Prod.snd chi
   refine .inl ⟨fun mm tz hz => ∃ (k : Nat) (P : List Q2) (d : Nat) (W : Blk), Pat [none, none, none, none, none, none, none, none, none, some (pVal P d), none, none, none, none, none, none, none, none, none, none, none, none, none, none, none, none, none, none, none, none, none, none, none, none, none, none, none, none, none, none, none, none, none, none, none, none, none, none, none, none, none, none, none, none, none, none, none, none, none, some (.slice (some ⟨0, 0, none⟩) i c), some (.int .i64 i), some (.int .i64 k), none, none, none, none, none, none, none, none, none, none, none, none, none, none, none, none, none] tz ∧ hz = [some (.flat false i 9 G), some W] ∧ i - k = mm ∧ ((k ≤ i ∧ P = partR B (Q.take k)) ∧ BlkP' P W), .inr ⟨[0, 13], [9, 59, 60, 61], ?_⟩, ?_⟩
   ·conv => whnf
    intro _
    conv => whnf
    refine ⟨_, 0, boxR B, 4, _, (.s8 (.skip (.keep (.s8 (.s8 (.s8 (.s8 (.s8 (.s8 (.skip (.keep (.keep (.keep (.s8 (.s8 (.skip (.nil))))))))))))))))), rfl, rfl, ?_⟩
    exact ⟨⟨Nat.zero_le _, rfl⟩, _, fun _ => rfl, box_blk b1 b2 b3 b4⟩
   rintro mm tms _ ⟨k, P, d, W, hpat, rfl, rfl, ⟨⟨hk, hP⟩, P', hP', hW⟩⟩
   obtain ⟨az, rfl⟩ : ∃ az : Nat → Value, tms = [az 0, az 1, az 2, az 3, az 4, az 5, az 6, az 7, az 8, pVal P d, az 10, az 11, az 12, az 13, az 14, az 15, az 16, az 17, az 18, az 19, az 20, az 21, az 22, az 23, az 24, az 25, az 26, az 27, az 28, az 29, az 30, az 31, az 32, az 33, az 34, az 35, az 36, az 37, az 38, az 39, az 40, az 41, az 42, az 43, az 44, az 45, az 46, az 47, az 48, az 49, az 50, az 51, az 52, az 53, az 54, az 55, az 56, az 57, az 58, .slice (some ⟨0, 0, none⟩) i c, .int .i64 i, .int .i64 k, az 62, az 63, az 64, az 65, az 66, az 67, az 68, az 69, az 70, az 71, az 72, az 73, az 74, az 75, az 76, az 77, az 78] := pat_fill hpat
   clear hpat
   conv => whnf
   refine br_intro (fun h6 => ?_) (fun h6 => ?_)
   ·have h6 : k < i := by
     have := of_decide_eq_true h6
     omega
    have e7 : IntKind.i64.wrap ((k : Int) + 1) = ((k + 1 : Nat) : Int) := by rw [wrapi64 (by omega) (by omega)]; rfl
    obtain ⟨m, hml, hmm, hrow⟩ := rowsLn_get (l := l) (k := k) (by omega)
    rw [← hG] at hrow
    have sm := hsl m hmm
    have qm := R3.qsz sm (by decide)
    have hstep : partR B (Q.take (k + 1)) = cutR m.q P := by
     rw [hP, hQ]
     unfold partR qs
     rw [List.take_add_one, List.getElem?_map, hml]
     simp
    cases P with
    | nil =>
     conv => whnf
     refine ⟨⟨by omega, by omega⟩, ?_⟩
     simp only [toNat_cast, rowAdd_eq, Nat.zero_add]
     conv => whnf
     refine ⟨by show k < i; omega, ?_⟩
     conv => whnf
     rw [hrow]
     conv => whnf
     refine ⟨1, .flat true P'.length 6 (rowsQ P'), ?_⟩
     conv => whnf
     refine ⟨⟨hW, rfl⟩, ?_⟩
     conv => whnf
     refine ⟨m, [], rfl, trivial, ?_⟩
     rw [show (lvalueS 90).new m = some (.flat true 1 9 (fun _ => R3.cells m)) from rfl]
     conv => whnf
     refine ⟨_, rfl, ?_⟩
     conv => whnf
     intro yl nu fn tm df
     conv => whnf
     refine .inr ⟨1, ?_⟩
     conv => whnf
     rw [e7]
     refine .inr ⟨[0, 1], [9, 59, 60, 61], ?_⟩
     conv => whnf
     intro _
     conv => whnf
     refine ⟨_, ?_, k + 1, [], d, _, (.s8 (.skip (.keep (.s8 (.s8 (.s8 (.s8 (.s8 (.s8 (.skip (.keep (.keep (.keep (.s8 (.s8 (.skip (.nil))))))))))))))))), rfl, rfl, ?_⟩
     ·omega
     ·exact ⟨⟨by omega, by rw [hstep]; rfl⟩, P', fun e => absurd rfl e, BlkLe.flat_flat (fun h => h) (fun r hr => rfl)⟩
    | cons p r =>
     obtain ⟨n, hn⟩ : ∃ n, n = r.length + 1 := ⟨_, rfl⟩
     obtain ⟨L, hL⟩ : ∃ L, L = p :: r := ⟨_, rfl⟩
     obtain ⟨g, hg⟩ : ∃ g, g = rowsQ L := ⟨_, rfl⟩
     have hnL : n = L.length := by rw [hL, hn]; rfl
     have hLs : ∀ v ∈ L, Q2.sz 262144 v := by rw [hL, hP]; exact (hsz (by omega) k (by omega)).2
     have hnl0 : n ≤ 274877906944 := by rw [hnL, hL, hP]; exact (hsz (by omega) k (by omega)).1
     have hnlen : n ≤ 1099511627776 := by omega
     have hW : BlkLe (.flat true n 6 g) W := by rw [hnL, hg, hL, ← hP' (by simp)]; exact hW
     rw [show pVal (p :: r) d = .slice (some ⟨1, 0, none⟩) n d from by rw [hn]; rfl]
     rw [← hL] at hP hstep
     clear hL hn
     conv => whnf
     refine ⟨⟨by omega, by omega⟩, ?_⟩
     simp only [toNat_cast, rowAdd_eq, Nat.zero_add]
     conv => whnf
     refine ⟨by show k < i; omega, ?_⟩
     conv => whnf
     rw [hrow]
     conv => whnf
     refine ⟨1, .flat true n 6 g, ?_⟩
     conv => whnf
     refine ⟨⟨hW, rfl⟩, ?_⟩
     conv => whnf
     refine ⟨m, [], rfl, trivial, ?_⟩
     rw [show (lvalueS 90).new m = some (.flat true 1 9 (fun _ => R3.cells m)) from rfl]
     conv => whnf
     refine ⟨_, rfl, ?_⟩
     conv => whnf
     intro yl nu fn tm df
     conv => whnf
     refine .inl ⟨fun mm tz hz => ∃ (j : Nat) (O : List Q2) (q : Nat) (F : Nat → List Value), Pat [some (.func (.yield yl) #[] #[]), some (.pointer (some ⟨3, 0, none⟩)), some (.pointer (some ⟨6, 0, none⟩)), none, none, none, none, none, none, none, none, some (.slice (some ⟨1, 0, none⟩) n d), some (.int .i64 n), some (.int .i64 j), none, none, none, none, none, none, none, none, none, none, none, none, none, none, none, none, none, none, none, none, none, none, none, none, none, none, none, none, none, none, none, none, none, none, none, none, none, none, none, none, none, none, none, none, none, none, none, none, none] tz ∧ hz = [some (.flat false i 9 G), some (.flat true n 6 g), some (.expl true 9 [m.cells]), some (.expl true 1 [[.slice (some ⟨1, 0, none⟩) n d]]), some (.expl true 9 [m.cells]), some (.flat true 1 9 fun _ => m.cells), some (.expl true 1 [[.func (.func 90) #[] #[.pointer (some ⟨5, 0, none⟩)]]]), some (.expl true 1 [[oVal 9 q]]), some (.lrec (recR Try.f91 fn tm df))] ++ oBlk 6 F q ∧ n - j = mm ∧ ((j ≤ n ∧ q = O.length) ∧ O = ((edges L).take j).flatMap (cutF m.q) ∧ ∀ r, r < q → F r = rowsQ O r), .inr ⟨[0, 1, 2, 3, 4, 5, 6, 7, 8], [0, 1, 2, 11, 12, 13], ?_⟩, ?_⟩
     ·conv => whnf
      intro _
      conv => whnf
      refine ⟨_, 0, [], 0, fun _ => [], (.keep (.keep (.keep (.s8 (.keep (.keep (.keep (.s8 (.s8 (.s8 (.s8 (.s8 (.s8 (.skip (.nil))))))))))))))), rfl, rfl, ?_⟩
      exact ⟨⟨Nat.zero_le _, rfl⟩, rfl, fun r hr => absurd hr (Nat.not_lt_zero r)⟩
     rintro mm tms _ ⟨j, O, q, F, hpat, rfl, rfl, ⟨⟨hj, hq⟩, hO, hF⟩⟩
     obtain ⟨az, rfl⟩ : ∃ az : Nat → Value, tms = [.func (.yield yl) #[] #[], .pointer (some ⟨3, 0, none⟩), .pointer (some ⟨6, 0, none⟩), az 3, az 4, az 5, az 6, az 7, az 8, az 9, az 10, .slice (some ⟨1, 0, none⟩) n d, .int .i64 n, .int .i64 j, az 14, az 15, az 16, az 17, az 18, az 19, az 20, az 21, az 22, az 23, az 24, az 25, az 26, az 27, az 28, az 29, az 30, az 31, az 32, az 33, az 34, az 35, az 36, az 37, az 38, az 39, az 40, az 41, az 42, az 43, az 44, az 45, az 46, az 47, az 48, az 49, az 50, az 51, az 52, az 53, az 54, az 55, az 56, az 57, az 58, az 59, az 60, az 61, az 62] := pat_fill hpat
     clear hpat
     have hqb : q ≤ 2 * n := by
      have := cutF_lens m.q ((edges L).take j)
      rw [← hO, List.length_take] at this
      omega
     cases q with
     | zero =>
      have hO0 : O = [] := List.length_eq_zero_iff.1 hq.symm
      subst hO0
      conv => whnf
      refine br_intro (fun h7 => ?_) (fun h7 => ?_)
      ·have h7 : j < n := by
        have := of_decide_eq_true h7
        omega
       have e8 : IntKind.i64.wrap ((j : Int) + 1) = ((j + 1 : Nat) : Int) := by rw [wrapi64 (by omega) (by omega)]; rfl
       obtain ⟨a, ca, ra, pa, sa, qa⟩ := hideAt (k := j) (by omega) hLs
       obtain ⟨b, cb, rb, pb, sb, qb⟩ := hideAt (k := nxt n j) (by rw [hnL]; exact nxt_lt (by omega)) hLs
       have hnx := nxt_i h7 hnlen
       have hnl := nxt_lt h7
       have hed : (edges L)[j]? = some (a.p, b.p) := by rw [pa, pb]; rw [hnL] at hnl ⊢; exact edges_get (at2_some (by omega)) (at2_some hnl)
       rw [← pa] at ca
       obtain ⟨u, hu⟩ : ∃ u, u = nxt n j := ⟨_, rfl⟩
       rw [← hu] at hnx hnl rb
       rw [← hg] at ra rb
       conv => whnf
       refine ⟨⟨by omega, by omega⟩, ?_⟩
       simp only [toNat_cast, rowAdd_eq, Nat.zero_add]
       conv => whnf
       refine ⟨by show j < n; omega, ?_⟩
       conv => whnf
       rw [ra]
       conv => whnf
       refine .inl ⟨9, [[], [], [1], [], [3], [1, 2, 3, 4], [0, 1, 2, 3, 4, 5], [0, 1, 2, 3, 4, 5, 6], [], [0, 1, 2, 3, 4, 5, 6, 7, 8]], by kernel_rfl, ?_⟩
       conv => whnf
       rw [show decide ((n : Int) ≠ 0) = true from decide_eq_true (by omega)]
       conv => whnf
       rw [hnx]
       refine ⟨⟨by omega, by omega⟩, ?_⟩
       simp only [toNat_cast, rowAdd_eq, Nat.zero_add]
       conv => whnf
       refine ⟨by show u < n; omega, ?_⟩
       conv => whnf
       rw [rb]
       conv => whnf
       refine .inl ⟨8, [[], [], [0, 1], [], [], [0, 1, 2, 3, 4], [], [], [0, 1, 2, 3, 4, 5, 6, 7], [0, 1, 2, 3, 4, 5, 6, 7, 8]], by kernel_rfl, ?_⟩
       conv => whnf
       obtain ⟨x, ex, px, sx, qx⟩ := hideR (val_sz qm qa)
       refine ⟨(m, a), [5], rfl, ⟨R3.sz_mono sm (by decide), PV.sz_mono sa (by decide)⟩, ?_⟩
       rw [show lvalS.blks (m, a) = [.flat false 1 9 (fun _ => R3.cells m)] from rfl, show lvalS.val (m, a) = x.v from ex, show lvalS.new (m, a) = none from rfl]
       conv => whnf
       refine ⟨line_blk2 m, ?_⟩
       conv => whnf
       refine ⟨_, rfl, ?_⟩
       conv => whnf
       obtain ⟨y, ey, py, sy, qy⟩ := hideR (val_sz qm qb)
       refine ⟨(m, b), [5], rfl, ⟨R3.sz_mono sm (by decide), PV.sz_mono sb (by decide)⟩, ?_⟩
       rw [show lvalS.blks (m, b) = [.flat false 1 9 (fun _ => R3.cells m)] from rfl, show lvalS.val (m, b) = y.v from ey, show lvalS.new (m, b) = none from rfl]
       conv => whnf
       refine ⟨line_blk2 m, ?_⟩
       conv => whnf
       refine ⟨_, rfl, ?_⟩
       conv => whnf
       obtain ⟨z, ez, pz⟩ := hideZ (cmpQ x.q 0)
       refine ⟨x, rfl, RV.sz_ok sx (by decide), ?_⟩
       rw [show qsignS.val x = .int .i64 z from ez]
       conv => whnf
       have hz := cmpQ_range x.q 0
       rw [← pz] at hz
       have hst := (flat_step (f := cutF m.q) hed).trans (congrArg (_ ++ ·) (cut_rows px py rfl))
       rw [← hO, ← pz] at hst
       by_cases h8 : z ≥ 0
       ·rw [show decide (z ≥ 0) = true from decide_eq_true h8]
        rw [if_pos h8] at hst
        conv => whnf
        refine ⟨rfl, ?_⟩
        conv => whnf
        refine ⟨rfl, ?_⟩
        conv => whnf
        refine ⟨rfl, ?_⟩
        conv => whnf
        refine ⟨by decide, ?_⟩
        conv => whnf
        refine ⟨rfl, ?_⟩
        conv => whnf
        refine .inl ⟨3, [[], [0], [], [0, 1, 2], [0, 1, 2, 3], [0, 1, 2, 3, 4]], by kernel_rfl, ?_⟩
        conv => whnf
        obtain ⟨z3, ez3, pz3⟩ := hideZ (cmpQ x.q 0)
        refine ⟨x, rfl, RV.sz_ok sx (by decide), ?_⟩
        rw [show qsignS.val x = .int .i64 z3 from ez3]
        conv => whnf
        obtain ⟨z2, ez2, pz2⟩ := hideZ (cmpQ y.q 0)
        refine ⟨y, rfl, RV.sz_ok sy (by decide), ?_⟩
        rw [show qsignS.val y = .int .i64 z2 from ez2]
        conv => whnf
        have hz2 := cmpQ_range y.q 0
        rw [← pz2] at hz2
        obtain rfl : z3 = z := pz3.trans pz.symm
        rw [show IntKind.i64.wrap (z3 * z2) = z3 * z2 from by rcases hz with rfl | rfl | rfl <;> rcases hz2 with rfl | rfl | rfl <;> rfl]
        rw [← pz2] at hst
        by_cases h9 : z3 * z2 < 0
        ·rw [show decide (z3 * z2 < 0) = true from decide_eq_true h9]
         rw [if_pos h9] at hst
         conv => whnf
         refine .inr (.inr (.inl ⟨9, 1, [[], [], [], [1, 2], [0, 1, 2, 3], [0, 1, 2, 3, 4], [0, 1, 2, 3, 4, 5], [0, 1, 2, 3, 4, 5], [], [0, 1, 2, 3, 4, 5, 6, 8], [0, 1, 2, 3, 4, 5, 6, 7, 8, 9]], [7], by kernel_rfl, ?_⟩))
         conv => whnf
         obtain ⟨d2, ed2, pd2, sd2, qd2⟩ := hideR (QB.sub qx qy)
         refine ⟨(x, y), rfl, ⟨RV.sz_ok sx (by decide), RV.sz_ok sy (by decide)⟩, ?_⟩
         rw [show qsubS.val (x, y) = d2.v from ed2]
         conv => whnf
         obtain ⟨t, et, pt, st, qt⟩ := hideR (QB.div qx qd2 (by decide))
         obtain ⟨e, ee, pe⟩ := hideZ (if d2.q = 0 then 10 else 0)
         refine ⟨(x, d2), rfl, ⟨RV.sz_ok sx (by decide), RV.sz_ok sd2 (by decide)⟩, ?_⟩
         rw [show qquoS.val (x, d2) = .tuple ⟨[t.v, .int .i64 e]⟩ from by rw [← et, ← ee]; rfl]
         conv => whnf
         obtain ⟨w, ew, pw, sw, qw⟩ := hideP (at_sz qa qb qt)
         refine ⟨((a, b), t), rfl, ⟨⟨PV.sz_mono sa (by decide), PV.sz_mono sb (by decide)⟩, RV.sz_mono st (by decide)⟩, ?_⟩
         rw [show vatS.val ((a, b), t) = w.v from ew]
         conv => whnf
         have cw := (PV.v_eq ew).symm
         rw [← pw] at cw
         rw [pd2] at pt
         refine ⟨rfl, ?_⟩
         conv => whnf
         refine ⟨rfl, ?_⟩
         conv => whnf
         refine ⟨rfl, ?_⟩
         conv => whnf
         refine ⟨⟨rfl, by show (0 + 1 + 1) * 80 ≤ 140737488355328; decide⟩, ?_⟩
         conv => whnf
         refine ⟨rfl, ?_⟩
         conv => whnf
         rw [e8]
         refine .inr ⟨[0, 1, 2, 3, 4, 5, 6, 7, 8, 44], [0, 1, 2, 11, 12, 13], ?_⟩
         conv => whnf
         intro _
         conv => whnf
         refine ⟨_, ?_, j + 1, [a.p] ++ [w.p], 0 + 1 + 1, _, (.keep (.keep (.keep (.s8 (.keep (.keep (.keep (.s8 (.s8 (.s8 (.s8 (.s8 (.s8 (.skip (.nil))))))))))))))), rfl, rfl, ?_⟩
         ·omega
         ·exact ⟨⟨by omega, rfl⟩, by rw [hst, pw, pt]; rfl, appQ_row (O := [a.p]) rfl (oneQ_row ca rfl) cw rfl⟩
        ·rw [show decide (z3 * z2 < 0) = false from decide_eq_false h9]
         rw [if_neg h9] at hst
         conv => whnf
         rw [e8]
         refine .inr ⟨[0, 1, 2, 3, 4, 5, 6, 7, 8, 29], [0, 1, 2, 11, 12, 13], ?_⟩
         conv => whnf
         intro _
         conv => whnf
         refine ⟨_, ?_, j + 1, [a.p], 0 + 1, _, (.keep (.keep (.keep (.s8 (.keep (.keep (.keep (.s8 (.s8 (.s8 (.s8 (.s8 (.s8 (.skip (.nil))))))))))))))), rfl, rfl, ?_⟩
         ·omega
         ·exact ⟨⟨by omega, rfl⟩, by rw [hst]; rfl, oneQ_row ca rfl⟩
       ·rw [show decide (z ≥ 0) = false from decide_eq_false h8]
        rw [if_neg h8] at hst
        conv => whnf
        refine .inl ⟨3, [[], [0], [], [0, 1, 2], [0, 1, 2, 3], [0, 1, 2, 3, 4]], by kernel_rfl, ?_⟩
        conv => whnf
        obtain ⟨z3, ez3, pz3⟩ := hideZ (cmpQ x.q 0)
        refine ⟨x, rfl, RV.sz_ok sx (by decide), ?_⟩
        rw [show qsignS.val x = .int .i64 z3 from ez3]
        conv => whnf
        obtain ⟨z2, ez2, pz2⟩ := hideZ (cmpQ y.q 0)
        refine ⟨y, rfl, RV.sz_ok sy (by decide), ?_⟩
        rw [show qsignS.val y = .int .i64 z2 from ez2]
        conv => whnf
        have hz2 := cmpQ_range y.q 0
        rw [← pz2] at hz2
        obtain rfl : z3 = z := pz3.trans pz.symm
        rw [show IntKind.i64.wrap (z3 * z2) = z3 * z2 from by rcases hz with rfl | rfl | rfl <;> rcases hz2 with rfl | rfl | rfl <;> rfl]
        rw [← pz2] at hst
        by_cases h9 : z3 * z2 < 0
        ·rw [show decide (z3 * z2 < 0) = true from decide_eq_true h9]
         rw [if_pos h9] at hst
         conv => whnf
         refine .inr (.inr (.inl ⟨9, 1, [[], [], [], [1, 2], [0, 1, 2, 3], [0, 1, 2, 3, 4], [0, 1, 2, 3, 4, 5], [0, 1, 2, 3, 4, 5], [], [0, 1, 2, 3, 4, 5, 6, 8], [0, 1, 2, 3, 4, 5, 6, 7, 8, 9]], [7], by kernel_rfl, ?_⟩))
         conv => whnf
         obtain ⟨d2, ed2, pd2, sd2, qd2⟩ := hideR (QB.sub qx qy)
         refine ⟨(x, y), rfl, ⟨RV.sz_ok sx (by decide), RV.sz_ok sy (by decide)⟩, ?_⟩
         rw [show qsubS.val (x, y) = d2.v from ed2]
         conv => whnf
         obtain ⟨t, et, pt, st, qt⟩ := hideR (QB.div qx qd2 (by decide))
         obtain ⟨e, ee, pe⟩ := hideZ (if d2.q = 0 then 10 else 0)
         refine ⟨(x, d2), rfl, ⟨RV.sz_ok sx (by decide), RV.sz_ok sd2 (by decide)⟩, ?_⟩
         rw [show qquoS.val (x, d2) = .tuple ⟨[t.v, .int .i64 e]⟩ from by rw [← et, ← ee]; rfl]
         conv => whnf
         obtain ⟨w, ew, pw, sw, qw⟩ := hideP (at_sz qa qb qt)
         refine ⟨((a, b), t), rfl, ⟨⟨PV.sz_mono sa (by decide), PV.sz_mono sb (by decide)⟩, RV.sz_mono st (by decide)⟩, ?_⟩
         rw [show vatS.val ((a, b), t) = w.v from ew]
         conv => whnf
         have cw := (PV.v_eq ew).symm
         rw [← pw] at cw
         rw [pd2] at pt
         refine ⟨rfl, ?_⟩
         conv => whnf
         refine ⟨rfl, ?_⟩
         conv => whnf
         refine ⟨rfl, ?_⟩
         conv => whnf
         refine ⟨by decide, ?_⟩
         conv => whnf
         refine ⟨rfl, ?_⟩
         conv => whnf
         rw [e8]
         refine .inr ⟨[0, 1, 2, 3, 4, 5, 6, 7, 8, 41], [0, 1, 2, 11, 12, 13], ?_⟩
         conv => whnf
         intro _
         conv => whnf
         refine ⟨_, ?_, j + 1, [w.p], 0 + 1, _, (.keep (.keep (.keep (.s8 (.keep (.keep (.keep (.s8 (.s8 (.s8 (.s8 (.s8 (.s8 (.skip (.nil))))))))))))))), rfl, rfl, ?_⟩
         ·omega
         ·exact ⟨⟨by omega, rfl⟩, by rw [hst, pw, pt]; rfl, oneQ_row cw rfl⟩
        ·rw [show decide (z3 * z2 < 0) = false from decide_eq_false h9]
         rw [if_neg h9] at hst
         conv => whnf
         rw [e8]
         refine .inr ⟨[0, 1, 2, 3, 4, 5, 6, 7, 8], [0, 1, 2, 11, 12, 13], ?_⟩
         conv => whnf
         intro _
         conv => whnf
         refine ⟨_, ?_, j + 1, [], 0, fun _ => [], (.keep (.keep (.keep (.s8 (.keep (.keep (.keep (.s8 (.s8 (.s8 (.s8 (.s8 (.s8 (.skip (.nil))))))))))))))), rfl, rfl, ?_⟩
         ·omega
         ·exact ⟨⟨by omega, rfl⟩, by rw [hst]; rfl, fun r hr => absurd hr (Nat.not_lt_zero r)⟩
      ·have h7 : j = n := by
        have := of_decide_eq_false h7
        omega
       subst h7
       have hcut : cutR m.q L = [] := by rw [hO, cutF_eq, hnL, ← edges_length L, List.take_length]
       conv => whnf
       rw [e7]
       refine .inr ⟨[0, 1], [9, 59, 60, 61], ?_⟩
       conv => whnf
       intro _
       conv => whnf
       refine ⟨_, ?_, k + 1, [], d, _, (.s8 (.skip (.keep (.s8 (.s8 (.s8 (.s8 (.s8 (.s8 (.skip (.keep (.keep (.keep (.s8 (.s8 (.skip (.nil))))))))))))))))), rfl, rfl, ?_⟩
       ·omega
       ·exact ⟨⟨by omega, by rw [hstep, hcut]⟩, L, fun e => absurd rfl e, by unfold BlkP; rw [← hnL, ← hg]; exact BlkLe.flat_flat (fun h => h) (fun r hr => by rw [hg]; rfl)⟩
     | succ q =>
      conv => whnf
      refine br_intro (fun h7 => ?_) (fun h7 => ?_)
      ·have h7 : j < n := by
        have := of_decide_eq_true h7
        omega
       have e8 : IntKind.i64.wrap ((j : Int) + 1) = ((j + 1 : Nat) : Int) := by rw [wrapi64 (by omega) (by omega)]; rfl
       obtain ⟨a, ca, ra, pa, sa, qa⟩ := hideAt (k := j) (by omega) hLs
       obtain ⟨b, cb, rb, pb, sb, qb⟩ := hideAt (k := nxt n j) (by rw [hnL]; exact nxt_lt (by omega)) hLs
       have hnx := nxt_i h7 hnlen
       have hnl := nxt_lt h7
       have hed : (edges L)[j]? = some (a.p, b.p) := by rw [pa, pb]; rw [hnL] at hnl ⊢; exact edges_get (at2_some (by omega)) (at2_some hnl)
       rw [← pa] at ca
       obtain ⟨u, hu⟩ : ∃ u, u = nxt n j := ⟨_, rfl⟩
       rw [← hu] at hnx hnl rb
       rw [← hg] at ra rb
       conv => whnf
       refine ⟨⟨by omega, by omega⟩, ?_⟩
       simp only [toNat_cast, rowAdd_eq, Nat.zero_add]
       conv => whnf
       refine ⟨by show j < n; omega, ?_⟩
       conv => whnf
       rw [ra]
       conv => whnf
       refine .inl ⟨9, [[], [], [1], [], [3], [1, 2, 3, 4], [0, 1, 2, 3, 4, 5], [0, 1, 2, 3, 4, 5, 6], [], [0, 1, 2, 3, 4, 5, 6, 7, 8]], by kernel_rfl, ?_⟩
       conv => whnf
       rw [show decide ((n : Int) ≠ 0) = true from decide_eq_true (by omega)]
       conv => whnf
       rw [hnx]
       refine ⟨⟨by omega, by omega⟩, ?_⟩
       simp only [toNat_cast, rowAdd_eq, Nat.zero_add]
       conv => whnf
       refine ⟨by show u < n; omega, ?_⟩
       conv => whnf
       rw [rb]
       conv => whnf
       refine .inl ⟨8, [[], [], [0, 1], [], [], [0, 1, 2, 3, 4], [], [], [0, 1, 2, 3, 4, 5, 6, 7], [0, 1, 2, 3, 4, 5, 6, 7, 8]], by kernel_rfl, ?_⟩
       conv => whnf
       obtain ⟨x, ex, px, sx, qx⟩ := hideR (val_sz qm qa)
       refine ⟨(m, a), [5], rfl, ⟨R3.sz_mono sm (by decide), PV.sz_mono sa (by decide)⟩, ?_⟩
       rw [show lvalS.blks (m, a) = [.flat false 1 9 (fun _ => R3.cells m)] from rfl, show lvalS.val (m, a) = x.v from ex, show lvalS.new (m, a) = none from rfl]
       conv => whnf
       refine ⟨line_blk2 m, ?_⟩
       conv => whnf
       refine ⟨_, rfl, ?_⟩
       conv => whnf
       obtain ⟨y, ey, py, sy, qy⟩ := hideR (val_sz qm qb)
       refine ⟨(m, b), [5], rfl, ⟨R3.sz_mono sm (by decide), PV.sz_mono sb (by decide)⟩, ?_⟩
       rw [show lvalS.blks (m, b) = [.flat false 1 9 (fun _ => R3.cells m)] from rfl, show lvalS.val (m, b) = y.v from ey, show lvalS.new (m, b) = none from rfl]
       conv => whnf
       refine ⟨line_blk2 m, ?_⟩
       conv => whnf
       refine ⟨_, rfl, ?_⟩
       conv => whnf
       obtain ⟨z, ez, pz⟩ := hideZ (cmpQ x.q 0)
       refine ⟨x, rfl, RV.sz_ok sx (by decide), ?_⟩
       rw [show qsignS.val x = .int .i64 z from ez]
       conv => whnf
       have hz := cmpQ_range x.q 0
       rw [← pz] at hz
       have hst := (flat_step (f := cutF m.q) hed).trans (congrArg (_ ++ ·) (cut_rows px py rfl))
       rw [← hO, ← pz] at hst
       by_cases h8 : z ≥ 0
       ·rw [show decide (z ≥ 0) = true from decide_eq_true h8]
        rw [if_pos h8] at hst
        conv => whnf
        refine ⟨rfl, ?_⟩
        conv => whnf
        refine ⟨rfl, ?_⟩
        conv => whnf
        refine ⟨rfl, ?_⟩
        conv => whnf
        refine ⟨⟨rfl, by show (q + 1 + 1) * 80 ≤ 140737488355328; omega⟩, ?_⟩
        conv => whnf
        refine ⟨rfl, ?_⟩
        conv => whnf
        refine .inl ⟨3, [[], [0], [], [0, 1, 2], [0, 1, 2, 3], [0, 1, 2, 3, 4]], by kernel_rfl, ?_⟩
        conv => whnf
        obtain ⟨z3, ez3, pz3⟩ := hideZ (cmpQ x.q 0)
        refine ⟨x, rfl, RV.sz_ok sx (by decide), ?_⟩
        rw [show qsignS.val x = .int .i64 z3 from ez3]
        conv => whnf
        obtain ⟨z2, ez2, pz2⟩ := hideZ (cmpQ y.q 0)
        refine ⟨y, rfl, RV.sz_ok sy (by decide), ?_⟩
        rw [show qsignS.val y = .int .i64 z2 from ez2]
        conv => whnf
        have hz2 := cmpQ_range y.q 0
        rw [← pz2] at hz2
        obtain rfl : z3 = z := pz3.trans pz.symm
        rw [show IntKind.i64.wrap (z3 * z2) = z3 * z2 from by rcases hz with rfl | rfl | rfl <;> rcases hz2 with rfl | rfl | rfl <;> rfl]
        rw [← pz2] at hst
        by_cases h9 : z3 * z2 < 0
        ·rw [show decide (z3 * z2 < 0) = true from decide_eq_true h9]
         rw [if_pos h9] at hst
         conv => whnf
         refine .inr (.inr (.inl ⟨9, 1, [[], [], [], [1, 2], [0, 1, 2, 3], [0, 1, 2, 3, 4], [0, 1, 2, 3, 4, 5], [0, 1, 2, 3, 4, 5], [], [0, 1, 2, 3, 4, 5, 6, 8], [0, 1, 2, 3, 4, 5, 6, 7, 8, 9]], [7], by kernel_rfl, ?_⟩))
         conv => whnf
         obtain ⟨d2, ed2, pd2, sd2, qd2⟩ := hideR (QB.sub qx qy)
         refine ⟨(x, y), rfl, ⟨RV.sz_ok sx (by decide), RV.sz_ok sy (by decide)⟩, ?_⟩
         rw [show qsubS.val (x, y) = d2.v from ed2]
         conv => whnf
         obtain ⟨t, et, pt, st, qt⟩ := hideR (QB.div qx qd2 (by decide))
         obtain ⟨e, ee, pe⟩ := hideZ (if d2.q = 0 then 10 else 0)
         refine ⟨(x, d2), rfl, ⟨RV.sz_ok sx (by decide), RV.sz_ok sd2 (by decide)⟩, ?_⟩
         rw [show qquoS.val (x, d2) = .tuple ⟨[t.v, .int .i64 e]⟩ from by rw [← et, ← ee]; rfl]
         conv => whnf
         obtain ⟨w, ew, pw, sw, qw⟩ := hideP (at_sz qa qb qt)
         refine ⟨((a, b), t), rfl, ⟨⟨PV.sz_mono sa (by decide), PV.sz_mono sb (by decide)⟩, RV.sz_mono st (by decide)⟩, ?_⟩
         rw [show vatS.val ((a, b), t) = w.v from ew]
         conv => whnf
         have cw := (PV.v_eq ew).symm
         rw [← pw] at cw
         rw [pd2] at pt
         refine ⟨rfl, ?_⟩
         conv => whnf
         refine ⟨rfl, ?_⟩
         conv => whnf
         refine ⟨rfl, ?_⟩
         conv => whnf
         refine ⟨⟨rfl, by show (q + 1 + 1 + 1) * 80 ≤ 140737488355328; omega⟩, ?_⟩
         conv => whnf
         refine ⟨rfl, ?_⟩
         conv => whnf
         rw [e8]
         refine .inr ⟨[0, 1, 2, 3, 4, 5, 6, 7, 8, 45], [0, 1, 2, 11, 12, 13], ?_⟩
         conv => whnf
         intro _
         conv => whnf
         refine ⟨_, ?_, j + 1, (O ++ [a.p]) ++ [w.p], q + 1 + 1 + 1, _, (.keep (.keep (.keep (.s8 (.keep (.keep (.keep (.s8 (.s8 (.s8 (.s8 (.s8 (.s8 (.skip (.nil))))))))))))))), rfl, rfl, ?_⟩
         ·omega
         ·exact ⟨⟨by omega, by rw [List.length_append, List.length_append, ← hq]; rfl⟩, by rw [hst, pw, pt]; simp, appQ_row (O := O ++ [a.p]) (by rw [List.length_append, ← hq]; rfl) (appQ_row hq hF ca rfl) cw rfl⟩
        ·rw [show decide (z3 * z2 < 0) = false from decide_eq_false h9]
         rw [if_neg h9] at hst
         conv => whnf
         rw [e8]
         refine .inr ⟨[0, 1, 2, 3, 4, 5, 6, 7, 8, 30], [0, 1, 2, 11, 12, 13], ?_⟩
         conv => whnf
         intro _
         conv => whnf
         refine ⟨_, ?_, j + 1, O ++ [a.p], q + 1 + 1, _, (.keep (.keep (.keep (.s8 (.keep (.keep (.keep (.s8 (.s8 (.s8 (.s8 (.s8 (.s8 (.skip (.nil))))))))))))))), rfl, rfl, ?_⟩
         ·omega
         ·exact ⟨⟨by omega, by rw [List.length_append, ← hq]; rfl⟩, by rw [hst]; simp, appQ_row hq hF ca rfl⟩
       ·rw [show decide (z ≥ 0) = false from decide_eq_false h8]
        rw [if_neg h8] at hst
        conv => whnf
        refine .inl ⟨3, [[], [0], [], [0, 1, 2], [0, 1, 2, 3], [0, 1, 2, 3, 4]], by kernel_rfl, ?_⟩
        conv => whnf
        obtain ⟨z3, ez3, pz3⟩ := hideZ (cmpQ x.q 0)
        refine ⟨x, rfl, RV.sz_ok sx (by decide), ?_⟩
        rw [show qsignS.val x = .int .i64 z3 from ez3]
        conv => whnf
        obtain ⟨z2, ez2, pz2⟩ := hideZ (cmpQ y.q 0)
        refine ⟨y, rfl, RV.sz_ok sy (by decide), ?_⟩
        rw [show qsignS.val y = .int .i64 z2 from ez2]
        conv => whnf
        have hz2 := cmpQ_range y.q 0
        rw [← pz2] at hz2
        obtain rfl : z3 = z := pz3.trans pz.symm
        rw [show IntKind.i64.wrap (z3 * z2) = z3 * z2 from by rcases hz with rfl | rfl | rfl <;> rcases hz2 with rfl | rfl | rfl <;> rfl]
        rw [← pz2] at hst
        by_cases h9 : z3 * z2 < 0
        ·rw [show decide (z3 * z2 < 0) = true from decide_eq_true h9]
         rw [if_pos h9] at hst
         conv => whnf
         refine .inr (.inr (.inl ⟨9, 1, [[], [], [], [1, 2], [0, 1, 2, 3], [0, 1, 2, 3, 4], [0, 1, 2, 3, 4, 5], [0, 1, 2, 3, 4, 5], [], [0, 1, 2, 3, 4, 5, 6, 8], [0, 1, 2, 3, 4, 5, 6, 7, 8, 9]], [7], by kernel_rfl, ?_⟩))
         conv => whnf
         obtain ⟨d2, ed2, pd2, sd2, qd2⟩ := hideR (QB.sub qx qy)
         refine ⟨(x, y), rfl, ⟨RV.sz_ok sx (by decide), RV.sz_ok sy (by decide)⟩, ?_⟩
         rw [show qsubS.val (x, y) = d2.v from ed2]
         conv => whnf
         obtain ⟨t, et, pt, st, qt⟩ := hideR (QB.div qx qd2 (by decide))
         obtain ⟨e, ee, pe⟩ := hideZ (if d2.q = 0 then 10 else 0)
         refine ⟨(x, d2), rfl, ⟨RV.sz_ok sx (by decide), RV.sz_ok sd2 (by decide)⟩, ?_⟩
         rw [show qquoS.val (x, d2) = .tuple ⟨[t.v, .int .i64 e]⟩ from by rw [← et, ← ee]; rfl]
         conv => whnf
         obtain ⟨w, ew, pw, sw, qw⟩ := hideP (at_sz qa qb qt)
         refine ⟨((a, b), t), rfl, ⟨⟨PV.sz_mono sa (by decide), PV.sz_mono sb (by decide)⟩, RV.sz_mono st (by decide)⟩, ?_⟩
         rw [show vatS.val ((a, b), t) = w.v from ew]
         conv => whnf
         have cw := (PV.v_eq ew).symm
         rw [← pw] at cw
         rw [pd2] at pt
         refine ⟨rfl, ?_⟩
         conv => whnf
         refine ⟨rfl, ?_⟩
         conv => whnf
         refine ⟨rfl, ?_⟩
         conv => whnf
         refine ⟨⟨rfl, by show (q + 1 + 1) * 80 ≤ 140737488355328; omega⟩, ?_⟩
         conv => whnf
         refine ⟨rfl, ?_⟩
         conv => whnf
         rw [e8]
         refine .inr ⟨[0, 1, 2, 3, 4, 5, 6, 7, 8, 42], [0, 1, 2, 11, 12, 13], ?_⟩
         conv => whnf
         intro _
         conv => whnf
         refine ⟨_, ?_, j + 1, O ++ [w.p], q + 1 + 1, _, (.keep (.keep (.keep (.s8 (.keep (.keep (.keep (.s8 (.s8 (.s8 (.s8 (.s8 (.s8 (.skip (.nil))))))))))))))), rfl, rfl, ?_⟩
         ·omega
         ·exact ⟨⟨by omega, by rw [List.length_append, ← hq]; rfl⟩, by rw [hst, pw, pt]; simp, appQ_row hq hF cw rfl⟩
        ·rw [show decide (z3 * z2 < 0) = false from decide_eq_false h9]
         rw [if_neg h9] at hst
         conv => whnf
         rw [e8]
         refine .inr ⟨[0, 1, 2, 3, 4, 5, 6, 7, 8, 9], [0, 1, 2, 11, 12, 13], ?_⟩
         conv => whnf
         intro _
         conv => whnf
         refine ⟨_, ?_, j + 1, O, q + 1, F, (.keep (.keep (.keep (.s8 (.keep (.keep (.keep (.s8 (.s8 (.s8 (.s8 (.s8 (.s8 (.skip (.nil))))))))))))))), rfl, rfl, ?_⟩
         ·omega
         ·exact ⟨⟨by omega, hq⟩, by rw [hst]; simp, hF⟩
      ·have h7 : j = n := by
        have := of_decide_eq_false h7
        omega
       subst h7
       have hcut : cutR m.q L = O := by rw [hO, cutF_eq, hnL, ← edges_length L, List.take_length]
       obtain ⟨p1, r1, rfl⟩ : ∃ p1 r1, O = p1 :: r1 := List.exists_cons_of_ne_nil (fun e => by rw [e] at hq; cases hq)
       obtain rfl : q = r1.length := by simpa using hq
       conv => whnf
       rw [e7]
       refine .inr ⟨[0, 9], [9, 59, 60, 61], ?_⟩
       conv => whnf
       intro _
       conv => whnf
       refine ⟨_, ?_, k + 1, p1 :: r1, capU, _, (.s8 (.skip (.keep (.s8 (.s8 (.s8 (.s8 (.s8 (.s8 (.skip (.keep (.keep (.keep (.s8 (.s8 (.skip (.nil))))))))))))))))), rfl, rfl, ?_⟩
       ·omega
       ·exact ⟨⟨by omega, by rw [hstep, hcut]⟩, _, fun _ => rfl, BlkLe.flat_rows (fun h => h) hF (fun r hr => rfl)⟩
   ·have h6 : k = i := by
     have := of_decide_eq_false h6
     omega
    subst h6
    rw [show Q.take k = Q from List.take_of_length_le (by omega)] at hP
    cases P with
    | nil =>
     conv => whnf
     exact fin0 11 _ (by rw [hE, if_pos hP.symm]) (by decide)
    | cons p r =>
     obtain ⟨n, hn⟩ : ∃ n, n = r.length + 1 := ⟨_, rfl⟩
     obtain ⟨L, hL⟩ : ∃ L, L = p :: r := ⟨_, rfl⟩
     obtain ⟨g, hg⟩ : ∃ g, g = rowsQ L := ⟨_, rfl⟩
     have hnL : n = L.length := by rw [hL, hn]; rfl
     have hW : BlkLe (.flat true n 6 g) W := by rw [hnL, hg, hL, ← hP' (by simp)]; exact hW
     rw [show pVal (p :: r) d = .slice (some ⟨1, 0, none⟩) n d from by rw [hn]; rfl]
     rw [← hL] at hP
     have hLne : L ≠ [] := by rw [hL]; simp
     rw [← hP] at hE
     rw [if_neg hLne] at hE
     have hpos : 0 < n := by omega
     have hln : n ≤ 1099511627776 := by
      have := (hsz (by omega) k (by omega)).1
      rw [show Q.take k = Q from List.take_of_length_le (by omega), ← hP, ← hnL] at this
      omega
     have hLs : ∀ v ∈ L, Q2.sz 262144 v := by
      have := (hsz (by omega) k (by omega)).2
      rw [show Q.take k = Q from List.take_of_length_le (by omega), ← hP] at this
      exact this
     clear hL hn
     have hRl : (rotR (cleanL L)).length = (cleanL L).length := rotR_length _
     have hcom : comP B Q = rotR (cleanL L) := by unfold comP; rw [← hP]
     obtain ⟨M, hM⟩ : ∃ M, M = (cleanL L).length := ⟨_, rfl⟩
     obtain ⟨gs, hgs⟩ : ∃ M, M = rowsQ (rotR (cleanL L)) := ⟨_, rfl⟩
     obtain ⟨cu, hcu⟩ : ∃ c, c = capU := ⟨_, rfl⟩
     rw [← hM] at hE hRl
     conv => whnf
     rw [show (((n : Nat) : Int) == 0) = false from by simp; omega]
     conv => whnf
     refine ⟨(L, d), [1], by rw [show cleanS.args (L, d) = [.slice (some ⟨0, 0, none⟩) n d] from by rw [hnL]; rfl]; rfl, ⟨hLne, by show L.length ≤ _; omega, fun v hv => Q2.mono (hLs v hv) (by decide)⟩, ?_⟩
     rw [show cleanS.blks (L, d) = [.flat false n 6 g] from by rw [hnL, hg]; rfl, show cleanS.val (L, d) = .slice (some ⟨1, 0, none⟩) M cu from by rw [hM, hcu]; rfl, show cleanS.new (L, d) = some (.flat true M 6 gs) from by rw [hM, hgs]; rfl]
     conv => whnf
     refine ⟨⟨(fun h => by cases h), hW.esz, hW.n, hW.row, hW.flat⟩, ?_⟩
     conv => whnf
     refine ⟨_, rfl, ?_⟩
     conv => whnf
     by_cases h7 : M < 3
     ·rw [show decide ((M : Int) < 3) = true from decide_eq_true (by omega)]
      conv => whnf
      exact fin0 12 _ (by rw [hE, if_pos h7]) (by decide)
     ·rw [show decide ((M : Int) < 3) = false from decide_eq_false (by omega)]
      rw [if_neg h7] at hE
      conv => whnf
      obtain ⟨f1, f2⟩ := common_new (b := ((x1, y1), (x2, y2))) (i := some (l, c)) (by rw [hB, hQ] at hE; exact hE) (by rw [hB, hQ] at hcom; exact hcom) hRl hgs
      rw [hK]
      unfold qRes
      rw [f1, f2]
      refine ⟨2, ?_⟩
      conv => whnf
      exact ⟨⟨rfl, BlkLe.flat_flat (fun h => h) (fun r hr => by rw [hgs]; rfl)⟩, _, rfl, by rw [hcu]; exact .refl _⟩
end Go.Proofs.Ytppeponndkfbkaa
