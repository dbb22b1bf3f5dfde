import Derived.Test.YtppeponndkfbkaaGreatRH
set_option linter.unusedVariables false
set_option linter.unusedSimpArgs false
/- Contracts of vector and of the reference vectors: sums, products. -/
set_option maxRecDepth 20000
set_option maxHeartbeats 1000000
namespace Go.Proofs.YtppeponndkfbkaaGreat
open Go Go.Ae
def Eva : Env := { tt := tt, eqs := [], Φ := fun g => match g with
 | 91 => some (.p qaddS)
 | 52 => some (.p qsubS)
 | 90 => some (.p qmulS)
 | _ => none }
theorem Evaok : EnvOk Tryz.prog Eva := ⟨tt_ok, fun t h => by simp [Eva] at h, (fun g S h => by
 simp only [Eva] at h
 split at h
 ·cases h; exact qadd_ok
 ·cases h; exact qsub_ok
 ·cases h; exact qmul_ok
 ·cases h), fun g F h => by simp [Eva] at h⟩
theorem each_ft : FTOk Tryz.prog 83 (fnK Eva drawT Tryz.f83) := by
 exact ft_of Evaok Dok Tryz.func83 (enters_of Tryz.func83 (by kernel_rfl) rfl)
def EvbW : FuncId → Option FT := fun g => match g with
 | 83 => some (fnK Eva drawT Tryz.f83)
 | _ => none
def Evb : Env := { tt := tt, eqs := [], Ψ := EvbW, Φ := fun g => match g with
 | 40 => some (.p qofS)
 | 91 => some (.p qaddS)
 | 52 => some (.p qsubS)
 | 67 => some (.p qcmpS)
 | _ => none }
theorem Evbok : EnvOk Tryz.prog Evb := ⟨tt_ok, fun t h => by simp [Evb] at h, (fun g S h => by
 simp only [Evb] at h
 split at h
 ·cases h; exact qof_ok
 ·cases h; exact qadd_ok
 ·cases h; exact qsub_ok
 ·cases h; exact qcmp_ok
 ·cases h), (fun g F h => by
 simp only [Evb, EvbW] at h
 split at h
 ·cases h; exact each_ft
 ·cases h)⟩
theorem vof_ok : Snd Tryz.prog 39 vofS := by
 refine snd_of Evbok Dok Tryz.func39 (enters_of Tryz.func39 (by kernel_rfl) rfl) (fun _ => rfl) (fun _ => rfl) ?_
 intro ⟨n, m⟩ hp
 have hp : ok1 n ∧ ok1 m := hp
 obtain ⟨x, hx⟩ : ∃ x : Rat, x = (n : Rat) := ⟨_, rfl⟩
 obtain ⟨y, hy⟩ : ∃ x : Rat, x = (m : Rat) := ⟨_, rfl⟩
 conv => whnf
 refine ⟨n, rfl, hp.1, ?_⟩
 rw [show qofS.val n = (RV.of x).v from by rw [hx]; rfl]
 conv => whnf
 refine ⟨m, rfl, hp.2, ?_⟩
 rw [show qofS.val m = (RV.of y).v from by rw [hy]; rfl]
 conv => whnf
 show PV.v (RV.of x, RV.of y) = encP _ _
 rw [hx, hy]
 rfl
theorem vadd_ok : Snd Tryz.prog 64 vaddS := by
 refine snd_of Evbok Dok Tryz.func64 (enters_of Tryz.func64 (by kernel_rfl) rfl) (fun _ => rfl) (fun _ => rfl) ?_
 intro ⟨p, q⟩ hp
 have hp : p.sz 8589934592 ∧ q.sz 8589934592 := hp
 obtain ⟨x, hx⟩ : ∃ x, x = p.1.q + q.1.q := ⟨_, rfl⟩
 obtain ⟨y, hy⟩ : ∃ x, x = p.2.q + q.2.q := ⟨_, rfl⟩
 conv => whnf
 refine .inl ⟨11, [[], [], [1], [], [3], [0, 1, 2, 3, 4], [], [], [7], [], [9], [0, 1, 2, 3, 4, 5, 6, 7, 8, 9, 10], [0, 1, 2, 3, 4, 5, 6, 7, 8, 9, 10, 11], [0, 1, 2, 3, 4, 5, 6, 7, 8, 9, 10, 11, 12]], by kernel_rfl, ?_⟩
 conv => whnf
 refine ⟨(p.1, q.1), rfl, ⟨hp.1.1, hp.2.1⟩, ?_⟩
 rw [show qaddS.val (p.1, q.1) = (RV.of x).v from by rw [hx]; rfl]
 conv => whnf
 refine ⟨(p.2, q.2), rfl, ⟨hp.1.2, hp.2.2⟩, ?_⟩
 rw [show qaddS.val (p.2, q.2) = (RV.of y).v from by rw [hy]; rfl]
 conv => whnf
 show PV.v (RV.of x, RV.of y) = encP _ _
 rw [hx, hy]
 rfl
theorem vsub_ok : Snd Tryz.prog 41 vsubS := by
 refine snd_of Evbok Dok Tryz.func41 (enters_of Tryz.func41 (by kernel_rfl) rfl) (fun _ => rfl) (fun _ => rfl) ?_
 intro ⟨p, q⟩ hp
 have hp : p.sz 8589934592 ∧ q.sz 8589934592 := hp
 obtain ⟨x, hx⟩ : ∃ x, x = p.1.q - q.1.q := ⟨_, rfl⟩
 obtain ⟨y, hy⟩ : ∃ x, x = p.2.q - q.2.q := ⟨_, rfl⟩
 conv => whnf
 refine .inl ⟨11, [[], [], [1], [], [3], [0, 1, 2, 3, 4], [], [], [7], [], [9], [0, 1, 2, 3, 4, 5, 6, 7, 8, 9, 10], [0, 1, 2, 3, 4, 5, 6, 7, 8, 9, 10, 11], [0, 1, 2, 3, 4, 5, 6, 7, 8, 9, 10, 11, 12]], by kernel_rfl, ?_⟩
 conv => whnf
 refine ⟨(p.1, q.1), rfl, ⟨hp.1.1, hp.2.1⟩, ?_⟩
 rw [show qsubS.val (p.1, q.1) = (RV.of x).v from by rw [hx]; rfl]
 conv => whnf
 refine ⟨(p.2, q.2), rfl, ⟨hp.1.2, hp.2.2⟩, ?_⟩
 rw [show qsubS.val (p.2, q.2) = (RV.of y).v from by rw [hy]; rfl]
 conv => whnf
 show PV.v (RV.of x, RV.of y) = encP _ _
 rw [hx, hy]
 rfl
theorem vscale_ok : Snd Tryz.prog 51 vscaleS := by
 refine snd_of Evbok Dok Tryz.func51 (enters_of Tryz.func51 (by kernel_rfl) rfl) (fun _ => rfl) (fun _ => rfl) ?_
 intro ⟨p, q⟩ hp
 have hp : p.sz 8589934592 ∧ q.sz 8589934592 := hp
 obtain ⟨x, hx⟩ : ∃ x, x = p.1.q * q.q := ⟨_, rfl⟩
 obtain ⟨y, hy⟩ : ∃ x, x = p.2.q * q.q := ⟨_, rfl⟩
 conv => whnf
 refine .inl ⟨11, [[], [], [1], [], [3], [0, 1, 2, 3, 4], [], [], [7], [], [9], [0, 1, 2, 3, 4, 5, 6, 7, 8, 9, 10], [0, 1, 2, 3, 4, 5, 6, 7, 8, 9, 10, 11], [0, 1, 2, 3, 4, 5, 6, 7, 8, 9, 10, 11, 12]], by kernel_rfl, ?_⟩
 conv => whnf
 refine ⟨(p.1, q), rfl, ⟨hp.1.1, hp.2⟩, ?_⟩
 rw [show qmulS.val (p.1, q) = (RV.of x).v from by rw [hx]; rfl]
 conv => whnf
 refine ⟨(p.2, q), rfl, ⟨hp.1.2, hp.2⟩, ?_⟩
 rw [show qmulS.val (p.2, q) = (RV.of y).v from by rw [hy]; rfl]
 conv => whnf
 show PV.v (RV.of x, RV.of y) = encP _ _
 rw [hx, hy]
 rfl
theorem vdot_ok : Snd Tryz.prog 53 vdotS := by
 refine snd_of Evbok Dok Tryz.func53 (enters_of Tryz.func53 (by kernel_rfl) rfl) (fun _ => rfl) (fun _ => rfl) ?_
 intro ⟨p, q⟩ hp
 have hp : p.sz 1073741824 ∧ q.sz 1073741824 := hp
 obtain ⟨x, hx⟩ : ∃ x, x = p.1.q * q.1.q := ⟨_, rfl⟩
 obtain ⟨y, hy⟩ : ∃ x, x = p.2.q * q.2.q := ⟨_, rfl⟩
 obtain ⟨z, hz⟩ : ∃ z, z = x + y := ⟨_, rfl⟩
 have sx : (RV.of x).ok := RV.sz_ok (RV.of_sz (by rw [hx]; exact (RV.qb' hp.1.1 (by decide)).mul (RV.qb' hp.2.1 (by decide)))) (by decide)
 have sy : (RV.of y).ok := RV.sz_ok (RV.of_sz (by rw [hy]; exact (RV.qb' hp.1.2 (by decide)).mul (RV.qb' hp.2.2 (by decide)))) (by decide)
 conv => whnf
 refine .inl ⟨11, [[], [], [1], [], [3], [0, 1, 2, 3, 4], [], [], [7], [], [9], [0, 1, 2, 3, 4, 5, 6, 7, 8, 9, 10], [0, 1, 2, 3, 4, 5, 6, 7, 8, 9, 10, 11], [0, 1, 2, 3, 4, 5, 6, 7, 8, 9, 10, 11, 12]], by kernel_rfl, ?_⟩
 conv => whnf
 refine ⟨(p.1, q.1), rfl, ⟨RV.sz_ok hp.1.1 (by decide), RV.sz_ok hp.2.1 (by decide)⟩, ?_⟩
 rw [show qmulS.val (p.1, q.1) = (RV.of x).v from by rw [hx]; rfl]
 conv => whnf
 refine ⟨(p.2, q.2), rfl, ⟨RV.sz_ok hp.1.2 (by decide), RV.sz_ok hp.2.2 (by decide)⟩, ?_⟩
 rw [show qmulS.val (p.2, q.2) = (RV.of y).v from by rw [hy]; rfl]
 conv => whnf
 refine ⟨(RV.of x, RV.of y), rfl, ⟨sx, sy⟩, ?_⟩
 rw [show qaddS.val (RV.of x, RV.of y) = (RV.of z).v from by
  show encQ ((RV.of x).q + (RV.of y).q) = _
  rw [RV.of_q, RV.of_q, hz]; rfl]
 conv => whnf
 show (RV.of z).v = encQ _
 rw [hz, hx, hy]
 rfl
theorem vcross_ok : Snd Tryz.prog 60 vcrossS := by
 refine snd_of Evbok Dok Tryz.func60 (enters_of Tryz.func60 (by kernel_rfl) rfl) (fun _ => rfl) (fun _ => rfl) ?_
 intro ⟨p, q⟩ hp
 have hp : p.sz 1073741824 ∧ q.sz 1073741824 := hp
 obtain ⟨x, hx⟩ : ∃ x, x = p.1.q * q.2.q := ⟨_, rfl⟩
 obtain ⟨y, hy⟩ : ∃ x, x = p.2.q * q.1.q := ⟨_, rfl⟩
 obtain ⟨z, hz⟩ : ∃ z, z = x - y := ⟨_, rfl⟩
 have sx : (RV.of x).ok := RV.sz_ok (RV.of_sz (by rw [hx]; exact (RV.qb' hp.1.1 (by decide)).mul (RV.qb' hp.2.2 (by decide)))) (by decide)
 have sy : (RV.of y).ok := RV.sz_ok (RV.of_sz (by rw [hy]; exact (RV.qb' hp.1.2 (by decide)).mul (RV.qb' hp.2.1 (by decide)))) (by decide)
 conv => whnf
 refine .inl ⟨11, [[], [], [1], [], [3], [0, 1, 2, 3, 4], [], [], [7], [], [9], [0, 1, 2, 3, 4, 5, 6, 7, 8, 9, 10], [0, 1, 2, 3, 4, 5, 6, 7, 8, 9, 10, 11], [0, 1, 2, 3, 4, 5, 6, 7, 8, 9, 10, 11, 12]], by kernel_rfl, ?_⟩
 conv => whnf
 refine ⟨(p.1, q.2), rfl, ⟨RV.sz_ok hp.1.1 (by decide), RV.sz_ok hp.2.2 (by decide)⟩, ?_⟩
 rw [show qmulS.val (p.1, q.2) = (RV.of x).v from by rw [hx]; rfl]
 conv => whnf
 refine ⟨(p.2, q.1), rfl, ⟨RV.sz_ok hp.1.2 (by decide), RV.sz_ok hp.2.1 (by decide)⟩, ?_⟩
 rw [show qmulS.val (p.2, q.1) = (RV.of y).v from by rw [hy]; rfl]
 conv => whnf
 refine ⟨(RV.of x, RV.of y), rfl, ⟨sx, sy⟩, ?_⟩
 rw [show qsubS.val (RV.of x, RV.of y) = (RV.of z).v from by
  show encQ ((RV.of x).q - (RV.of y).q) = _
  rw [RV.of_q, RV.of_q, hz]; rfl]
 conv => whnf
 show (RV.of z).v = encQ _
 rw [hz, hx, hy]
 rfl
theorem vcmp_ok : Snd Tryz.prog 31 vcmpS := by
 refine snd_of Evbok Dok Tryz.func31 (enters_of Tryz.func31 (by kernel_rfl) rfl) (fun _ => rfl) (fun _ => rfl) ?_
 intro ⟨p, q⟩ hp
 have hp : p.sz 8589934592 ∧ q.sz 8589934592 := hp
 obtain ⟨x, hx⟩ : ∃ x, x = cmpQ p.1.q q.1.q := ⟨_, rfl⟩
 obtain ⟨y, hy⟩ : ∃ x, x = cmpQ p.2.q q.2.q := ⟨_, rfl⟩
 have fin : ∀ z : Int, z = (if x ≠ 0 then x else y) → Value.int .i64 z = vcmpS.val (p, q) := fun z h => by rw [h, hx, hy]; rfl
 conv => whnf
 refine ⟨(p.1, q.1), rfl, ⟨hp.1.1, hp.2.1⟩, ?_⟩
 rw [show qcmpS.val (p.1, q.1) = .int .i64 x from by rw [hx]; rfl]
 conv => whnf
 refine br_intro (fun h => ?_) (fun h => ?_)
 ·have h : x ≠ 0 := by
   intro e
   subst e
   simp at h
  conv => whnf
  exact fin _ (if_pos h).symm
 ·have h : x = 0 := by simpa using h
  conv => whnf
  refine ⟨(p.2, q.2), rfl, ⟨hp.1.2, hp.2.2⟩, ?_⟩
  rw [show qcmpS.val (p.2, q.2) = .int .i64 y from by rw [hy]; rfl]
  conv => whnf
  exact fin _ (if_neg (fun e => e h)).symm
end Go.Proofs.YtppeponndkfbkaaGreat
/- Contracts of vector and of the reference vectors: checks, extremes. -/
set_option maxRecDepth 20000
set_option maxHeartbeats 1000000
namespace Go.Proofs.YtppeponndkfbkaaGreat
open Go Go.Ae
def Evf : Env := { tt := tt, eqs := [], Φ := fun g => match g with
 | 41 => some (.p vsubS)
 | 51 => some (.p vscaleS)
 | 64 => some (.p vaddS)
 | 53 => some (.p vdotS)
 | _ => none }
theorem Evfok : EnvOk Tryz.prog Evf := ⟨tt_ok, fun t h => by simp [Evf] at h, (fun g S h => by
 simp only [Evf] at h
 split at h
 ·cases h; exact vsub_ok
 ·cases h; exact vscale_ok
 ·cases h; exact vadd_ok
 ·cases h; exact vdot_ok
 ·cases h), fun g F h => by simp [Evf] at h⟩
theorem vat_ok : Snd Tryz.prog 105 vatS := by
 refine snd_of Evfok Dok Tryz.func105 (enters_of Tryz.func105 (by kernel_rfl) rfl) (fun _ => rfl) (fun _ => rfl) ?_
 intro ⟨⟨p, q⟩, t⟩ hp
 have hp : (p.sz 268435456 ∧ q.sz 268435456) ∧ t.sz 268435456 := hp
 obtain ⟨⟨hp, hq⟩, ht⟩ := hp
 obtain ⟨x, hx⟩ : ∃ x, x = q.1.q - p.1.q := ⟨_, rfl⟩
 obtain ⟨y, hy⟩ : ∃ x, x = q.2.q - p.2.q := ⟨_, rfl⟩
 obtain ⟨x2, hx2⟩ : ∃ z, z = x * t.q := ⟨_, rfl⟩
 obtain ⟨y2, hy2⟩ : ∃ z, z = y * t.q := ⟨_, rfl⟩
 obtain ⟨x3, hx3⟩ : ∃ z, z = p.1.q + x2 := ⟨_, rfl⟩
 obtain ⟨y3, hy3⟩ : ∃ z, z = p.2.q + y2 := ⟨_, rfl⟩
 have bx : QB x 536870913 := by rw [hx]; exact (RV.qb' hq.1 (by decide)).sub (RV.qb' hp.1 (by decide))
 have byy : QB y 536870913 := by rw [hy]; exact (RV.qb' hq.2 (by decide)).sub (RV.qb' hp.2 (by decide))
 have bx2 : QB x2 805306369 := by rw [hx2]; exact bx.mul (RV.qb' ht (by decide))
 have by2 : QB y2 805306369 := by rw [hy2]; exact byy.mul (RV.qb' ht (by decide))
 conv => whnf
 refine .inl ⟨6, [[], [], [], [1, 2], [], [1, 2, 3, 4], [0, 1, 2, 3, 4, 5], [0, 1, 2, 3, 4, 5, 6]], by kernel_rfl, ?_⟩
 conv => whnf
 refine ⟨(q, p), rfl, ⟨PV.sz_mono hq (by decide), PV.sz_mono hp (by decide)⟩, ?_⟩
 rw [show vsubS.val (q, p) = PV.v (RV.of x, RV.of y) from by rw [hx, hy]; rfl]
 conv => whnf
 refine ⟨((RV.of x, RV.of y), t), rfl, ⟨⟨RV.of_sz (bx.mono (by decide)), RV.of_sz (byy.mono (by decide))⟩, RV.sz_mono ht (by decide)⟩, ?_⟩
 rw [show vscaleS.val ((RV.of x, RV.of y), t) = PV.v (RV.of x2, RV.of y2) from by
  show encP ((RV.of x).q * t.q) ((RV.of y).q * t.q) = _
  rw [RV.of_q, RV.of_q, ← hx2, ← hy2]; rfl]
 conv => whnf
 refine ⟨(p, (RV.of x2, RV.of y2)), rfl, ⟨PV.sz_mono hp (by decide), RV.of_sz (bx2.mono (by decide)), RV.of_sz (by2.mono (by decide))⟩, ?_⟩
 rw [show vaddS.val (p, (RV.of x2, RV.of y2)) = PV.v (RV.of x3, RV.of y3) from by
  show encP (p.1.q + (RV.of x2).q) (p.2.q + (RV.of y2).q) = _
  rw [RV.of_q, RV.of_q, ← hx3, ← hy3]; rfl]
 conv => whnf
 show PV.v (RV.of x3, RV.of y3) = encP _ _
 rw [hx3, hy3, hx2, hy2, hx, hy]
 rfl
end Go.Proofs.YtppeponndkfbkaaGreat
/- Contracts of rational: quotients of rationals. -/
set_option maxRecDepth 20000
set_option maxHeartbeats 1000000
namespace Go.Proofs.YtppeponndkfbkaaGreat
open Go Go.Ae
def Emn : Env := { tt := tt, eqs := [], Φ := fun g => match g with
 | 84 => some (.p ofRS)
 | 98 => some (.p mulS)
 | 97 => some (.p qnewS)
 | _ => none }
theorem Emnok : EnvOk Tryz.prog Emn := ⟨tt_ok, fun t h => by simp [Emn] at h, (fun g S h => by
 simp only [Emn] at h
 split at h
 ·cases h; exact ofR_ok
 ·cases h; exact mul_ok
 ·cases h; exact qnew_ok
 ·cases h), fun g F h => by simp [Emn] at h⟩
theorem qquo_ok : Snd Tryz.prog 61 qquoS := by
 refine snd_of Emnok Dok Tryz.func61 (enters_of Tryz.func61 (by kernel_rfl) rfl) (fun _ => rfl) (fun _ => rfl) ?_
 intro ⟨⟨b, s, t⟩, ⟨b', s', t'⟩⟩ hp
 have hp : RV.ok (b, s, t) ∧ RV.ok (b', s', t') := hp
 obtain ⟨x, hx⟩ : ∃ x, x = RV.den (b, s, t) := ⟨_, rfl⟩
 obtain ⟨y, hy⟩ : ∃ x, x = RV.den (b', s', t') := ⟨_, rfl⟩
 have f1 := RV.fracOk hp.1
 have f2 := RV.fracOk hp.2
 have g1 := RV.den_z (b, s, t)
 have g2 := RV.den_z (b', s', t')
 rw [← hx] at f1 g1
 rw [← hy] at f2 g2
 have hq := quo_q (b, s, t) (b', s', t')
 obtain ⟨B1, m1, h1⟩ := EI.mk' (IV.z (b, s) * IV.z (false, y))
 obtain ⟨B2, m2, h2⟩ := EI.mk' (IV.z (false, x) * IV.z (b', s'))
 have z1 := h1.mul_size (nby_z f1.1.1) (nby_z f2.1.2)
 have z2 := h2.mul_size (nby_z f1.1.2) (nby_z f2.1.1)
 obtain ⟨w, hw⟩ : ∃ w, w = RV.q (b, s, t) / RV.q (b', s', t') := ⟨_, rfl⟩
 obtain ⟨e, he⟩ : ∃ e : Int, e = if RV.q (b', s', t') = 0 then 10 else 0 := ⟨_, rfl⟩
 have hN : qnewS.val ((B1, m1), (B2, m2)) = .tuple ⟨[(RV.of w).v, .int .i64 e]⟩ := by
  show quoV (IV.z (B1, m1)) (IV.z (B2, m2)) = _
  rw [h1.val, h2.val, g1, g2, hw, he]
  exact hq
 conv => whnf
 refine .inl ⟨6, [[], [0], [], [0, 1, 2], [], [], [0, 1, 2, 3, 4, 5], [0, 1, 2, 3, 4, 5, 6]], by kernel_rfl, ?_⟩
 conv => whnf
 refine ⟨(b, s, t), rfl, by have := hp.1.2; show t.size ≤ _; exact Nat.le_trans this (by decide), ?_⟩
 rw [show ofRS.val (b, s, t) = .agg ⟨[.bool b, .string s, .bool false, .string x]⟩ from by rw [hx]; rfl]
 conv => whnf
 refine ⟨(b', s', t'), rfl, by have := hp.2.2; show t'.size ≤ _; exact Nat.le_trans this (by decide), ?_⟩
 rw [show ofRS.val (b', s', t') = .agg ⟨[.bool b', .string s', .bool false, .string y]⟩ from by rw [hy]; rfl]
 conv => whnf
 refine .inl ⟨13, [[], [0], [], [2], [0, 1, 2, 3], [], [5], [], [7], [0, 1, 2, 3, 4, 5, 6, 7, 8], [0, 1, 2, 3, 4, 5, 6, 7, 8, 9], [0, 1, 2, 3, 4, 5, 6, 7, 8, 9, 10], [0, 1, 2, 3, 4, 5, 6, 7, 8, 9, 10], [0, 1, 2, 3, 4, 5, 6, 7, 8, 9, 10, 11, 12], [0, 1, 2, 3, 4, 5, 6, 7, 8, 9, 10, 11, 12, 13]], by kernel_rfl, ?_⟩
 conv => whnf
 refine ⟨((b, s), (false, y)), rfl, ⟨Nat.le_trans f1.1.1 (by decide), Nat.le_trans f2.1.2 (by decide)⟩, ?_⟩
 rw [show mulS.val ((b, s), (false, y)) = .agg ⟨[.bool B1, .string m1]⟩ from h1.enc]
 conv => whnf
 refine ⟨((false, x), (b', s')), rfl, ⟨Nat.le_trans f1.1.2 (by decide), Nat.le_trans f2.1.1 (by decide)⟩, ?_⟩
 rw [show mulS.val ((false, x), (b', s')) = .agg ⟨[.bool B2, .string m2]⟩ from h2.enc]
 conv => whnf
 refine ⟨((B1, m1), (B2, m2)), rfl, ⟨by show m1.size ≤ _; omega, by show m2.size ≤ _; omega⟩, ?_⟩
 rw [hN]
 conv => whnf
 show Value.tuple ⟨[(RV.of w).v, .int .i64 e]⟩ = Value.tuple ⟨[encQ _, .int .i64 _]⟩
 rw [hw, he]
 rfl
end Go.Proofs.YtppeponndkfbkaaGreat
/- Contracts of line. -/
set_option maxRecDepth 20000
set_option maxHeartbeats 1000000
namespace Go.Proofs.YtppeponndkfbkaaGreat
open Go Go.Ae
def Ela : Env := { tt := tt, eqs := [], Φ := fun g => match g with
 | 64 => some (.p vaddS)
 | 41 => some (.p vsubS)
 | 39 => some (.p vofS)
 | 53 => some (.p vdotS)
 | 60 => some (.p vcrossS)
 | 31 => some (.p vcmpS)
 | 51 => some (.p vscaleS)
 | 43 => some (.p qnegS)
 | 52 => some (.p qsubS)
 | 61 => some (.p qquoS)
 | 47 => some (.p qsignS)
 | 40 => some (.p qofS)
 | _ => none }
theorem Elaok : EnvOk Tryz.prog Ela := ⟨tt_ok, fun t h => by simp [Ela] at h, (fun g S h => by
 simp only [Ela] at h
 split at h
 ·cases h; exact vadd_ok
 ·cases h; exact vsub_ok
 ·cases h; exact vof_ok
 ·cases h; exact vdot_ok
 ·cases h; exact vcross_ok
 ·cases h; exact vcmp_ok
 ·cases h; exact vscale_ok
 ·cases h; exact qneg_ok
 ·cases h; exact qsub_ok
 ·cases h; exact qquo_ok
 ·cases h; exact qsign_ok
 ·cases h; exact qof_ok
 ·cases h), fun g F h => by simp [Ela] at h⟩
theorem normal_ok : Snd Tryz.prog 58 normalS := by
 refine snd_of Elaok Dok Tryz.func58 (enters_of Tryz.func58 (by kernel_rfl) rfl) (fun _ => rfl) (fun _ => rfl) ?_
 intro l hp
 conv => whnf
 rfl
theorem along_ok : Snd Tryz.prog 42 alongS := by
 refine snd_of Elaok Dok Tryz.func42 (enters_of Tryz.func42 (by kernel_rfl) rfl) (fun _ => rfl) (fun _ => rfl) ?_
 intro ⟨n, p⟩ hp
 have hp : n.sz 67108864 ∧ p.sz 67108864 := hp
 obtain ⟨sn, sp⟩ := hp
 have qn := PV.psz sn (by decide)
 have qp := PV.psz sp (by decide)
 conv => whnf
 refine .inl ⟨2, [[], [], [0, 1], [0, 1, 2]], by kernel_rfl, ?_⟩
 conv => whnf
 obtain ⟨z, cz, ez, pz, sz, qz⟩ := hidePc (ofsz (0) (0) (by decide) (by decide))
 refine ⟨(((0 : Int), (0 : Int)) : Int × Int), rfl, ⟨⟨by decide, by decide⟩, ⟨by decide, by decide⟩⟩, ?_⟩
 rw [show vofS.val (((0 : Int), (0 : Int)) : Int × Int) = z.v from ez]
 conv => whnf
 obtain ⟨a, ea, pa, sa, qa⟩ := hideP (add_sz qn qz)
 refine ⟨(n, z), rfl, ⟨PV.sz_mono sn (by decide), PV.sz_mono sz (by decide)⟩, ?_⟩
 rw [show vaddS.val (n, z) = a.v from ea]
 conv => whnf
 refine .inl ⟨7, [[], [0], [], [2], [], [], [4, 5], [0, 1, 2, 3, 4, 5, 6], [0, 1, 2, 3, 4, 5, 6, 7]], by kernel_rfl, ?_⟩
 conv => whnf
 obtain ⟨d, ed, pd, sd, qd⟩ := hideR (dot_sz qa qp)
 refine ⟨(a, p), rfl, ⟨PV.sz_mono sa (by decide), PV.sz_mono sp (by decide)⟩, ?_⟩
 rw [show vdotS.val (a, p) = d.v from ed]
 conv => whnf
 have ha := (PV.v_eq ea).symm
 have hd := (RV.v_eq ed).symm
 rw [addz _ _ pz] at ha pa
 rw [pa] at hd
 show R3.v (a.1, a.2, d) = (linV (n.p.1, n.p.2, dotR n.p p.p)).v
 rw [ha, hd]
 rfl
def Elb : Env := { tt := tt, eqs := [], Φ := fun g => match g with
 | 42 => some (.p alongS)
 | 58 => some (.p normalS)
 | 64 => some (.p vaddS)
 | 41 => some (.p vsubS)
 | 53 => some (.p vdotS)
 | 60 => some (.p vcrossS)
 | 31 => some (.p vcmpS)
 | 51 => some (.p vscaleS)
 | 43 => some (.p qnegS)
 | 52 => some (.p qsubS)
 | 61 => some (.p qquoS)
 | 47 => some (.p qsignS)
 | 40 => some (.p qofS)
 | _ => none }
theorem Elbok : EnvOk Tryz.prog Elb := ⟨tt_ok, fun t h => by simp [Elb] at h, (fun g S h => by
 simp only [Elb] at h
 split at h
 ·cases h; exact along_ok
 ·cases h; exact normal_ok
 ·cases h; exact vadd_ok
 ·cases h; exact vsub_ok
 ·cases h; exact vdot_ok
 ·cases h; exact vcross_ok
 ·cases h; exact vcmp_ok
 ·cases h; exact vscale_ok
 ·cases h; exact qneg_ok
 ·cases h; exact qsub_ok
 ·cases h; exact qquo_ok
 ·cases h; exact qsign_ok
 ·cases h; exact qof_ok
 ·cases h), fun g F h => by simp [Elb] at h⟩
theorem lcheck_ok : Snd Tryz.prog 17 lcheckS := by
 refine snd_of Elbok Dok Tryz.func17 (enters_of Tryz.func17 (by kernel_rfl) rfl) (fun _ => rfl) (fun _ => rfl) ?_
 intro ⟨a, b, c⟩ hp
 have hp : RV.sz 1048576 a ∧ RV.sz 1048576 b ∧ RV.sz 1048576 c := hp
 obtain ⟨sa, sb, sc⟩ := hp
 have fin : ∀ z : Int, z = chkV (R3.q (a, b, c)) → Value.int .i64 z = lcheckS.val (a, b, c) := fun z h => by rw [h]; rfl
 conv => whnf
 obtain ⟨m, em, pm⟩ := hideZ (cmpQ a.q 0)
 refine ⟨a, rfl, RV.sz_ok sa (by decide), ?_⟩
 rw [show qsignS.val a = .int .i64 m from em]
 conv => whnf
 by_cases h : m = 0
 ·have h1 : a.q = 0 := cmpQ_zero.1 (by rw [← pm]; exact h)
  subst h
  conv => whnf
  obtain ⟨n, en, pn⟩ := hideZ (cmpQ b.q 0)
  refine ⟨b, rfl, RV.sz_ok sb (by decide), ?_⟩
  rw [show qsignS.val b = .int .i64 n from en]
  conv => whnf
  by_cases h2 : n = 0
  ·have h3 : b.q = 0 := cmpQ_zero.1 (by rw [← pn]; exact h2)
   subst h2
   conv => whnf
   exact fin _ (if_pos ⟨h1, h3⟩).symm
  ·rw [show (n == 0) = false from by simp [h2]]
   conv => whnf
   exact fin _ (if_neg (fun e => h2 (by rw [pn]; exact cmpQ_eq e.2))).symm
 ·rw [show (m == 0) = false from by simp [h]]
  conv => whnf
  exact fin _ (if_neg (fun e => h (by rw [pm]; exact cmpQ_eq e.1))).symm
theorem through_ok : Snd Tryz.prog 9 throughS := by
 refine snd_of Elbok Dok Tryz.func9 (enters_of Tryz.func9 (by kernel_rfl) rfl) (fun _ => rfl) (fun _ => rfl) ?_
 intro ⟨p, q⟩ hp
 have hp : p.sz 1048576 ∧ q.sz 1048576 := hp
 obtain ⟨sp, sq⟩ := hp
 have qp := PV.psz sp (by decide)
 have qq := PV.psz sq (by decide)
 have fin : ∀ (x : R3) (z : Int), thrV p.p q.p = (x, z) → Value.tuple ⟨[x.v, .int .i64 z]⟩ = throughS.val (p, q) := fun x z h => by
  show _ = LE.v (thrV p.p q.p)
  rw [h]; rfl
 conv => whnf
 obtain ⟨m, em, pm⟩ := hideZ (cmpR p.p q.p)
 refine ⟨(p, q), rfl, ⟨PV.sz_mono sp (by decide), PV.sz_mono sq (by decide)⟩, ?_⟩
 rw [show vcmpS.val (p, q) = .int .i64 m from em]
 conv => whnf
 refine br_intro (fun h => ?_) (fun h => ?_)
 ·have h : m = 0 := by simpa using h
  conv => whnf
  exact fin zeroL 12 (if_pos (by rw [← pm]; exact h))
 ·have h : m ≠ 0 := by intro e; subst e; simp at h
  conv => whnf
  obtain ⟨d, ed, pd, sd, qd⟩ := hideP (sub_sz qq qp)
  refine ⟨(q, p), rfl, ⟨PV.sz_mono sq (by decide), PV.sz_mono sp (by decide)⟩, ?_⟩
  rw [show vsubS.val (q, p) = d.v from ed]
  conv => whnf
  obtain ⟨x, y⟩ := d
  have sx := sd.1
  have sy := sd.2
  have qx : QB x.q _ := qd.1
  have qy : QB y.q _ := qd.2
  refine .inl ⟨7, [[], [0], [0, 1], [], [3], [0, 1, 2, 3, 4], [], [0, 1, 2, 3, 4, 5, 6], [0, 1, 2, 3, 4, 5, 6, 7], [0, 1, 2, 3, 4, 5, 6, 7, 8]], by kernel_rfl, ?_⟩
  conv => whnf
  obtain ⟨w, ew, pw, sw, qw⟩ := hideR (QB.neg qy)
  refine ⟨y, rfl, RV.sz_ok sy (by decide), ?_⟩
  rw [show qnegS.val y = w.v from ew]
  conv => whnf
  obtain ⟨l, el, pl, sl, ql⟩ := hideL (along_sz (mkQ qw qx) qp)
  refine ⟨((w, x), p), rfl, ⟨PV.sz_mono (mkP sw sx) (by decide), PV.sz_mono sp (by decide)⟩, ?_⟩
  rw [show alongS.val ((w, x), p) = l.v from el]
  conv => whnf
  have hw := (RV.v_eq ew).symm
  refine fin l 0 ?_
  have hl : l = linV (w.q, x.q, dotR (w.q, x.q) p.p) := (R3.v_eq el).symm
  unfold thrV
  rw [if_neg (by rw [← pm]; exact h), hl]
  congr 2
  have h1 : x.q = q.p.1 - p.p.1 := congrArg Prod.fst pd
  have h2 : y.q = q.p.2 - p.p.2 := congrArg Prod.snd pd
  rw [pw, h1, h2]
  unfold thrR dotR
  ext <;> dsimp only <;> grind
def Elc : Env := { tt := tt, eqs := [], Φ := fun g => match g with
 | 17 => some (.p lcheckS)
 | 42 => some (.p alongS)
 | 58 => some (.p normalS)
 | 64 => some (.p vaddS)
 | 41 => some (.p vsubS)
 | 53 => some (.p vdotS)
 | 60 => some (.p vcrossS)
 | 31 => some (.p vcmpS)
 | 51 => some (.p vscaleS)
 | 43 => some (.p qnegS)
 | 52 => some (.p qsubS)
 | 61 => some (.p qquoS)
 | 47 => some (.p qsignS)
 | 40 => some (.p qofS)
 | _ => none }
theorem Elcok : EnvOk Tryz.prog Elc := ⟨tt_ok, fun t h => by simp [Elc] at h, (fun g S h => by
 simp only [Elc] at h
 split at h
 ·cases h; exact lcheck_ok
 ·cases h; exact along_ok
 ·cases h; exact normal_ok
 ·cases h; exact vadd_ok
 ·cases h; exact vsub_ok
 ·cases h; exact vdot_ok
 ·cases h; exact vcross_ok
 ·cases h; exact vcmp_ok
 ·cases h; exact vscale_ok
 ·cases h; exact qneg_ok
 ·cases h; exact qsub_ok
 ·cases h; exact qquo_ok
 ·cases h; exact qsign_ok
 ·cases h; exact qof_ok
 ·cases h), fun g F h => by simp [Elc] at h⟩
theorem value_ok : QSnd Tryz.prog 89 lvalS := by
 refine qsnd_of Elcok Dok Tryz.func89 (enters_of Tryz.func89 (by kernel_rfl) rfl) ?_ ?_ ?_
 ·intro i b hb; simp [lvalS] at hb; rw [hb]; rfl
 ·intro i b hb; simp [lvalS] at hb
 intro ⟨l, p⟩ hp
 have hp : l.sz 1048576 ∧ p.sz 1048576 := hp
 obtain ⟨sl, sp⟩ := hp
 have ql := R3.qsz sl (by decide)
 have qp := PV.psz sp (by decide)
 unfold qRes
 rw [show lvalS.blks (l, p) = [.flat false 1 9 (fun _ => l.cells)] from rfl, show lvalS.args (l, p) = [p.v, .pointer (some ⟨0, 0, none⟩)] from rfl, show lvalS.new (l, p) = none from rfl]
 conv => whnf
 refine .inl ⟨6, [[], [0], [], [0, 1, 2], [], [4], [0, 1, 2, 3, 4, 5], [0, 1, 2, 3, 4, 5, 6]], by kernel_rfl, ?_⟩
 conv => whnf
 refine ⟨by decide, ?_⟩
 conv => whnf
 obtain ⟨n, en, pn, sn, qn⟩ := hideN sl ql
 refine ⟨l, rfl, trivial, ?_⟩
 rw [show normalS.val l = n.v from en]
 conv => whnf
 obtain ⟨d, ed, pd, sd, qd⟩ := hideR (dot_sz qn qp)
 refine ⟨(n, p), rfl, ⟨PV.sz_mono sn (by decide), PV.sz_mono sp (by decide)⟩, ?_⟩
 rw [show vdotS.val (n, p) = d.v from ed]
 conv => whnf
 refine ⟨by decide, ?_⟩
 obtain ⟨a, b, r⟩ := l
 have sr := sl.2.2
 have qr : QB r.q _ := ql.2.2
 conv => whnf
 obtain ⟨v, ev, pv, sv, qv⟩ := hideR (QB.sub qd qr)
 refine ⟨(d, r), rfl, ⟨RV.sz_ok sd (by decide), RV.sz_ok sr (by decide)⟩, ?_⟩
 rw [show qsubS.val (d, r) = v.v from ev]
 conv => whnf
 refine ⟨v.v, ?_, .refl _⟩
 rw [show lvalS.val ((a, b, r), p) = v.v from by
  show (RV.of (valR (R3.q (a, b, r)) p.p)).v = _
  rw [← ev, pd, pn]; rfl]
 rfl
def Eld0 : Env := { tt := tt, eqs := [], Φ := fun g => match g with
 | 40 => some (.p qofS)
 | _ => none }
theorem Eld0ok : EnvOk Tryz.prog Eld0 := ⟨tt_ok, fun t h => by simp [Eld0] at h, (fun g S h => by
 simp only [Eld0] at h
 split at h
 ·cases h; exact qof_ok
 ·cases h), fun g F h => by simp [Eld0] at h⟩
theorem lvalue_ok : QSnd Tryz.prog 48 (lvalueS 89) := by
 refine qsnd_of Eld0ok Dok Tryz.func48 (enters_of Tryz.func48 (by kernel_rfl) rfl) ?_ ?_ ?_
 ·intro i b hb; simp [lvalueS] at hb
 ·intro i b hb; simp [lvalueS] at hb; rw [← hb]; rfl
 intro l hp
 unfold qRes
 rw [show (lvalueS 89).new l = some (.flat true 1 9 (fun _ => l.cells)) from rfl]
 conv => whnf
 refine ⟨0, ?_⟩
 conv => whnf
 exact ⟨⟨rfl, line_blk l⟩, _, rfl, .refl _⟩
def Elv : Env := { tt := tt, eqs := [], Φ := fun g => match g with
 | 48 => some (.q (lvalueS 89))
 | 89 => some (.q lvalS)
 | 17 => some (.p lcheckS)
 | 42 => some (.p alongS)
 | 58 => some (.p normalS)
 | 64 => some (.p vaddS)
 | 53 => some (.p vdotS)
 | 51 => some (.p vscaleS)
 | 43 => some (.p qnegS)
 | 61 => some (.p qquoS)
 | 47 => some (.p qsignS)
 | 40 => some (.p qofS)
 | _ => none }
theorem Elvok : EnvOk Tryz.prog Elv := ⟨tt_ok, fun t h => by simp [Elv] at h, (fun g S h => by
 simp only [Elv] at h
 split at h
 ·cases h; exact lvalue_ok
 ·cases h; exact value_ok
 ·cases h; exact lcheck_ok
 ·cases h; exact along_ok
 ·cases h; exact normal_ok
 ·cases h; exact vadd_ok
 ·cases h; exact vdot_ok
 ·cases h; exact vscale_ok
 ·cases h; exact qneg_ok
 ·cases h; exact qquo_ok
 ·cases h; exact qsign_ok
 ·cases h; exact qof_ok
 ·cases h), fun g F h => by simp [Elv] at h⟩
theorem side_ok : Snd Tryz.prog 11 sideS := by
 refine snd_of Elvok Dok Tryz.func11 (enters_of Tryz.func11 (by kernel_rfl) rfl) (fun _ => rfl) (fun _ => rfl) ?_
 intro ⟨l, p⟩ hp
 have hp : l.sz 1048576 ∧ p.sz 1048576 := hp
 obtain ⟨sl, sp⟩ := hp
 have ql := R3.qsz sl (by decide)
 have qp := PV.psz sp (by decide)
 have fin : ∀ (x z : Int), sidV l.q p.p = (x, z) → Value.tuple ⟨[.int .i64 x, .int .i64 z]⟩ = sideS.val (l, p) := fun x z h => by
  show _ = ZE.v (sidV l.q p.p)
  rw [h]; rfl
 conv => whnf
 obtain ⟨c, ec, pc⟩ := hideZ (chkV l.q)
 refine ⟨l, rfl, R3.sz_mono sl (by decide), ?_⟩
 rw [show lcheckS.val l = .int .i64 c from ec]
 conv => whnf
 by_cases h : c = 0
 ·have h1 : isL l.q := fun e => by rw [pc] at h; exact absurd ((if_pos e).symm.trans h) (by decide)
  subst h
  conv => whnf
  refine .inl ⟨3, [[], [0], [], [0, 1, 2], [0, 1, 2, 3], [0, 1, 2, 3, 4], [0, 1, 2, 3, 4, 5]], by kernel_rfl, ?_⟩
  conv => whnf
  refine ⟨l, [], rfl, trivial, ?_⟩
  rw [show (lvalueS 89).new l = some (.flat true 1 9 (fun _ => R3.cells l)) from rfl]
  conv => whnf
  refine ⟨_, rfl, ?_⟩
  conv => whnf
  obtain ⟨v, ev, pv, sv, qv⟩ := hideR (val_sz ql qp)
  refine ⟨(l, p), [3], rfl, ⟨R3.sz_mono sl (by decide), PV.sz_mono sp (by decide)⟩, ?_⟩
  rw [show lvalS.blks (l, p) = [.flat false 1 9 (fun _ => R3.cells l)] from rfl, show lvalS.val (l, p) = v.v from ev, show lvalS.new (l, p) = none from rfl]
  conv => whnf
  refine ⟨line_blk2 l, ?_⟩
  conv => whnf
  refine ⟨_, rfl, ?_⟩
  conv => whnf
  obtain ⟨z, ez, pz⟩ := hideZ (cmpQ v.q 0)
  refine ⟨v, rfl, RV.sz_ok sv (by decide), ?_⟩
  rw [show qsignS.val v = .int .i64 z from ez]
  conv => whnf
  refine fin z 0 ?_
  unfold sidV
  rw [if_pos h1, pz, pv]
 ·rw [show (c != 0) = true from by simp [h]]
  conv => whnf
  exact fin 0 1 (if_neg (fun e => h (by rw [pc]; exact if_neg e)))
theorem step_ok : Snd Tryz.prog 65 stepS := by
 refine snd_of Elvok Dok Tryz.func65 (enters_of Tryz.func65 (by kernel_rfl) rfl) (fun _ => rfl) (fun _ => rfl) ?_
 intro ⟨l, p⟩ hp
 have hp : l.sz 1048576 ∧ p.sz 1048576 ∧ isL l.q := hp
 obtain ⟨sl, sp, h1⟩ := hp
 have ql := R3.qsz sl (by decide)
 have qp := PV.psz sp (by decide)
 conv => whnf
 obtain ⟨n, en, pn, sn, qn⟩ := hideN sl ql
 refine ⟨l, rfl, trivial, ?_⟩
 rw [show normalS.val l = n.v from en]
 conv => whnf
 refine .inr (.inr (.inl ⟨12, 1, [[], [0], [], [0, 1, 2], [], [], [0, 1, 2, 3, 4, 5], [0, 1, 2, 3, 4, 5, 6], [0, 1, 2, 3, 4, 5, 6, 7], [0, 1, 2, 3, 4, 5, 6, 7, 8], [0, 1, 2, 3, 4, 5, 6, 7, 8], [], [0, 1, 2, 3, 4, 5, 6, 7, 8, 9, 11], [0, 1, 2, 3, 4, 5, 6, 7, 8, 9, 10, 11, 12]], [10], by kernel_rfl, ?_⟩))
 conv => whnf
 refine ⟨l, [], rfl, trivial, ?_⟩
 rw [show (lvalueS 89).new l = some (.flat true 1 9 (fun _ => R3.cells l)) from rfl]
 conv => whnf
 refine ⟨_, rfl, ?_⟩
 conv => whnf
 obtain ⟨v, ev, pv, sv, qv⟩ := hideR (val_sz ql qp)
 refine ⟨(l, p), [5], rfl, ⟨R3.sz_mono sl (by decide), PV.sz_mono sp (by decide)⟩, ?_⟩
 rw [show lvalS.blks (l, p) = [.flat false 1 9 (fun _ => R3.cells l)] from rfl, show lvalS.val (l, p) = v.v from ev, show lvalS.new (l, p) = none from rfl]
 conv => whnf
 refine ⟨line_blk2 l, ?_⟩
 conv => whnf
 refine ⟨_, rfl, ?_⟩
 conv => whnf
 obtain ⟨d, ed, pd, sd, qd⟩ := hideR (dot_sz qn qn)
 refine ⟨(n, n), rfl, ⟨PV.sz_mono sn (by decide), PV.sz_mono sn (by decide)⟩, ?_⟩
 rw [show vdotS.val (n, n) = d.v from ed]
 conv => whnf
 obtain ⟨k, ek, pk, sk, qk⟩ := hideR (QB.div qv qd (by decide))
 obtain ⟨e, ee, pe⟩ := hideZ (if d.q = 0 then 10 else 0)
 refine ⟨(v, d), rfl, ⟨RV.sz_ok sv (by decide), RV.sz_ok sd (by decide)⟩, ?_⟩
 rw [show qquoS.val (v, d) = .tuple ⟨[k.v, .int .i64 e]⟩ from by rw [← ek, ← ee]; rfl]
 conv => whnf
 refine .inl ⟨3, [[], [], [1], [0, 1, 2], [0, 1, 2, 3]], by kernel_rfl, ?_⟩
 conv => whnf
 obtain ⟨j, ej, pj, sj, qj⟩ := hideR (QB.neg qk)
 refine ⟨k, rfl, RV.sz_ok sk (by decide), ?_⟩
 rw [show qnegS.val k = j.v from ej]
 conv => whnf
 obtain ⟨w, ew, pw, sw, qw⟩ := hideP (scale_sz qn qj)
 refine ⟨(n, j), rfl, ⟨PV.sz_mono sn (by decide), RV.sz_mono sj (by decide)⟩, ?_⟩
 rw [show vscaleS.val (n, j) = w.v from ew]
 conv => whnf
 have hw := (PV.v_eq ew).symm
 show w.v = (ptV (scR (-(valR l.q p.p / dotR (nrm l.q) (nrm l.q))) (nrm l.q))).v
 rw [hw, pj, pk, pv, pd, pn]
def Els : Env := { tt := tt, eqs := [], Φ := fun g => match g with
 | 65 => some (.p stepS)
 | 17 => some (.p lcheckS)
 | 64 => some (.p vaddS)
 | 51 => some (.p vscaleS)
 | 40 => some (.p qofS)
 | _ => none }
theorem Elsok : EnvOk Tryz.prog Els := ⟨tt_ok, fun t h => by simp [Els] at h, (fun g S h => by
 simp only [Els] at h
 split at h
 ·cases h; exact step_ok
 ·cases h; exact lcheck_ok
 ·cases h; exact vadd_ok
 ·cases h; exact vscale_ok
 ·cases h; exact qof_ok
 ·cases h), fun g F h => by simp [Els] at h⟩
theorem foot_ok : Snd Tryz.prog 21 (footS 1) := by
 refine snd_of Elsok Dok Tryz.func21 (enters_of Tryz.func21 (by kernel_rfl) rfl) (fun _ => rfl) (fun _ => rfl) ?_
 intro ⟨l, p⟩ hp
 have hp : l.sz 1048576 ∧ p.sz 1048576 := hp
 obtain ⟨sl, sp⟩ := hp
 have ql := R3.qsz sl (by decide)
 have qp := PV.psz sp (by decide)
 have fin : ∀ (x : PV) (z : Int), footV 1 l.q p.p = (x, z) → Value.tuple ⟨[x.v, .int .i64 z]⟩ = (footS 1).val (l, p) := fun x z h => by
  show _ = PE.v (footV 1 l.q p.p)
  rw [h]; rfl
 conv => whnf
 obtain ⟨c, ec, pc⟩ := hideZ (chkV l.q)
 refine ⟨l, rfl, R3.sz_mono sl (by decide), ?_⟩
 rw [show lcheckS.val l = .int .i64 c from ec]
 conv => whnf
 by_cases h : c = 0
 ·have h1 : isL l.q := fun e => by rw [pc] at h; exact absurd ((if_pos e).symm.trans h) (by decide)
  subst h
  conv => whnf
  refine .inl ⟨4, [[], [], [], [1, 2], [0, 1, 2, 3], [0, 1, 2, 3, 4], [0, 1, 2, 3, 4, 5]], by kernel_rfl, ?_⟩
  conv => whnf
  obtain ⟨s, es, ps, ss, qs⟩ := hideP (step_sz ql qp)
  refine ⟨(l, p), rfl, ⟨R3.sz_mono sl (by decide), PV.sz_mono sp (by decide), h1⟩, ?_⟩
  rw [show stepS.val (l, p) = s.v from es]
  conv => whnf
  obtain ⟨x, ex, px, sx, qx⟩ := hideP (add_sz qp qs)
  refine ⟨(p, s), rfl, ⟨PV.sz_mono sp (by decide), PV.sz_mono ss (by decide)⟩, ?_⟩
  rw [show vaddS.val (p, s) = x.v from ex]
  conv => whnf
  refine fin x 0 ?_
  have hx := (PV.v_eq ex).symm
  unfold footV
  rw [if_pos h1, hx, ps, foot_step]
 ·rw [show (c != 0) = true from by simp [h]]
  conv => whnf
  exact fin zeroP 1 (if_neg (fun e => h (by rw [pc]; exact if_neg e)))
end Go.Proofs.YtppeponndkfbkaaGreat
/- Contracts of vector and of the reference vectors: lists. -/
set_option maxRecDepth 20000
set_option maxHeartbeats 1000000
namespace Go.Proofs.YtppeponndkfbkaaGreat
open Go Go.Ae
theorem extreme_ok : QSnd Tryz.prog 109 extremeS := by
 refine qsnd_of Evbok Dok Tryz.func109 (enters_of Tryz.func109 (by kernel_rfl) rfl) ?_ ?_ ?_
 ·intro i b hb; simp [extremeS] at hb; rw [hb]; rfl
 ·intro i b hb; simp [extremeS] at hb
 intro ⟨⟨s, l⟩, c⟩ hp
 have hp : l ≠ [] ∧ (∀ r ∈ l, r.ok) ∧ l.length ≤ c ∧ c ≤ 1099511627776 := hp
 obtain ⟨hne, hok, hlc, hc⟩ := hp
 obtain ⟨a, l, rfl⟩ : ∃ a l', l = a :: l' := List.exists_cons_of_ne_nil hne
 obtain ⟨k, hk⟩ : ∃ k, k = l.length := ⟨_, rfl⟩
 obtain ⟨n, hn⟩ : ∃ n, n = (a :: l).length := ⟨_, rfl⟩
 have hnk : n = k + 1 := by rw [hn, hk]; rfl
 have hcn : n ≤ c := by rw [hn]; exact hlc
 obtain ⟨g, hg⟩ : ∃ g, g = rowsR (a :: l) := ⟨_, rfl⟩
 have hg0 : g 0 = a.cells := by rw [hg]; rfl
 have hcu : c ≠ capU := by unfold capU; omega
 have hv : extremeS.val ((s, a :: l), c) = (l.foldl (extF s) a).v := rfl
 conv => whnf
 rw [show ((s, a :: l), c).fst.snd.length = n from hn.symm, show rowsR ((s, a :: l), c).fst.snd = g from hg.symm]
 refine ⟨⟨by omega, by omega⟩, ?_⟩
 conv => whnf
 refine ⟨by show 0 < n; omega, ?_⟩
 conv => whnf
 rw [show rowAdd 0 (Int.toNat 0) = 0 from rfl, hg0]
 conv => whnf
 refine ⟨⟨by omega, by omega, by omega⟩, ?_⟩
 rw [show Int.toNat (n : Int) - Int.toNat 1 = k from by
  show n - 1 = k
  omega]
 conv => whnf
 refine .inl ⟨fun mm tz hz => ∃ (j : Nat) (o : RV), Pat [some (.int .i64 s), none, none, none, some (.pointer (some ⟨1, 0, none⟩)), some (.pointer (some ⟨2, 0, none⟩)), none, none, none, none, none, none, some (.slice (some ⟨0, 1, none⟩) k (capSub c 1)), some (.int .i64 k), some (.int .i64 j), none, none, none, none, none, none, none, none, none, none, none] tz ∧ hz = [some (.flat false n 3 g), some (.expl true 3 [[.bool false, .string ⟨#[]⟩, .string ⟨#[]⟩]]), some (.expl true 3 [o.cells])] ∧ k - j = mm ∧ (j ≤ k ∧ o = (l.take j).foldl (extF s) a), .inr ⟨[0, 1, 2], [0, 4, 5, 12, 13, 14], ?_⟩, ?_⟩
 ·conv => whnf
  intro _
  conv => whnf
  refine ⟨_, 0, a, (.keep (.skip (.skip (.skip (.keep (.keep (.skip (.skip (.skip (.skip (.skip (.skip (.keep (.keep (.keep (.s8 (.skip (.skip (.skip (.nil)))))))))))))))))))), rfl, rfl, ?_⟩
  exact ⟨Nat.zero_le _, rfl⟩
 rintro mm tms _ ⟨j, o, hpat, rfl, rfl, ⟨hj, ho⟩⟩
 obtain ⟨az, rfl⟩ : ∃ az : Nat → Value, tms = [.int .i64 s, az 1, az 2, az 3, .pointer (some ⟨1, 0, none⟩), .pointer (some ⟨2, 0, none⟩), az 6, az 7, az 8, az 9, az 10, az 11, .slice (some ⟨0, 1, none⟩) k (capSub c 1), .int .i64 k, .int .i64 j, az 15, az 16, az 17, az 18, az 19, az 20, az 21, az 22, az 23, az 24, az 25] := pat_fill hpat
 clear hpat
 have hoo : o.ok := by
  rw [ho]
  have h1 := ext_mem (s := s) (a := a) (l.take j)
  refine hok _ ?_
  rcases List.mem_cons.1 h1 with h | h
  ·rw [h]; exact List.mem_cons_self
  ·exact List.mem_cons_of_mem _ (List.mem_of_mem_take h)
 conv => whnf
 refine br_intro (fun h1 => ?_) (fun h1 => ?_)
 ·have h1 : j < k := by
   have := of_decide_eq_true h1
   omega
  obtain ⟨r, hrl, hrm, hrow⟩ := rowsR_get (l := a :: l) (i := j + 1) (by omega)
  rw [← hg] at hrow
  have hrl : l[j]? = some r := by simpa using hrl
  have hst := ext_step (s := s) (a := a) hrl
  rw [← ho] at hst
  obtain ⟨q, hq⟩ : ∃ q, q = 1 + j := ⟨_, rfl⟩
  rw [show j + 1 = q by omega] at hrow
  have e7 : IntKind.i64.wrap ((j : Int) + 1) = ((j + 1 : Nat) : Int) := by rw [wrapi64 (by omega) (by omega)]; rfl
  obtain ⟨w, hw⟩ : ∃ w, w = cmpQ r.q o.q := ⟨_, rfl⟩
  conv => whnf
  refine ⟨⟨by omega, by omega⟩, ?_⟩
  simp only [toNat_cast, rowAdd_eq, ← hq]
  conv => whnf
  refine ⟨by show q < n; omega, ?_⟩
  conv => whnf
  rw [hrow]
  conv => whnf
  refine ⟨(r, o), rfl, ⟨hok r hrm, hoo⟩, ?_⟩
  rw [show qcmpS.val (r, o) = .int .i64 w from by rw [hw]; rfl]
  conv => whnf
  refine br_intro (fun h2 => ?_) (fun h2 => ?_)
  ·have h2 : w = s := by simpa using h2
   rw [show extF s o r = r from if_pos (by rw [← hw]; exact h2)] at hst
   conv => whnf
   rw [e7]
   refine .inr ⟨[0, 1, 2], [0, 4, 5, 12, 13, 14], ?_⟩
   conv => whnf
   intro _
   conv => whnf
   refine ⟨_, ?_, j + 1, r, (.keep (.skip (.skip (.skip (.keep (.keep (.skip (.skip (.skip (.skip (.skip (.skip (.keep (.keep (.keep (.s8 (.skip (.skip (.skip (.nil)))))))))))))))))))), rfl, rfl, ?_⟩
   ·omega
   ·exact ⟨by omega, hst.symm⟩
  ·have h2 : w ≠ s := by
    intro e
    subst e
    simp at h2
   rw [show extF s o r = o from if_neg (by rw [← hw]; exact h2)] at hst
   conv => whnf
   rw [e7]
   refine .inr ⟨[0, 1, 2], [0, 4, 5, 12, 13, 14], ?_⟩
   conv => whnf
   intro _
   conv => whnf
   refine ⟨_, ?_, j + 1, o, (.keep (.skip (.skip (.skip (.keep (.keep (.skip (.skip (.skip (.skip (.skip (.skip (.keep (.keep (.keep (.s8 (.skip (.skip (.skip (.nil)))))))))))))))))))), rfl, rfl, ?_⟩
   ·omega
   ·exact ⟨by omega, hst.symm⟩
 ·have h1 : j = k := by
   have := of_decide_eq_false h1
   omega
  subst h1
  rw [hk, List.take_length] at ho
  rw [← ho] at hv
  conv => whnf
  refine ⟨o.v, by rw [hv]; rfl, ?_⟩
  exact .refl _
end Go.Proofs.YtppeponndkfbkaaGreat
/- Contracts of vector and of the reference vectors: square distance, boxes. -/
set_option maxRecDepth 20000
set_option maxHeartbeats 1000000
namespace Go.Proofs.YtppeponndkfbkaaGreat
open Go Go.Ae
def Evl : Env := { tt := tt, eqs := [], Φ := fun g => match g with
 | 41 => some (.p vsubS)
 | 43 => some (.p qnegS)
 | 109 => some (.q extremeS)
 | 47 => some (.p qsignS)
 | _ => none }
theorem Evlok : EnvOk Tryz.prog Evl := ⟨tt_ok, fun t h => by simp [Evl] at h, (fun g S h => by
 simp only [Evl] at h
 split at h
 ·cases h; exact vsub_ok
 ·cases h; exact qneg_ok
 ·cases h; exact extreme_ok
 ·cases h; exact qsign_ok
 ·cases h), fun g F h => by simp [Evl] at h⟩
theorem vwithin_ok : Snd Tryz.prog 72 vwithinS := by
 refine snd_of Evlok Dok Tryz.func72 (enters_of Tryz.func72 (by kernel_rfl) rfl) (fun _ => rfl) (fun _ => rfl) ?_
 intro ⟨⟨lo, hi⟩, p⟩ hp
 have hp : (lo.sz 268435456 ∧ hi.sz 268435456) ∧ p.sz 268435456 := hp
 obtain ⟨⟨hl, hh⟩, hp⟩ := hp
 obtain ⟨x1, hx1⟩ : ∃ x, x = p.1.q - lo.1.q := ⟨_, rfl⟩
 obtain ⟨x2, hx2⟩ : ∃ x, x = p.2.q - lo.2.q := ⟨_, rfl⟩
 obtain ⟨x3, hx3⟩ : ∃ x, x = hi.1.q - p.1.q := ⟨_, rfl⟩
 obtain ⟨x4, hx4⟩ : ∃ x, x = hi.2.q - p.2.q := ⟨_, rfl⟩
 have b1 : QB x1 536870913 := by rw [hx1]; exact (RV.qb' hp.1 (by decide)).sub (RV.qb' hl.1 (by decide))
 have b2 : QB x2 536870913 := by rw [hx2]; exact (RV.qb' hp.2 (by decide)).sub (RV.qb' hl.2 (by decide))
 have b3 : QB x3 536870913 := by rw [hx3]; exact (RV.qb' hh.1 (by decide)).sub (RV.qb' hp.1 (by decide))
 have b4 : QB x4 536870913 := by rw [hx4]; exact (RV.qb' hh.2 (by decide)).sub (RV.qb' hp.2 (by decide))
 have e1 : vsubS.val (p, lo) = PV.v (RV.of x1, RV.of x2) := by rw [hx1, hx2]; rfl
 have e2 : vsubS.val (hi, p) = PV.v (RV.of x3, RV.of x4) := by rw [hx3, hx4]; rfl
 obtain ⟨z, hz⟩ : ∃ z, z = minQ (minQ (minQ x1 x2) x3) x4 := ⟨_, rfl⟩
 have bz : QB z 536870913 := by rw [hz]; exact ((b1.min b2).min b3).min b4
 obtain ⟨a, ha⟩ : ∃ a, a = RV.of x1 := ⟨_, rfl⟩
 obtain ⟨b, hb⟩ : ∃ a, a = RV.of x2 := ⟨_, rfl⟩
 obtain ⟨c, hc⟩ : ∃ a, a = RV.of x3 := ⟨_, rfl⟩
 obtain ⟨d, hd⟩ : ∃ a, a = RV.of x4 := ⟨_, rfl⟩
 have ex : extV (-1) [a, b, c, d] = RV.of z := by rw [ha, hb, hc, hd, hz]; exact within_extV x1 x2 x3 x4
 have o1 : a.ok := by rw [ha]; exact RV.of_ok (b1.mono (by decide))
 have o2 : b.ok := by rw [hb]; exact RV.of_ok (b2.mono (by decide))
 have o3 : c.ok := by rw [hc]; exact RV.of_ok (b3.mono (by decide))
 have o4 : d.ok := by rw [hd]; exact RV.of_ok (b4.mono (by decide))
 rw [← ha, ← hb] at e1
 rw [← hc, ← hd] at e2
 obtain ⟨w, hw⟩ : ∃ w, w = cmpQ z 0 := ⟨_, rfl⟩
 have fin : Value.bool (decide (w ≥ 0)) = vwithinS.val ((lo, hi), p) := by
  show _ = Value.bool (decide (inBox (lo, hi) p))
  congr 1
  have h1 : w ≥ 0 ↔ inBox (lo, hi) p := by
   rw [hw, cmpQ_ge, hz, within_ext, hx1, hx2, hx3, hx4]
   simp only [sub_nonneg']
   unfold inBox
   constructor
   ·rintro ⟨a, b, c, d⟩; exact ⟨a, c, b, d⟩
   ·rintro ⟨a, b, c, d⟩; exact ⟨a, c, b, d⟩
  simp only [h1]
 conv => whnf
 refine .inl ⟨10, [[], [], [1], [0, 1, 2], [], [4], [], [0, 1, 2, 3, 4, 5, 6], [], [], [0, 1, 2, 3, 4, 5, 6, 7, 8, 9], [0, 1, 2, 3, 4, 5, 6, 7, 8, 9, 10]], by kernel_rfl, ?_⟩
 conv => whnf
 refine ⟨(p, lo), rfl, ⟨PV.sz_mono hp (by decide), PV.sz_mono hl (by decide)⟩, ?_⟩
 rw [e1]
 conv => whnf
 refine ⟨(hi, p), rfl, ⟨PV.sz_mono hh (by decide), PV.sz_mono hp (by decide)⟩, ?_⟩
 rw [e2]
 conv => whnf
 refine ⟨((-1, [a, b, c, d]), 4), [12], rfl, ⟨(fun h => by cases h), fun r hr => ?_, Nat.le_refl _, by show 4 ≤ 1099511627776; decide⟩, ?_⟩
 ·simp only [List.mem_cons, List.mem_nil_iff, or_false] at hr
  rcases hr with rfl | rfl | rfl | rfl <;> assumption
 conv => whnf
 refine ⟨blk_rows rfl (fun r hr => ?_) (fun r hr => rfl), ?_⟩
 ·have : r = 0 ∨ r = 1 ∨ r = 2 ∨ r = 3 := by
   have hr : r < 4 := hr
   omega
  rcases this with rfl | rfl | rfl | rfl <;> rfl
 conv => whnf
 refine ⟨(RV.of z).v, by rw [show extremeS.val ((-1, [a, b, c, d]), 4) = (RV.of z).v from by show (extV (-1) [a, b, c, d]).v = _; rw [ex]]; rfl, ?_⟩
 conv => whnf
 refine ⟨RV.of z, rfl, RV.of_ok (bz.mono (by decide)), ?_⟩
 rw [show qsignS.val (RV.of z) = .int .i64 w from by show Value.int .i64 (cmpQ (RV.of z).q 0) = _; rw [RV.of_q, hw]]
 conv => whnf
 exact fin
end Go.Proofs.YtppeponndkfbkaaGreat
/- Contracts of predicate: orientations. -/
set_option maxRecDepth 20000
set_option maxHeartbeats 1000000
namespace Go.Proofs.YtppeponndkfbkaaGreat
open Go Go.Ae
def Epa : Env := { tt := tt, eqs := [], Φ := fun g => match g with
 | 41 => some (.p vsubS)
 | 60 => some (.p vcrossS)
 | 53 => some (.p vdotS)
 | 47 => some (.p qsignS)
 | 90 => some (.p qmulS)
 | 52 => some (.p qsubS)
 | 91 => some (.p qaddS)
 | _ => none }
theorem Epaok : EnvOk Tryz.prog Epa := ⟨tt_ok, fun t h => by simp [Epa] at h, (fun g S h => by
 simp only [Epa] at h
 split at h
 ·cases h; exact vsub_ok
 ·cases h; exact vcross_ok
 ·cases h; exact vdot_ok
 ·cases h; exact qsign_ok
 ·cases h; exact qmul_ok
 ·cases h; exact qsub_ok
 ·cases h; exact qadd_ok
 ·cases h), fun g F h => by simp [Epa] at h⟩
theorem orient_ok : Snd Tryz.prog 30 orientS := by
 refine snd_of Epaok Dok Tryz.func30 (enters_of Tryz.func30 (by kernel_rfl) rfl) (fun _ => rfl) (fun _ => rfl) ?_
 intro ⟨a, b, c⟩ hp
 obtain ⟨sa, sb, sc⟩ : a.sz 1048576 ∧ b.sz 1048576 ∧ c.sz 1048576 := hp
 have pa : Q2.sz 1048576 a.p := PV.psz sa (by decide)
 have pb : Q2.sz 1048576 b.p := PV.psz sb (by decide)
 have pc : Q2.sz 1048576 c.p := PV.psz sc (by decide)
 obtain ⟨w, hw⟩ : ∃ w, w = orR a.p b.p c.p := ⟨_, rfl⟩
 obtain ⟨u, hu⟩ : ∃ u, u = ptV (subR b.p a.p) := ⟨_, rfl⟩
 obtain ⟨v, hv⟩ : ∃ v, v = ptV (subR c.p a.p) := ⟨_, rfl⟩
 have su : u.sz 1073741824 := by rw [hu]; exact ptV_sz (sub_sz pb pa) (by decide)
 have sv : v.sz 1073741824 := by rw [hv]; exact ptV_sz (sub_sz pc pa) (by decide)
 have sw : (RV.of w).ok := by rw [hw]; exact of_okL (cross_sz (sub_sz pb pa) (sub_sz pc pa)) (by decide)
 conv => whnf
 refine .inl ⟨5, [[], [], [0, 1], [], [], [0, 1, 2, 3, 4], [0, 1, 2, 3, 4, 5], [0, 1, 2, 3, 4, 5, 6], [0, 1, 2, 3, 4, 5, 6, 7]], by kernel_rfl, ?_⟩
 conv => whnf
 refine ⟨(b, a), rfl, ⟨PV.sz_mono sb (by decide), PV.sz_mono sa (by decide)⟩, ?_⟩
 rw [show vsubS.val (b, a) = u.v from by rw [sub_val, hu]]
 conv => whnf
 refine ⟨(c, a), rfl, ⟨PV.sz_mono sc (by decide), PV.sz_mono sa (by decide)⟩, ?_⟩
 rw [show vsubS.val (c, a) = v.v from by rw [sub_val, hv]]
 conv => whnf
 refine ⟨(u, v), rfl, ⟨su, sv⟩, ?_⟩
 rw [show vcrossS.val (u, v) = (RV.of w).v from by rw [cross_val, hu, hv, ptV_p, ptV_p, hw]; rfl]
 conv => whnf
 refine ⟨RV.of w, rfl, sw, ?_⟩
 rw [sign_val, RV.of_q]
 conv => whnf
 show Value.int .i64 _ = Value.int .i64 _
 rw [hw]
end Go.Proofs.YtppeponndkfbkaaGreat
/- slices.Clone of points. -/
set_option maxRecDepth 20000
set_option maxHeartbeats 4000000
namespace Go.Proofs.YtppeponndkfbkaaGreat
open Go Go.Ae
def Eld : Env := { tt := tt, eqs := [], Φ := fun g => match g with
 | _ => none }
theorem Eldok : EnvOk Tryz.prog Eld := ⟨tt_ok, fun t h => by simp [Eld] at h, (fun g S h => by
 change none = some S at h
 cases h), fun g F h => by simp [Eld] at h⟩
theorem clone_ok : QSnd Tryz.prog 106 cloneS := by
 refine qsnd_of Eldok Dok Tryz.func106 (enters_of Tryz.func106 (by kernel_rfl) rfl) ?_ ?_ ?_
 ·intro i b hb
  cases i with
  | none => simp [cloneS, PL.blks] at hb
  | some i => simp [cloneS, PL.blks] at hb; rw [hb]; rfl
 ·intro i b hb
  cases i with
  | none => simp [cloneS] at hb
  | some i => simp [cloneS] at hb; rw [← hb]; rfl
 intro i hp
 cases i with
 | none =>
  conv => whnf
  exact ⟨_, rfl, .refl _⟩
 | some i =>
  obtain ⟨l, c⟩ := i
  have hp : l.length ≤ 1099511627776 := hp
  obtain ⟨n, hn⟩ : ∃ n, n = l.length := ⟨_, rfl⟩
  obtain ⟨g, hg⟩ : ∃ g, g = rowsP l := ⟨_, rfl⟩
  have hs : ∀ r, r < n → allS (g r) = true := fun r hr => by rw [hg]; rfl
  rw [← hn] at hp
  unfold qRes
  rw [show cloneS.new (some (l, c)) = some (.flat true n 6 g) from by rw [hn, hg]; rfl, show cloneS.val (some (l, c)) = .slice (some ⟨1, 0, none⟩) n capU from by rw [hn]; rfl, show cloneS.blks (some (l, c)) = [.flat false n 6 g] from by rw [hn, hg]; rfl, show cloneS.args (some (l, c)) = [.slice (some ⟨0, 0, none⟩) n c] from by rw [hn]; rfl]
  clear hg hn
  conv => whnf
  refine ⟨by omega, ?_⟩
  conv => whnf
  refine br_intro (fun h => ?_) (fun h => ?_)
  ·have h : n ≤ 0 := by
    have := Nat.le_of_ble_eq_true h
    have : 0 + n ≤ 0 := this
    omega
   obtain rfl : n = 0 := by omega
   refine ⟨rfl, ?_⟩
   conv => whnf
   refine ⟨1, ?_⟩
   conv => whnf
   exact ⟨⟨rfl, BlkLe.flat_rows (fun h => h) (fun r hr => absurd hr (Nat.not_lt_zero r)) (fun r hr => absurd hr (Nat.not_lt_zero r))⟩, .slice (some ⟨2 - 1, 0, none⟩) 0 capU, rfl, .cap _ _ _ rfl⟩
  ·refine ⟨⟨Nat.le_refl _, Nat.le_trans (Nat.mul_le_mul_right _ (show 0 + n ≤ 1099511627776 by omega)) (by decide)⟩, ?_⟩
   conv => whnf
   rw [show (0 + (Src.fl n fun j => g (rowAdd 0 j)).m) = n from Nat.zero_add n, show 0 + n = n from Nat.zero_add n]
   refine ⟨2, ?_⟩
   conv => whnf
   exact ⟨⟨rfl, BlkLe.flat_rows (fun h => h) (fun r hr => by rw [appGet_hi (Nat.zero_le _)]; simp [rowAdd_eq]) hs⟩, _, rfl, .refl _⟩
end Go.Proofs.YtppeponndkfbkaaGreat
/- Contracts of line: needless points. -/
set_option maxRecDepth 20000
set_option maxHeartbeats 4000000
namespace Go.Proofs.YtppeponndkfbkaaGreat
open Go Go.Ae
def Eg0 : Env := { tt := tt, eqs := [], Φ := fun g => match g with
 | 40 => some (.p qofS)
 | _ => none }
theorem Eg0ok : EnvOk Tryz.prog Eg0 := ⟨tt_ok, fun t h => by simp [Eg0] at h, (fun g S h => by
 simp only [Eg0] at h
 split at h
 ·cases h; exact qof_ok
 ·cases h), fun g F h => by simp [Eg0] at h⟩
theorem grow_ft : FTOk Tryz.prog 142 (fnK Eg0 drawT Tryz.f142) := by
 exact ft_of Eg0ok Dok Tryz.func142 (enters_of Tryz.func142 (by kernel_rfl) rfl)
def Eg1W : FuncId → Option FT := fun g => match g with
 | 142 => some (fnK Eg0 drawT Tryz.f142)
 | _ => none
def Eg1 : Env := { tt := tt, eqs := [], Ψ := Eg1W, over := true, Φ := fun g => match g with
 | _ => none }
theorem Eg1ok : EnvOk Tryz.prog Eg1 := ⟨tt_ok, fun t h => by simp [Eg1] at h, (fun g S h => by
 change none = some S at h
 cases h), (fun g F h => by
 simp only [Eg1, Eg1W] at h
 split at h
 ·cases h; exact grow_ft
 ·cases h)⟩
theorem concat_ft : FTOk Tryz.prog 108 (fnK Eg1 drawT Tryz.f108) := by
 exact ft_of Eg1ok Dok Tryz.func108 (enters_of Tryz.func108 (by kernel_rfl) rfl)
theorem delete_ft : FTOk Tryz.prog 107 (fnK Eg0 drawT Tryz.f107) := by
 exact ft_of Eg0ok Dok Tryz.func107 (enters_of Tryz.func107 (by kernel_rfl) rfl)
def Eg2W : FuncId → Option FT := fun g => match g with
 | 107 => some (limFT (fnK Eg0 drawT Tryz.f107))
 | 108 => some (fnK Eg1 drawT Tryz.f108)
 | _ => none
def Eg2 : Env := { tt := tt, eqs := eqsL, Ψ := Eg2W, Φ := fun g => match g with
 | 106 => some (.q cloneS)
 | 30 => some (.p orientS)
 | 31 => some (.p vcmpS)
 | _ => none }
theorem Eg2ok : EnvOk Tryz.prog Eg2 := ⟨tt_ok, eqs_ok, (fun g S h => by
 simp only [Eg2] at h
 split at h
 ·cases h; exact clone_ok
 ·cases h; exact orient_ok
 ·cases h; exact vcmp_ok
 ·cases h), (fun g F h => by
 simp only [Eg2, Eg2W] at h
 split at h
 ·cases h; exact (lim_ft delete_ft)
 ·cases h; exact concat_ft
 ·cases h)⟩
theorem clean_ok : QSnd Tryz.prog 71 cleanS := by
 refine qsnd_of Eg2ok Dok Tryz.func71 (enters_of Tryz.func71 (by kernel_rfl) rfl) ?_ ?_ ?_
 ·intro i b hb; simp [cleanS] at hb; rw [hb]; rfl
 ·intro i b hb; simp [cleanS] at hb; rw [← hb]; rfl
 intro ⟨L0, c⟩ hp
 have hp : L0 ≠ [] ∧ L0.length ≤ 1099511627776 ∧ ∀ v ∈ L0, Q2.sz 1048576 v := hp
 obtain ⟨hne0, hlen, hsz0⟩ := hp
 obtain ⟨n0, hn0⟩ : ∃ n, n = L0.length := ⟨_, rfl⟩
 obtain ⟨g, hg⟩ : ∃ g, g = rowsQ L0 := ⟨_, rfl⟩
 obtain ⟨cu, hcu⟩ : ∃ cu, cu = capU := ⟨_, rfl⟩
 obtain ⟨gs, hgs⟩ : ∃ g, g = rowsQ (rotR (cleanL L0)) := ⟨_, rfl⟩
 obtain ⟨M, hM⟩ : ∃ M, M = (cleanL L0).length := ⟨_, rfl⟩
 unfold qRes
 rw [show cleanS.blks (L0, c) = [.flat false n0 6 g] from by rw [hn0, hg]; rfl, show cleanS.args (L0, c) = [.slice (some ⟨0, 0, none⟩) n0 c] from by rw [hn0]; rfl,
  show cleanS.val (L0, c) = .slice (some ⟨1, 0, none⟩) M cu from by rw [hcu, hM]; rfl, show cleanS.new (L0, c) = some (.flat true M 6 gs) from by rw [hgs, hM]; rfl]
 rw [← hn0] at hlen
 conv => whnf
 refine ⟨some (pvs L0, c), [0], by rw [show cloneS.args (some (pvs L0, c)) = [.slice (some ⟨0, 0, none⟩) n0 c] from by rw [hn0, ← pvs_length L0]; rfl]; rfl, by show (pvs L0).length ≤ 1099511627776; rw [pvs_length]; omega, ?_⟩
 rw [show cloneS.blks (some (pvs L0, c)) = [.flat false n0 6 g] from by rw [hn0, hg, ← pvs_length L0]; rfl, show cloneS.val (some (pvs L0, c)) = .slice (some ⟨1, 0, none⟩) n0 cu from by rw [hn0, hcu, ← pvs_length L0]; rfl, show cloneS.new (some (pvs L0, c)) = some (.flat true n0 6 g) from by rw [hn0, hg, ← pvs_length L0]; rfl]
 conv => whnf
 refine ⟨BlkLe.flat_flat (fun h => h) (fun r hr => by rw [hg]; rfl), ?_⟩
 conv => whnf
 refine ⟨_, rfl, ?_⟩
 conv => whnf
 refine .inl ⟨fun mm tz hz => ∃ (L : List Q2) (n : Nat) (G : Nat → List Value), Pat [some (.slice (some ⟨1, 0, none⟩) n cu), none, none, none, none, none, none, none, none, none, none, none, none, none, none, none, none, none, none, none, none, none, none, none, none, none, none, none, none, none, none, none, none, none, none, none, none, none, none, none, none, none, none, none, none, none, none, none, none, none, none, none, none, none, none, none, none, none, none, none, none, none, none, none, none, none, none, none, none, none, none, none, none, none, none, none, none, none, none, none, none, none, none, none, none, none, none, none, none, none, none, none, none, none, none] tz ∧ hz = [some (.flat false n0 6 g), some (.flat true n0 6 G)] ∧ n = mm ∧ ((L ≠ [] ∧ n = L.length ∧ n ≤ n0) ∧ cleanL L0 = cleanL L ∧ (∀ v ∈ L, Q2.sz 1048576 v) ∧ ∀ r, r < n → G r = rowsQ L r), .inr ⟨[0, 1], [0], ?_⟩, ?_⟩
 ·conv => whnf
  intro _
  conv => whnf
  refine ⟨_, L0, n0, g, (.keep (.s8 (.s8 (.s8 (.s8 (.s8 (.s8 (.s8 (.s8 (.s8 (.s8 (.s8 (.skip (.skip (.skip (.skip (.skip (.skip (.nil))))))))))))))))))), rfl, rfl, ?_⟩
  exact ⟨⟨hne0, hn0, Nat.le_refl _⟩, rfl, hsz0, fun r _ => by rw [hg]⟩
 rintro mm tms _ ⟨L, n, G, hpat, rfl, rfl, ⟨⟨hne, hn, hnn⟩, hcl, hsz, hG⟩⟩
 obtain ⟨az, rfl⟩ : ∃ az : Nat → Value, tms = [.slice (some ⟨1, 0, none⟩) n cu, az 1, az 2, az 3, az 4, az 5, az 6, az 7, az 8, az 9, az 10, az 11, az 12, az 13, az 14, az 15, az 16, az 17, az 18, az 19, az 20, az 21, az 22, az 23, az 24, az 25, az 26, az 27, az 28, az 29, az 30, az 31, az 32, az 33, az 34, az 35, az 36, az 37, az 38, az 39, az 40, az 41, az 42, az 43, az 44, az 45, az 46, az 47, az 48, az 49, az 50, az 51, az 52, az 53, az 54, az 55, az 56, az 57, az 58, az 59, az 60, az 61, az 62, az 63, az 64, az 65, az 66, az 67, az 68, az 69, az 70, az 71, az 72, az 73, az 74, az 75, az 76, az 77, az 78, az 79, az 80, az 81, az 82, az 83, az 84, az 85, az 86, az 87, az 88, az 89, az 90, az 91, az 92, az 93, az 94] := pat_fill hpat
 clear hpat
 have hpos : 0 < n := by rw [hn]; exact List.length_pos_iff.2 hne
 have row : ∀ k, k < n → ∃ u : PV, u = ptV (at2 L k) ∧ G k = u.cells ∧ u.p = at2 L k ∧ u.sz 1048576 ∧ Q2.sz 1048576 u.p := fun k hk => by
  obtain ⟨u, h1, h2, h3⟩ := hideAt (L := L) (k := k) (by omega) hsz
  exact ⟨u, h1, by rw [hG k hk]; exact h2, h3⟩
 conv => whnf
 refine .inl ⟨fun mm tz hz => ∃ (k : Nat), Pat [some (.slice (some ⟨1, 0, none⟩) n cu), none, none, some (.int .i64 n), some (.int .i64 (-1)), none, none, none, none, none, none, none, none, none, some (.int .i64 n), some (.int .i64 k), none, none, none, none, none, none, none, none, none, none, none, none, none, none, none, none, none, none, none, none, none, none, none, none, none, none, none, none, none, none, none, none, none, none, none, none, none, none, none, none, none, none, none, none, none, none, none, none, none, none, none, none, none, none, none, none, none, none, none, none, none, none, none, none, none, none, none, none, none, none, none, none, none, none, none, none, none, none, none] tz ∧ hz = [some (.flat false n0 6 g), some (.flat true n0 6 G)] ∧ n - k = mm ∧ (k ≤ n ∧ ∀ j, j < k → ¬ nd L j), .inr ⟨[0, 1], [0, 3, 4, 14, 15], ?_⟩, ?_⟩
 ·conv => whnf
  intro _
  conv => whnf
  refine ⟨_, 0, (.keep (.skip (.skip (.keep (.keep (.s8 (.skip (.keep (.keep (.s8 (.s8 (.s8 (.s8 (.s8 (.s8 (.s8 (.s8 (.s8 (.skip (.skip (.skip (.skip (.skip (.skip (.skip (.nil)))))))))))))))))))))))))), rfl, rfl, ?_⟩
  exact ⟨Nat.zero_le _, fun j hj => absurd hj (by omega)⟩
 rintro mm tms _ ⟨k, hpat, rfl, rfl, ⟨hk, hup⟩⟩
 obtain ⟨az, rfl⟩ : ∃ az : Nat → Value, tms = [.slice (some ⟨1, 0, none⟩) n cu, az 1, az 2, .int .i64 n, .int .i64 (-1), az 5, az 6, az 7, az 8, az 9, az 10, az 11, az 12, az 13, .int .i64 n, .int .i64 k, az 16, az 17, az 18, az 19, az 20, az 21, az 22, az 23, az 24, az 25, az 26, az 27, az 28, az 29, az 30, az 31, az 32, az 33, az 34, az 35, az 36, az 37, az 38, az 39, az 40, az 41, az 42, az 43, az 44, az 45, az 46, az 47, az 48, az 49, az 50, az 51, az 52, az 53, az 54, az 55, az 56, az 57, az 58, az 59, az 60, az 61, az 62, az 63, az 64, az 65, az 66, az 67, az 68, az 69, az 70, az 71, az 72, az 73, az 74, az 75, az 76, az 77, az 78, az 79, az 80, az 81, az 82, az 83, az 84, az 85, az 86, az 87, az 88, az 89, az 90, az 91, az 92, az 93, az 94] := pat_fill hpat
 clear hpat
 conv => whnf
 refine br_intro (fun h1 => ?_) (fun h1 => ?_)
 ·have h1 : k < n := by
   have := of_decide_eq_true h1
   omega
  conv => whnf
  refine .inl ⟨39, [[], [0], [0, 1], [0, 1, 2], [0, 1, 2], [0, 1, 2, 3, 4], [0, 1, 2, 3, 4, 5], [0, 1, 2], [0, 1, 2], [0, 1, 2, 8], [0, 1, 2], [0, 1, 2, 8, 9, 10], [0, 1, 2, 7, 8, 9, 10, 11], [0, 1, 2, 7, 8, 9, 10, 11, 12], [0, 1, 2, 3, 4, 5, 6, 7, 8, 9, 10, 11, 12, 13], [0, 1, 2, 3, 4, 5, 6, 7, 8, 9, 10, 11, 12, 13, 14], [0, 1, 2, 3, 4, 5, 6, 7, 8, 9, 10, 11, 12, 13, 14, 15], [0, 1, 2, 3, 4, 5, 6, 7, 8, 9, 10, 11, 12, 13, 14, 15, 16], [0, 1, 2, 3, 4, 5, 6, 7, 8, 9, 10, 11, 12, 13, 14, 15, 16, 17], [0, 1, 2, 3, 4, 5, 6, 7, 8, 9, 10, 11, 12, 13, 14, 15, 16, 17, 18], [0, 1, 2, 3, 4, 5, 6, 7, 8, 9, 10, 11, 12, 13, 14, 15, 16, 17, 18], [0, 1, 2, 3, 4, 5, 6, 7, 8, 9, 10, 11, 12, 13, 14, 15, 16, 17, 18], [0, 1, 2, 3, 4, 5, 6, 7, 8, 9, 10, 11, 12, 13, 14, 15, 16, 17, 18, 20, 21], [0, 1, 2, 3, 4, 5, 6, 7, 8, 9, 10, 11, 12, 13, 14, 15, 16, 17, 18, 20, 21, 22], [0, 1, 2, 3, 4, 5, 6, 7, 8, 9, 10, 11, 12, 13, 14, 15, 16, 17, 18], [0, 1, 2, 3, 4, 5, 6, 7, 8, 9, 10, 11, 12, 13, 14, 15, 16, 17, 18, 20, 21, 22, 23, 24], [0, 1, 2, 3, 4, 5, 6, 7, 8, 9, 10, 11, 12, 13, 14, 15, 16, 17, 18, 19, 20, 21, 22, 23, 24, 25], [0, 1, 2, 3, 4, 5, 6, 7, 8, 9, 10, 11, 12, 13, 14, 15, 16, 17, 18, 19, 20, 21, 22, 23, 24, 25, 26], [0, 1, 2, 3, 4, 5, 6, 7, 8, 9, 10, 11, 12, 13, 14, 15, 16, 17, 18], [0, 1, 2, 3, 4, 5, 6, 7, 8, 9, 10, 11, 12, 13, 14, 15, 16, 17, 18], [0, 1, 2, 3, 4, 5, 6, 7, 8, 9, 10, 11, 12, 13, 14, 15, 16, 17, 18, 28, 29], [0, 1, 2, 3, 4, 5, 6, 7, 8, 9, 10, 11, 12, 13, 14, 15, 16, 17, 18, 28, 29, 30], [0, 1, 2, 3, 4, 5, 6, 7, 8, 9, 10, 11, 12, 13, 14, 15, 16, 17, 18], [0, 1, 2, 3, 4, 5, 6, 7, 8, 9, 10, 11, 12, 13, 14, 15, 16, 17, 18], [0, 1, 2, 3, 4, 5, 6, 7, 8, 9, 10, 11, 12, 13, 14, 15, 16, 17, 18, 33], [0, 1, 2, 3, 4, 5, 6, 7, 8, 9, 10, 11, 12, 13, 14, 15, 16, 17, 18], [0, 1, 2, 3, 4, 5, 6, 7, 8, 9, 10, 11, 12, 13, 14, 15, 16, 17, 18, 33, 34, 35], [0, 1, 2, 3, 4, 5, 6, 7, 8, 9, 10, 11, 12, 13, 14, 15, 16, 17, 18, 32, 33, 34, 35, 36], [0, 1, 2, 3, 4, 5, 6, 7, 8, 9, 10, 11, 12, 13, 14, 15, 16, 17, 18, 32, 33, 34, 35, 36, 37], [0, 1, 2, 3, 4, 5, 6, 7, 8, 9, 10, 11, 12, 13, 14, 15, 16, 17, 18, 19, 20, 21, 22, 23, 24, 25, 26, 27, 28, 29, 30, 31, 32, 33, 34, 35, 36, 37, 38], [0, 1, 2, 3, 4, 5, 6, 7, 8, 9, 10, 11, 12, 13, 14, 15, 16, 17, 18, 19, 20, 21, 22, 23, 24, 25, 26, 27, 28, 29, 30, 31, 32, 33, 34, 35, 36, 37, 38, 39], [0, 1, 2, 3, 4, 5, 6, 7, 8, 9, 10, 11, 12, 13, 14, 15, 16, 17, 18, 19, 20, 21, 22, 23, 24, 25, 26, 27, 28, 29, 30, 31, 32, 33, 34, 35, 36, 37, 38, 39, 40], [0, 1, 2, 3, 4, 5, 6, 7, 8, 9, 10, 11, 12, 13, 14, 15, 16, 17, 18, 19, 20, 21, 22, 23, 24, 25, 26, 27, 28, 29, 30, 31, 32, 33, 34, 35, 36, 37, 38, 39, 40, 41], [0, 1, 2, 3, 4, 5, 6, 7, 8, 9, 10, 11, 12, 13, 14, 15, 16, 17, 18, 19, 20, 21, 22, 23, 24, 25, 26, 27, 28, 29, 30, 31, 32, 33, 34, 35, 36, 37, 38, 39, 40, 41, 42]], by kernel_rfl, ?_⟩
  conv => whnf
  have e7 : IntKind.i64.wrap ((k : Int) + 1) = ((k + 1 : Nat) : Int) := by rw [wrapi64 (by omega) (by omega)]; rfl
  by_cases hn1 : 1 < n
  ·rw [show decide ((n : Int) > 1) = true from decide_eq_true (by omega)]
   obtain ⟨p, cp, rp, pp, sp, qp⟩ := row k h1
   obtain ⟨q, cq, rq, pq, sq, qq⟩ := row (nxt n k) (nxt_lt (by omega))
   have hnx := nxt_i h1 (by omega)
   have hnl := nxt_lt h1
   obtain ⟨j, hj⟩ : ∃ j, j = nxt n k := ⟨_, rfl⟩
   rw [← hj] at hnx hnl rq
   conv => whnf
   refine ⟨⟨by omega, by omega⟩, ?_⟩
   simp only [toNat_cast, rowAdd_eq, Nat.zero_add]
   conv => whnf
   refine ⟨by show k < n0; omega, ?_⟩
   conv => whnf
   rw [rp]
   conv => whnf
   rw [show decide ((n : Int) ≠ 0) = true from decide_eq_true (by omega)]
   conv => whnf
   rw [hnx]
   refine ⟨⟨by omega, by omega⟩, ?_⟩
   simp only [toNat_cast, rowAdd_eq, Nat.zero_add]
   conv => whnf
   refine ⟨by show j < n0; omega, ?_⟩
   conv => whnf
   rw [rq]
   conv => whnf
   rw [eqPQ p q]
   by_cases ne : p = q
   ·have hnk : nd L k := ⟨by omega, .inl (by rw [← hn]; exact (canP_eq cp cq).1 ne)⟩
    rw [decide_eq_true ne]
    conv => whnf
    refine ⟨hcu, ?_⟩
    rw [← hcu, e7]
    conv => whnf
    refine ⟨⟨by omega, by omega, by omega, Int.le_refl _⟩, ?_⟩
    conv => whnf
    rw [show ((k : Int) == ((k + 1 : Nat) : Int)) = false from by rw [beq_eq_false_iff_ne]; omega]
    conv => whnf
    refine .inl ⟨6, [[], [], [0, 1], [], [], [3, 4], [0, 1, 2, 3, 4, 5], [0, 1, 2, 3, 4, 5, 6]], by kernel_rfl, ?_⟩
    conv => whnf
    refine ⟨⟨Int.le_refl _, by omega, by omega⟩, ?_⟩
    conv => whnf
    refine ⟨⟨by omega, by omega, Int.le_refl _⟩, ?_⟩
    conv => whnf
    obtain ⟨ce, hce⟩ : ∃ c, c = n - (k + 1) := ⟨_, rfl⟩
    rw [show Int.toNat ((k + 1 : Nat) : Int) = k + 1 from rfl, show Int.toNat (n : Int) = n from rfl, show Int.toNat 0 = 0 from rfl, show Int.toNat (k : Int) = k from rfl, show rowAdd 0 (k + 1) = k + 1 from rfl, show rowAdd 0 0 = 0 from rfl, Nat.sub_zero, Nat.sub_zero, ← hce, ← hcu]
    refine ⟨by omega, ?_⟩
    conv => whnf
    obtain ⟨G1, hG1⟩ : ∃ F, F = overGet G (rowAdd 0 k) (fun j => G (rowAdd (k + 1) j)) ce := ⟨_, rfl⟩
    rw [← hG1]
    refine ⟨⟨by omega, by omega⟩, ?_⟩
    conv => whnf
    refine ⟨⟨by omega, by omega, by omega⟩, ?_⟩
    conv => whnf
    rw [show Int.toNat ((k + ce : Nat) : Int) = k + ce from rfl, show Int.toNat (n : Int) = n from rfl, show rowAdd 0 (k + ce) = k + ce from rfl]
    refine ⟨⟨by omega, rfl⟩, ?_⟩
    conv => whnf
    refine .inr ⟨[0, 1], [0], ?_⟩
    conv => whnf
    intro _
    conv => whnf
    refine ⟨_, ?_, L.eraseIdx k, k + ce, _, (.keep (.s8 (.s8 (.s8 (.s8 (.s8 (.s8 (.s8 (.s8 (.s8 (.s8 (.s8 (.skip (.skip (.skip (.skip (.skip (.skip (.nil))))))))))))))))))), rfl, rfl, ?_⟩
    ·omega
    ·have h2 : 1 < n := by rw [hn]; exact hnk.1
     have hl : (L.eraseIdx k).length = n - 1 := by rw [List.length_eraseIdx_of_lt (by omega)]; omega
     refine ⟨⟨fun e => ?_, by omega, by omega⟩, hcl.trans (cleanL_step (firstNd_some (by omega) hnk hup)), fun v hv => hsz v ((List.eraseIdx_sublist L k).subset hv), fun r hr => ?_⟩
     ·rw [e] at hl
      simp at hl
      omega
     ·rw [hG1]
      exact del_rows hG hn h1 hce r (by omega)
   rw [decide_eq_false ne]
   conv => whnf
   by_cases hn2 : 2 < n
   ·rw [show decide ((n : Int) > 2) = true from decide_eq_true (by omega)]
    obtain ⟨o, co, ro, po, so, qo⟩ := row (prv n k) (prv_lt (by omega))
    have hpx := prv_i h1 (by omega)
    have hpl := prv_lt h1
    obtain ⟨i, hi⟩ : ∃ i, i = prv n k := ⟨_, rfl⟩
    rw [← hi] at hpx hpl ro
    conv => whnf
    rw [show decide ((n : Int) ≠ 0) = true from decide_eq_true (by omega)]
    conv => whnf
    rw [hpx]
    refine ⟨⟨by omega, by omega⟩, ?_⟩
    simp only [toNat_cast, rowAdd_eq, Nat.zero_add]
    conv => whnf
    refine ⟨by show i < n0; omega, ?_⟩
    conv => whnf
    rw [ro]
    conv => whnf
    refine ⟨⟨by omega, by omega⟩, ?_⟩
    simp only [toNat_cast, rowAdd_eq, Nat.zero_add]
    conv => whnf
    refine ⟨by show k < n0; omega, ?_⟩
    conv => whnf
    rw [rp]
    conv => whnf
    rw [show decide ((n : Int) ≠ 0) = true from decide_eq_true (by omega)]
    conv => whnf
    rw [hnx]
    refine ⟨⟨by omega, by omega⟩, ?_⟩
    simp only [toNat_cast, rowAdd_eq, Nat.zero_add]
    conv => whnf
    refine ⟨by show j < n0; omega, ?_⟩
    conv => whnf
    rw [rq]
    conv => whnf
    obtain ⟨z, ez, pz⟩ := hideZ (cmpQ (orR o.p p.p q.p) 0)
    refine ⟨(o, p, q), rfl, ⟨PV.sz_mono so (by decide), PV.sz_mono sp (by decide), PV.sz_mono sq (by decide)⟩, ?_⟩
    rw [show orientS.val (o, p, q) = .int .i64 z from ez]
    conv => whnf
    by_cases hor : cmpQ (orR o.p p.p q.p) 0 = 0
    ·have hnk : nd L k := ⟨by omega, .inr ⟨by omega, by
      have := cmpQ_zero.1 hor
      rw [po, pp, pq, hn] at this; exact this⟩⟩
     rw [show (z == 0) = true from by rw [pz]; simp [hor]]
     conv => whnf
     refine ⟨hcu, ?_⟩
     rw [← hcu, e7]
     conv => whnf
     refine ⟨⟨by omega, by omega, by omega, Int.le_refl _⟩, ?_⟩
     conv => whnf
     rw [show ((k : Int) == ((k + 1 : Nat) : Int)) = false from by rw [beq_eq_false_iff_ne]; omega]
     conv => whnf
     refine .inl ⟨6, [[], [], [0, 1], [], [], [3, 4], [0, 1, 2, 3, 4, 5], [0, 1, 2, 3, 4, 5, 6]], by kernel_rfl, ?_⟩
     conv => whnf
     refine ⟨⟨Int.le_refl _, by omega, by omega⟩, ?_⟩
     conv => whnf
     refine ⟨⟨by omega, by omega, Int.le_refl _⟩, ?_⟩
     conv => whnf
     obtain ⟨ce, hce⟩ : ∃ c, c = n - (k + 1) := ⟨_, rfl⟩
     rw [show Int.toNat ((k + 1 : Nat) : Int) = k + 1 from rfl, show Int.toNat (n : Int) = n from rfl, show Int.toNat 0 = 0 from rfl, show Int.toNat (k : Int) = k from rfl, show rowAdd 0 (k + 1) = k + 1 from rfl, show rowAdd 0 0 = 0 from rfl, Nat.sub_zero, Nat.sub_zero, ← hce, ← hcu]
     refine ⟨by omega, ?_⟩
     conv => whnf
     obtain ⟨G1, hG1⟩ : ∃ F, F = overGet G (rowAdd 0 k) (fun j => G (rowAdd (k + 1) j)) ce := ⟨_, rfl⟩
     rw [← hG1]
     refine ⟨⟨by omega, by omega⟩, ?_⟩
     conv => whnf
     refine ⟨⟨by omega, by omega, by omega⟩, ?_⟩
     conv => whnf
     rw [show Int.toNat ((k + ce : Nat) : Int) = k + ce from rfl, show Int.toNat (n : Int) = n from rfl, show rowAdd 0 (k + ce) = k + ce from rfl]
     refine ⟨⟨by omega, rfl⟩, ?_⟩
     conv => whnf
     refine .inr ⟨[0, 1], [0], ?_⟩
     conv => whnf
     intro _
     conv => whnf
     refine ⟨_, ?_, L.eraseIdx k, k + ce, _, (.keep (.s8 (.s8 (.s8 (.s8 (.s8 (.s8 (.s8 (.s8 (.s8 (.s8 (.s8 (.skip (.skip (.skip (.skip (.skip (.skip (.nil))))))))))))))))))), rfl, rfl, ?_⟩
     ·omega
     ·have h2 : 1 < n := by rw [hn]; exact hnk.1
      have hl : (L.eraseIdx k).length = n - 1 := by rw [List.length_eraseIdx_of_lt (by omega)]; omega
      refine ⟨⟨fun e => ?_, by omega, by omega⟩, hcl.trans (cleanL_step (firstNd_some (by omega) hnk hup)), fun v hv => hsz v ((List.eraseIdx_sublist L k).subset hv), fun r hr => ?_⟩
      ·rw [e] at hl
       simp at hl
       omega
      ·rw [hG1]
       exact del_rows hG hn h1 hce r (by omega)
    ·have hnk : ¬ nd L k := fun ⟨_, h⟩ => by
      rcases h with h | ⟨_, h⟩
      ·exact ne ((canP_eq cp cq).2 (by rw [hn]; exact h))
      ·exact hor (cmpQ_zero.2 (by rw [po, pp, pq, hn]; exact h))
     rw [show (z == 0) = false from by rw [pz]; simp [hor]]
     have hup' : ∀ j, j < k + 1 → ¬ nd L j := fun j hj => by
      rcases Nat.lt_or_ge j k with h | h
      ·exact hup j h
      ·have : j = k := by omega
       rw [this]; exact hnk
     conv => whnf
     rw [e7]
     refine .inr ⟨[0, 1], [0, 3, 4, 14, 15], ?_⟩
     conv => whnf
     intro _
     conv => whnf
     refine ⟨_, ?_, k + 1, (.keep (.skip (.skip (.keep (.keep (.s8 (.skip (.keep (.keep (.s8 (.s8 (.s8 (.s8 (.s8 (.s8 (.s8 (.s8 (.s8 (.skip (.skip (.skip (.skip (.skip (.skip (.skip (.nil)))))))))))))))))))))))))), rfl, rfl, ?_⟩
     ·omega
     ·exact ⟨by omega, hup'⟩
   ·have hnk : ¬ nd L k := fun ⟨_, h⟩ => by
     rcases h with h | ⟨h, _⟩
     ·exact ne ((canP_eq cp cq).2 (by rw [hn]; exact h))
     ·omega
    rw [show decide ((n : Int) > 2) = false from decide_eq_false (by omega)]
    have hup' : ∀ j, j < k + 1 → ¬ nd L j := fun j hj => by
     rcases Nat.lt_or_ge j k with h | h
     ·exact hup j h
     ·have : j = k := by omega
      rw [this]; exact hnk
    conv => whnf
    rw [e7]
    refine .inr ⟨[0, 1], [0, 3, 4, 14, 15], ?_⟩
    conv => whnf
    intro _
    conv => whnf
    refine ⟨_, ?_, k + 1, (.keep (.skip (.skip (.keep (.keep (.s8 (.skip (.keep (.keep (.s8 (.s8 (.s8 (.s8 (.s8 (.s8 (.s8 (.s8 (.s8 (.skip (.skip (.skip (.skip (.skip (.skip (.skip (.nil)))))))))))))))))))))))))), rfl, rfl, ?_⟩
    ·omega
    ·exact ⟨by omega, hup'⟩
  ·have hnk : ¬ nd L k := fun ⟨h, _⟩ => by omega
   rw [show decide ((n : Int) > 1) = false from decide_eq_false (by omega)]
   have hup' : ∀ j, j < k + 1 → ¬ nd L j := fun j hj => by
    rcases Nat.lt_or_ge j k with h | h
    ·exact hup j h
    ·have : j = k := by omega
     rw [this]; exact hnk
   conv => whnf
   rw [e7]
   refine .inr ⟨[0, 1], [0, 3, 4, 14, 15], ?_⟩
   conv => whnf
   intro _
   conv => whnf
   refine ⟨_, ?_, k + 1, (.keep (.skip (.skip (.keep (.keep (.s8 (.skip (.keep (.keep (.s8 (.s8 (.s8 (.s8 (.s8 (.s8 (.s8 (.s8 (.s8 (.skip (.skip (.skip (.skip (.skip (.skip (.skip (.nil)))))))))))))))))))))))))), rfl, rfl, ?_⟩
   ·omega
   ·exact ⟨by omega, hup'⟩
 ·have h1 : k = n := by
   have := of_decide_eq_false h1
   omega
  subst h1
  have hnd : firstNd L = none := firstNd_none fun j hj => hup j (by omega)
  have hcl : cleanL L0 = L := hcl.trans (cleanL_stop hnd)
  have hMk : M = k := by rw [hM, hcl, hn]
  rw [hMk]
  rw [hcl] at hgs
  conv => whnf
  skip
  skip
  refine .inl ⟨fun mm tz hz => ∃ (i : Nat) (m : Nat), Pat [some (.slice (some ⟨1, 0, none⟩) k cu), none, none, none, none, none, some (.int .i64 m), none, none, none, none, none, none, none, none, none, none, none, none, none, none, none, none, none, none, none, none, none, none, none, none, none, none, none, none, none, none, none, none, none, none, none, none, none, none, none, none, none, none, none, none, none, none, none, none, none, none, none, none, none, none, none, none, none, none, none, none, none, none, none, none, some (.slice (some ⟨1, 0, none⟩) k cu), some (.int .i64 k), some (.int .i64 i), none, none, none, none, none, none, none, none, none, none, none, none, none, none, none, none, none, none, none, none, none] tz ∧ hz = [some (.flat false n0 6 g), some (.flat true n0 6 G)] ∧ k - i = mm ∧ (i ≤ k ∧ m = leastUp L i), .inr ⟨[0, 1], [0, 6, 71, 72, 73], ?_⟩, ?_⟩
  ·conv => whnf
   intro _
   conv => whnf
   refine ⟨_, 0, 0, (.keep (.skip (.skip (.skip (.skip (.skip (.keep (.s8 (.s8 (.s8 (.s8 (.s8 (.s8 (.s8 (.s8 (.keep (.keep (.keep (.s8 (.s8 (.skip (.skip (.skip (.skip (.skip (.nil)))))))))))))))))))))))))), rfl, rfl, ?_⟩
   exact ⟨Nat.zero_le _, rfl⟩
  rintro mm tms _ ⟨i, m, hpat, rfl, rfl, ⟨hi, hm⟩⟩
  obtain ⟨az, rfl⟩ : ∃ az : Nat → Value, tms = [.slice (some ⟨1, 0, none⟩) k cu, az 1, az 2, az 3, az 4, az 5, .int .i64 m, az 7, az 8, az 9, az 10, az 11, az 12, az 13, az 14, az 15, az 16, az 17, az 18, az 19, az 20, az 21, az 22, az 23, az 24, az 25, az 26, az 27, az 28, az 29, az 30, az 31, az 32, az 33, az 34, az 35, az 36, az 37, az 38, az 39, az 40, az 41, az 42, az 43, az 44, az 45, az 46, az 47, az 48, az 49, az 50, az 51, az 52, az 53, az 54, az 55, az 56, az 57, az 58, az 59, az 60, az 61, az 62, az 63, az 64, az 65, az 66, az 67, az 68, az 69, az 70, .slice (some ⟨1, 0, none⟩) k cu, .int .i64 k, .int .i64 i, az 74, az 75, az 76, az 77, az 78, az 79, az 80, az 81, az 82, az 83, az 84, az 85, az 86, az 87, az 88, az 89, az 90, az 91, az 92, az 93, az 94] := pat_fill hpat
  clear hpat
  have hml : m < k := by rw [hm, hn]; exact (leastUp_spec L i (by omega)).1 (by omega)
  conv => whnf
  refine br_intro (fun h1 => ?_) (fun h1 => ?_)
  ·have h1 : i < k := by
    have := of_decide_eq_true h1
    omega
   have e7 : IntKind.i64.wrap ((i : Int) + 1) = ((i + 1 : Nat) : Int) := by rw [wrapi64 (by omega) (by omega)]; rfl
   obtain ⟨p, cp, rp, pp, sp, qp⟩ := row i (by omega)
   obtain ⟨q, cq, rq, pq, sq, qq⟩ := row m (by omega)
   conv => whnf
   refine ⟨⟨by omega, by omega⟩, ?_⟩
   simp only [toNat_cast, rowAdd_eq, Nat.zero_add]
   conv => whnf
   refine ⟨by show i < n0; omega, ?_⟩
   conv => whnf
   rw [rp]
   conv => whnf
   refine .inl ⟨5, [[], [], [], [1, 2], [1, 2, 3], [0, 1, 2, 3, 4], [0, 1, 2, 3, 4, 5]], by kernel_rfl, ?_⟩
   conv => whnf
   refine ⟨⟨by omega, by omega⟩, ?_⟩
   simp only [toNat_cast, rowAdd_eq, Nat.zero_add]
   conv => whnf
   refine ⟨by show m < n0; omega, ?_⟩
   conv => whnf
   rw [rq]
   conv => whnf
   obtain ⟨z, ez, pz⟩ := hideZ (cmpR p.p q.p)
   refine ⟨(p, q), rfl, ⟨PV.sz_mono sp (by decide), PV.sz_mono sq (by decide)⟩, ?_⟩
   rw [show vcmpS.val (p, q) = .int .i64 z from ez]
   conv => whnf
   rw [pp, pq] at pz
   have hup : leastUp L (i + 1) = if z < 0 then i else m := by
    show (if cmpR (at2 L i) (at2 L (leastUp L i)) < 0 then i else leastUp L i) = _
    rw [pz, hm]
   refine br_intro (fun h2 => ?_) (fun h2 => ?_)
   ·have h2 : z < 0 := of_decide_eq_true h2
    conv => whnf
    rw [e7]
    refine .inr ⟨[0, 1], [0, 6, 71, 72, 73], ?_⟩
    conv => whnf
    intro _
    conv => whnf
    refine ⟨_, ?_, i + 1, i, (.keep (.skip (.skip (.skip (.skip (.skip (.keep (.s8 (.s8 (.s8 (.s8 (.s8 (.s8 (.s8 (.s8 (.keep (.keep (.keep (.s8 (.s8 (.skip (.skip (.skip (.skip (.skip (.nil)))))))))))))))))))))))))), rfl, rfl, ?_⟩
    ·omega
    ·exact ⟨by omega, by rw [hup, if_pos h2]⟩
   ·have h2 : ¬ z < 0 := of_decide_eq_false h2
    conv => whnf
    rw [e7]
    refine .inr ⟨[0, 1], [0, 6, 71, 72, 73], ?_⟩
    conv => whnf
    intro _
    conv => whnf
    refine ⟨_, ?_, i + 1, m, (.keep (.skip (.skip (.skip (.skip (.skip (.keep (.s8 (.s8 (.s8 (.s8 (.s8 (.s8 (.s8 (.s8 (.keep (.keep (.keep (.s8 (.s8 (.skip (.skip (.skip (.skip (.skip (.nil)))))))))))))))))))))))))), rfl, rfl, ?_⟩
    ·omega
    ·exact ⟨by omega, by rw [hup, if_neg h2]⟩
  ·have h1 : i = k := by
    have := of_decide_eq_false h1
    omega
   subst h1
   conv => whnf
   refine .inl ⟨6, [[], [], [0, 1], [], [], [3, 4], [0, 1, 2, 3, 4, 5], [0, 1, 2, 3, 4, 5, 6], [0, 1, 2, 3, 4, 5, 6, 7]], by kernel_rfl, ?_⟩
   conv => whnf
   refine ⟨⟨by omega, by omega, by omega⟩, ?_⟩
   rw [show Int.toNat (i : Int) - Int.toNat (m : Int) = i - m from rfl, show Int.toNat (m : Int) = m from rfl, rowAdd_eq, Nat.zero_add]
   conv => whnf
   refine ⟨⟨by omega, by omega, by omega⟩, ?_⟩
   conv => whnf
   obtain ⟨a, ha⟩ : ∃ a, a = i - m := ⟨_, rfl⟩
   obtain ⟨ca, hca⟩ : ∃ a, a = capSub cu m := ⟨_, rfl⟩
   obtain ⟨cb, hcb⟩ : ∃ a, a = capSub cu (Int.toNat 0) := ⟨_, rfl⟩
   rw [← ha, ← hca, ← hcb, show rowAdd 0 (Int.toNat 0) = 0 from rfl, show Int.toNat (m : Int) - Int.toNat 0 = m from rfl, Nat.zero_add]
   have w1 : IntKind.i64.wrap (0 + (a : Int)) = (a : Int) := by rw [wrapi64 (by omega) (by omega)]; omega
   have w2 : IntKind.i64.wrap ((a : Int) + (m : Int)) = (i : Int) := by rw [wrapi64 (by omega) (by omega)]; omega
   refine .inr ⟨3, ?_⟩
   conv => whnf
   refine ⟨by decide, ?_⟩
   conv => whnf
   rw [w1, show decide ((a : Int) < 0) = false from decide_eq_false (by omega)]
   conv => whnf
   refine ⟨by decide, ?_⟩
   conv => whnf
   rw [w2, show decide ((i : Int) < 0) = false from decide_eq_false (by omega)]
   conv => whnf
   have w3 : IntKind.i64.wrap ((i : Int) - IntKind.i64.wrap (0 - ((0 : Nat) : Int))) = (i : Int) := by
    rw [show IntKind.i64.wrap (0 - ((0 : Nat) : Int)) = 0 from rfl, wrapi64 (by omega) (by omega)]; omega
   rw [w3, show decide ((i : Int) > 0) = true from decide_eq_true (by omega)]
   conv => whnf
   refine ⟨⟨by omega, by omega, by omega⟩, ?_⟩
   conv => whnf
   refine ⟨⟨by omega, by show (i : Int) * ((80 : Nat) : Int) ≤ _; omega⟩, ?_⟩
   conv => whnf
   refine ⟨⟨by omega, by omega, by omega⟩, ?_⟩
   rw [show (0 : Int).toNat = 0 from rfl, show rowAdd 0 0 = 0 from rfl]
   conv => whnf
   refine .inr ⟨3, ?_⟩
   conv => whnf
   refine ⟨by decide, ?_⟩
   conv => whnf
   refine ⟨by omega, ?_⟩
   conv => whnf
   rw [show Int.toNat (((0 : Nat) : Int)) - 0 = 0 from rfl, show (Src.fl a fun j => G (rowAdd (0 + m) j)).m = a from rfl, Nat.zero_add]
   refine ⟨⟨by decide, ⟨Nat.zero_le _, rfl⟩, by show (0 + a) * 80 ≤ _; omega⟩, ?_⟩
   conv => whnf
   refine ⟨[25, 26, 27], ?_⟩
   conv => whnf
   intro _
   conv => whnf
   refine ⟨by decide, ?_⟩
   conv => whnf
   refine ⟨by omega, ?_⟩
   conv => whnf
   rw [show (Src.fl m fun j => G (rowAdd 0 j)).m = m from rfl]
   refine ⟨⟨by decide, ⟨Nat.le_refl _, rfl⟩, by show (0 + a + m) * 80 ≤ _; omega⟩, ?_⟩
   conv => whnf
   refine ⟨[25, 26, 27], ?_⟩
   conv => whnf
   intro _
   conv => whnf
   rw [show 0 + a + m = i from by omega]
   refine ⟨9, ?_⟩
   conv => whnf
   refine ⟨⟨rfl, BlkLe.flat_rows (fun h => h) (fun r hr => ?_) (fun r hr => by rw [hgs]; rfl)⟩, _, rfl, by rw [hcu]; exact .refl _⟩
   rw [hgs, rot_rowsG (fun r hr => hG r (by omega)) (by omega) (by omega) r (by omega), hm, hn]
   rfl
end Go.Proofs.YtppeponndkfbkaaGreat
