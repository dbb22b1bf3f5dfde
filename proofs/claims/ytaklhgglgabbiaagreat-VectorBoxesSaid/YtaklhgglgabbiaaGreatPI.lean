import Derived.Test.YtaklhgglgabbiaaGreatRows
import Derived.Test.YtaklhgglgabbiaaGreatPH
/- Contracts of vector and of the reference vectors: sums, products. -/
set_option linter.unusedVariables false
set_option linter.unusedSimpArgs false
set_option maxRecDepth 20000
set_option maxHeartbeats 1000000
namespace Go.Proofs.YtaklhgglgabbiaaGreat
open Go Go.Ae

def Eva : Env := { tt := tt, eqs := [], Φ := fun g => match g with
  | 41 => some (.p qaddS)
  | 43 => some (.p qsubS)
  | 45 => some (.p qmulS)
  | _ => none }
theorem Evaok : EnvOk Tryz.prog Eva := ⟨tt_ok, fun t h => by simp [Eva] at h, (fun g S h => by
  simp only [Eva] at h
  split at h
  · cases h; exact qadd_ok
  · cases h; exact qsub_ok
  · cases h; exact qmul_ok
  · cases h), fun g F h => by simp [Eva] at h⟩

theorem each_ft : FTOk Tryz.prog 40 (fnK Eva drawT Tryz.f40) := by
  exact ft_of Evaok Dok Tryz.func40 (enters_of Tryz.func40 (by kernel_rfl) rfl)

def EvbW : FuncId → Option FT := fun g => match g with
  | 40 => some (fnK Eva drawT Tryz.f40)
  | _ => none
def Evb : Env := { tt := tt, eqs := [], Ψ := EvbW, Φ := fun g => match g with
  | 38 => some (.p qofS)
  | 41 => some (.p qaddS)
  | 43 => some (.p qsubS)
  | 49 => some (.p qcmpS)
  | 47 => some (.p qcheckS)
  | _ => none }
theorem Evbok : EnvOk Tryz.prog Evb := ⟨tt_ok, fun t h => by simp [Evb] at h, (fun g S h => by
  simp only [Evb] at h
  split at h
  · cases h; exact qof_ok
  · cases h; exact qadd_ok
  · cases h; exact qsub_ok
  · cases h; exact qcmp_ok
  · cases h; exact qcheck_ok
  · cases h), (fun g F h => by
  simp only [Evb, EvbW] at h
  split at h
  · cases h; exact each_ft
  · cases h)⟩
def Evr : Env := { tt := tt, eqs := [], Φ := fun g => match g with
  | 39 => some (.p qofS)
  | 42 => some (.p qaddS)
  | 44 => some (.p qsubS)
  | 46 => some (.p qmulS)
  | 50 => some (.p qcmpS)
  | 48 => some (.p qcheckS)
  | 81 => some (.p qnormS)
  | _ => none }
theorem Evrok : EnvOk Tryz.prog Evr := ⟨tt_ok, fun t h => by simp [Evr] at h, (fun g S h => by
  simp only [Evr] at h
  split at h
  · cases h; exact rqof_ok
  · cases h; exact rqadd_ok
  · cases h; exact rqsub_ok
  · cases h; exact rqmul_ok
  · cases h; exact rqcmp_ok
  · cases h; exact rqcheck_ok
  · cases h; exact rqnorm_ok
  · cases h), fun g F h => by simp [Evr] at h⟩

theorem vof_ok : Snd Tryz.prog 8 vofS := by
  refine snd_of Evbok Dok Tryz.func8 (enters_of Tryz.func8 (by kernel_rfl) rfl) (fun _ => rfl) (fun _ => rfl) ?_
  intro ⟨n, m⟩ hp
  have hp : ok1 n ∧ ok1 m := hp
  obtain ⟨x, hx⟩ : ∃ x : Rat, x = (n : Rat) := ⟨_, rfl⟩
  obtain ⟨y, hy⟩ : ∃ x : Rat, x = (m : Rat) := ⟨_, rfl⟩
  conv => whnf
  refine ⟨n, rfl, hp.1, ?_⟩
  rw [show qofS.val n = (RV.of x).v from by rw [hx]; rfl]
  conv => whnf
  refine ⟨m, rfl, hp.2, ?_⟩
  rw [show qofS.val m = (RV.of y).v from by rw [hy]; rfl]
  conv => whnf
  show PV.v (RV.of x, RV.of y) = encP _ _
  rw [hx, hy]
  rfl

theorem rvof_ok : Snd Tryz.prog 9 vofS := by
  refine snd_of Evrok Dok Tryz.func9 (enters_of Tryz.func9 (by kernel_rfl) rfl) (fun _ => rfl) (fun _ => rfl) ?_
  intro ⟨n, m⟩ hp
  have hp : ok1 n ∧ ok1 m := hp
  obtain ⟨x, hx⟩ : ∃ x : Rat, x = (n : Rat) := ⟨_, rfl⟩
  obtain ⟨y, hy⟩ : ∃ x : Rat, x = (m : Rat) := ⟨_, rfl⟩
  conv => whnf
  refine ⟨n, rfl, hp.1, ?_⟩
  rw [show qofS.val n = (RV.of x).v from by rw [hx]; rfl]
  conv => whnf
  refine ⟨m, rfl, hp.2, ?_⟩
  rw [show qofS.val m = (RV.of y).v from by rw [hy]; rfl]
  conv => whnf
  show PV.v (RV.of x, RV.of y) = encP _ _
  rw [hx, hy]
  rfl

theorem vadd_ok : Snd Tryz.prog 10 vaddS := by
  refine snd_of Evbok Dok Tryz.func10 (enters_of Tryz.func10 (by kernel_rfl) rfl) (fun _ => rfl) (fun _ => rfl) ?_
  intro ⟨p, q⟩ hp
  have hp : p.sz 8589934592 ∧ q.sz 8589934592 := hp
  obtain ⟨x, hx⟩ : ∃ x, x = p.1.q + q.1.q := ⟨_, rfl⟩
  obtain ⟨y, hy⟩ : ∃ x, x = p.2.q + q.2.q := ⟨_, rfl⟩
  conv => whnf
  refine .inl ⟨11, [[], [], [1], [], [3], [0, 1, 2, 3, 4], [], [], [7], [], [9], [0, 1, 2, 3, 4, 5, 6, 7, 8, 9, 10], [0, 1, 2, 3, 4, 5, 6, 7, 8, 9, 10, 11], [0, 1, 2, 3, 4, 5, 6, 7, 8, 9, 10, 11, 12]], by kernel_rfl, ?_⟩
  conv => whnf
  refine ⟨(p.1, q.1), rfl, ⟨hp.1.1, hp.2.1⟩, ?_⟩
  rw [show qaddS.val (p.1, q.1) = (RV.of x).v from by rw [hx]; rfl]
  conv => whnf
  refine ⟨(p.2, q.2), rfl, ⟨hp.1.2, hp.2.2⟩, ?_⟩
  rw [show qaddS.val (p.2, q.2) = (RV.of y).v from by rw [hy]; rfl]
  conv => whnf
  show PV.v (RV.of x, RV.of y) = encP _ _
  rw [hx, hy]
  rfl

theorem vsub_ok : Snd Tryz.prog 12 vsubS := by
  refine snd_of Evbok Dok Tryz.func12 (enters_of Tryz.func12 (by kernel_rfl) rfl) (fun _ => rfl) (fun _ => rfl) ?_
  intro ⟨p, q⟩ hp
  have hp : p.sz 8589934592 ∧ q.sz 8589934592 := hp
  obtain ⟨x, hx⟩ : ∃ x, x = p.1.q - q.1.q := ⟨_, rfl⟩
  obtain ⟨y, hy⟩ : ∃ x, x = p.2.q - q.2.q := ⟨_, rfl⟩
  conv => whnf
  refine .inl ⟨11, [[], [], [1], [], [3], [0, 1, 2, 3, 4], [], [], [7], [], [9], [0, 1, 2, 3, 4, 5, 6, 7, 8, 9, 10], [0, 1, 2, 3, 4, 5, 6, 7, 8, 9, 10, 11], [0, 1, 2, 3, 4, 5, 6, 7, 8, 9, 10, 11, 12]], by kernel_rfl, ?_⟩
  conv => whnf
  refine ⟨(p.1, q.1), rfl, ⟨hp.1.1, hp.2.1⟩, ?_⟩
  rw [show qsubS.val (p.1, q.1) = (RV.of x).v from by rw [hx]; rfl]
  conv => whnf
  refine ⟨(p.2, q.2), rfl, ⟨hp.1.2, hp.2.2⟩, ?_⟩
  rw [show qsubS.val (p.2, q.2) = (RV.of y).v from by rw [hy]; rfl]
  conv => whnf
  show PV.v (RV.of x, RV.of y) = encP _ _
  rw [hx, hy]
  rfl

theorem rvadd_ok : Snd Tryz.prog 11 vaddS := by
  refine snd_of Evrok Dok Tryz.func11 (enters_of Tryz.func11 (by kernel_rfl) rfl) (fun _ => rfl) (fun _ => rfl) ?_
  intro ⟨p, q⟩ hp
  have hp : p.sz 8589934592 ∧ q.sz 8589934592 := hp
  obtain ⟨x, hx⟩ : ∃ x, x = p.1.q + q.1.q := ⟨_, rfl⟩
  obtain ⟨y, hy⟩ : ∃ x, x = p.2.q + q.2.q := ⟨_, rfl⟩
  conv => whnf
  refine .inl ⟨9, [[], [0], [], [2], [0, 1, 2, 3], [], [5], [], [7], [0, 1, 2, 3, 4, 5, 6, 7, 8], [0, 1, 2, 3, 4, 5, 6, 7, 8, 9], [0, 1, 2, 3, 4, 5, 6, 7, 8, 9, 10]], by kernel_rfl, ?_⟩
  conv => whnf
  refine ⟨(p.1, q.1), rfl, ⟨hp.1.1, hp.2.1⟩, ?_⟩
  rw [show qaddS.val (p.1, q.1) = (RV.of x).v from by rw [hx]; rfl]
  conv => whnf
  refine ⟨(p.2, q.2), rfl, ⟨hp.1.2, hp.2.2⟩, ?_⟩
  rw [show qaddS.val (p.2, q.2) = (RV.of y).v from by rw [hy]; rfl]
  conv => whnf
  show PV.v (RV.of x, RV.of y) = encP _ _
  rw [hx, hy]
  rfl

theorem rvsub_ok : Snd Tryz.prog 13 vsubS := by
  refine snd_of Evrok Dok Tryz.func13 (enters_of Tryz.func13 (by kernel_rfl) rfl) (fun _ => rfl) (fun _ => rfl) ?_
  intro ⟨p, q⟩ hp
  have hp : p.sz 8589934592 ∧ q.sz 8589934592 := hp
  obtain ⟨x, hx⟩ : ∃ x, x = p.1.q - q.1.q := ⟨_, rfl⟩
  obtain ⟨y, hy⟩ : ∃ x, x = p.2.q - q.2.q := ⟨_, rfl⟩
  conv => whnf
  refine .inl ⟨9, [[], [0], [], [2], [0, 1, 2, 3], [], [5], [], [7], [0, 1, 2, 3, 4, 5, 6, 7, 8], [0, 1, 2, 3, 4, 5, 6, 7, 8, 9], [0, 1, 2, 3, 4, 5, 6, 7, 8, 9, 10]], by kernel_rfl, ?_⟩
  conv => whnf
  refine ⟨(p.1, q.1), rfl, ⟨hp.1.1, hp.2.1⟩, ?_⟩
  rw [show qsubS.val (p.1, q.1) = (RV.of x).v from by rw [hx]; rfl]
  conv => whnf
  refine ⟨(p.2, q.2), rfl, ⟨hp.1.2, hp.2.2⟩, ?_⟩
  rw [show qsubS.val (p.2, q.2) = (RV.of y).v from by rw [hy]; rfl]
  conv => whnf
  show PV.v (RV.of x, RV.of y) = encP _ _
  rw [hx, hy]
  rfl

theorem vscale_ok : Snd Tryz.prog 14 vscaleS := by
  refine snd_of Evbok Dok Tryz.func14 (enters_of Tryz.func14 (by kernel_rfl) rfl) (fun _ => rfl) (fun _ => rfl) ?_
  intro ⟨p, q⟩ hp
  have hp : p.sz 8589934592 ∧ q.sz 8589934592 := hp
  obtain ⟨x, hx⟩ : ∃ x, x = p.1.q * q.q := ⟨_, rfl⟩
  obtain ⟨y, hy⟩ : ∃ x, x = p.2.q * q.q := ⟨_, rfl⟩
  conv => whnf
  refine .inl ⟨11, [[], [], [1], [], [3], [0, 1, 2, 3, 4], [], [], [7], [], [9], [0, 1, 2, 3, 4, 5, 6, 7, 8, 9, 10], [0, 1, 2, 3, 4, 5, 6, 7, 8, 9, 10, 11], [0, 1, 2, 3, 4, 5, 6, 7, 8, 9, 10, 11, 12]], by kernel_rfl, ?_⟩
  conv => whnf
  refine ⟨(p.1, q), rfl, ⟨hp.1.1, hp.2⟩, ?_⟩
  rw [show qmulS.val (p.1, q) = (RV.of x).v from by rw [hx]; rfl]
  conv => whnf
  refine ⟨(p.2, q), rfl, ⟨hp.1.2, hp.2⟩, ?_⟩
  rw [show qmulS.val (p.2, q) = (RV.of y).v from by rw [hy]; rfl]
  conv => whnf
  show PV.v (RV.of x, RV.of y) = encP _ _
  rw [hx, hy]
  rfl

theorem rvscale_ok : Snd Tryz.prog 15 vscaleS := by
  refine snd_of Evrok Dok Tryz.func15 (enters_of Tryz.func15 (by kernel_rfl) rfl) (fun _ => rfl) (fun _ => rfl) ?_
  intro ⟨p, q⟩ hp
  have hp : p.sz 8589934592 ∧ q.sz 8589934592 := hp
  obtain ⟨x, hx⟩ : ∃ x, x = p.1.q * q.q := ⟨_, rfl⟩
  obtain ⟨y, hy⟩ : ∃ x, x = p.2.q * q.q := ⟨_, rfl⟩
  conv => whnf
  refine .inl ⟨7, [[], [0], [], [0, 1, 2], [], [4], [], [0, 1, 2, 3, 4, 5, 6], [0, 1, 2, 3, 4, 5, 6, 7], [0, 1, 2, 3, 4, 5, 6, 7, 8]], by kernel_rfl, ?_⟩
  conv => whnf
  refine ⟨(p.1, q), rfl, ⟨hp.1.1, hp.2⟩, ?_⟩
  rw [show qmulS.val (p.1, q) = (RV.of x).v from by rw [hx]; rfl]
  conv => whnf
  refine ⟨(p.2, q), rfl, ⟨hp.1.2, hp.2⟩, ?_⟩
  rw [show qmulS.val (p.2, q) = (RV.of y).v from by rw [hy]; rfl]
  conv => whnf
  show PV.v (RV.of x, RV.of y) = encP _ _
  rw [hx, hy]
  rfl

theorem vdot_ok : Snd Tryz.prog 16 vdotS := by
  refine snd_of Evbok Dok Tryz.func16 (enters_of Tryz.func16 (by kernel_rfl) rfl) (fun _ => rfl) (fun _ => rfl) ?_
  intro ⟨p, q⟩ hp
  have hp : p.sz 1073741824 ∧ q.sz 1073741824 := hp
  obtain ⟨x, hx⟩ : ∃ x, x = p.1.q * q.1.q := ⟨_, rfl⟩
  obtain ⟨y, hy⟩ : ∃ x, x = p.2.q * q.2.q := ⟨_, rfl⟩
  obtain ⟨z, hz⟩ : ∃ z, z = x + y := ⟨_, rfl⟩
  have sx : (RV.of x).ok := RV.sz_ok (RV.of_sz (by rw [hx]; exact (RV.qb' hp.1.1 (by decide)).mul (RV.qb' hp.2.1 (by decide)))) (by decide)
  have sy : (RV.of y).ok := RV.sz_ok (RV.of_sz (by rw [hy]; exact (RV.qb' hp.1.2 (by decide)).mul (RV.qb' hp.2.2 (by decide)))) (by decide)
  conv => whnf
  refine .inl ⟨11, [[], [], [1], [], [3], [0, 1, 2, 3, 4], [], [], [7], [], [9], [0, 1, 2, 3, 4, 5, 6, 7, 8, 9, 10], [0, 1, 2, 3, 4, 5, 6, 7, 8, 9, 10, 11], [0, 1, 2, 3, 4, 5, 6, 7, 8, 9, 10, 11, 12]], by kernel_rfl, ?_⟩
  conv => whnf
  refine ⟨(p.1, q.1), rfl, ⟨RV.sz_ok hp.1.1 (by decide), RV.sz_ok hp.2.1 (by decide)⟩, ?_⟩
  rw [show qmulS.val (p.1, q.1) = (RV.of x).v from by rw [hx]; rfl]
  conv => whnf
  refine ⟨(p.2, q.2), rfl, ⟨RV.sz_ok hp.1.2 (by decide), RV.sz_ok hp.2.2 (by decide)⟩, ?_⟩
  rw [show qmulS.val (p.2, q.2) = (RV.of y).v from by rw [hy]; rfl]
  conv => whnf
  refine ⟨(RV.of x, RV.of y), rfl, ⟨sx, sy⟩, ?_⟩
  rw [show qaddS.val (RV.of x, RV.of y) = (RV.of z).v from by
    show encQ ((RV.of x).q + (RV.of y).q) = _
    rw [RV.of_q, RV.of_q, hz]; rfl]
  conv => whnf
  show (RV.of z).v = encQ _
  rw [hz, hx, hy]
  rfl

theorem vcross_ok : Snd Tryz.prog 18 vcrossS := by
  refine snd_of Evbok Dok Tryz.func18 (enters_of Tryz.func18 (by kernel_rfl) rfl) (fun _ => rfl) (fun _ => rfl) ?_
  intro ⟨p, q⟩ hp
  have hp : p.sz 1073741824 ∧ q.sz 1073741824 := hp
  obtain ⟨x, hx⟩ : ∃ x, x = p.1.q * q.2.q := ⟨_, rfl⟩
  obtain ⟨y, hy⟩ : ∃ x, x = p.2.q * q.1.q := ⟨_, rfl⟩
  obtain ⟨z, hz⟩ : ∃ z, z = x - y := ⟨_, rfl⟩
  have sx : (RV.of x).ok := RV.sz_ok (RV.of_sz (by rw [hx]; exact (RV.qb' hp.1.1 (by decide)).mul (RV.qb' hp.2.2 (by decide)))) (by decide)
  have sy : (RV.of y).ok := RV.sz_ok (RV.of_sz (by rw [hy]; exact (RV.qb' hp.1.2 (by decide)).mul (RV.qb' hp.2.1 (by decide)))) (by decide)
  conv => whnf
  refine .inl ⟨11, [[], [], [1], [], [3], [0, 1, 2, 3, 4], [], [], [7], [], [9], [0, 1, 2, 3, 4, 5, 6, 7, 8, 9, 10], [0, 1, 2, 3, 4, 5, 6, 7, 8, 9, 10, 11], [0, 1, 2, 3, 4, 5, 6, 7, 8, 9, 10, 11, 12]], by kernel_rfl, ?_⟩
  conv => whnf
  refine ⟨(p.1, q.2), rfl, ⟨RV.sz_ok hp.1.1 (by decide), RV.sz_ok hp.2.2 (by decide)⟩, ?_⟩
  rw [show qmulS.val (p.1, q.2) = (RV.of x).v from by rw [hx]; rfl]
  conv => whnf
  refine ⟨(p.2, q.1), rfl, ⟨RV.sz_ok hp.1.2 (by decide), RV.sz_ok hp.2.1 (by decide)⟩, ?_⟩
  rw [show qmulS.val (p.2, q.1) = (RV.of y).v from by rw [hy]; rfl]
  conv => whnf
  refine ⟨(RV.of x, RV.of y), rfl, ⟨sx, sy⟩, ?_⟩
  rw [show qsubS.val (RV.of x, RV.of y) = (RV.of z).v from by
    show encQ ((RV.of x).q - (RV.of y).q) = _
    rw [RV.of_q, RV.of_q, hz]; rfl]
  conv => whnf
  show (RV.of z).v = encQ _
  rw [hz, hx, hy]
  rfl

theorem rvdot_ok : Snd Tryz.prog 17 vdotS := by
  refine snd_of Evrok Dok Tryz.func17 (enters_of Tryz.func17 (by kernel_rfl) rfl) (fun _ => rfl) (fun _ => rfl) ?_
  intro ⟨p, q⟩ hp
  have hp : p.sz 1073741824 ∧ q.sz 1073741824 := hp
  obtain ⟨x, hx⟩ : ∃ x, x = p.1.q * q.1.q := ⟨_, rfl⟩
  obtain ⟨y, hy⟩ : ∃ x, x = p.2.q * q.2.q := ⟨_, rfl⟩
  obtain ⟨z, hz⟩ : ∃ z, z = x + y := ⟨_, rfl⟩
  have sx : (RV.of x).ok := RV.sz_ok (RV.of_sz (by rw [hx]; exact (RV.qb' hp.1.1 (by decide)).mul (RV.qb' hp.2.1 (by decide)))) (by decide)
  have sy : (RV.of y).ok := RV.sz_ok (RV.of_sz (by rw [hy]; exact (RV.qb' hp.1.2 (by decide)).mul (RV.qb' hp.2.2 (by decide)))) (by decide)
  conv => whnf
  refine .inl ⟨9, [[], [0], [], [2], [0, 1, 2, 3], [], [5], [], [7], [0, 1, 2, 3, 4, 5, 6, 7, 8], [0, 1, 2, 3, 4, 5, 6, 7, 8, 9], [0, 1, 2, 3, 4, 5, 6, 7, 8, 9, 10]], by kernel_rfl, ?_⟩
  conv => whnf
  refine ⟨(p.1, q.1), rfl, ⟨RV.sz_ok hp.1.1 (by decide), RV.sz_ok hp.2.1 (by decide)⟩, ?_⟩
  rw [show qmulS.val (p.1, q.1) = (RV.of x).v from by rw [hx]; rfl]
  conv => whnf
  refine ⟨(p.2, q.2), rfl, ⟨RV.sz_ok hp.1.2 (by decide), RV.sz_ok hp.2.2 (by decide)⟩, ?_⟩
  rw [show qmulS.val (p.2, q.2) = (RV.of y).v from by rw [hy]; rfl]
  conv => whnf
  refine ⟨(RV.of x, RV.of y), rfl, ⟨sx, sy⟩, ?_⟩
  rw [show qaddS.val (RV.of x, RV.of y) = (RV.of z).v from by
    show encQ ((RV.of x).q + (RV.of y).q) = _
    rw [RV.of_q, RV.of_q, hz]; rfl]
  conv => whnf
  show (RV.of z).v = encQ _
  rw [hz, hx, hy]
  rfl

theorem rvcross_ok : Snd Tryz.prog 19 vcrossS := by
  refine snd_of Evrok Dok Tryz.func19 (enters_of Tryz.func19 (by kernel_rfl) rfl) (fun _ => rfl) (fun _ => rfl) ?_
  intro ⟨p, q⟩ hp
  have hp : p.sz 1073741824 ∧ q.sz 1073741824 := hp
  obtain ⟨x, hx⟩ : ∃ x, x = p.1.q * q.2.q := ⟨_, rfl⟩
  obtain ⟨y, hy⟩ : ∃ x, x = p.2.q * q.1.q := ⟨_, rfl⟩
  obtain ⟨z, hz⟩ : ∃ z, z = x - y := ⟨_, rfl⟩
  have sx : (RV.of x).ok := RV.sz_ok (RV.of_sz (by rw [hx]; exact (RV.qb' hp.1.1 (by decide)).mul (RV.qb' hp.2.2 (by decide)))) (by decide)
  have sy : (RV.of y).ok := RV.sz_ok (RV.of_sz (by rw [hy]; exact (RV.qb' hp.1.2 (by decide)).mul (RV.qb' hp.2.1 (by decide)))) (by decide)
  conv => whnf
  refine .inl ⟨9, [[], [0], [], [2], [0, 1, 2, 3], [], [5], [], [7], [0, 1, 2, 3, 4, 5, 6, 7, 8], [0, 1, 2, 3, 4, 5, 6, 7, 8, 9], [0, 1, 2, 3, 4, 5, 6, 7, 8, 9, 10]], by kernel_rfl, ?_⟩
  conv => whnf
  refine ⟨(p.1, q.2), rfl, ⟨RV.sz_ok hp.1.1 (by decide), RV.sz_ok hp.2.2 (by decide)⟩, ?_⟩
  rw [show qmulS.val (p.1, q.2) = (RV.of x).v from by rw [hx]; rfl]
  conv => whnf
  refine ⟨(p.2, q.1), rfl, ⟨RV.sz_ok hp.1.2 (by decide), RV.sz_ok hp.2.1 (by decide)⟩, ?_⟩
  rw [show qmulS.val (p.2, q.1) = (RV.of y).v from by rw [hy]; rfl]
  conv => whnf
  refine ⟨(RV.of x, RV.of y), rfl, ⟨sx, sy⟩, ?_⟩
  rw [show qsubS.val (RV.of x, RV.of y) = (RV.of z).v from by
    show encQ ((RV.of x).q - (RV.of y).q) = _
    rw [RV.of_q, RV.of_q, hz]; rfl]
  conv => whnf
  show (RV.of z).v = encQ _
  rw [hz, hx, hy]
  rfl

theorem vcmp_ok : Snd Tryz.prog 22 vcmpS := by
  refine snd_of Evbok Dok Tryz.func22 (enters_of Tryz.func22 (by kernel_rfl) rfl) (fun _ => rfl) (fun _ => rfl) ?_
  intro ⟨p, q⟩ hp
  have hp : p.sz 8589934592 ∧ q.sz 8589934592 := hp
  obtain ⟨x, hx⟩ : ∃ x, x = cmpQ p.1.q q.1.q := ⟨_, rfl⟩
  obtain ⟨y, hy⟩ : ∃ x, x = cmpQ p.2.q q.2.q := ⟨_, rfl⟩
  have fin : ∀ z : Int, z = (if x ≠ 0 then x else y) → Value.int .i64 z = vcmpS.val (p, q) := fun z h => by rw [h, hx, hy]; rfl
  conv => whnf
  refine ⟨(p.1, q.1), rfl, ⟨hp.1.1, hp.2.1⟩, ?_⟩
  rw [show qcmpS.val (p.1, q.1) = .int .i64 x from by rw [hx]; rfl]
  conv => whnf
  refine br_intro (fun h => ?_) (fun h => ?_)
  · have h : x ≠ 0 := by
      intro e
      subst e
      simp at h
    conv => whnf
    exact fin _ (if_pos h).symm
  · have h : x = 0 := by simpa using h
    conv => whnf
    refine ⟨(p.2, q.2), rfl, ⟨hp.1.2, hp.2.2⟩, ?_⟩
    rw [show qcmpS.val (p.2, q.2) = .int .i64 y from by rw [hy]; rfl]
    conv => whnf
    exact fin _ (if_neg (fun e => e h)).symm

theorem rvcmp_ok : Snd Tryz.prog 23 vcmpS := by
  refine snd_of Evrok Dok Tryz.func23 (enters_of Tryz.func23 (by kernel_rfl) rfl) (fun _ => rfl) (fun _ => rfl) ?_
  intro ⟨p, q⟩ hp
  have hp : p.sz 8589934592 ∧ q.sz 8589934592 := hp
  obtain ⟨x, hx⟩ : ∃ x, x = cmpQ p.1.q q.1.q := ⟨_, rfl⟩
  obtain ⟨y, hy⟩ : ∃ x, x = cmpQ p.2.q q.2.q := ⟨_, rfl⟩
  have fin : ∀ z : Int, z = (if x ≠ 0 then x else y) → Value.int .i64 z = vcmpS.val (p, q) := fun z h => by rw [h, hx, hy]; rfl
  conv => whnf
  refine ⟨(p.1, q.1), rfl, ⟨hp.1.1, hp.2.1⟩, ?_⟩
  rw [show qcmpS.val (p.1, q.1) = .int .i64 x from by rw [hx]; rfl]
  conv => whnf
  refine br_intro (fun h => ?_) (fun h => ?_)
  · have h : x ≠ 0 := by
      intro e
      subst e
      simp at h
    conv => whnf
    exact fin _ (if_pos h).symm
  · have h : x = 0 := by simpa using h
    conv => whnf
    refine ⟨(p.2, q.2), rfl, ⟨hp.1.2, hp.2.2⟩, ?_⟩
    rw [show qcmpS.val (p.2, q.2) = .int .i64 y from by rw [hy]; rfl]
    conv => whnf
    exact fin _ (if_neg (fun e => e h)).symm

theorem rvnorm_ok : Snd Tryz.prog 57 vnormS := by
  refine snd_of Evrok Dok Tryz.func57 (enters_of Tryz.func57 (by kernel_rfl) rfl) (fun _ => rfl) (fun _ => rfl) ?_
  intro (p : PV) hp
  have hp : p.sz 8589934592 := hp
  obtain ⟨x, hx⟩ : ∃ x, x = p.1.q := ⟨_, rfl⟩
  obtain ⟨y, hy⟩ : ∃ x, x = p.2.q := ⟨_, rfl⟩
  conv => whnf
  refine .inl ⟨5, [[], [0], [0, 1], [], [3], [0, 1, 2, 3, 4], [0, 1, 2, 3, 4, 5], [0, 1, 2, 3, 4, 5, 6]], by kernel_rfl, ?_⟩
  conv => whnf
  refine ⟨p.1, rfl, hp.1, ?_⟩
  rw [show qnormS.val p.1 = (RV.of x).v from by rw [hx]; rfl]
  conv => whnf
  refine ⟨p.2, rfl, hp.2, ?_⟩
  rw [show qnormS.val p.2 = (RV.of y).v from by rw [hy]; rfl]
  conv => whnf
  show PV.v (RV.of x, RV.of y) = encP _ _
  rw [hx, hy]
  rfl
end Go.Proofs.YtaklhgglgabbiaaGreat
/- Contracts of vector and of the reference vectors: checks, extremes. -/
set_option linter.unusedVariables false
set_option linter.unusedSimpArgs false
set_option maxRecDepth 20000
set_option maxHeartbeats 1000000
namespace Go.Proofs.YtaklhgglgabbiaaGreat
open Go Go.Ae

theorem vcheck_ok : Snd Tryz.prog 20 vcheckS := by
  refine snd_of Evbok Dok Tryz.func20 (enters_of Tryz.func20 (by kernel_rfl) rfl) (fun _ => rfl) (fun _ => rfl) ?_
  intro (p : PV) hp
  have hp : p.sz 8589934592 := hp
  have fin0 : p.1 = RV.of p.1.q → p.2 = RV.of p.2.q → Value.int .i64 0 = vcheckS.val p := fun h1 h2 => by
    show _ = Value.int .i64 (if p.canon then 0 else 1)
    rw [if_pos ⟨h1, h2⟩]
  have fin1 : ¬ p.canon → Value.int .i64 1 = vcheckS.val p := fun h => by
    show _ = Value.int .i64 (if p.canon then 0 else 1)
    rw [if_neg h]
  conv => whnf
  refine .inr ⟨3, ?_⟩
  conv => whnf
  refine ⟨⟨by decide, by decide⟩, ?_⟩
  conv => whnf
  refine ⟨p.1, rfl, hp.1, ?_⟩
  by_cases h1 : p.1 = RV.of p.1.q
  · rw [show qcheckS.val p.1 = .int .i64 0 from by show Value.int .i64 (if p.1 = RV.of p.1.q then 0 else 1) = _; rw [if_pos h1]]
    conv => whnf
    refine ⟨⟨by decide, by decide⟩, ?_⟩
    conv => whnf
    refine ⟨p.2, rfl, hp.2, ?_⟩
    by_cases h2 : p.2 = RV.of p.2.q
    · rw [show qcheckS.val p.2 = .int .i64 0 from by show Value.int .i64 (if p.2 = RV.of p.2.q then 0 else 1) = _; rw [if_pos h2]]
      conv => whnf
      exact fin0 h1 h2
    · rw [show qcheckS.val p.2 = .int .i64 1 from by show Value.int .i64 (if p.2 = RV.of p.2.q then 0 else 1) = _; rw [if_neg h2]]
      conv => whnf
      exact fin1 (fun h => h2 h.2)
  · rw [show qcheckS.val p.1 = .int .i64 1 from by show Value.int .i64 (if p.1 = RV.of p.1.q then 0 else 1) = _; rw [if_neg h1]]
    conv => whnf
    exact fin1 (fun h => h1 h.1)

theorem rvcheck_ok : Snd Tryz.prog 21 vcheckS := by
  refine snd_of Evrok Dok Tryz.func21 (enters_of Tryz.func21 (by kernel_rfl) rfl) (fun _ => rfl) (fun _ => rfl) ?_
  intro (p : PV) hp
  have hp : p.sz 8589934592 := hp
  have fin0 : p.1 = RV.of p.1.q → p.2 = RV.of p.2.q → Value.int .i64 0 = vcheckS.val p := fun h1 h2 => by
    show _ = Value.int .i64 (if p.canon then 0 else 1)
    rw [if_pos ⟨h1, h2⟩]
  have fin1 : ¬ p.canon → Value.int .i64 1 = vcheckS.val p := fun h => by
    show _ = Value.int .i64 (if p.canon then 0 else 1)
    rw [if_neg h]
  conv => whnf
  refine ⟨p.1, rfl, hp.1, ?_⟩
  by_cases h1 : p.1 = RV.of p.1.q
  · rw [show qcheckS.val p.1 = .int .i64 0 from by show Value.int .i64 (if p.1 = RV.of p.1.q then 0 else 1) = _; rw [if_pos h1]]
    conv => whnf
    refine ⟨p.2, rfl, hp.2, ?_⟩
    by_cases h2 : p.2 = RV.of p.2.q
    · rw [show qcheckS.val p.2 = .int .i64 0 from by show Value.int .i64 (if p.2 = RV.of p.2.q then 0 else 1) = _; rw [if_pos h2]]
      conv => whnf
      exact fin0 h1 h2
    · rw [show qcheckS.val p.2 = .int .i64 1 from by show Value.int .i64 (if p.2 = RV.of p.2.q then 0 else 1) = _; rw [if_neg h2]]
      conv => whnf
      exact fin1 (fun h => h2 h.2)
  · rw [show qcheckS.val p.1 = .int .i64 1 from by show Value.int .i64 (if p.1 = RV.of p.1.q then 0 else 1) = _; rw [if_neg h1]]
    conv => whnf
    exact fin1 (fun h => h1 h.1)

def Evf : Env := { tt := tt, eqs := [], Φ := fun g => match g with
  | 12 => some (.p vsubS)
  | 14 => some (.p vscaleS)
  | 10 => some (.p vaddS)
  | 16 => some (.p vdotS)
  | _ => none }
theorem Evfok : EnvOk Tryz.prog Evf := ⟨tt_ok, fun t h => by simp [Evf] at h, (fun g S h => by
  simp only [Evf] at h
  split at h
  · cases h; exact vsub_ok
  · cases h; exact vscale_ok
  · cases h; exact vadd_ok
  · cases h; exact vdot_ok
  · cases h), fun g F h => by simp [Evf] at h⟩
def Evg : Env := { tt := tt, eqs := [], Φ := fun g => match g with
  | 13 => some (.p vsubS)
  | 15 => some (.p vscaleS)
  | 11 => some (.p vaddS)
  | 17 => some (.p vdotS)
  | 54 => some (.p qabsS)
  | 53 => some (.p qmaxS)
  | _ => none }
theorem Evgok : EnvOk Tryz.prog Evg := ⟨tt_ok, fun t h => by simp [Evg] at h, (fun g S h => by
  simp only [Evg] at h
  split at h
  · cases h; exact rvsub_ok
  · cases h; exact rvscale_ok
  · cases h; exact rvadd_ok
  · cases h; exact rvdot_ok
  · cases h; exact rqabs_ok
  · cases h; exact rqmax_ok
  · cases h), fun g F h => by simp [Evg] at h⟩

theorem vat_ok : Snd Tryz.prog 24 vatS := by
  refine snd_of Evfok Dok Tryz.func24 (enters_of Tryz.func24 (by kernel_rfl) rfl) (fun _ => rfl) (fun _ => rfl) ?_
  intro ⟨⟨p, q⟩, t⟩ hp
  have hp : (p.sz 268435456 ∧ q.sz 268435456) ∧ t.sz 268435456 := hp
  obtain ⟨⟨hp, hq⟩, ht⟩ := hp
  obtain ⟨x, hx⟩ : ∃ x, x = q.1.q - p.1.q := ⟨_, rfl⟩
  obtain ⟨y, hy⟩ : ∃ x, x = q.2.q - p.2.q := ⟨_, rfl⟩
  obtain ⟨x2, hx2⟩ : ∃ z, z = x * t.q := ⟨_, rfl⟩
  obtain ⟨y2, hy2⟩ : ∃ z, z = y * t.q := ⟨_, rfl⟩
  obtain ⟨x3, hx3⟩ : ∃ z, z = p.1.q + x2 := ⟨_, rfl⟩
  obtain ⟨y3, hy3⟩ : ∃ z, z = p.2.q + y2 := ⟨_, rfl⟩
  have bx : QB x 536870913 := by rw [hx]; exact (RV.qb' hq.1 (by decide)).sub (RV.qb' hp.1 (by decide))
  have byy : QB y 536870913 := by rw [hy]; exact (RV.qb' hq.2 (by decide)).sub (RV.qb' hp.2 (by decide))
  have bx2 : QB x2 805306369 := by rw [hx2]; exact bx.mul (RV.qb' ht (by decide))
  have by2 : QB y2 805306369 := by rw [hy2]; exact byy.mul (RV.qb' ht (by decide))
  conv => whnf
  refine .inl ⟨6, [[], [], [], [1, 2], [], [1, 2, 3, 4], [0, 1, 2, 3, 4, 5], [0, 1, 2, 3, 4, 5, 6]], by kernel_rfl, ?_⟩
  conv => whnf
  refine ⟨(q, p), rfl, ⟨PV.sz_mono hq (by decide), PV.sz_mono hp (by decide)⟩, ?_⟩
  rw [show vsubS.val (q, p) = PV.v (RV.of x, RV.of y) from by rw [hx, hy]; rfl]
  conv => whnf
  refine ⟨((RV.of x, RV.of y), t), rfl, ⟨⟨RV.of_sz (bx.mono (by decide)), RV.of_sz (byy.mono (by decide))⟩, RV.sz_mono ht (by decide)⟩, ?_⟩
  rw [show vscaleS.val ((RV.of x, RV.of y), t) = PV.v (RV.of x2, RV.of y2) from by
    show encP ((RV.of x).q * t.q) ((RV.of y).q * t.q) = _
    rw [RV.of_q, RV.of_q, ← hx2, ← hy2]; rfl]
  conv => whnf
  refine ⟨(p, (RV.of x2, RV.of y2)), rfl, ⟨PV.sz_mono hp (by decide), RV.of_sz (bx2.mono (by decide)), RV.of_sz (by2.mono (by decide))⟩, ?_⟩
  rw [show vaddS.val (p, (RV.of x2, RV.of y2)) = PV.v (RV.of x3, RV.of y3) from by
    show encP (p.1.q + (RV.of x2).q) (p.2.q + (RV.of y2).q) = _
    rw [RV.of_q, RV.of_q, ← hx3, ← hy3]; rfl]
  conv => whnf
  show PV.v (RV.of x3, RV.of y3) = encP _ _
  rw [hx3, hy3, hx2, hy2, hx, hy]
  rfl

theorem rvat_ok : Snd Tryz.prog 25 vatS := by
  refine snd_of Evgok Dok Tryz.func25 (enters_of Tryz.func25 (by kernel_rfl) rfl) (fun _ => rfl) (fun _ => rfl) ?_
  intro ⟨⟨p, q⟩, t⟩ hp
  have hp : (p.sz 268435456 ∧ q.sz 268435456) ∧ t.sz 268435456 := hp
  obtain ⟨⟨hp, hq⟩, ht⟩ := hp
  obtain ⟨x, hx⟩ : ∃ x, x = q.1.q - p.1.q := ⟨_, rfl⟩
  obtain ⟨y, hy⟩ : ∃ x, x = q.2.q - p.2.q := ⟨_, rfl⟩
  obtain ⟨x2, hx2⟩ : ∃ z, z = x * t.q := ⟨_, rfl⟩
  obtain ⟨y2, hy2⟩ : ∃ z, z = y * t.q := ⟨_, rfl⟩
  obtain ⟨x3, hx3⟩ : ∃ z, z = p.1.q + x2 := ⟨_, rfl⟩
  obtain ⟨y3, hy3⟩ : ∃ z, z = p.2.q + y2 := ⟨_, rfl⟩
  have bx : QB x 536870913 := by rw [hx]; exact (RV.qb' hq.1 (by decide)).sub (RV.qb' hp.1 (by decide))
  have byy : QB y 536870913 := by rw [hy]; exact (RV.qb' hq.2 (by decide)).sub (RV.qb' hp.2 (by decide))
  have bx2 : QB x2 805306369 := by rw [hx2]; exact bx.mul (RV.qb' ht (by decide))
  have by2 : QB y2 805306369 := by rw [hy2]; exact byy.mul (RV.qb' ht (by decide))
  conv => whnf
  refine .inl ⟨6, [[], [], [], [1, 2], [], [1, 2, 3, 4], [0, 1, 2, 3, 4, 5], [0, 1, 2, 3, 4, 5, 6]], by kernel_rfl, ?_⟩
  conv => whnf
  refine ⟨(q, p), rfl, ⟨PV.sz_mono hq (by decide), PV.sz_mono hp (by decide)⟩, ?_⟩
  rw [show vsubS.val (q, p) = PV.v (RV.of x, RV.of y) from by rw [hx, hy]; rfl]
  conv => whnf
  refine ⟨((RV.of x, RV.of y), t), rfl, ⟨⟨RV.of_sz (bx.mono (by decide)), RV.of_sz (byy.mono (by decide))⟩, RV.sz_mono ht (by decide)⟩, ?_⟩
  rw [show vscaleS.val ((RV.of x, RV.of y), t) = PV.v (RV.of x2, RV.of y2) from by
    show encP ((RV.of x).q * t.q) ((RV.of y).q * t.q) = _
    rw [RV.of_q, RV.of_q, ← hx2, ← hy2]; rfl]
  conv => whnf
  refine ⟨(p, (RV.of x2, RV.of y2)), rfl, ⟨PV.sz_mono hp (by decide), RV.of_sz (bx2.mono (by decide)), RV.of_sz (by2.mono (by decide))⟩, ?_⟩
  rw [show vaddS.val (p, (RV.of x2, RV.of y2)) = PV.v (RV.of x3, RV.of y3) from by
    show encP (p.1.q + (RV.of x2).q) (p.2.q + (RV.of y2).q) = _
    rw [RV.of_q, RV.of_q, ← hx3, ← hy3]; rfl]
  conv => whnf
  show PV.v (RV.of x3, RV.of y3) = encP _ _
  rw [hx3, hy3, hx2, hy2, hx, hy]
  rfl

theorem vdist_ok : Snd Tryz.prog 26 vdistS := by
  refine snd_of Evfok Dok Tryz.func26 (enters_of Tryz.func26 (by kernel_rfl) rfl) (fun _ => rfl) (fun _ => rfl) ?_
  intro ⟨p, q⟩ hp
  have hp : p.sz 268435456 ∧ q.sz 268435456 := hp
  obtain ⟨hp, hq⟩ := hp
  have bx : QB (p.1.q - q.1.q) 536870913 := (RV.qb' hp.1 (by decide)).sub (RV.qb' hq.1 (by decide))
  have byy : QB (p.2.q - q.2.q) 536870913 := (RV.qb' hp.2 (by decide)).sub (RV.qb' hq.2 (by decide))
  have hds : (diffP p q).sz 1073741824 := ⟨RV.of_sz (bx.mono (by decide)), RV.of_sz (byy.mono (by decide))⟩
  have ed : vsubS.val (p, q) = (diffP p q).v := rfl
  have fin : ∀ v, v = vdotS.val (diffP p q, diffP p q) → v = vdistS.val (p, q) := fun v h => h
  obtain ⟨d, hd⟩ : ∃ d, d = diffP p q := ⟨_, rfl⟩
  rw [← hd] at hds ed fin
  obtain ⟨z, hz⟩ : ∃ z, z = dotQ d d := ⟨_, rfl⟩
  have ez : vdotS.val (d, d) = (RV.of z).v := by rw [hz]; rfl
  rw [ez] at fin
  conv => whnf
  refine ⟨(p, q), rfl, ⟨PV.sz_mono hp (by decide), PV.sz_mono hq (by decide)⟩, ?_⟩
  rw [ed]
  conv => whnf
  refine ⟨(d, d), rfl, ⟨hds, hds⟩, ?_⟩
  rw [ez]
  conv => whnf
  exact fin _ rfl

theorem rvdist_ok : Snd Tryz.prog 27 vdistS := by
  refine snd_of Evgok Dok Tryz.func27 (enters_of Tryz.func27 (by kernel_rfl) rfl) (fun _ => rfl) (fun _ => rfl) ?_
  intro ⟨p, q⟩ hp
  have hp : p.sz 268435456 ∧ q.sz 268435456 := hp
  obtain ⟨hp, hq⟩ := hp
  have bx : QB (p.1.q - q.1.q) 536870913 := (RV.qb' hp.1 (by decide)).sub (RV.qb' hq.1 (by decide))
  have byy : QB (p.2.q - q.2.q) 536870913 := (RV.qb' hp.2 (by decide)).sub (RV.qb' hq.2 (by decide))
  have hds : (diffP p q).sz 1073741824 := ⟨RV.of_sz (bx.mono (by decide)), RV.of_sz (byy.mono (by decide))⟩
  have ed : vsubS.val (p, q) = (diffP p q).v := rfl
  have fin : ∀ v, v = vdotS.val (diffP p q, diffP p q) → v = vdistS.val (p, q) := fun v h => h
  obtain ⟨d, hd⟩ : ∃ d, d = diffP p q := ⟨_, rfl⟩
  rw [← hd] at hds ed fin
  obtain ⟨z, hz⟩ : ∃ z, z = dotQ d d := ⟨_, rfl⟩
  have ez : vdotS.val (d, d) = (RV.of z).v := by rw [hz]; rfl
  rw [ez] at fin
  conv => whnf
  refine ⟨(p, q), rfl, ⟨PV.sz_mono hp (by decide), PV.sz_mono hq (by decide)⟩, ?_⟩
  rw [ed]
  conv => whnf
  refine ⟨(d, d), rfl, ⟨hds, hds⟩, ?_⟩
  rw [ez]
  conv => whnf
  exact fin _ rfl

def Evh : Env := { tt := tt, eqs := [], Φ := fun g => match g with
  | 61 => some (.p qgreatS)
  | _ => none }
theorem Evhok : EnvOk Tryz.prog Evh := ⟨tt_ok, fun t h => by simp [Evh] at h, (fun g S h => by
  simp only [Evh] at h
  split at h
  · cases h; exact rqgreat_ok
  · cases h), fun g F h => by simp [Evh] at h⟩

theorem rvgreat_ok : Snd Tryz.prog 36 vgreatS := by
  refine snd_of Evhok Dok Tryz.func36 (enters_of Tryz.func36 (by kernel_rfl) rfl) (fun _ => rfl) (fun _ => rfl) ?_
  intro (p : PV) _
  have fin : ∀ x : Bool, x = decide p.great → Value.bool x = vgreatS.val p := fun x h => by rw [h]; rfl
  conv => whnf
  refine ⟨p.1, rfl, trivial, ?_⟩
  rw [show qgreatS.val p.1 = .bool (decide p.1.great) from rfl]
  by_cases h1 : p.1.great
  · rw [decide_eq_true h1]
    conv => whnf
    exact fin _ (decide_eq_true (.inl h1)).symm
  · rw [decide_eq_false h1]
    conv => whnf
    refine ⟨p.2, rfl, trivial, ?_⟩
    obtain ⟨g, hg⟩ : ∃ g, g = decide p.2.great := ⟨_, rfl⟩
    rw [show qgreatS.val p.2 = .bool g from by rw [hg]; rfl]
    conv => whnf
    refine fin _ ?_
    show g = _
    rw [hg]
    by_cases h2 : p.2.great
    · rw [decide_eq_true h2, decide_eq_true (show p.great from .inr h2)]
    · rw [decide_eq_false h2, decide_eq_false (show ¬ p.great from fun h => h.elim h1 h2)]
end Go.Proofs.YtaklhgglgabbiaaGreat
/- Contracts of vector and of the reference vectors: lists. -/
set_option linter.unusedVariables false
set_option linter.unusedSimpArgs false
set_option maxRecDepth 20000
set_option maxHeartbeats 1000000
namespace Go.Proofs.YtaklhgglgabbiaaGreat
open Go Go.Ae

def Evi : Env := { tt := tt, eqs := [], Φ := fun g => match g with
  | 36 => some (.p vgreatS)
  | _ => none }
theorem Eviok : EnvOk Tryz.prog Evi := ⟨tt_ok, fun t h => by simp [Evi] at h, (fun g S h => by
  simp only [Evi] at h
  split at h
  · cases h; exact rvgreat_ok
  · cases h), fun g F h => by simp [Evi] at h⟩
theorem index_ft : FTOk Tryz.prog 60 (fnK Evi drawT Tryz.f60) := by
  exact ft_of Eviok Dok Tryz.func60 (enters_of Tryz.func60 (by kernel_rfl) rfl)
def EvjW : FuncId → Option FT := fun g => match g with
  | 60 => some (fnK Evi drawT Tryz.f60)
  | _ => none
def Evj : Env := { tt := tt, eqs := [], Ψ := EvjW, Φ := fun g => match g with
  | _ => none }
theorem Evjok : EnvOk Tryz.prog Evj := ⟨tt_ok, fun t h => by simp [Evj] at h, (fun g S h => by
  change none = some S at h
  cases h), (fun g F h => by
  simp only [Evj, EvjW] at h
  split at h
  · cases h; exact index_ft
  · cases h)⟩
theorem contains_ft : FTOk Tryz.prog 35 (fnK Evj drawT Tryz.f35) := by
  exact ft_of Evjok Dok Tryz.func35 (enters_of Tryz.func35 (by kernel_rfl) rfl)
def EvkW : FuncId → Option FT := fun g => match g with
  | 35 => some (fnK Evj drawT Tryz.f35)
  | _ => none
def Evk : Env := { tt := tt, eqs := [], Ψ := EvkW, Φ := fun g => match g with
  | _ => none }
theorem Evkok : EnvOk Tryz.prog Evk := ⟨tt_ok, fun t h => by simp [Evk] at h, (fun g S h => by
  change none = some S at h
  cases h), (fun g F h => by
  simp only [Evk, EvkW] at h
  split at h
  · cases h; exact contains_ft
  · cases h)⟩

theorem greatl_ok : QSnd Tryz.prog 6 greatlS := by
  refine qsnd_of Evkok Dok Tryz.func6 (enters_of Tryz.func6 (by kernel_rfl) rfl) ?_ ?_ ?_
  · intro i b hb; simp [greatlS] at hb; rw [hb]; rfl
  · intro i b hb; simp [greatlS] at hb
  intro ⟨l, c⟩ hp
  have hp : l.length ≤ c ∧ c ≤ 1099511627776 := hp
  obtain ⟨n, hn⟩ : ∃ n, n = l.length := ⟨_, rfl⟩
  obtain ⟨g, hg⟩ : ∃ g, g = rowsP l := ⟨_, rfl⟩
  conv => whnf
  rw [show greatlS.blks (l, c) = [.flat false n 6 g] from by rw [hn, hg]; rfl, ← hn]
  refine .inl ⟨fun mm tz hz => ∃ (i : Nat), Pat [some (.slice (some ⟨0, 0, none⟩) n c), some (.func (.func 36) #[] #[]), none, none, none, none, none, some (.int .i64 n), some (.int .i64 i), none, none, none, none, none, none, none, none, none, none] tz ∧ hz = [some (.flat false n 6 g)] ∧ n - i = mm ∧ (i ≤ n ∧ noneGreat l i), .inr ⟨[0], [0, 1, 7, 8], ?_⟩, ?_⟩
  · conv => whnf
    intro _
    conv => whnf
    refine ⟨_, 0, (.keep (.keep (.skip (.skip (.skip (.skip (.skip (.keep (.keep (.skip (.skip (.skip (.skip (.skip (.skip (.skip (.skip (.skip (.skip (.nil)))))))))))))))))))), rfl, rfl, ?_⟩
    exact ⟨Nat.zero_le _, noneGreat_start _⟩
  rintro mm tms _ ⟨i, hpat, rfl, rfl, ⟨hi, hN⟩⟩
  obtain ⟨az, rfl⟩ : ∃ az : Nat → Value, tms = [.slice (some ⟨0, 0, none⟩) n c, .func (.func 36) #[] #[], az 2, az 3, az 4, az 5, az 6, .int .i64 n, .int .i64 i, az 9, az 10, az 11, az 12, az 13, az 14, az 15, az 16, az 17, az 18] := pat_fill hpat
  clear hpat
  conv => whnf
  refine br_intro (fun h1 => ?_) (fun h1 => ?_)
  · have h1 : i < n := by
      have := of_decide_eq_true h1
      omega
    obtain ⟨p, hpl, hpm, hrow⟩ := rowsP_get (l := l) (i := i) (by omega)
    rw [← hg] at hrow
    have e7 : IntKind.i64.wrap ((i : Int) + 1) = ((i + 1 : Nat) : Int) := by rw [wrapi64 (by omega) (by omega)]; rfl
    conv => whnf
    refine ⟨⟨by omega, by omega⟩, ?_⟩
    simp only [toNat_cast, rowAdd_eq, Nat.zero_add]
    conv => whnf
    refine ⟨by show i < n; omega, ?_⟩
    conv => whnf
    rw [hrow]
    conv => whnf
    refine ⟨p, rfl, trivial, ?_⟩
    by_cases h2 : p.great
    · rw [show vgreatS.val p = .bool true from by show Value.bool (decide p.great) = _; rw [decide_eq_true h2]]
      have hv : greatlS.val (l, c) = .bool true := by show Value.bool (anyGreat l) = _; rw [anyGreat_true hpm h2]
      conv => whnf
      refine ⟨.bool true, by rw [hv]; rfl, ?_⟩
      rw [show decide ((i : Int) ≥ 0) = true from decide_eq_true (by omega)]
      exact .refl _
    · rw [show vgreatS.val p = .bool false from by show Value.bool (decide p.great) = _; rw [decide_eq_false h2]]
      conv => whnf
      rw [e7]
      refine .inr ⟨[0], [0, 1, 7, 8], ?_⟩
      conv => whnf
      intro _
      conv => whnf
      refine ⟨_, ?_, i + 1, (.keep (.keep (.skip (.skip (.skip (.skip (.skip (.keep (.keep (.skip (.skip (.skip (.skip (.skip (.skip (.skip (.skip (.skip (.skip (.nil)))))))))))))))))))), rfl, rfl, ?_⟩
      · omega
      · exact ⟨by omega, noneGreat_step hN hpl h2⟩
  · have h1 : i = n := by
      have := of_decide_eq_false h1
      omega
    subst h1
    have hv : greatlS.val (l, c) = .bool false := by show Value.bool (anyGreat l) = _; rw [noneGreat_end (by rw [← hn]; exact hN)]
    conv => whnf
    refine ⟨.bool false, by rw [hv]; rfl, ?_⟩
    exact .refl _

theorem extreme_ok : QSnd Tryz.prog 51 extremeS := by
  refine qsnd_of Evbok Dok Tryz.func51 (enters_of Tryz.func51 (by kernel_rfl) rfl) ?_ ?_ ?_
  · intro i b hb; simp [extremeS] at hb; rw [hb]; rfl
  · intro i b hb; simp [extremeS] at hb
  intro ⟨⟨s, l⟩, c⟩ hp
  have hp : l ≠ [] ∧ (∀ r ∈ l, r.ok) ∧ l.length ≤ c ∧ c ≤ 1099511627776 := hp
  obtain ⟨hne, hok, hlc, hc⟩ := hp
  obtain ⟨a, l, rfl⟩ : ∃ a l', l = a :: l' := List.exists_cons_of_ne_nil hne
  obtain ⟨k, hk⟩ : ∃ k, k = l.length := ⟨_, rfl⟩
  obtain ⟨n, hn⟩ : ∃ n, n = (a :: l).length := ⟨_, rfl⟩
  have hnk : n = k + 1 := by rw [hn, hk]; rfl
  have hcn : n ≤ c := by rw [hn]; exact hlc
  obtain ⟨g, hg⟩ : ∃ g, g = rowsR (a :: l) := ⟨_, rfl⟩
  have hg0 : g 0 = a.cells := by rw [hg]; rfl
  have hcu : c ≠ capU := by unfold capU; omega
  have hv : extremeS.val ((s, a :: l), c) = (l.foldl (extF s) a).v := rfl
  conv => whnf
  rw [show ((s, a :: l), c).fst.snd.length = n from hn.symm, show rowsR ((s, a :: l), c).fst.snd = g from hg.symm]
  refine ⟨⟨by omega, by omega⟩, ?_⟩
  conv => whnf
  refine ⟨by show 0 < n; omega, ?_⟩
  conv => whnf
  rw [show rowAdd 0 (Int.toNat 0) = 0 from rfl, hg0]
  conv => whnf
  refine ⟨⟨by omega, by omega, by omega⟩, ?_⟩
  rw [show Int.toNat (n : Int) - Int.toNat 1 = k from by
    show n - 1 = k
    omega]
  conv => whnf
  refine .inl ⟨fun mm tz hz => ∃ (j : Nat) (o : RV), Pat [some (.int .i64 s), none, none, none, some (.pointer (some ⟨1, 0, none⟩)), some (.pointer (some ⟨2, 0, none⟩)), none, none, none, none, none, none, some (.slice (some ⟨0, 1, none⟩) k (capSub c 1)), some (.int .i64 k), some (.int .i64 j), none, none, none, none, none, none, none, none, none, none, none] tz ∧ hz = [some (.flat false n 3 g), some (.expl true 3 [[.bool false, .string ⟨#[]⟩, .string ⟨#[]⟩]]), some (.expl true 3 [o.cells])] ∧ k - j = mm ∧ (j ≤ k ∧ o = (l.take j).foldl (extF s) a), .inr ⟨[0, 1, 2], [0, 4, 5, 12, 13, 14], ?_⟩, ?_⟩
  · conv => whnf
    intro _
    conv => whnf
    refine ⟨_, 0, a, (.keep (.skip (.skip (.skip (.keep (.keep (.skip (.skip (.skip (.skip (.skip (.skip (.keep (.keep (.keep (.skip (.skip (.skip (.skip (.skip (.skip (.skip (.skip (.skip (.skip (.skip (.nil))))))))))))))))))))))))))), rfl, rfl, ?_⟩
    exact ⟨Nat.zero_le _, rfl⟩
  rintro mm tms _ ⟨j, o, hpat, rfl, rfl, ⟨hj, ho⟩⟩
  obtain ⟨az, rfl⟩ : ∃ az : Nat → Value, tms = [.int .i64 s, az 1, az 2, az 3, .pointer (some ⟨1, 0, none⟩), .pointer (some ⟨2, 0, none⟩), az 6, az 7, az 8, az 9, az 10, az 11, .slice (some ⟨0, 1, none⟩) k (capSub c 1), .int .i64 k, .int .i64 j, az 15, az 16, az 17, az 18, az 19, az 20, az 21, az 22, az 23, az 24, az 25] := pat_fill hpat
  clear hpat
  have hoo : o.ok := by
    rw [ho]
    have h1 := ext_mem (s := s) (a := a) (l.take j)
    refine hok _ ?_
    rcases List.mem_cons.1 h1 with h | h
    · rw [h]; exact List.mem_cons_self
    · exact List.mem_cons_of_mem _ (List.mem_of_mem_take h)
  conv => whnf
  refine br_intro (fun h1 => ?_) (fun h1 => ?_)
  · have h1 : j < k := by
      have := of_decide_eq_true h1
      omega
    obtain ⟨r, hrl, hrm, hrow⟩ := rowsR_get (l := a :: l) (i := j + 1) (by omega)
    rw [← hg] at hrow
    have hrl : l[j]? = some r := by simpa using hrl
    have hst := ext_step (s := s) (a := a) hrl
    rw [← ho] at hst
    obtain ⟨q, hq⟩ : ∃ q, q = 1 + j := ⟨_, rfl⟩
    rw [show j + 1 = q by omega] at hrow
    have e7 : IntKind.i64.wrap ((j : Int) + 1) = ((j + 1 : Nat) : Int) := by rw [wrapi64 (by omega) (by omega)]; rfl
    obtain ⟨w, hw⟩ : ∃ w, w = cmpQ r.q o.q := ⟨_, rfl⟩
    conv => whnf
    refine ⟨⟨by omega, by omega⟩, ?_⟩
    simp only [toNat_cast, rowAdd_eq, ← hq]
    conv => whnf
    refine ⟨by show q < n; omega, ?_⟩
    conv => whnf
    rw [hrow]
    conv => whnf
    refine ⟨(r, o), rfl, ⟨hok r hrm, hoo⟩, ?_⟩
    rw [show qcmpS.val (r, o) = .int .i64 w from by rw [hw]; rfl]
    conv => whnf
    refine br_intro (fun h2 => ?_) (fun h2 => ?_)
    · have h2 : w = s := by simpa using h2
      rw [show extF s o r = r from if_pos (by rw [← hw]; exact h2)] at hst
      conv => whnf
      rw [e7]
      refine .inr ⟨[0, 1, 2], [0, 4, 5, 12, 13, 14], ?_⟩
      conv => whnf
      intro _
      conv => whnf
      refine ⟨_, ?_, j + 1, r, (.keep (.skip (.skip (.skip (.keep (.keep (.skip (.skip (.skip (.skip (.skip (.skip (.keep (.keep (.keep (.skip (.skip (.skip (.skip (.skip (.skip (.skip (.skip (.skip (.skip (.skip (.nil))))))))))))))))))))))))))), rfl, rfl, ?_⟩
      · omega
      · exact ⟨by omega, hst.symm⟩
    · have h2 : w ≠ s := by
        intro e
        subst e
        simp at h2
      rw [show extF s o r = o from if_neg (by rw [← hw]; exact h2)] at hst
      conv => whnf
      rw [e7]
      refine .inr ⟨[0, 1, 2], [0, 4, 5, 12, 13, 14], ?_⟩
      conv => whnf
      intro _
      conv => whnf
      refine ⟨_, ?_, j + 1, o, (.keep (.skip (.skip (.skip (.keep (.keep (.skip (.skip (.skip (.skip (.skip (.skip (.keep (.keep (.keep (.skip (.skip (.skip (.skip (.skip (.skip (.skip (.skip (.skip (.skip (.skip (.nil))))))))))))))))))))))))))), rfl, rfl, ?_⟩
      · omega
      · exact ⟨by omega, hst.symm⟩
  · have h1 : j = k := by
      have := of_decide_eq_false h1
      omega
    subst h1
    rw [hk, List.take_length] at ho
    rw [← ho] at hv
    conv => whnf
    refine ⟨o.v, by rw [hv]; rfl, ?_⟩
    exact .refl _
end Go.Proofs.YtaklhgglgabbiaaGreat
/- Contracts of vector and of the reference vectors: square distance, boxes. -/
set_option linter.unusedVariables false
set_option linter.unusedSimpArgs false
set_option maxRecDepth 20000
set_option maxHeartbeats 1000000
namespace Go.Proofs.YtaklhgglgabbiaaGreat
open Go Go.Ae

def Evl : Env := { tt := tt, eqs := [], Φ := fun g => match g with
  | 12 => some (.p vsubS)
  | 52 => some (.p qnegS)
  | 51 => some (.q extremeS)
  | 59 => some (.p qsignS)
  | _ => none }
theorem Evlok : EnvOk Tryz.prog Evl := ⟨tt_ok, fun t h => by simp [Evl] at h, (fun g S h => by
  simp only [Evl] at h
  split at h
  · cases h; exact vsub_ok
  · cases h; exact qneg_ok
  · cases h; exact extreme_ok
  · cases h; exact qsign_ok
  · cases h), fun g F h => by simp [Evl] at h⟩

theorem vsquare_ok : Snd Tryz.prog 28 vsquareS := by
  refine snd_of Evlok Dok Tryz.func28 (enters_of Tryz.func28 (by kernel_rfl) rfl) (fun _ => rfl) (fun _ => rfl) ?_
  intro ⟨p, q⟩ hp
  have hp : p.sz 268435456 ∧ q.sz 268435456 := hp
  obtain ⟨hp, hq⟩ := hp
  obtain ⟨x, hx⟩ : ∃ x, x = p.1.q - q.1.q := ⟨_, rfl⟩
  obtain ⟨y, hy⟩ : ∃ x, x = p.2.q - q.2.q := ⟨_, rfl⟩
  have bx : QB x 536870913 := by rw [hx]; exact (RV.qb' hp.1 (by decide)).sub (RV.qb' hq.1 (by decide))
  have byy : QB y 536870913 := by rw [hy]; exact (RV.qb' hp.2 (by decide)).sub (RV.qb' hq.2 (by decide))
  have ox : (RV.of x).ok := RV.of_ok (bx.mono (by decide))
  have oy : (RV.of y).ok := RV.of_ok (byy.mono (by decide))
  have ed : vsubS.val (p, q) = PV.v (RV.of x, RV.of y) := by rw [hx, hy]; rfl
  obtain ⟨z, hz⟩ : ∃ z, z = maxQ (absQ x) (absQ y) := ⟨_, rfl⟩
  have fin : ∀ v, v = (RV.of z).v → v = vsquareS.val (p, q) := fun v h => by rw [h, hz, hx, hy]; rfl
  have on : (RV.of (-x)).ok := RV.of_ok (bx.neg.mono (by decide))
  have om : (RV.of (-y)).ok := RV.of_ok (byy.neg.mono (by decide))
  obtain ⟨a, ha⟩ : ∃ a, a = RV.of x := ⟨_, rfl⟩
  obtain ⟨b, hb⟩ : ∃ a, a = RV.of (-x) := ⟨_, rfl⟩
  obtain ⟨c, hc⟩ : ∃ a, a = RV.of y := ⟨_, rfl⟩
  obtain ⟨d, hd⟩ : ∃ a, a = RV.of (-y) := ⟨_, rfl⟩
  have eb : qnegS.val a = b.v := by rw [ha, hb]; show encQ (-(RV.of x).q) = _; rw [RV.of_q]; rfl
  have edd : qnegS.val c = d.v := by rw [hc, hd]; show encQ (-(RV.of y).q) = _; rw [RV.of_q]; rfl
  have ex : extV 1 [a, b, c, d] = RV.of z := by rw [ha, hb, hc, hd, hz]; exact square_ext x y
  rw [← ha] at ox
  rw [← hc] at oy
  rw [← hb] at on
  rw [← hd] at om
  rw [← ha, ← hc] at ed
  conv => whnf
  refine ⟨(p, q), rfl, ⟨PV.sz_mono hp (by decide), PV.sz_mono hq (by decide)⟩, ?_⟩
  rw [ed]
  conv => whnf
  refine .inl ⟨10, [[], [0], [], [2], [2, 3], [], [5], [], [7], [2, 3, 4, 7, 8], [0, 1, 2, 3, 4, 5, 6, 7, 8, 9], [0, 1, 2, 3, 4, 5, 6, 7, 8, 9, 10], [0, 1, 2, 3, 4, 5, 6, 7, 8, 9, 10, 11]], by kernel_rfl, ?_⟩
  conv => whnf
  refine ⟨a, rfl, ox, ?_⟩
  rw [eb]
  conv => whnf
  refine ⟨c, rfl, oy, ?_⟩
  rw [edd]
  conv => whnf
  refine ⟨((1, [a, b, c, d]), 4), [14], rfl, ⟨(fun h => by cases h), fun r hr => ?_, Nat.le_refl _, by show 4 ≤ 1099511627776; decide⟩, ?_⟩
  · simp only [List.mem_cons, List.mem_nil_iff, or_false] at hr
    rcases hr with rfl | rfl | rfl | rfl <;> assumption
  conv => whnf
  refine ⟨blk_rows rfl (fun r hr => ?_) (fun r hr => rfl), ?_⟩
  · have : r = 0 ∨ r = 1 ∨ r = 2 ∨ r = 3 := by
      have hr : r < 4 := hr
      omega
    rcases this with rfl | rfl | rfl | rfl <;> rfl
  conv => whnf
  refine ⟨(RV.of z).v, by rw [show extremeS.val ((1, [a, b, c, d]), 4) = (RV.of z).v from by show (extV 1 [a, b, c, d]).v = _; rw [ex]]; rfl, ?_⟩
  conv => whnf
  exact fin _ rfl

def Evm : Env := { tt := tt, eqs := [], Φ := fun g => match g with
  | 13 => some (.p vsubS)
  | 54 => some (.p qabsS)
  | 53 => some (.p qmaxS)
  | 50 => some (.p qcmpS)
  | _ => none }
theorem Evmok : EnvOk Tryz.prog Evm := ⟨tt_ok, fun t h => by simp [Evm] at h, (fun g S h => by
  simp only [Evm] at h
  split at h
  · cases h; exact rvsub_ok
  · cases h; exact rqabs_ok
  · cases h; exact rqmax_ok
  · cases h; exact rqcmp_ok
  · cases h), fun g F h => by simp [Evm] at h⟩

theorem rvsquare_ok : Snd Tryz.prog 29 vsquareS := by
  refine snd_of Evmok Dok Tryz.func29 (enters_of Tryz.func29 (by kernel_rfl) rfl) (fun _ => rfl) (fun _ => rfl) ?_
  intro ⟨p, q⟩ hp
  have hp : p.sz 268435456 ∧ q.sz 268435456 := hp
  obtain ⟨hp, hq⟩ := hp
  obtain ⟨x, hx⟩ : ∃ x, x = p.1.q - q.1.q := ⟨_, rfl⟩
  obtain ⟨y, hy⟩ : ∃ x, x = p.2.q - q.2.q := ⟨_, rfl⟩
  have bx : QB x 536870913 := by rw [hx]; exact (RV.qb' hp.1 (by decide)).sub (RV.qb' hq.1 (by decide))
  have byy : QB y 536870913 := by rw [hy]; exact (RV.qb' hp.2 (by decide)).sub (RV.qb' hq.2 (by decide))
  have ox : (RV.of x).ok := RV.of_ok (bx.mono (by decide))
  have oy : (RV.of y).ok := RV.of_ok (byy.mono (by decide))
  have ed : vsubS.val (p, q) = PV.v (RV.of x, RV.of y) := by rw [hx, hy]; rfl
  obtain ⟨z, hz⟩ : ∃ z, z = maxQ (absQ x) (absQ y) := ⟨_, rfl⟩
  have fin : ∀ v, v = (RV.of z).v → v = vsquareS.val (p, q) := fun v h => by rw [h, hz, hx, hy]; rfl
  obtain ⟨a, ha⟩ : ∃ a, a = RV.of x := ⟨_, rfl⟩
  obtain ⟨b, hb⟩ : ∃ a, a = RV.of (absQ x) := ⟨_, rfl⟩
  obtain ⟨c, hc⟩ : ∃ a, a = RV.of y := ⟨_, rfl⟩
  obtain ⟨d, hd⟩ : ∃ a, a = RV.of (absQ y) := ⟨_, rfl⟩
  have on : b.ok := by rw [hb]; exact RV.of_ok (bx.abs.mono (by decide))
  have om : d.ok := by rw [hd]; exact RV.of_ok (byy.abs.mono (by decide))
  have eb : qabsS.val a = b.v := by rw [ha, hb]; show encQ (absQ (RV.of x).q) = _; rw [RV.of_q]; rfl
  have edd : qabsS.val c = d.v := by rw [hc, hd]; show encQ (absQ (RV.of y).q) = _; rw [RV.of_q]; rfl
  have em : qmaxS.val (b, d) = (RV.of z).v := by
    rw [hb, hd, hz]
    show RV.v (if (RV.of (absQ x)).q < (RV.of (absQ y)).q then RV.of (absQ y) else RV.of (absQ x)) = (RV.of (maxQ (absQ x) (absQ y))).v
    rw [RV.of_q, RV.of_q]
    unfold maxQ
    split <;> rfl
  rw [← ha] at ox
  rw [← hc] at oy
  rw [← ha, ← hc] at ed
  conv => whnf
  refine ⟨(p, q), rfl, ⟨PV.sz_mono hp (by decide), PV.sz_mono hq (by decide)⟩, ?_⟩
  rw [ed]
  conv => whnf
  refine .inl ⟨5, [[], [0], [0, 1], [], [3], [0, 1, 2, 3, 4], [0, 1, 2, 3, 4, 5], [0, 1, 2, 3, 4, 5, 6]], by kernel_rfl, ?_⟩
  conv => whnf
  refine ⟨a, rfl, ox, ?_⟩
  rw [eb]
  conv => whnf
  refine ⟨c, rfl, oy, ?_⟩
  rw [edd]
  conv => whnf
  refine ⟨(b, d), rfl, ⟨on, om⟩, ?_⟩
  rw [em]
  conv => whnf
  exact fin _ rfl

theorem vwithin_ok : Snd Tryz.prog 33 vwithinS := by
  refine snd_of Evlok Dok Tryz.func33 (enters_of Tryz.func33 (by kernel_rfl) rfl) (fun _ => rfl) (fun _ => rfl) ?_
  intro ⟨⟨lo, hi⟩, p⟩ hp
  have hp : (lo.sz 268435456 ∧ hi.sz 268435456) ∧ p.sz 268435456 := hp
  obtain ⟨⟨hl, hh⟩, hp⟩ := hp
  obtain ⟨x1, hx1⟩ : ∃ x, x = p.1.q - lo.1.q := ⟨_, rfl⟩
  obtain ⟨x2, hx2⟩ : ∃ x, x = p.2.q - lo.2.q := ⟨_, rfl⟩
  obtain ⟨x3, hx3⟩ : ∃ x, x = hi.1.q - p.1.q := ⟨_, rfl⟩
  obtain ⟨x4, hx4⟩ : ∃ x, x = hi.2.q - p.2.q := ⟨_, rfl⟩
  have b1 : QB x1 536870913 := by rw [hx1]; exact (RV.qb' hp.1 (by decide)).sub (RV.qb' hl.1 (by decide))
  have b2 : QB x2 536870913 := by rw [hx2]; exact (RV.qb' hp.2 (by decide)).sub (RV.qb' hl.2 (by decide))
  have b3 : QB x3 536870913 := by rw [hx3]; exact (RV.qb' hh.1 (by decide)).sub (RV.qb' hp.1 (by decide))
  have b4 : QB x4 536870913 := by rw [hx4]; exact (RV.qb' hh.2 (by decide)).sub (RV.qb' hp.2 (by decide))
  have e1 : vsubS.val (p, lo) = PV.v (RV.of x1, RV.of x2) := by rw [hx1, hx2]; rfl
  have e2 : vsubS.val (hi, p) = PV.v (RV.of x3, RV.of x4) := by rw [hx3, hx4]; rfl
  obtain ⟨z, hz⟩ : ∃ z, z = minQ (minQ (minQ x1 x2) x3) x4 := ⟨_, rfl⟩
  have bz : QB z 536870913 := by rw [hz]; exact ((b1.min b2).min b3).min b4
  obtain ⟨a, ha⟩ : ∃ a, a = RV.of x1 := ⟨_, rfl⟩
  obtain ⟨b, hb⟩ : ∃ a, a = RV.of x2 := ⟨_, rfl⟩
  obtain ⟨c, hc⟩ : ∃ a, a = RV.of x3 := ⟨_, rfl⟩
  obtain ⟨d, hd⟩ : ∃ a, a = RV.of x4 := ⟨_, rfl⟩
  have ex : extV (-1) [a, b, c, d] = RV.of z := by rw [ha, hb, hc, hd, hz]; exact within_extV x1 x2 x3 x4
  have o1 : a.ok := by rw [ha]; exact RV.of_ok (b1.mono (by decide))
  have o2 : b.ok := by rw [hb]; exact RV.of_ok (b2.mono (by decide))
  have o3 : c.ok := by rw [hc]; exact RV.of_ok (b3.mono (by decide))
  have o4 : d.ok := by rw [hd]; exact RV.of_ok (b4.mono (by decide))
  rw [← ha, ← hb] at e1
  rw [← hc, ← hd] at e2
  obtain ⟨w, hw⟩ : ∃ w, w = cmpQ z 0 := ⟨_, rfl⟩
  have fin : Value.bool (decide (w ≥ 0)) = vwithinS.val ((lo, hi), p) := by
    show _ = Value.bool (decide (inBox (lo, hi) p))
    congr 1
    have h1 : w ≥ 0 ↔ inBox (lo, hi) p := by
      rw [hw, cmpQ_ge, hz, within_ext, hx1, hx2, hx3, hx4]
      simp only [sub_nonneg']
      unfold inBox
      constructor
      · rintro ⟨a, b, c, d⟩; exact ⟨a, c, b, d⟩
      · rintro ⟨a, b, c, d⟩; exact ⟨a, c, b, d⟩
    simp only [h1]
  conv => whnf
  refine .inl ⟨10, [[], [], [1], [0, 1, 2], [], [4], [], [0, 1, 2, 3, 4, 5, 6], [], [], [0, 1, 2, 3, 4, 5, 6, 7, 8, 9], [0, 1, 2, 3, 4, 5, 6, 7, 8, 9, 10]], by kernel_rfl, ?_⟩
  conv => whnf
  refine ⟨(p, lo), rfl, ⟨PV.sz_mono hp (by decide), PV.sz_mono hl (by decide)⟩, ?_⟩
  rw [e1]
  conv => whnf
  refine ⟨(hi, p), rfl, ⟨PV.sz_mono hh (by decide), PV.sz_mono hp (by decide)⟩, ?_⟩
  rw [e2]
  conv => whnf
  refine ⟨((-1, [a, b, c, d]), 4), [12], rfl, ⟨(fun h => by cases h), fun r hr => ?_, Nat.le_refl _, by show 4 ≤ 1099511627776; decide⟩, ?_⟩
  · simp only [List.mem_cons, List.mem_nil_iff, or_false] at hr
    rcases hr with rfl | rfl | rfl | rfl <;> assumption
  conv => whnf
  refine ⟨blk_rows rfl (fun r hr => ?_) (fun r hr => rfl), ?_⟩
  · have : r = 0 ∨ r = 1 ∨ r = 2 ∨ r = 3 := by
      have hr : r < 4 := hr
      omega
    rcases this with rfl | rfl | rfl | rfl <;> rfl
  conv => whnf
  refine ⟨(RV.of z).v, by rw [show extremeS.val ((-1, [a, b, c, d]), 4) = (RV.of z).v from by show (extV (-1) [a, b, c, d]).v = _; rw [ex]]; rfl, ?_⟩
  conv => whnf
  refine ⟨RV.of z, rfl, RV.of_ok (bz.mono (by decide)), ?_⟩
  rw [show qsignS.val (RV.of z) = .int .i64 w from by show Value.int .i64 (cmpQ (RV.of z).q 0) = _; rw [RV.of_q, hw]]
  conv => whnf
  exact fin

theorem rvwithin_ok : Snd Tryz.prog 34 vwithinS := by
  refine snd_of Evmok Dok Tryz.func34 (enters_of Tryz.func34 (by kernel_rfl) rfl) (fun _ => rfl) (fun _ => rfl) ?_
  intro ⟨⟨lo, hi⟩, p⟩ hp
  have hp : (lo.sz 268435456 ∧ hi.sz 268435456) ∧ p.sz 268435456 := hp
  obtain ⟨⟨hl, hh⟩, hp⟩ := hp
  have fin : ∀ b : Bool, (b = true ↔ inBox (lo, hi) p) → Value.bool b = vwithinS.val ((lo, hi), p) := fun b h => by
    show _ = Value.bool (decide (inBox (lo, hi) p))
    congr 1
    by_cases h2 : inBox (lo, hi) p
    · rw [decide_eq_true h2]; exact h.2 h2
    · rw [decide_eq_false h2]
      cases b
      · rfl
      · exact absurd (h.1 rfl) h2
  have l1 : RV.ok lo.1 := RV.sz_ok hl.1 (by decide)
  have l2 : RV.ok lo.2 := RV.sz_ok hl.2 (by decide)
  have u1 : RV.ok hi.1 := RV.sz_ok hh.1 (by decide)
  have u2 : RV.ok hi.2 := RV.sz_ok hh.2 (by decide)
  have p1 : RV.ok p.1 := RV.sz_ok hp.1 (by decide)
  have p2 : RV.ok p.2 := RV.sz_ok hp.2 (by decide)
  obtain ⟨w1, hw1⟩ : ∃ w, w = cmpQ lo.1.q p.1.q := ⟨_, rfl⟩
  obtain ⟨w2, hw2⟩ : ∃ w, w = cmpQ p.1.q hi.1.q := ⟨_, rfl⟩
  obtain ⟨w3, hw3⟩ : ∃ w, w = cmpQ lo.2.q p.2.q := ⟨_, rfl⟩
  obtain ⟨w4, hw4⟩ : ∃ w, w = cmpQ p.2.q hi.2.q := ⟨_, rfl⟩
  have k1 : w1 ≤ 0 ↔ lo.1.q ≤ p.1.q := by rw [hw1, cmpQ_le]
  have k2 : w2 ≤ 0 ↔ p.1.q ≤ hi.1.q := by rw [hw2, cmpQ_le]
  have k3 : w3 ≤ 0 ↔ lo.2.q ≤ p.2.q := by rw [hw3, cmpQ_le]
  have k4 : w4 ≤ 0 ↔ p.2.q ≤ hi.2.q := by rw [hw4, cmpQ_le]
  conv => whnf
  refine ⟨(lo.1, p.1), rfl, ⟨l1, p1⟩, ?_⟩
  rw [show qcmpS.val (lo.1, p.1) = .int .i64 w1 from by rw [hw1]; rfl]
  by_cases h1 : w1 ≤ 0
  · conv => whnf
    rw [show decide (w1 ≤ 0) = true from decide_eq_true h1]
    conv => whnf
    refine ⟨(p.1, hi.1), rfl, ⟨p1, u1⟩, ?_⟩
    rw [show qcmpS.val (p.1, hi.1) = .int .i64 w2 from by rw [hw2]; rfl]
    by_cases h2 : w2 ≤ 0
    · conv => whnf
      rw [show decide (w2 ≤ 0) = true from decide_eq_true h2]
      conv => whnf
      refine ⟨(lo.2, p.2), rfl, ⟨l2, p2⟩, ?_⟩
      rw [show qcmpS.val (lo.2, p.2) = .int .i64 w3 from by rw [hw3]; rfl]
      by_cases h3 : w3 ≤ 0
      · conv => whnf
        rw [show decide (w3 ≤ 0) = true from decide_eq_true h3]
        conv => whnf
        refine ⟨(p.2, hi.2), rfl, ⟨p2, u2⟩, ?_⟩
        rw [show qcmpS.val (p.2, hi.2) = .int .i64 w4 from by rw [hw4]; rfl]
        by_cases h4 : w4 ≤ 0
        · rw [k1] at h1; rw [k2] at h2; rw [k3] at h3
          conv => whnf
          refine fin _ ?_
          show decide (w4 ≤ 0) = true ↔ _
          rw [decide_eq_true h4]
          exact ⟨fun _ => ⟨h1, h2, h3, k4.1 h4⟩, fun _ => rfl⟩
        · conv => whnf
          refine fin _ ?_
          show decide (w4 ≤ 0) = true ↔ _
          rw [decide_eq_false h4]
          exact ⟨(fun h => by cases h), fun h => absurd (k4.2 h.2.2.2) h4⟩
      · conv => whnf
        rw [show decide (w3 ≤ 0) = false from decide_eq_false h3]
        conv => whnf
        refine fin _ ?_
        exact ⟨(fun h => by cases h), fun h => absurd (k3.2 h.2.2.1) h3⟩
    · conv => whnf
      rw [show decide (w2 ≤ 0) = false from decide_eq_false h2]
      conv => whnf
      refine fin _ ?_
      exact ⟨(fun h => by cases h), fun h => absurd (k2.2 h.2.1) h2⟩
  · conv => whnf
    rw [show decide (w1 ≤ 0) = false from decide_eq_false h1]
    conv => whnf
    refine fin _ ?_
    exact ⟨(fun h => by cases h), fun h => absurd (k1.2 h.1) h1⟩
end Go.Proofs.YtaklhgglgabbiaaGreat
/- The laws of vectors: the chapter's example; sums, products; measures. -/
set_option linter.unusedVariables false
set_option linter.unusedSimpArgs false
set_option maxRecDepth 20000
set_option maxHeartbeats 1000000
namespace Go.Proofs.YtaklhgglgabbiaaGreat
open Go Go.Ae

def Ela : Env := { tt := tt, eqs := eqsL, Φ := fun g => match g with
  | 8 => some (.p vofS)
  | 38 => some (.p qofS)
  | 37 => some (.p qratioS)
  | 10 => some (.p vaddS)
  | 16 => some (.p vdotS)
  | 18 => some (.p vcrossS)
  | 24 => some (.p vatS)
  | 26 => some (.p vdistS)
  | 28 => some (.p vsquareS)
  | _ => none }
theorem Elaok : EnvOk Tryz.prog Ela := ⟨tt_ok, eqs_ok, (fun g S h => by
  simp only [Ela] at h
  split at h
  · cases h; exact vof_ok
  · cases h; exact qof_ok
  · cases h; exact qratio_ok
  · cases h; exact vadd_ok
  · cases h; exact vdot_ok
  · cases h; exact vcross_ok
  · cases h; exact vat_ok
  · cases h; exact vdist_ok
  · cases h; exact vsquare_ok
  · cases h), fun g F h => by simp [Ela] at h⟩

theorem awake_ok : Snd Tryz.prog 7 awakeS := by
  refine snd_of Elaok Dok Tryz.func7 (enters_of Tryz.func7 (by kernel_rfl) rfl) (fun _ => rfl) (fun _ => rfl) ?_
  intro _ _
  obtain ⟨p, hp⟩ : ∃ p, p = exP := ⟨_, rfl⟩
  obtain ⟨q, hq⟩ : ∃ p, p = exQ := ⟨_, rfl⟩
  obtain ⟨h, hh⟩ : ∃ p, p = exH := ⟨_, rfl⟩
  obtain ⟨r1, h1⟩ : ∃ r, r = RV.of ((1 : Int) : Rat) := ⟨_, rfl⟩
  obtain ⟨r4, h4⟩ : ∃ r, r = RV.of ((4 : Int) : Rat) := ⟨_, rfl⟩
  obtain ⟨r7, h7⟩ : ∃ r, r = RV.of ((-7 : Int) : Rat) := ⟨_, rfl⟩
  obtain ⟨r2, h2⟩ : ∃ r, r = RV.of ((2 : Int) : Rat) := ⟨_, rfl⟩
  obtain ⟨r13, h13⟩ : ∃ r, r = RV.of ((13 : Int) : Rat) := ⟨_, rfl⟩
  obtain ⟨r3, h3⟩ : ∃ r, r = RV.of ((3 : Int) : Rat) := ⟨_, rfl⟩
  have sp : ∀ k, 1 ≤ k → p.sz k := fun k hk => by rw [hp]; exact exP_sz hk
  have sq : ∀ k, 1 ≤ k → q.sz k := fun k hk => by rw [hq]; exact exQ_sz hk
  have sh : ∀ k, 1 ≤ k → h.sz k := fun k hk => by rw [hh]; exact exH_sz hk
  conv => whnf
  refine ⟨(1, 2), rfl, ⟨by show ok1 1; decide, by show ok1 2; decide⟩, ?_⟩
  rw [show vofS.val (1, 2) = p.v from by rw [hp]; rfl]
  conv => whnf
  refine ⟨(3, -1), rfl, ⟨by show ok1 3; decide, by show ok1 (-1); decide⟩, ?_⟩
  rw [show vofS.val (3, -1) = q.v from by rw [hq]; rfl]
  conv => whnf
  refine ⟨(1, 2), rfl, ⟨by show ok1 1; decide, by show ok1 2; decide⟩, ?_⟩
  rw [show qratioS.val (1, 2) = .tuple ⟨[h.v, .int .i64 0]⟩ from by rw [hh]; rfl]
  conv => whnf
  refine .inl ⟨49, [[], [0], [0, 1], [0, 1, 2], [0, 1, 2, 3], [0, 1, 2], [0, 1, 2, 3, 4, 5], [0, 1, 2, 3, 4, 5, 6], [0, 1, 2, 3, 4, 5, 6, 7], [0, 1, 2, 3, 4, 5, 6, 7, 8], [0, 1, 2, 3, 4, 5, 6, 7, 8], [0, 1, 2, 3, 4, 5, 6, 7, 8, 9, 10], [0, 1, 2, 3, 4, 5, 6, 7, 8, 9, 10, 11], [0, 1, 2, 3, 4, 5, 6, 7, 8, 9, 10, 11, 12], [0, 1, 2, 3, 4, 5, 6, 7, 8, 9, 10, 11, 12, 13], [0, 1, 2, 3, 4, 5, 6, 7, 8, 9, 10, 11, 12, 13, 14], [0, 1, 2, 3, 4, 5, 6, 7, 8, 9, 10, 11, 12, 13, 14, 15], [0, 1, 2, 3, 4, 5, 6, 7, 8, 9, 10, 11, 12, 13, 14, 15], [0, 1, 2, 3, 4, 5, 6, 7, 8, 9, 10, 11, 12, 13, 14, 15, 16, 17], [0, 1, 2, 3, 4, 5, 6, 7, 8, 9, 10, 11, 12, 13, 14, 15, 16, 17, 18], [0, 1, 2, 3, 4, 5, 6, 7, 8, 9, 10, 11, 12, 13, 14, 15, 16, 17, 18, 19], [0, 1, 2, 3, 4, 5, 6, 7, 8, 9, 10, 11, 12, 13, 14, 15, 16, 17, 18, 19, 20], [0, 1, 2, 3, 4, 5, 6, 7, 8, 9, 10, 11, 12, 13, 14, 15, 16, 17, 18, 19, 20, 21], [0, 1, 2, 3, 4, 5, 6, 7, 8, 9, 10, 11, 12, 13, 14, 15, 16, 17, 18, 19, 20, 21, 22], [0, 1, 2, 3, 4, 5, 6, 7, 8, 9, 10, 11, 12, 13, 14, 15, 16, 17, 18, 19, 20, 21, 22], [0, 1, 2, 3, 4, 5, 6, 7, 8, 9, 10, 11, 12, 13, 14, 15, 16, 17, 18, 19, 20, 21, 22, 23, 24], [0, 1, 2, 3, 4, 5, 6, 7, 8, 9, 10, 11, 12, 13, 14, 15, 16, 17, 18, 19, 20, 21, 22, 23, 24, 25], [0, 1, 2, 3, 4, 5, 6, 7, 8, 9, 10, 11, 12, 13, 14, 15, 16, 17, 18, 19, 20, 21, 22, 23, 24, 25, 26], [0, 1, 2, 3, 4, 5, 6, 7, 8, 9, 10, 11, 12, 13, 14, 15, 16, 17, 18, 19, 20, 21, 22, 23, 24, 25, 26, 27], [0, 1, 2, 3, 4, 5, 6, 7, 8, 9, 10, 11, 12, 13, 14, 15, 16, 17, 18, 19, 20, 21, 22, 23, 24, 25, 26, 27, 28], [0, 1, 2, 3, 4, 5, 6, 7, 8, 9, 10, 11, 12, 13, 14, 15, 16, 17, 18, 19, 20, 21, 22, 23, 24, 25, 26, 27, 28, 29], [0, 1, 2, 3, 4, 5, 6, 7, 8, 9, 10, 11, 12, 13, 14, 15, 16, 17, 18, 19, 20, 21, 22, 23, 24, 25, 26, 27, 28, 29], [0, 1, 2, 3, 4, 5, 6, 7, 8, 9, 10, 11, 12, 13, 14, 15, 16, 17, 18, 19, 20, 21, 22, 23, 24, 25, 26, 27, 28, 29], [0, 1, 2, 3, 4, 5, 6, 7, 8, 9, 10, 11, 12, 13, 14, 15, 16, 17, 18, 19, 20, 21, 22, 23, 24, 25, 26, 27, 28, 29, 30, 31, 32], [0, 1, 2, 3, 4, 5, 6, 7, 8, 9, 10, 11, 12, 13, 14, 15, 16, 17, 18, 19, 20, 21, 22, 23, 24, 25, 26, 27, 28, 29, 30, 31, 32, 33], [0, 1, 2, 3, 4, 5, 6, 7, 8, 9, 10, 11, 12, 13, 14, 15, 16, 17, 18, 19, 20, 21, 22, 23, 24, 25, 26, 27, 28, 29], [0, 1, 2, 3, 4, 5, 6, 7, 8, 9, 10, 11, 12, 13, 14, 15, 16, 17, 18, 19, 20, 21, 22, 23, 24, 25, 26, 27, 28, 29, 30, 31, 32, 33, 34, 35], [0, 1, 2, 3, 4, 5, 6, 7, 8, 9, 10, 11, 12, 13, 14, 15, 16, 17, 18, 19, 20, 21, 22, 23, 24, 25, 26, 27, 28, 29, 30, 31, 32, 33, 34, 35, 36], [0, 1, 2, 3, 4, 5, 6, 7, 8, 9, 10, 11, 12, 13, 14, 15, 16, 17, 18, 19, 20, 21, 22, 23, 24, 25, 26, 27, 28, 29, 30, 31, 32, 33, 34, 35, 36, 37], [0, 1, 2, 3, 4, 5, 6, 7, 8, 9, 10, 11, 12, 13, 14, 15, 16, 17, 18, 19, 20, 21, 22, 23, 24, 25, 26, 27, 28, 29, 30, 31, 32, 33, 34, 35, 36, 37, 38], [0, 1, 2, 3, 4, 5, 6, 7, 8, 9, 10, 11, 12, 13, 14, 15, 16, 17, 18, 19, 20, 21, 22, 23, 24, 25, 26, 27, 28, 29, 30, 31, 32, 33, 34, 35, 36, 37, 38, 39], [0, 1, 2, 3, 4, 5, 6, 7, 8, 9, 10, 11, 12, 13, 14, 15, 16, 17, 18, 19, 20, 21, 22, 23, 24, 25, 26, 27, 28, 29, 30, 31, 32, 33, 34, 35, 36, 37, 38, 39], [0, 1, 2, 3, 4, 5, 6, 7, 8, 9, 10, 11, 12, 13, 14, 15, 16, 17, 18, 19, 20, 21, 22, 23, 24, 25, 26, 27, 28, 29, 30, 31, 32, 33, 34, 35, 36, 37, 38, 39, 40, 41], [0, 1, 2, 3, 4, 5, 6, 7, 8, 9, 10, 11, 12, 13, 14, 15, 16, 17, 18, 19, 20, 21, 22, 23, 24, 25, 26, 27, 28, 29, 30, 31, 32, 33, 34, 35, 36, 37, 38, 39, 40, 41, 42], [0, 1, 2, 3, 4, 5, 6, 7, 8, 9, 10, 11, 12, 13, 14, 15, 16, 17, 18, 19, 20, 21, 22, 23, 24, 25, 26, 27, 28, 29, 30, 31, 32, 33, 34, 35, 36, 37, 38, 39, 40, 41, 42, 43], [0, 1, 2, 3, 4, 5, 6, 7, 8, 9, 10, 11, 12, 13, 14, 15, 16, 17, 18, 19, 20, 21, 22, 23, 24, 25, 26, 27, 28, 29, 30, 31, 32, 33, 34, 35, 36, 37, 38, 39, 40, 41, 42, 43, 44], [0, 1, 2, 3, 4, 5, 6, 7, 8, 9, 10, 11, 12, 13, 14, 15, 16, 17, 18, 19, 20, 21, 22, 23, 24, 25, 26, 27, 28, 29, 30, 31, 32, 33, 34, 35, 36, 37, 38, 39, 40, 41, 42, 43, 44, 45], [0, 1, 2, 3, 4, 5, 6, 7, 8, 9, 10, 11, 12, 13, 14, 15, 16, 17, 18, 19, 20, 21, 22, 23, 24, 25, 26, 27, 28, 29, 30, 31, 32, 33, 34, 35, 36, 37, 38, 39, 40, 41, 42, 43, 44, 45, 46], [0, 1, 2, 3, 4, 5, 6, 7, 8, 9, 10, 11, 12, 13, 14, 15, 16, 17, 18, 19, 20, 21, 22, 23, 24, 25, 26, 27, 28, 29, 30, 31, 32, 33, 34, 35, 36, 37, 38, 39, 40, 41, 42, 43, 44, 45, 46], [0, 1, 2, 3, 4, 5, 6, 7, 8, 9, 10, 11, 12, 13, 14, 15, 16, 17, 18, 19, 20, 21, 22, 23, 24, 25, 26, 27, 28, 29, 30, 31, 32, 33, 34, 35, 36, 37, 38, 39, 40, 41, 42, 43, 44, 45, 46, 47, 48], [0, 1, 2, 3, 4, 5, 6, 7, 8, 9, 10, 11, 12, 13, 14, 15, 16, 17, 18, 19, 20, 21, 22, 23, 24, 25, 26, 27, 28, 29, 30, 31, 32, 33, 34, 35, 36, 37, 38, 39, 40, 41, 42, 43, 44, 45, 46, 47, 48, 49], [0, 1, 2, 3, 4, 5, 6, 7, 8, 9, 10, 11, 12, 13, 14, 15, 16, 17, 18, 19, 20, 21, 22, 23, 24, 25, 26, 27, 28, 29, 30, 31, 32, 33, 34, 35, 36, 37, 38, 39, 40, 41, 42, 43, 44, 45, 46, 47, 48, 49, 50], [0, 1, 2, 3, 4, 5, 6, 7, 8, 9, 10, 11, 12, 13, 14, 15, 16, 17, 18, 19, 20, 21, 22, 23, 24, 25, 26, 27, 28, 29, 30, 31, 32, 33, 34, 35, 36, 37, 38, 39, 40, 41, 42, 43, 44, 45, 46, 47, 48, 49, 50, 51], [0, 1, 2, 3, 4, 5, 6, 7, 8, 9, 10, 11, 12, 13, 14, 15, 16, 17, 18, 19, 20, 21, 22, 23, 24, 25, 26, 27, 28, 29, 30, 31, 32, 33, 34, 35, 36, 37, 38, 39, 40, 41, 42, 43, 44, 45, 46, 47, 48, 49, 50, 51, 52]], by kernel_rfl, ?_⟩
  conv => whnf
  refine ⟨(1 : Int), rfl, by show ok1 1; decide, ?_⟩
  rw [show qofS.val (1 : Int) = RV.v p.1 from by rw [hp]; rfl]
  conv => whnf
  rw [eqR p.1]
  conv => whnf
  obtain ⟨z, hz⟩ : ∃ z : PV, z = (r4, r1) := ⟨_, rfl⟩
  refine ⟨(p, q), rfl, ⟨sp _ (by decide), sq _ (by decide)⟩, ?_⟩
  rw [show vaddS.val (p, q) = z.v from by rw [hp, hq, hz, h4, h1]; exact ex_add]
  conv => whnf
  refine ⟨(4, 1), rfl, ⟨by show ok1 4; decide, by show ok1 1; decide⟩, ?_⟩
  rw [show vofS.val (4, 1) = z.v from by rw [hz, h4, h1]; rfl]
  conv => whnf
  rw [eqP z]
  conv => whnf
  refine ⟨(p, q), rfl, ⟨sp _ (by decide), sq _ (by decide)⟩, ?_⟩
  rw [show vdotS.val (p, q) = r1.v from by rw [hp, hq, h1]; exact ex_dot]
  conv => whnf
  refine ⟨(1 : Int), rfl, by show ok1 1; decide, ?_⟩
  rw [show qofS.val (1 : Int) = r1.v from by rw [h1]; rfl]
  conv => whnf
  rw [eqR r1]
  conv => whnf
  refine ⟨(p, q), rfl, ⟨sp _ (by decide), sq _ (by decide)⟩, ?_⟩
  rw [show vcrossS.val (p, q) = r7.v from by rw [hp, hq, h7]; exact ex_cross]
  conv => whnf
  refine ⟨(-7 : Int), rfl, by show ok1 (-7); decide, ?_⟩
  rw [show qofS.val (-7 : Int) = r7.v from by rw [h7]; rfl]
  conv => whnf
  rw [eqR r7]
  conv => whnf
  refine ⟨((p, q), h), rfl, ⟨⟨sp _ (by decide), sq _ (by decide)⟩, sh _ (by decide)⟩, ?_⟩
  rw [show vatS.val ((p, q), h) = PV.v (r2, h) from by rw [hp, hq, hh, h2]; exact ex_at]
  conv => whnf
  refine ⟨(2 : Int), rfl, by show ok1 2; decide, ?_⟩
  rw [show qofS.val (2 : Int) = r2.v from by rw [h2]; rfl]
  conv => whnf
  rw [eqP (r2, h)]
  conv => whnf
  refine ⟨(p, q), rfl, ⟨sp _ (by decide), sq _ (by decide)⟩, ?_⟩
  rw [show vdistS.val (p, q) = r13.v from by rw [hp, hq, h13]; exact ex_dist]
  conv => whnf
  refine ⟨(13 : Int), rfl, by show ok1 13; decide, ?_⟩
  rw [show qofS.val (13 : Int) = r13.v from by rw [h13]; rfl]
  conv => whnf
  rw [eqR r13]
  conv => whnf
  refine ⟨(p, q), rfl, ⟨sp _ (by decide), sq _ (by decide)⟩, ?_⟩
  rw [show vsquareS.val (p, q) = r3.v from by rw [hp, hq, h3]; exact ex_square]
  conv => whnf
  refine ⟨(3 : Int), rfl, by show ok1 3; decide, ?_⟩
  rw [show qofS.val (3 : Int) = r3.v from by rw [h3]; rfl]
  conv => whnf
  show Value.bool (eqCells _ _) = Value.bool true
  exact congrArg Value.bool (eqR r3)

def Elb : Env := { tt := tt, eqs := eqsL, Φ := fun g => match g with
  | 7 => some (.p awakeS)
  | 6 => some (.q greatlS)
  | 8 => some (.p vofS)
  | 9 => some (.p vofS)
  | 10 => some (.p vaddS)
  | 11 => some (.p vaddS)
  | 12 => some (.p vsubS)
  | 13 => some (.p vsubS)
  | 14 => some (.p vscaleS)
  | 15 => some (.p vscaleS)
  | 16 => some (.p vdotS)
  | 17 => some (.p vdotS)
  | 18 => some (.p vcrossS)
  | 19 => some (.p vcrossS)
  | 20 => some (.p vcheckS)
  | 21 => some (.p vcheckS)
  | 22 => some (.p vcmpS)
  | 23 => some (.p vcmpS)
  | 24 => some (.p vatS)
  | 25 => some (.p vatS)
  | 26 => some (.p vdistS)
  | 27 => some (.p vdistS)
  | 28 => some (.p vsquareS)
  | 29 => some (.p vsquareS)
  | _ => none }
theorem Elbok : EnvOk Tryz.prog Elb := ⟨tt_ok, eqs_ok, (fun g S h => by
  simp only [Elb] at h
  split at h
  · cases h; exact awake_ok
  · cases h; exact greatl_ok
  · cases h; exact vof_ok
  · cases h; exact rvof_ok
  · cases h; exact vadd_ok
  · cases h; exact rvadd_ok
  · cases h; exact vsub_ok
  · cases h; exact rvsub_ok
  · cases h; exact vscale_ok
  · cases h; exact rvscale_ok
  · cases h; exact vdot_ok
  · cases h; exact rvdot_ok
  · cases h; exact vcross_ok
  · cases h; exact rvcross_ok
  · cases h; exact vcheck_ok
  · cases h; exact rvcheck_ok
  · cases h; exact vcmp_ok
  · cases h; exact rvcmp_ok
  · cases h; exact vat_ok
  · cases h; exact rvat_ok
  · cases h; exact vdist_ok
  · cases h; exact rvdist_ok
  · cases h; exact vsquare_ok
  · cases h; exact rvsquare_ok
  · cases h), fun g F h => by simp [Elb] at h⟩

theorem computes_ok : Snd Tryz.prog 3 computesS := by
  refine snd_of Elbok Dok Tryz.func3 (enters_of Tryz.func3 (by kernel_rfl) rfl) (fun _ => rfl) (fun _ => rfl) ?_
  intro ⟨⟨x, y⟩, ⟨p, q⟩, r⟩ hp
  have hp : ok1 x ∧ ok1 y := hp
  conv => whnf
  obtain ⟨l, hl⟩ : ∃ l, l = [p, q, (r, zeroR)] := ⟨_, rfl⟩
  obtain ⟨g, hg⟩ : ∃ g, g = anyGreat l := ⟨_, rfl⟩
  refine ⟨(l, 3), [3], by rw [hl]; rfl, ⟨by rw [hl]; exact Nat.le_refl _, by show 3 ≤ 1099511627776; decide⟩, ?_⟩
  rw [show greatlS.blks (l, 3) = [.flat false 3 6 (rowsP l)] from by rw [hl]; rfl, show greatlS.val (l, 3) = .bool g from by rw [hg]; rfl, show greatlS.new (l, 3) = none from rfl]
  conv => whnf
  refine ⟨great_list3 hl, ?_⟩
  conv => whnf
  refine ⟨.bool g, rfl, ?_⟩
  cases hg2 : g
  · obtain ⟨hp60, hq60, hr60⟩ := great3 (p := p) (q := q) (r := r) (by rw [← hl, ← hg, hg2])
    obtain ⟨z1, e1⟩ : ∃ z : PV, vofS.val (x, y) = z.v := ⟨_, rfl⟩
    obtain ⟨z2, e2⟩ : ∃ z : PV, vaddS.val (p, q) = z.v := ⟨_, rfl⟩
    obtain ⟨z3, e3⟩ : ∃ z : PV, vsubS.val (p, q) = z.v := ⟨_, rfl⟩
    obtain ⟨z4, e4⟩ : ∃ z : PV, vscaleS.val (p, r) = z.v := ⟨_, rfl⟩
    obtain ⟨z5, e5⟩ : ∃ z : RV, vdotS.val (p, q) = z.v := ⟨RV.of _, rfl⟩
    obtain ⟨z6, e6⟩ : ∃ z : RV, vcrossS.val (p, q) = z.v := ⟨RV.of _, rfl⟩
    have k1 : vaddS.pre (p, q) := ⟨PV.sz_mono hp60 (by decide), PV.sz_mono hq60 (by decide)⟩
    have k2 : vscaleS.pre (p, r) := ⟨PV.sz_mono hp60 (by decide), RV.sz_mono hr60 (by decide)⟩
    have k3 : vdotS.pre (p, q) := ⟨PV.sz_mono hp60 (by decide), PV.sz_mono hq60 (by decide)⟩
    conv => whnf
    refine .inl ⟨49, [[], [], [0, 1], [], [], [0, 1, 2, 3, 4], [0, 1, 2, 3, 4, 5], [0, 1, 2, 3, 4, 5, 6], [0, 1, 2, 3, 4, 5, 6, 7], [0, 1, 2, 3, 4, 5, 6, 7], [0, 1, 2, 3, 4, 5, 6, 7, 8, 9], [0, 1, 2, 3, 4, 5, 6, 7], [0, 1, 2, 3, 4, 5, 6, 7], [0, 1, 2, 3, 4, 5, 6, 7, 8, 9, 10, 11, 12], [0, 1, 2, 3, 4, 5, 6, 7, 8, 9, 10, 11, 12, 13], [0, 1, 2, 3, 4, 5, 6, 7, 8, 9, 10, 11, 12, 13, 14], [0, 1, 2, 3, 4, 5, 6, 7, 8, 9, 10, 11, 12, 13, 14, 15], [0, 1, 2, 3, 4, 5, 6, 7, 8, 9, 10, 11, 12, 13, 14, 15, 16], [0, 1, 2, 3, 4, 5, 6, 7, 8, 9, 10, 11, 12, 13, 14, 15, 16], [0, 1, 2, 3, 4, 5, 6, 7, 8, 9, 10, 11, 12, 13, 14, 15, 16, 17, 18], [0, 1, 2, 3, 4, 5, 6, 7, 8, 9, 10, 11, 12, 13, 14, 15, 16], [0, 1, 2, 3, 4, 5, 6, 7, 8, 9, 10, 11, 12, 13, 14, 15, 16], [0, 1, 2, 3, 4, 5, 6, 7, 8, 9, 10, 11, 12, 13, 14, 15, 16, 17, 18, 19, 20, 21], [0, 1, 2, 3, 4, 5, 6, 7, 8, 9, 10, 11, 12, 13, 14, 15, 16, 17, 18, 19, 20, 21, 22], [0, 1, 2, 3, 4, 5, 6, 7, 8, 9, 10, 11, 12, 13, 14, 15, 16, 17, 18, 19, 20, 21, 22, 23], [0, 1, 2, 3, 4, 5, 6, 7, 8, 9, 10, 11, 12, 13, 14, 15, 16, 17, 18, 19, 20, 21, 22, 23, 24], [0, 1, 2, 3, 4, 5, 6, 7, 8, 9, 10, 11, 12, 13, 14, 15, 16, 17, 18, 19, 20, 21, 22, 23, 24, 25], [0, 1, 2, 3, 4, 5, 6, 7, 8, 9, 10, 11, 12, 13, 14, 15, 16, 17, 18, 19, 20, 21, 22, 23, 24, 25], [0, 1, 2, 3, 4, 5, 6, 7, 8, 9, 10, 11, 12, 13, 14, 15, 16, 17, 18, 19, 20, 21, 22, 23, 24, 25, 26, 27], [0, 1, 2, 3, 4, 5, 6, 7, 8, 9, 10, 11, 12, 13, 14, 15, 16, 17, 18, 19, 20, 21, 22, 23, 24, 25], [0, 1, 2, 3, 4, 5, 6, 7, 8, 9, 10, 11, 12, 13, 14, 15, 16, 17, 18, 19, 20, 21, 22, 23, 24, 25], [0, 1, 2, 3, 4, 5, 6, 7, 8, 9, 10, 11, 12, 13, 14, 15, 16, 17, 18, 19, 20, 21, 22, 23, 24, 25, 26, 27, 28, 29, 30], [0, 1, 2, 3, 4, 5, 6, 7, 8, 9, 10, 11, 12, 13, 14, 15, 16, 17, 18, 19, 20, 21, 22, 23, 24, 25, 26, 27, 28, 29, 30, 31], [0, 1, 2, 3, 4, 5, 6, 7, 8, 9, 10, 11, 12, 13, 14, 15, 16, 17, 18, 19, 20, 21, 22, 23, 24, 25, 26, 27, 28, 29, 30, 31, 32], [0, 1, 2, 3, 4, 5, 6, 7, 8, 9, 10, 11, 12, 13, 14, 15, 16, 17, 18, 19, 20, 21, 22, 23, 24, 25, 26, 27, 28, 29, 30, 31, 32, 33], [0, 1, 2, 3, 4, 5, 6, 7, 8, 9, 10, 11, 12, 13, 14, 15, 16, 17, 18, 19, 20, 21, 22, 23, 24, 25, 26, 27, 28, 29, 30, 31, 32, 33, 34], [0, 1, 2, 3, 4, 5, 6, 7, 8, 9, 10, 11, 12, 13, 14, 15, 16, 17, 18, 19, 20, 21, 22, 23, 24, 25, 26, 27, 28, 29, 30, 31, 32, 33, 34], [0, 1, 2, 3, 4, 5, 6, 7, 8, 9, 10, 11, 12, 13, 14, 15, 16, 17, 18, 19, 20, 21, 22, 23, 24, 25, 26, 27, 28, 29, 30, 31, 32, 33, 34, 35, 36], [0, 1, 2, 3, 4, 5, 6, 7, 8, 9, 10, 11, 12, 13, 14, 15, 16, 17, 18, 19, 20, 21, 22, 23, 24, 25, 26, 27, 28, 29, 30, 31, 32, 33, 34], [0, 1, 2, 3, 4, 5, 6, 7, 8, 9, 10, 11, 12, 13, 14, 15, 16, 17, 18, 19, 20, 21, 22, 23, 24, 25, 26, 27, 28, 29, 30, 31, 32, 33, 34], [0, 1, 2, 3, 4, 5, 6, 7, 8, 9, 10, 11, 12, 13, 14, 15, 16, 17, 18, 19, 20, 21, 22, 23, 24, 25, 26, 27, 28, 29, 30, 31, 32, 33, 34, 35, 36, 37, 38, 39], [0, 1, 2, 3, 4, 5, 6, 7, 8, 9, 10, 11, 12, 13, 14, 15, 16, 17, 18, 19, 20, 21, 22, 23, 24, 25, 26, 27, 28, 29, 30, 31, 32, 33, 34, 35, 36, 37, 38, 39, 40], [0, 1, 2, 3, 4, 5, 6, 7, 8, 9, 10, 11, 12, 13, 14, 15, 16, 17, 18, 19, 20, 21, 22, 23, 24, 25, 26, 27, 28, 29, 30, 31, 32, 33, 34, 35, 36, 37, 38, 39, 40, 41], [0, 1, 2, 3, 4, 5, 6, 7, 8, 9, 10, 11, 12, 13, 14, 15, 16, 17, 18, 19, 20, 21, 22, 23, 24, 25, 26, 27, 28, 29, 30, 31, 32, 33, 34, 35, 36, 37, 38, 39, 40, 41, 42], [0, 1, 2, 3, 4, 5, 6, 7, 8, 9, 10, 11, 12, 13, 14, 15, 16, 17, 18, 19, 20, 21, 22, 23, 24, 25, 26, 27, 28, 29, 30, 31, 32, 33, 34, 35, 36, 37, 38, 39, 40, 41, 42, 43], [0, 1, 2, 3, 4, 5, 6, 7, 8, 9, 10, 11, 12, 13, 14, 15, 16, 17, 18, 19, 20, 21, 22, 23, 24, 25, 26, 27, 28, 29, 30, 31, 32, 33, 34, 35, 36, 37, 38, 39, 40, 41, 42, 43], [0, 1, 2, 3, 4, 5, 6, 7, 8, 9, 10, 11, 12, 13, 14, 15, 16, 17, 18, 19, 20, 21, 22, 23, 24, 25, 26, 27, 28, 29, 30, 31, 32, 33, 34, 35, 36, 37, 38, 39, 40, 41, 42, 43, 44, 45], [0, 1, 2, 3, 4, 5, 6, 7, 8, 9, 10, 11, 12, 13, 14, 15, 16, 17, 18, 19, 20, 21, 22, 23, 24, 25, 26, 27, 28, 29, 30, 31, 32, 33, 34, 35, 36, 37, 38, 39, 40, 41, 42, 43], [0, 1, 2, 3, 4, 5, 6, 7, 8, 9, 10, 11, 12, 13, 14, 15, 16, 17, 18, 19, 20, 21, 22, 23, 24, 25, 26, 27, 28, 29, 30, 31, 32, 33, 34, 35, 36, 37, 38, 39, 40, 41, 42, 43], [0, 1, 2, 3, 4, 5, 6, 7, 8, 9, 10, 11, 12, 13, 14, 15, 16, 17, 18, 19, 20, 21, 22, 23, 24, 25, 26, 27, 28, 29, 30, 31, 32, 33, 34, 35, 36, 37, 38, 39, 40, 41, 42, 43, 44, 45, 46, 47, 48], [0, 1, 2, 3, 4, 5, 6, 7, 8, 9, 10, 11, 12, 13, 14, 15, 16, 17, 18, 19, 20, 21, 22, 23, 24, 25, 26, 27, 28, 29, 30, 31, 32, 33, 34, 35, 36, 37, 38, 39, 40, 41, 42, 43, 44, 45, 46, 47, 48, 49], [0, 1, 2, 3, 4, 5, 6, 7, 8, 9, 10, 11, 12, 13, 14, 15, 16, 17, 18, 19, 20, 21, 22, 23, 24, 25, 26, 27, 28, 29, 30, 31, 32, 33, 34, 35, 36, 37, 38, 39, 40, 41, 42, 43, 44, 45, 46, 47, 48, 49, 50], [0, 1, 2, 3, 4, 5, 6, 7, 8, 9, 10, 11, 12, 13, 14, 15, 16, 17, 18, 19, 20, 21, 22, 23, 24, 25, 26, 27, 28, 29, 30, 31, 32, 33, 34, 35, 36, 37, 38, 39, 40, 41, 42, 43, 44, 45, 46, 47, 48, 49, 50, 51], [0, 1, 2, 3, 4, 5, 6, 7, 8, 9, 10, 11, 12, 13, 14, 15, 16, 17, 18, 19, 20, 21, 22, 23, 24, 25, 26, 27, 28, 29, 30, 31, 32, 33, 34, 35, 36, 37, 38, 39, 40, 41, 42, 43, 44, 45, 46, 47, 48, 49, 50, 51, 52], [0, 1, 2, 3, 4, 5, 6, 7, 8, 9, 10, 11, 12, 13, 14, 15, 16, 17, 18, 19, 20, 21, 22, 23, 24, 25, 26, 27, 28, 29, 30, 31, 32, 33, 34, 35, 36, 37, 38, 39, 40, 41, 42, 43, 44, 45, 46, 47, 48, 49, 50, 51, 52, 53], [0, 1, 2, 3, 4, 5, 6, 7, 8, 9, 10, 11, 12, 13, 14, 15, 16, 17, 18, 19, 20, 21, 22, 23, 24, 25, 26, 27, 28, 29, 30, 31, 32, 33, 34, 35, 36, 37, 38, 39, 40, 41, 42, 43, 44, 45, 46, 47, 48, 49, 50, 51, 52, 53, 54]], by kernel_rfl, ?_⟩
    conv => whnf
    refine ⟨(x, y), rfl, hp, ?_⟩
    rw [e1]
    conv => whnf
    refine ⟨(x, y), rfl, hp, ?_⟩
    rw [e1]
    conv => whnf
    rw [eqP z1]
    conv => whnf
    refine ⟨(p, q), rfl, k1, ?_⟩
    rw [e2]
    conv => whnf
    refine ⟨(p, q), rfl, k1, ?_⟩
    rw [e2]
    conv => whnf
    rw [eqP z2]
    conv => whnf
    refine ⟨(p, q), rfl, k1, ?_⟩
    rw [e3]
    conv => whnf
    refine ⟨(p, q), rfl, k1, ?_⟩
    rw [e3]
    conv => whnf
    rw [eqP z3]
    conv => whnf
    refine ⟨(p, r), rfl, k2, ?_⟩
    rw [e4]
    conv => whnf
    refine ⟨(p, r), rfl, k2, ?_⟩
    rw [e4]
    conv => whnf
    rw [eqP z4]
    conv => whnf
    refine ⟨(p, q), rfl, k3, ?_⟩
    rw [e5]
    conv => whnf
    refine ⟨(p, q), rfl, k3, ?_⟩
    rw [e5]
    conv => whnf
    rw [eqR z5]
    conv => whnf
    refine ⟨(p, q), rfl, k3, ?_⟩
    rw [e6]
    conv => whnf
    refine ⟨(p, q), rfl, k3, ?_⟩
    rw [e6]
    conv => whnf
    rw [eqR z6]
    conv => whnf
    refine ⟨(), rfl, trivial, ?_⟩
    conv => whnf
    rfl
  · conv => whnf
    refine ⟨(), rfl, trivial, ?_⟩
    conv => whnf
    rfl

theorem measures_ok : Snd Tryz.prog 4 measuresS := by
  refine snd_of Elbok Dok Tryz.func4 (enters_of Tryz.func4 (by kernel_rfl) rfl) (fun _ => rfl) (fun _ => rfl) ?_
  intro ⟨⟨p, q⟩, r⟩ _
  conv => whnf
  obtain ⟨l, hl⟩ : ∃ l, l = [p, q, (r, zeroR)] := ⟨_, rfl⟩
  obtain ⟨g, hg⟩ : ∃ g, g = anyGreat l := ⟨_, rfl⟩
  refine ⟨(l, 3), [3], by rw [hl]; rfl, ⟨by rw [hl]; exact Nat.le_refl _, by show 3 ≤ 1099511627776; decide⟩, ?_⟩
  rw [show greatlS.blks (l, 3) = [.flat false 3 6 (rowsP l)] from by rw [hl]; rfl, show greatlS.val (l, 3) = .bool g from by rw [hg]; rfl, show greatlS.new (l, 3) = none from rfl]
  conv => whnf
  refine ⟨great_list3 hl, ?_⟩
  conv => whnf
  refine ⟨.bool g, rfl, ?_⟩
  cases hg2 : g
  · obtain ⟨hp60, hq60, hr60⟩ := great3 (p := p) (q := q) (r := r) (by rw [← hl, ← hg, hg2])
    obtain ⟨c1, e1⟩ : ∃ z : Int, vcheckS.val p = .int .i64 z := ⟨_, rfl⟩
    obtain ⟨c2, e2⟩ : ∃ z : Int, vcmpS.val (p, q) = .int .i64 z := ⟨_, rfl⟩
    obtain ⟨z4, e4⟩ : ∃ z : PV, vatS.val ((p, q), r) = z.v := ⟨_, rfl⟩
    obtain ⟨z5, e5⟩ : ∃ z : RV, vdistS.val (p, q) = z.v := ⟨RV.of _, rfl⟩
    obtain ⟨z6, e6⟩ : ∃ z : RV, vsquareS.val (p, q) = z.v := ⟨RV.of _, rfl⟩
    have k0 : vcheckS.pre p := PV.sz_mono hp60 (by decide)
    have k1 : vcmpS.pre (p, q) := ⟨PV.sz_mono hp60 (by decide), PV.sz_mono hq60 (by decide)⟩
    have k3 : vdistS.pre (p, q) := ⟨PV.sz_mono hp60 (by decide), PV.sz_mono hq60 (by decide)⟩
    have k2 : vatS.pre ((p, q), r) := ⟨k3, RV.sz_mono hr60 (by decide)⟩
    conv => whnf
    refine .inl ⟨40, [[], [0], [], [0, 1, 2], [0, 1, 2, 3], [0, 1, 2, 3, 4], [0, 1, 2, 3, 4, 5], [0, 1, 2, 3, 4, 5], [0, 1, 2, 3, 4, 5, 6, 7], [0, 1, 2, 3, 4, 5], [0, 1, 2, 3, 4, 5], [0, 1, 2, 3, 4, 5, 6, 7, 8, 9, 10], [0, 1, 2, 3, 4, 5, 6, 7, 8, 9, 10, 11], [0, 1, 2, 3, 4, 5, 6, 7, 8, 9, 10, 11, 12], [0, 1, 2, 3, 4, 5, 6, 7, 8, 9, 10, 11, 12, 13], [0, 1, 2, 3, 4, 5, 6, 7, 8, 9, 10, 11, 12, 13, 14], [0, 1, 2, 3, 4, 5, 6, 7, 8, 9, 10, 11, 12, 13, 14], [0, 1, 2, 3, 4, 5, 6, 7, 8, 9, 10, 11, 12, 13, 14], [0, 1, 2, 3, 4, 5, 6, 7, 8, 9, 10, 11, 12, 13, 14, 15, 16, 17], [0, 1, 2, 3, 4, 5, 6, 7, 8, 9, 10, 11, 12, 13, 14], [0, 1, 2, 3, 4, 5, 6, 7, 8, 9, 10, 11, 12, 13, 14], [0, 1, 2, 3, 4, 5, 6, 7, 8, 9, 10, 11, 12, 13, 14], [0, 1, 2, 3, 4, 5, 6, 7, 8, 9, 10, 11, 12, 13, 14, 15, 16, 17, 18, 19, 20, 21], [0, 1, 2, 3, 4, 5, 6, 7, 8, 9, 10, 11, 12, 13, 14, 15, 16, 17, 18, 19, 20, 21, 22], [0, 1, 2, 3, 4, 5, 6, 7, 8, 9, 10, 11, 12, 13, 14, 15, 16, 17, 18, 19, 20, 21, 22, 23], [0, 1, 2, 3, 4, 5, 6, 7, 8, 9, 10, 11, 12, 13, 14, 15, 16, 17, 18, 19, 20, 21, 22, 23, 24], [0, 1, 2, 3, 4, 5, 6, 7, 8, 9, 10, 11, 12, 13, 14, 15, 16, 17, 18, 19, 20, 21, 22, 23, 24, 25], [0, 1, 2, 3, 4, 5, 6, 7, 8, 9, 10, 11, 12, 13, 14, 15, 16, 17, 18, 19, 20, 21, 22, 23, 24, 25], [0, 1, 2, 3, 4, 5, 6, 7, 8, 9, 10, 11, 12, 13, 14, 15, 16, 17, 18, 19, 20, 21, 22, 23, 24, 25, 26, 27], [0, 1, 2, 3, 4, 5, 6, 7, 8, 9, 10, 11, 12, 13, 14, 15, 16, 17, 18, 19, 20, 21, 22, 23, 24, 25], [0, 1, 2, 3, 4, 5, 6, 7, 8, 9, 10, 11, 12, 13, 14, 15, 16, 17, 18, 19, 20, 21, 22, 23, 24, 25], [0, 1, 2, 3, 4, 5, 6, 7, 8, 9, 10, 11, 12, 13, 14, 15, 16, 17, 18, 19, 20, 21, 22, 23, 24, 25, 26, 27, 28, 29, 30], [0, 1, 2, 3, 4, 5, 6, 7, 8, 9, 10, 11, 12, 13, 14, 15, 16, 17, 18, 19, 20, 21, 22, 23, 24, 25, 26, 27, 28, 29, 30, 31], [0, 1, 2, 3, 4, 5, 6, 7, 8, 9, 10, 11, 12, 13, 14, 15, 16, 17, 18, 19, 20, 21, 22, 23, 24, 25, 26, 27, 28, 29, 30, 31, 32], [0, 1, 2, 3, 4, 5, 6, 7, 8, 9, 10, 11, 12, 13, 14, 15, 16, 17, 18, 19, 20, 21, 22, 23, 24, 25, 26, 27, 28, 29, 30, 31, 32, 33], [0, 1, 2, 3, 4, 5, 6, 7, 8, 9, 10, 11, 12, 13, 14, 15, 16, 17, 18, 19, 20, 21, 22, 23, 24, 25, 26, 27, 28, 29, 30, 31, 32, 33, 34], [0, 1, 2, 3, 4, 5, 6, 7, 8, 9, 10, 11, 12, 13, 14, 15, 16, 17, 18, 19, 20, 21, 22, 23, 24, 25, 26, 27, 28, 29, 30, 31, 32, 33, 34], [0, 1, 2, 3, 4, 5, 6, 7, 8, 9, 10, 11, 12, 13, 14, 15, 16, 17, 18, 19, 20, 21, 22, 23, 24, 25, 26, 27, 28, 29, 30, 31, 32, 33, 34, 35, 36], [0, 1, 2, 3, 4, 5, 6, 7, 8, 9, 10, 11, 12, 13, 14, 15, 16, 17, 18, 19, 20, 21, 22, 23, 24, 25, 26, 27, 28, 29, 30, 31, 32, 33, 34], [0, 1, 2, 3, 4, 5, 6, 7, 8, 9, 10, 11, 12, 13, 14, 15, 16, 17, 18, 19, 20, 21, 22, 23, 24, 25, 26, 27, 28, 29, 30, 31, 32, 33, 34], [0, 1, 2, 3, 4, 5, 6, 7, 8, 9, 10, 11, 12, 13, 14, 15, 16, 17, 18, 19, 20, 21, 22, 23, 24, 25, 26, 27, 28, 29, 30, 31, 32, 33, 34, 35, 36, 37, 38, 39], [0, 1, 2, 3, 4, 5, 6, 7, 8, 9, 10, 11, 12, 13, 14, 15, 16, 17, 18, 19, 20, 21, 22, 23, 24, 25, 26, 27, 28, 29, 30, 31, 32, 33, 34, 35, 36, 37, 38, 39, 40], [0, 1, 2, 3, 4, 5, 6, 7, 8, 9, 10, 11, 12, 13, 14, 15, 16, 17, 18, 19, 20, 21, 22, 23, 24, 25, 26, 27, 28, 29, 30, 31, 32, 33, 34, 35, 36, 37, 38, 39, 40, 41], [0, 1, 2, 3, 4, 5, 6, 7, 8, 9, 10, 11, 12, 13, 14, 15, 16, 17, 18, 19, 20, 21, 22, 23, 24, 25, 26, 27, 28, 29, 30, 31, 32, 33, 34, 35, 36, 37, 38, 39, 40, 41, 42], [0, 1, 2, 3, 4, 5, 6, 7, 8, 9, 10, 11, 12, 13, 14, 15, 16, 17, 18, 19, 20, 21, 22, 23, 24, 25, 26, 27, 28, 29, 30, 31, 32, 33, 34, 35, 36, 37, 38, 39, 40, 41, 42, 43], [0, 1, 2, 3, 4, 5, 6, 7, 8, 9, 10, 11, 12, 13, 14, 15, 16, 17, 18, 19, 20, 21, 22, 23, 24, 25, 26, 27, 28, 29, 30, 31, 32, 33, 34, 35, 36, 37, 38, 39, 40, 41, 42, 43, 44], [0, 1, 2, 3, 4, 5, 6, 7, 8, 9, 10, 11, 12, 13, 14, 15, 16, 17, 18, 19, 20, 21, 22, 23, 24, 25, 26, 27, 28, 29, 30, 31, 32, 33, 34, 35, 36, 37, 38, 39, 40, 41, 42, 43, 44, 45]], by kernel_rfl, ?_⟩
    conv => whnf
    refine ⟨p, rfl, k0, ?_⟩
    rw [e1]
    conv => whnf
    refine ⟨p, rfl, k0, ?_⟩
    rw [e1]
    conv => whnf
    rw [show (c1 == c1) = true from by simp]
    conv => whnf
    refine ⟨(p, q), rfl, k1, ?_⟩
    rw [e2]
    conv => whnf
    refine ⟨(p, q), rfl, k1, ?_⟩
    rw [e2]
    conv => whnf
    rw [show (c2 == c2) = true from by simp]
    conv => whnf
    refine ⟨((p, q), r), rfl, k2, ?_⟩
    rw [e4]
    conv => whnf
    refine ⟨((p, q), r), rfl, k2, ?_⟩
    rw [e4]
    conv => whnf
    rw [eqP z4]
    conv => whnf
    refine ⟨(p, q), rfl, k3, ?_⟩
    rw [e5]
    conv => whnf
    refine ⟨(p, q), rfl, k3, ?_⟩
    rw [e5]
    conv => whnf
    rw [eqR z5]
    conv => whnf
    refine ⟨(p, q), rfl, k3, ?_⟩
    rw [e6]
    conv => whnf
    refine ⟨(p, q), rfl, k3, ?_⟩
    rw [e6]
    conv => whnf
    rw [eqR z6]
    conv => whnf
    refine ⟨(), rfl, trivial, ?_⟩
    conv => whnf
    rfl
  · conv => whnf
    refine ⟨(), rfl, trivial, ?_⟩
    conv => whnf
    rfl
end Go.Proofs.YtaklhgglgabbiaaGreat
/- The statements: VectorComputes, VectorMeasures. -/
set_option linter.unusedVariables false
namespace Go.Proofs.YtaklhgglgabbiaaGreat
open Go Go.Ae Go.ChangeShapes Go.WideShapes Go.ChangeAt Go.RowKit

theorem own : ownKnob Tryz.prog.godebug = none := by kernel_rfl
theorem laidOut : laidOutB Tryz.prog = true := by kernel_rfl
def zR : Value := .agg #[.bool false, .string ⟨#[]⟩, .string ⟨#[]⟩]
def zP : Value := .agg #[.bool false, .string ⟨#[]⟩, .string ⟨#[]⟩, .bool false, .string ⟨#[]⟩, .string ⟨#[]⟩]
set_option maxRecDepth 100000 in
theorem open_point {w : World} {r : Reach} {base : Nat} {v : Value} (h : Value.okWide Tryz.prog w r base 25 v) : ∃ p : PV, v = p.v :=
  open_pt Tryz.underlying25 (b := 4) (s := 9) (by kernel_rfl) (by kernel_rfl) Tryz.underlying4 Tryz.underlying9 h
set_option maxRecDepth 100000 in
theorem open_number {w : World} {r : Reach} {base : Nat} {v : Value} (h : Value.okWide Tryz.prog w r base 23 v) : ∃ p : RV, v = p.v :=
  open_rat Tryz.underlying23 (b := 4) (s := 9) (by kernel_rfl) (by kernel_rfl) Tryz.underlying4 Tryz.underlying9 h

set_option maxRecDepth 100000 in
theorem computes_lifted (os : Os) (started : os.Started) (H : Type) (enc : TypeId × Value → H) :
    ReturnsInHanded {} Tryz.checked os 3 .any (Rows.vectorComputesSpec.pre6 enc Tryz.prog Tryz.f3 Rows.vectorComputesRow.domain false) (Rows.vectorComputesSpec.post enc Tryz.prog Tryz.f3 false true false false) := by
  refine returnsInHanded_of_change (C := Tryz.checked) own started (by kernel_rfl) Tryz.func3
    (ChangeSpec.witness6 (enc := enc) (C := Tryz.checked) false ⟨#[], #[.int .i64 0, .int .i64 0, zP, zP, zR], []⟩ 8 (by kernel_rfl) (by kernel_rfl) (by kernel_rfl) (by kernel_rfl)) ?_
  intro W base args ds gs before hval0 hW hcnd _
  have hval : ∀ (j : Nat) t v, Tryz.f3.params[j]? = some t → args[j]? = some v → Value.okWide Tryz.prog W .any base t v := hval0
  have hW' := hW
  obtain ⟨p, q, hA0, hV, rfl, hfz, hnd⟩ := hW
  have hA : DataW.TrodAll enc Tryz.prog W 0 (fun _ => true) true Tryz.f3.params.toList args.toList ds p := hA0
  rw [Tryz.params3] at hA hval
  obtain ⟨v0, vs0, d0, ds0, p0, q0, hargs, rfl, rfl, h0, r0⟩ := trodAll_cons hA
  obtain ⟨v1, vs1, d1, ds1, p1, q1, rfl, rfl, rfl, h1, r1⟩ := trodAll_cons r0
  obtain ⟨v2, vs2, d2, ds2, p2, q2, rfl, rfl, rfl, h2, r2⟩ := trodAll_cons r1
  obtain ⟨v3, vs3, d3, ds3, p3, q3, rfl, rfl, rfl, h3, r3⟩ := trodAll_cons r2
  obtain ⟨v4, vs4, d4, ds4, p4, q4, rfl, rfl, rfl, h4, r4⟩ := trodAll_cons r3
  obtain ⟨rfl, rfl, rfl⟩ := trodAll_nil r4
  obtain rfl : args = #[v0, v1, v2, v3, v4] := by cases args; simp_all
  obtain ⟨rfl, rfl⟩ := trodVars_none hV
  obtain ⟨a0, rfl, rfl, rfl, w0⟩ := open_int Tryz.underlying3 (hval 0 3 v0 rfl rfl) h0
  obtain ⟨a1, rfl, rfl, rfl, w1⟩ := open_int Tryz.underlying3 (hval 1 3 v1 rfl rfl) h1
  obtain ⟨a2, rfl⟩ := open_point (hval 2 25 v2 rfl rfl)
  obtain ⟨a3, rfl⟩ := open_point (hval 3 25 v3 rfl rfl)
  obtain ⟨a4, rfl⟩ := open_number (hval 4 23 v4 rfl rfl)
  have lt2 : ∀ x ∈ p2, x.block < W.heap.size := by obtain ⟨m, hm⟩ := h2; exact DataW.trod_lt m _ _ _ hm
  have lt3 : ∀ x ∈ p3, x.block < W.heap.size := by obtain ⟨m, hm⟩ := h3; exact DataW.trod_lt m _ _ _ hm
  have lt4 : ∀ x ∈ p4, x.block < W.heap.size := by obtain ⟨m, hm⟩ := h4; exact DataW.trod_lt m _ _ _ hm
  clear hA0 hval0
  refine (calls_of_snd computes_ok (i := ((a0, a1), (a2, a3), a4)) ⟨wf_i64 w0, wf_i64 w1⟩ rfl rfl (b := true) rfl W).mono fun e W' ⟨he, bel⟩ => ?_
  subst he
  exact ⟨_, rfl, _, _, _, [], _, [], hW', trodAll_mk1 (shut_bool Tryz.underlying4 _), (trodAll_cons_mk (shut_int Tryz.underlying3 w0) (trodAll_cons_mk (shut_int Tryz.underlying3 w1) (trodAll_cons_mk (Below.trod laidOut (by kernel_rfl) (of_decide_eq_true (by kernel_rfl)) h2 bel lt2) (trodAll_cons_mk (Below.trod laidOut (by kernel_rfl) (of_decide_eq_true (by kernel_rfl)) h3 bel lt3) (trodAll_cons_mk (Below.trod laidOut (by kernel_rfl) (of_decide_eq_true (by kernel_rfl)) h4 bel lt4) trodAll_mk0))))), rfl, bel.frame _, fun h => by cases h⟩

theorem computes_holds : Rows.vectorComputesRow.holds Tryz.pinned (OpenSpec.ofChange Rows.vectorComputesSpec) :=
  OpenClaim.holds_of_wide 3 Tryz.f3 rfl rfl rfl rfl rfl rfl rfl ⟨rfl, rfl, rfl, rfl, rfl⟩ rfl rfl rfl rfl rfl (by kernel_rfl) Tryz.func3 (by kernel_rfl)
    (of_decide_eq_true (by kernel_rfl)) (by unfold Func.isWrapper; first | (rw [if_pos (by decide +kernel)]; kernel_rfl) | (rw [if_neg (by decide +kernel)]; exact ⟨rfl, rfl⟩))
    (fun os started H enc _ => computes_lifted os started H enc)
theorem vectorComputes_proved : Rows.VectorComputesSaid := computes_holds
end Go.Proofs.YtaklhgglgabbiaaGreat
