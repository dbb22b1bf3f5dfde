import Derived.Test.YtgakcbdahbagkaaGreatRH
/- Contracts of vector and of the reference vectors: sums, products. -/
set_option linter.unusedVariables false
set_option linter.unusedSimpArgs false
set_option maxRecDepth 20000
set_option maxHeartbeats 1000000
namespace Go.Proofs.YtgakcbdahbagkaaGreat
open Go Go.Ae

def Eva : Env := { tt := tt, eqs := [], Φ := fun g => match g with
  | 31 => some (.p qaddS)
  | 33 => some (.p qsubS)
  | 34 => some (.p qmulS)
  | _ => none }
theorem Evaok : EnvOk Tryz.prog Eva := ⟨tt_ok, fun t h => by simp [Eva] at h, (fun g S h => by
  simp only [Eva] at h
  split at h
  · cases h; exact qadd_ok
  · cases h; exact qsub_ok
  · cases h; exact qmul_ok
  · cases h), fun g F h => by simp [Eva] at h⟩

theorem each_ft : FTOk Tryz.prog 61 (fnK Eva drawT Tryz.f61) := by
  exact ft_of Evaok Dok Tryz.func61 (enters_of Tryz.func61 (by kernel_rfl) rfl)

def EvbW : FuncId → Option FT := fun g => match g with
  | 61 => some (fnK Eva drawT Tryz.f61)
  | _ => none
def Evb : Env := { tt := tt, eqs := [], Ψ := EvbW, Φ := fun g => match g with
  | 30 => some (.p qofS)
  | 31 => some (.p qaddS)
  | 33 => some (.p qsubS)
  | 54 => some (.p qcmpS)
  | _ => none }
theorem Evbok : EnvOk Tryz.prog Evb := ⟨tt_ok, fun t h => by simp [Evb] at h, (fun g S h => by
  simp only [Evb] at h
  split at h
  · cases h; exact qof_ok
  · cases h; exact qadd_ok
  · cases h; exact qsub_ok
  · cases h; exact qcmp_ok
  · cases h), (fun g F h => by
  simp only [Evb, EvbW] at h
  split at h
  · cases h; exact each_ft
  · cases h)⟩
def Evr : Env := { tt := tt, eqs := [], Φ := fun g => match g with
  | 39 => some (.p qofS)
  | 49 => some (.p qaddS)
  | 43 => some (.p qsubS)
  | 38 => some (.p qmulS)
  | 81 => some (.p qcmpS)
  | _ => none }
theorem Evrok : EnvOk Tryz.prog Evr := ⟨tt_ok, fun t h => by simp [Evr] at h, (fun g S h => by
  simp only [Evr] at h
  split at h
  · cases h; exact rqof_ok
  · cases h; exact rqadd_ok
  · cases h; exact rqsub_ok
  · cases h; exact rqmul_ok
  · cases h; exact rqcmp_ok
  · cases h), fun g F h => by simp [Evr] at h⟩

theorem vof_ok : Snd Tryz.prog 26 vofS := by
  refine snd_of Evbok Dok Tryz.func26 (enters_of Tryz.func26 (by kernel_rfl) rfl) (fun _ => rfl) (fun _ => rfl) ?_
  intro ⟨n, m⟩ hp
  have hp : ok1 n ∧ ok1 m := hp
  obtain ⟨x, hx⟩ : ∃ x : Rat, x = (n : Rat) := ⟨_, rfl⟩
  obtain ⟨y, hy⟩ : ∃ x : Rat, x = (m : Rat) := ⟨_, rfl⟩
  conv => whnf
  refine ⟨n, rfl, hp.1, ?_⟩
  rw [show qofS.val n = (RV.of x).v from by rw [hx]; rfl]
  conv => whnf
  refine ⟨m, rfl, hp.2, ?_⟩
  rw [show qofS.val m = (RV.of y).v from by rw [hy]; rfl]
  conv => whnf
  show PV.v (RV.of x, RV.of y) = encP _ _
  rw [hx, hy]
  rfl

theorem vadd_ok : Snd Tryz.prog 35 vaddS := by
  refine snd_of Evbok Dok Tryz.func35 (enters_of Tryz.func35 (by kernel_rfl) rfl) (fun _ => rfl) (fun _ => rfl) ?_
  intro ⟨p, q⟩ hp
  have hp : p.sz 8589934592 ∧ q.sz 8589934592 := hp
  obtain ⟨x, hx⟩ : ∃ x, x = p.1.q + q.1.q := ⟨_, rfl⟩
  obtain ⟨y, hy⟩ : ∃ x, x = p.2.q + q.2.q := ⟨_, rfl⟩
  conv => whnf
  refine .inl ⟨11, [[], [], [1], [], [3], [0, 1, 2, 3, 4], [], [], [7], [], [9], [0, 1, 2, 3, 4, 5, 6, 7, 8, 9, 10], [0, 1, 2, 3, 4, 5, 6, 7, 8, 9, 10, 11], [0, 1, 2, 3, 4, 5, 6, 7, 8, 9, 10, 11, 12]], by kernel_rfl, ?_⟩
  conv => whnf
  refine ⟨(p.1, q.1), rfl, ⟨hp.1.1, hp.2.1⟩, ?_⟩
  rw [show qaddS.val (p.1, q.1) = (RV.of x).v from by rw [hx]; rfl]
  conv => whnf
  refine ⟨(p.2, q.2), rfl, ⟨hp.1.2, hp.2.2⟩, ?_⟩
  rw [show qaddS.val (p.2, q.2) = (RV.of y).v from by rw [hy]; rfl]
  conv => whnf
  show PV.v (RV.of x, RV.of y) = encP _ _
  rw [hx, hy]
  rfl

theorem vsub_ok : Snd Tryz.prog 27 vsubS := by
  refine snd_of Evbok Dok Tryz.func27 (enters_of Tryz.func27 (by kernel_rfl) rfl) (fun _ => rfl) (fun _ => rfl) ?_
  intro ⟨p, q⟩ hp
  have hp : p.sz 8589934592 ∧ q.sz 8589934592 := hp
  obtain ⟨x, hx⟩ : ∃ x, x = p.1.q - q.1.q := ⟨_, rfl⟩
  obtain ⟨y, hy⟩ : ∃ x, x = p.2.q - q.2.q := ⟨_, rfl⟩
  conv => whnf
  refine .inl ⟨11, [[], [], [1], [], [3], [0, 1, 2, 3, 4], [], [], [7], [], [9], [0, 1, 2, 3, 4, 5, 6, 7, 8, 9, 10], [0, 1, 2, 3, 4, 5, 6, 7, 8, 9, 10, 11], [0, 1, 2, 3, 4, 5, 6, 7, 8, 9, 10, 11, 12]], by kernel_rfl, ?_⟩
  conv => whnf
  refine ⟨(p.1, q.1), rfl, ⟨hp.1.1, hp.2.1⟩, ?_⟩
  rw [show qsubS.val (p.1, q.1) = (RV.of x).v from by rw [hx]; rfl]
  conv => whnf
  refine ⟨(p.2, q.2), rfl, ⟨hp.1.2, hp.2.2⟩, ?_⟩
  rw [show qsubS.val (p.2, q.2) = (RV.of y).v from by rw [hy]; rfl]
  conv => whnf
  show PV.v (RV.of x, RV.of y) = encP _ _
  rw [hx, hy]
  rfl

theorem rvadd_ok : Snd Tryz.prog 44 vaddS := by
  refine snd_of Evrok Dok Tryz.func44 (enters_of Tryz.func44 (by kernel_rfl) rfl) (fun _ => rfl) (fun _ => rfl) ?_
  intro ⟨p, q⟩ hp
  have hp : p.sz 8589934592 ∧ q.sz 8589934592 := hp
  obtain ⟨x, hx⟩ : ∃ x, x = p.1.q + q.1.q := ⟨_, rfl⟩
  obtain ⟨y, hy⟩ : ∃ x, x = p.2.q + q.2.q := ⟨_, rfl⟩
  conv => whnf
  refine .inl ⟨9, [[], [0], [], [2], [0, 1, 2, 3], [], [5], [], [7], [0, 1, 2, 3, 4, 5, 6, 7, 8], [0, 1, 2, 3, 4, 5, 6, 7, 8, 9], [0, 1, 2, 3, 4, 5, 6, 7, 8, 9, 10]], by kernel_rfl, ?_⟩
  conv => whnf
  refine ⟨(p.1, q.1), rfl, ⟨hp.1.1, hp.2.1⟩, ?_⟩
  rw [show qaddS.val (p.1, q.1) = (RV.of x).v from by rw [hx]; rfl]
  conv => whnf
  refine ⟨(p.2, q.2), rfl, ⟨hp.1.2, hp.2.2⟩, ?_⟩
  rw [show qaddS.val (p.2, q.2) = (RV.of y).v from by rw [hy]; rfl]
  conv => whnf
  show PV.v (RV.of x, RV.of y) = encP _ _
  rw [hx, hy]
  rfl

theorem rvsub_ok : Snd Tryz.prog 37 vsubS := by
  refine snd_of Evrok Dok Tryz.func37 (enters_of Tryz.func37 (by kernel_rfl) rfl) (fun _ => rfl) (fun _ => rfl) ?_
  intro ⟨p, q⟩ hp
  have hp : p.sz 8589934592 ∧ q.sz 8589934592 := hp
  obtain ⟨x, hx⟩ : ∃ x, x = p.1.q - q.1.q := ⟨_, rfl⟩
  obtain ⟨y, hy⟩ : ∃ x, x = p.2.q - q.2.q := ⟨_, rfl⟩
  conv => whnf
  refine .inl ⟨9, [[], [0], [], [2], [0, 1, 2, 3], [], [5], [], [7], [0, 1, 2, 3, 4, 5, 6, 7, 8], [0, 1, 2, 3, 4, 5, 6, 7, 8, 9], [0, 1, 2, 3, 4, 5, 6, 7, 8, 9, 10]], by kernel_rfl, ?_⟩
  conv => whnf
  refine ⟨(p.1, q.1), rfl, ⟨hp.1.1, hp.2.1⟩, ?_⟩
  rw [show qsubS.val (p.1, q.1) = (RV.of x).v from by rw [hx]; rfl]
  conv => whnf
  refine ⟨(p.2, q.2), rfl, ⟨hp.1.2, hp.2.2⟩, ?_⟩
  rw [show qsubS.val (p.2, q.2) = (RV.of y).v from by rw [hy]; rfl]
  conv => whnf
  show PV.v (RV.of x, RV.of y) = encP _ _
  rw [hx, hy]
  rfl

theorem vscale_ok : Snd Tryz.prog 36 vscaleS := by
  refine snd_of Evbok Dok Tryz.func36 (enters_of Tryz.func36 (by kernel_rfl) rfl) (fun _ => rfl) (fun _ => rfl) ?_
  intro ⟨p, q⟩ hp
  have hp : p.sz 8589934592 ∧ q.sz 8589934592 := hp
  obtain ⟨x, hx⟩ : ∃ x, x = p.1.q * q.q := ⟨_, rfl⟩
  obtain ⟨y, hy⟩ : ∃ x, x = p.2.q * q.q := ⟨_, rfl⟩
  conv => whnf
  refine .inl ⟨11, [[], [], [1], [], [3], [0, 1, 2, 3, 4], [], [], [7], [], [9], [0, 1, 2, 3, 4, 5, 6, 7, 8, 9, 10], [0, 1, 2, 3, 4, 5, 6, 7, 8, 9, 10, 11], [0, 1, 2, 3, 4, 5, 6, 7, 8, 9, 10, 11, 12]], by kernel_rfl, ?_⟩
  conv => whnf
  refine ⟨(p.1, q), rfl, ⟨hp.1.1, hp.2⟩, ?_⟩
  rw [show qmulS.val (p.1, q) = (RV.of x).v from by rw [hx]; rfl]
  conv => whnf
  refine ⟨(p.2, q), rfl, ⟨hp.1.2, hp.2⟩, ?_⟩
  rw [show qmulS.val (p.2, q) = (RV.of y).v from by rw [hy]; rfl]
  conv => whnf
  show PV.v (RV.of x, RV.of y) = encP _ _
  rw [hx, hy]
  rfl

theorem vdot_ok : Snd Tryz.prog 32 vdotS := by
  refine snd_of Evbok Dok Tryz.func32 (enters_of Tryz.func32 (by kernel_rfl) rfl) (fun _ => rfl) (fun _ => rfl) ?_
  intro ⟨p, q⟩ hp
  have hp : p.sz 1073741824 ∧ q.sz 1073741824 := hp
  obtain ⟨x, hx⟩ : ∃ x, x = p.1.q * q.1.q := ⟨_, rfl⟩
  obtain ⟨y, hy⟩ : ∃ x, x = p.2.q * q.2.q := ⟨_, rfl⟩
  obtain ⟨z, hz⟩ : ∃ z, z = x + y := ⟨_, rfl⟩
  have sx : (RV.of x).ok := RV.sz_ok (RV.of_sz (by rw [hx]; exact (RV.qb' hp.1.1 (by decide)).mul (RV.qb' hp.2.1 (by decide)))) (by decide)
  have sy : (RV.of y).ok := RV.sz_ok (RV.of_sz (by rw [hy]; exact (RV.qb' hp.1.2 (by decide)).mul (RV.qb' hp.2.2 (by decide)))) (by decide)
  conv => whnf
  refine .inl ⟨11, [[], [], [1], [], [3], [0, 1, 2, 3, 4], [], [], [7], [], [9], [0, 1, 2, 3, 4, 5, 6, 7, 8, 9, 10], [0, 1, 2, 3, 4, 5, 6, 7, 8, 9, 10, 11], [0, 1, 2, 3, 4, 5, 6, 7, 8, 9, 10, 11, 12]], by kernel_rfl, ?_⟩
  conv => whnf
  refine ⟨(p.1, q.1), rfl, ⟨RV.sz_ok hp.1.1 (by decide), RV.sz_ok hp.2.1 (by decide)⟩, ?_⟩
  rw [show qmulS.val (p.1, q.1) = (RV.of x).v from by rw [hx]; rfl]
  conv => whnf
  refine ⟨(p.2, q.2), rfl, ⟨RV.sz_ok hp.1.2 (by decide), RV.sz_ok hp.2.2 (by decide)⟩, ?_⟩
  rw [show qmulS.val (p.2, q.2) = (RV.of y).v from by rw [hy]; rfl]
  conv => whnf
  refine ⟨(RV.of x, RV.of y), rfl, ⟨sx, sy⟩, ?_⟩
  rw [show qaddS.val (RV.of x, RV.of y) = (RV.of z).v from by
    show encQ ((RV.of x).q + (RV.of y).q) = _
    rw [RV.of_q, RV.of_q, hz]; rfl]
  conv => whnf
  show (RV.of z).v = encQ _
  rw [hz, hx, hy]
  rfl

theorem vcross_ok : Snd Tryz.prog 28 vcrossS := by
  refine snd_of Evbok Dok Tryz.func28 (enters_of Tryz.func28 (by kernel_rfl) rfl) (fun _ => rfl) (fun _ => rfl) ?_
  intro ⟨p, q⟩ hp
  have hp : p.sz 1073741824 ∧ q.sz 1073741824 := hp
  obtain ⟨x, hx⟩ : ∃ x, x = p.1.q * q.2.q := ⟨_, rfl⟩
  obtain ⟨y, hy⟩ : ∃ x, x = p.2.q * q.1.q := ⟨_, rfl⟩
  obtain ⟨z, hz⟩ : ∃ z, z = x - y := ⟨_, rfl⟩
  have sx : (RV.of x).ok := RV.sz_ok (RV.of_sz (by rw [hx]; exact (RV.qb' hp.1.1 (by decide)).mul (RV.qb' hp.2.2 (by decide)))) (by decide)
  have sy : (RV.of y).ok := RV.sz_ok (RV.of_sz (by rw [hy]; exact (RV.qb' hp.1.2 (by decide)).mul (RV.qb' hp.2.1 (by decide)))) (by decide)
  conv => whnf
  refine .inl ⟨11, [[], [], [1], [], [3], [0, 1, 2, 3, 4], [], [], [7], [], [9], [0, 1, 2, 3, 4, 5, 6, 7, 8, 9, 10], [0, 1, 2, 3, 4, 5, 6, 7, 8, 9, 10, 11], [0, 1, 2, 3, 4, 5, 6, 7, 8, 9, 10, 11, 12]], by kernel_rfl, ?_⟩
  conv => whnf
  refine ⟨(p.1, q.2), rfl, ⟨RV.sz_ok hp.1.1 (by decide), RV.sz_ok hp.2.2 (by decide)⟩, ?_⟩
  rw [show qmulS.val (p.1, q.2) = (RV.of x).v from by rw [hx]; rfl]
  conv => whnf
  refine ⟨(p.2, q.1), rfl, ⟨RV.sz_ok hp.1.2 (by decide), RV.sz_ok hp.2.1 (by decide)⟩, ?_⟩
  rw [show qmulS.val (p.2, q.1) = (RV.of y).v from by rw [hy]; rfl]
  conv => whnf
  refine ⟨(RV.of x, RV.of y), rfl, ⟨sx, sy⟩, ?_⟩
  rw [show qsubS.val (RV.of x, RV.of y) = (RV.of z).v from by
    show encQ ((RV.of x).q - (RV.of y).q) = _
    rw [RV.of_q, RV.of_q, hz]; rfl]
  conv => whnf
  show (RV.of z).v = encQ _
  rw [hz, hx, hy]
  rfl

theorem rvdot_ok : Snd Tryz.prog 41 vdotS := by
  refine snd_of Evrok Dok Tryz.func41 (enters_of Tryz.func41 (by kernel_rfl) rfl) (fun _ => rfl) (fun _ => rfl) ?_
  intro ⟨p, q⟩ hp
  have hp : p.sz 1073741824 ∧ q.sz 1073741824 := hp
  obtain ⟨x, hx⟩ : ∃ x, x = p.1.q * q.1.q := ⟨_, rfl⟩
  obtain ⟨y, hy⟩ : ∃ x, x = p.2.q * q.2.q := ⟨_, rfl⟩
  obtain ⟨z, hz⟩ : ∃ z, z = x + y := ⟨_, rfl⟩
  have sx : (RV.of x).ok := RV.sz_ok (RV.of_sz (by rw [hx]; exact (RV.qb' hp.1.1 (by decide)).mul (RV.qb' hp.2.1 (by decide)))) (by decide)
  have sy : (RV.of y).ok := RV.sz_ok (RV.of_sz (by rw [hy]; exact (RV.qb' hp.1.2 (by decide)).mul (RV.qb' hp.2.2 (by decide)))) (by decide)
  conv => whnf
  refine .inl ⟨9, [[], [0], [], [2], [0, 1, 2, 3], [], [5], [], [7], [0, 1, 2, 3, 4, 5, 6, 7, 8], [0, 1, 2, 3, 4, 5, 6, 7, 8, 9], [0, 1, 2, 3, 4, 5, 6, 7, 8, 9, 10]], by kernel_rfl, ?_⟩
  conv => whnf
  refine ⟨(p.1, q.1), rfl, ⟨RV.sz_ok hp.1.1 (by decide), RV.sz_ok hp.2.1 (by decide)⟩, ?_⟩
  rw [show qmulS.val (p.1, q.1) = (RV.of x).v from by rw [hx]; rfl]
  conv => whnf
  refine ⟨(p.2, q.2), rfl, ⟨RV.sz_ok hp.1.2 (by decide), RV.sz_ok hp.2.2 (by decide)⟩, ?_⟩
  rw [show qmulS.val (p.2, q.2) = (RV.of y).v from by rw [hy]; rfl]
  conv => whnf
  refine ⟨(RV.of x, RV.of y), rfl, ⟨sx, sy⟩, ?_⟩
  rw [show qaddS.val (RV.of x, RV.of y) = (RV.of z).v from by
    show encQ ((RV.of x).q + (RV.of y).q) = _
    rw [RV.of_q, RV.of_q, hz]; rfl]
  conv => whnf
  show (RV.of z).v = encQ _
  rw [hz, hx, hy]
  rfl

theorem rvcross_ok : Snd Tryz.prog 40 vcrossS := by
  refine snd_of Evrok Dok Tryz.func40 (enters_of Tryz.func40 (by kernel_rfl) rfl) (fun _ => rfl) (fun _ => rfl) ?_
  intro ⟨p, q⟩ hp
  have hp : p.sz 1073741824 ∧ q.sz 1073741824 := hp
  obtain ⟨x, hx⟩ : ∃ x, x = p.1.q * q.2.q := ⟨_, rfl⟩
  obtain ⟨y, hy⟩ : ∃ x, x = p.2.q * q.1.q := ⟨_, rfl⟩
  obtain ⟨z, hz⟩ : ∃ z, z = x - y := ⟨_, rfl⟩
  have sx : (RV.of x).ok := RV.sz_ok (RV.of_sz (by rw [hx]; exact (RV.qb' hp.1.1 (by decide)).mul (RV.qb' hp.2.2 (by decide)))) (by decide)
  have sy : (RV.of y).ok := RV.sz_ok (RV.of_sz (by rw [hy]; exact (RV.qb' hp.1.2 (by decide)).mul (RV.qb' hp.2.1 (by decide)))) (by decide)
  conv => whnf
  refine .inl ⟨9, [[], [0], [], [2], [0, 1, 2, 3], [], [5], [], [7], [0, 1, 2, 3, 4, 5, 6, 7, 8], [0, 1, 2, 3, 4, 5, 6, 7, 8, 9], [0, 1, 2, 3, 4, 5, 6, 7, 8, 9, 10]], by kernel_rfl, ?_⟩
  conv => whnf
  refine ⟨(p.1, q.2), rfl, ⟨RV.sz_ok hp.1.1 (by decide), RV.sz_ok hp.2.2 (by decide)⟩, ?_⟩
  rw [show qmulS.val (p.1, q.2) = (RV.of x).v from by rw [hx]; rfl]
  conv => whnf
  refine ⟨(p.2, q.1), rfl, ⟨RV.sz_ok hp.1.2 (by decide), RV.sz_ok hp.2.1 (by decide)⟩, ?_⟩
  rw [show qmulS.val (p.2, q.1) = (RV.of y).v from by rw [hy]; rfl]
  conv => whnf
  refine ⟨(RV.of x, RV.of y), rfl, ⟨sx, sy⟩, ?_⟩
  rw [show qsubS.val (RV.of x, RV.of y) = (RV.of z).v from by
    show encQ ((RV.of x).q - (RV.of y).q) = _
    rw [RV.of_q, RV.of_q, hz]; rfl]
  conv => whnf
  show (RV.of z).v = encQ _
  rw [hz, hx, hy]
  rfl

theorem vcmp_ok : Snd Tryz.prog 50 vcmpS := by
  refine snd_of Evbok Dok Tryz.func50 (enters_of Tryz.func50 (by kernel_rfl) rfl) (fun _ => rfl) (fun _ => rfl) ?_
  intro ⟨p, q⟩ hp
  have hp : p.sz 8589934592 ∧ q.sz 8589934592 := hp
  obtain ⟨x, hx⟩ : ∃ x, x = cmpQ p.1.q q.1.q := ⟨_, rfl⟩
  obtain ⟨y, hy⟩ : ∃ x, x = cmpQ p.2.q q.2.q := ⟨_, rfl⟩
  have fin : ∀ z : Int, z = (if x ≠ 0 then x else y) → Value.int .i64 z = vcmpS.val (p, q) := fun z h => by rw [h, hx, hy]; rfl
  conv => whnf
  refine ⟨(p.1, q.1), rfl, ⟨hp.1.1, hp.2.1⟩, ?_⟩
  rw [show qcmpS.val (p.1, q.1) = .int .i64 x from by rw [hx]; rfl]
  conv => whnf
  refine br_intro (fun h => ?_) (fun h => ?_)
  · have h : x ≠ 0 := by
      intro e
      subst e
      simp at h
    conv => whnf
    exact fin _ (if_pos h).symm
  · have h : x = 0 := by simpa using h
    conv => whnf
    refine ⟨(p.2, q.2), rfl, ⟨hp.1.2, hp.2.2⟩, ?_⟩
    rw [show qcmpS.val (p.2, q.2) = .int .i64 y from by rw [hy]; rfl]
    conv => whnf
    exact fin _ (if_neg (fun e => e h)).symm

end Go.Proofs.YtgakcbdahbagkaaGreat
/- Contracts of vector and of the reference vectors: checks, extremes. -/
set_option linter.unusedVariables false
set_option linter.unusedSimpArgs false
set_option maxRecDepth 20000
set_option maxHeartbeats 1000000
namespace Go.Proofs.YtgakcbdahbagkaaGreat
open Go Go.Ae

end Go.Proofs.YtgakcbdahbagkaaGreat
/- Contracts of vector and of the reference vectors: lists. -/
set_option linter.unusedVariables false
set_option linter.unusedSimpArgs false
set_option maxRecDepth 20000
set_option maxHeartbeats 1000000
namespace Go.Proofs.YtgakcbdahbagkaaGreat
open Go Go.Ae

end Go.Proofs.YtgakcbdahbagkaaGreat
/- Contracts of vector and of the reference vectors: square distance, boxes. -/
set_option linter.unusedVariables false
set_option linter.unusedSimpArgs false
set_option maxRecDepth 20000
set_option maxHeartbeats 1000000
namespace Go.Proofs.YtgakcbdahbagkaaGreat
open Go Go.Ae

end Go.Proofs.YtgakcbdahbagkaaGreat
/- Contracts of rational: quotients of rationals. -/
set_option linter.unusedVariables false
set_option linter.unusedSimpArgs false
set_option maxRecDepth 20000
set_option maxHeartbeats 1000000
namespace Go.Proofs.YtgakcbdahbagkaaGreat
open Go Go.Ae

def Emn : Env := { tt := tt, eqs := [], Φ := fun g => match g with
  | 62 => some (.p ofRS)
  | 64 => some (.p mulS)
  | 63 => some (.p qnewS)
  | _ => none }
theorem Emnok : EnvOk Tryz.prog Emn := ⟨tt_ok, fun t h => by simp [Emn] at h, (fun g S h => by
  simp only [Emn] at h
  split at h
  · cases h; exact ofR_ok
  · cases h; exact mul_ok
  · cases h; exact qnew_ok
  · cases h), fun g F h => by simp [Emn] at h⟩
theorem qquo_ok : Snd Tryz.prog 29 qquoS := by
  refine snd_of Emnok Dok Tryz.func29 (enters_of Tryz.func29 (by kernel_rfl) rfl) (fun _ => rfl) (fun _ => rfl) ?_
  intro ⟨⟨b, s, t⟩, ⟨b', s', t'⟩⟩ hp
  have hp : RV.ok (b, s, t) ∧ RV.ok (b', s', t') := hp
  obtain ⟨x, hx⟩ : ∃ x, x = RV.den (b, s, t) := ⟨_, rfl⟩
  obtain ⟨y, hy⟩ : ∃ x, x = RV.den (b', s', t') := ⟨_, rfl⟩
  have f1 := RV.fracOk hp.1
  have f2 := RV.fracOk hp.2
  have g1 := RV.den_z (b, s, t)
  have g2 := RV.den_z (b', s', t')
  rw [← hx] at f1 g1
  rw [← hy] at f2 g2
  have hq := quo_q (b, s, t) (b', s', t')
  obtain ⟨B1, m1, h1⟩ := EI.mk' (IV.z (b, s) * IV.z (false, y))
  obtain ⟨B2, m2, h2⟩ := EI.mk' (IV.z (false, x) * IV.z (b', s'))
  have z1 := h1.mul_size (nby_z f1.1.1) (nby_z f2.1.2)
  have z2 := h2.mul_size (nby_z f1.1.2) (nby_z f2.1.1)
  obtain ⟨w, hw⟩ : ∃ w, w = RV.q (b, s, t) / RV.q (b', s', t') := ⟨_, rfl⟩
  obtain ⟨e, he⟩ : ∃ e : Int, e = if RV.q (b', s', t') = 0 then 10 else 0 := ⟨_, rfl⟩
  have hN : qnewS.val ((B1, m1), (B2, m2)) = .tuple ⟨[(RV.of w).v, .int .i64 e]⟩ := by
    show quoV (IV.z (B1, m1)) (IV.z (B2, m2)) = _
    rw [h1.val, h2.val, g1, g2, hw, he]
    exact hq
  conv => whnf
  refine .inl ⟨6, [[], [0], [], [0, 1, 2], [], [], [0, 1, 2, 3, 4, 5], [0, 1, 2, 3, 4, 5, 6]], by kernel_rfl, ?_⟩
  conv => whnf
  refine ⟨(b, s, t), rfl, by have := hp.1.2; show t.size ≤ _; exact Nat.le_trans this (by decide), ?_⟩
  rw [show ofRS.val (b, s, t) = .agg ⟨[.bool b, .string s, .bool false, .string x]⟩ from by rw [hx]; rfl]
  conv => whnf
  refine ⟨(b', s', t'), rfl, by have := hp.2.2; show t'.size ≤ _; exact Nat.le_trans this (by decide), ?_⟩
  rw [show ofRS.val (b', s', t') = .agg ⟨[.bool b', .string s', .bool false, .string y]⟩ from by rw [hy]; rfl]
  conv => whnf
  refine .inl ⟨13, [[], [0], [], [2], [0, 1, 2, 3], [], [5], [], [7], [0, 1, 2, 3, 4, 5, 6, 7, 8], [0, 1, 2, 3, 4, 5, 6, 7, 8, 9], [0, 1, 2, 3, 4, 5, 6, 7, 8, 9, 10], [0, 1, 2, 3, 4, 5, 6, 7, 8, 9, 10], [0, 1, 2, 3, 4, 5, 6, 7, 8, 9, 10, 11, 12], [0, 1, 2, 3, 4, 5, 6, 7, 8, 9, 10, 11, 12, 13]], by kernel_rfl, ?_⟩
  conv => whnf
  refine ⟨((b, s), (false, y)), rfl, ⟨Nat.le_trans f1.1.1 (by decide), Nat.le_trans f2.1.2 (by decide)⟩, ?_⟩
  rw [show mulS.val ((b, s), (false, y)) = .agg ⟨[.bool B1, .string m1]⟩ from h1.enc]
  conv => whnf
  refine ⟨((false, x), (b', s')), rfl, ⟨Nat.le_trans f1.1.2 (by decide), Nat.le_trans f2.1.1 (by decide)⟩, ?_⟩
  rw [show mulS.val ((false, x), (b', s')) = .agg ⟨[.bool B2, .string m2]⟩ from h2.enc]
  conv => whnf
  refine ⟨((B1, m1), (B2, m2)), rfl, ⟨by show m1.size ≤ _; omega, by show m2.size ≤ _; omega⟩, ?_⟩
  rw [hN]
  conv => whnf
  show Value.tuple ⟨[(RV.of w).v, .int .i64 e]⟩ = Value.tuple ⟨[encQ _, .int .i64 _]⟩
  rw [hw, he]
  rfl
end Go.Proofs.YtgakcbdahbagkaaGreat
/- Contracts of predicate: orientations. -/
set_option linter.unusedVariables false
set_option linter.unusedSimpArgs false
set_option maxRecDepth 20000
set_option maxHeartbeats 1000000
namespace Go.Proofs.YtgakcbdahbagkaaGreat
open Go Go.Ae

def Epa : Env := { tt := tt, eqs := [], Φ := fun g => match g with
  | 27 => some (.p vsubS)
  | 28 => some (.p vcrossS)
  | 32 => some (.p vdotS)
  | 45 => some (.p qsignS)
  | 34 => some (.p qmulS)
  | 33 => some (.p qsubS)
  | 31 => some (.p qaddS)
  | _ => none }
theorem Epaok : EnvOk Tryz.prog Epa := ⟨tt_ok, fun t h => by simp [Epa] at h, (fun g S h => by
  simp only [Epa] at h
  split at h
  · cases h; exact vsub_ok
  · cases h; exact vcross_ok
  · cases h; exact vdot_ok
  · cases h; exact qsign_ok
  · cases h; exact qmul_ok
  · cases h; exact qsub_ok
  · cases h; exact qadd_ok
  · cases h), fun g F h => by simp [Epa] at h⟩

theorem orient_ok : Snd Tryz.prog 10 orientS := by
  refine snd_of Epaok Dok Tryz.func10 (enters_of Tryz.func10 (by kernel_rfl) rfl) (fun _ => rfl) (fun _ => rfl) ?_
  intro ⟨a, b, c⟩ hp
  obtain ⟨sa, sb, sc⟩ : a.sz 1048576 ∧ b.sz 1048576 ∧ c.sz 1048576 := hp
  have pa : Q2.sz 1048576 a.p := PV.psz sa (by decide)
  have pb : Q2.sz 1048576 b.p := PV.psz sb (by decide)
  have pc : Q2.sz 1048576 c.p := PV.psz sc (by decide)
  obtain ⟨w, hw⟩ : ∃ w, w = orR a.p b.p c.p := ⟨_, rfl⟩
  obtain ⟨u, hu⟩ : ∃ u, u = ptV (subR b.p a.p) := ⟨_, rfl⟩
  obtain ⟨v, hv⟩ : ∃ v, v = ptV (subR c.p a.p) := ⟨_, rfl⟩
  have su : u.sz 1073741824 := by rw [hu]; exact ptV_sz (sub_sz pb pa) (by decide)
  have sv : v.sz 1073741824 := by rw [hv]; exact ptV_sz (sub_sz pc pa) (by decide)
  have sw : (RV.of w).ok := by rw [hw]; exact of_okL (cross_sz (sub_sz pb pa) (sub_sz pc pa)) (by decide)
  conv => whnf
  refine .inl ⟨5, [[], [], [0, 1], [], [], [0, 1, 2, 3, 4], [0, 1, 2, 3, 4, 5], [0, 1, 2, 3, 4, 5, 6], [0, 1, 2, 3, 4, 5, 6, 7]], by kernel_rfl, ?_⟩
  conv => whnf
  refine ⟨(b, a), rfl, ⟨PV.sz_mono sb (by decide), PV.sz_mono sa (by decide)⟩, ?_⟩
  rw [show vsubS.val (b, a) = u.v from by rw [sub_val, hu]]
  conv => whnf
  refine ⟨(c, a), rfl, ⟨PV.sz_mono sc (by decide), PV.sz_mono sa (by decide)⟩, ?_⟩
  rw [show vsubS.val (c, a) = v.v from by rw [sub_val, hv]]
  conv => whnf
  refine ⟨(u, v), rfl, ⟨su, sv⟩, ?_⟩
  rw [show vcrossS.val (u, v) = (RV.of w).v from by rw [cross_val, hu, hv, ptV_p, ptV_p, hw]; rfl]
  conv => whnf
  refine ⟨RV.of w, rfl, sw, ?_⟩
  rw [sign_val, RV.of_q]
  conv => whnf
  show Value.int .i64 _ = Value.int .i64 _
  rw [hw]
end Go.Proofs.YtgakcbdahbagkaaGreat
/- Contracts of predicate: halves, angles, segments. -/
set_option linter.unusedVariables false
set_option linter.unusedSimpArgs false
set_option maxRecDepth 20000
set_option maxHeartbeats 1000000
namespace Go.Proofs.YtgakcbdahbagkaaGreat
open Go Go.Ae

theorem half_ok : Snd Tryz.prog 57 halfS := by
  refine snd_of Epaok Dok Tryz.func57 (enters_of Tryz.func57 (by kernel_rfl) rfl) (fun _ => rfl) (fun _ => rfl) ?_
  intro ⟨x, y⟩ hp
  have hp : x.sz 8589934592 ∧ y.sz 8589934592 := hp
  obtain ⟨sx, sy⟩ := hp
  conv => whnf
  refine .inl ⟨5, [[], [0], [0, 1], [], [3], [0, 1, 2, 3, 4], [0, 1, 2, 3, 4, 5], [0, 1, 2, 3, 4, 5, 6]], by kernel_rfl, ?_⟩
  conv => whnf
  obtain ⟨m, em, pm⟩ := hideZ (cmpQ x.q 0)
  refine ⟨x, rfl, RV.sz_ok sx (by decide), ?_⟩
  rw [show qsignS.val x = .int .i64 m from em]
  conv => whnf
  obtain ⟨n, en, pn⟩ := hideZ (cmpQ y.q 0)
  refine ⟨y, rfl, RV.sz_ok sy (by decide), ?_⟩
  rw [show qsignS.val y = .int .i64 n from en]
  conv => whnf
  have hm := cmpQ_range x.q 0
  have hn := cmpQ_range y.q 0
  rw [← pm] at hm
  rw [← pn] at hn
  have fin : ∀ z : Int, z = (if m = 0 ∧ n = 0 then 0 else if n > 0 ∨ n = 0 ∧ m > 0 then 1 else 2) → Value.int .i64 z = halfS.val (x, y) := fun z h => by
    show _ = Value.int .i64 (halfR (x.q, y.q))
    rw [half_code, h, pm, pn]
  rcases hm with rfl | rfl | rfl <;> rcases hn with rfl | rfl | rfl <;> (conv => whnf) <;> exact fin _ rfl

theorem nan_ok : Snd Tryz.prog 88 nanS := by
  refine snd_of Epaok Dok Tryz.func88 (enters_of Tryz.func88 (by kernel_rfl) rfl) (fun _ => rfl) (fun _ => rfl) ?_
  intro (a : Int) hp
  conv => whnf
  show Value.bool _ = Value.bool _
  simp
def Ecm : Env := { tt := tt, eqs := [], Φ := fun g => match g with
  | 88 => some (.p nanS)
  | _ => none }
theorem Ecmok : EnvOk Tryz.prog Ecm := ⟨tt_ok, fun t h => by simp [Ecm] at h, (fun g S h => by
  simp only [Ecm] at h
  split at h
  · cases h; exact nan_ok
  · cases h), fun g F h => by simp [Ecm] at h⟩
theorem cmpInt_ok : Snd Tryz.prog 56 cmpIntS := by
  refine snd_of Ecmok Dok Tryz.func56 (enters_of Tryz.func56 (by kernel_rfl) rfl) (fun _ => rfl) (fun _ => rfl) ?_
  intro ⟨a, b⟩ hp
  conv => whnf
  refine ⟨a, rfl, trivial, ?_⟩
  conv => whnf
  refine ⟨b, rfl, trivial, ?_⟩
  conv => whnf
  refine br_intro (fun h => ?_) (fun h => ?_)
  · have h : a < b := of_decide_eq_true h
    conv => whnf
    show Value.int .i64 _ = Value.int .i64 (cmpI a b)
    unfold cmpI
    rw [if_pos h]
  · have h : ¬ a < b := of_decide_eq_false h
    conv => whnf
    refine br_intro (fun h2 => ?_) (fun h2 => ?_)
    · have h2 : b < a := of_decide_eq_true h2
      conv => whnf
      show Value.int .i64 _ = Value.int .i64 (cmpI a b)
      unfold cmpI
      rw [if_neg h, if_pos h2]
    · have h2 : ¬ b < a := of_decide_eq_false h2
      conv => whnf
      show Value.int .i64 _ = Value.int .i64 (cmpI a b)
      unfold cmpI
      rw [if_neg h, if_neg h2]
def Epb : Env := { tt := tt, eqs := [], Φ := fun g => match g with
  | 57 => some (.p halfS)
  | 56 => some (.p cmpIntS)
  | 28 => some (.p vcrossS)
  | 50 => some (.p vcmpS)
  | 45 => some (.p qsignS)
  | 10 => some (.p orientS)
  | _ => none }
theorem Epbok : EnvOk Tryz.prog Epb := ⟨tt_ok, fun t h => by simp [Epb] at h, (fun g S h => by
  simp only [Epb] at h
  split at h
  · cases h; exact half_ok
  · cases h; exact cmpInt_ok
  · cases h; exact vcross_ok
  · cases h; exact vcmp_ok
  · cases h; exact qsign_ok
  · cases h; exact orient_ok
  · cases h), fun g F h => by simp [Epb] at h⟩
theorem angle_ok : Snd Tryz.prog 19 angleS := by
  refine snd_of Epbok Dok Tryz.func19 (enters_of Tryz.func19 (by kernel_rfl) rfl) (fun _ => rfl) (fun _ => rfl) ?_
  intro ⟨u, v⟩ hp
  have hp : u.sz 67108864 ∧ v.sz 67108864 := hp
  obtain ⟨su, sv⟩ := hp
  have qu := PV.psz su (by decide)
  have qv := PV.psz sv (by decide)
  conv => whnf
  refine .inl ⟨3, [[], [0], [], [0, 1, 2], [0, 1, 2, 3], [0, 1, 2, 3, 4]], by kernel_rfl, ?_⟩
  conv => whnf
  obtain ⟨m, em, pm⟩ := hideZ (halfR u.p)
  refine ⟨u, rfl, PV.sz_mono su (by decide), ?_⟩
  rw [show halfS.val u = .int .i64 m from em]
  conv => whnf
  obtain ⟨n, en, pn⟩ := hideZ (halfR v.p)
  refine ⟨v, rfl, PV.sz_mono sv (by decide), ?_⟩
  rw [show halfS.val v = .int .i64 n from en]
  conv => whnf
  obtain ⟨k, hk⟩ : ∃ k, k = cmpI m n := ⟨_, rfl⟩
  refine ⟨(m, n), rfl, trivial, ?_⟩
  rw [show cmpIntS.val (m, n) = .int .i64 k from by rw [hk]; rfl]
  conv => whnf
  have fin : ∀ z : Int, z = (if k ≠ 0 then k else -cmpQ (crossR u.p v.p) 0) → Value.int .i64 z = angleS.val (u, v) := fun z h => by
    show _ = Value.int .i64 (angR u.p v.p)
    rw [ang_code, h, hk, pm, pn]
  refine br_intro (fun h => ?_) (fun h => ?_)
  · have h : k ≠ 0 := by intro e; subst e; simp at h
    conv => whnf
    exact fin _ (if_pos h).symm
  · have h : k = 0 := by simpa using h
    conv => whnf
    obtain ⟨w, ew, pw, sw, qw⟩ := hideR (cross_sz qu qv)
    refine ⟨(u, v), rfl, ⟨PV.sz_mono su (by decide), PV.sz_mono sv (by decide)⟩, ?_⟩
    rw [show vcrossS.val (u, v) = w.v from ew]
    conv => whnf
    obtain ⟨l, el, pl⟩ := hideZ (cmpQ w.q 0)
    refine ⟨w, rfl, RV.sz_ok sw (by decide), ?_⟩
    rw [show qsignS.val w = .int .i64 l from el]
    conv => whnf
    rw [pw] at pl
    have hl := cmpQ_range (crossR u.p v.p) 0
    rw [← pl] at hl
    exact fin _ (by rw [if_neg (fun e => e h), ← pl]; rcases hl with rfl | rfl | rfl <;> rfl)
theorem between_ok : Snd Tryz.prog 14 betweenS := by
  refine snd_of Epbok Dok Tryz.func14 (enters_of Tryz.func14 (by kernel_rfl) rfl) (fun _ => rfl) (fun _ => rfl) ?_
  intro ⟨a, b, p⟩ hp
  have hp : a.sz 1048576 ∧ b.sz 1048576 ∧ p.sz 1048576 := hp
  obtain ⟨sa, sb, sp⟩ := hp
  conv => whnf
  obtain ⟨o, eo, po⟩ := hideZ (cmpQ (orR a.p b.p p.p) 0)
  refine ⟨(a, b, p), rfl, ⟨PV.sz_mono sa (by decide), PV.sz_mono sb (by decide), PV.sz_mono sp (by decide)⟩, ?_⟩
  rw [show orientS.val (a, b, p) = .int .i64 o from eo]
  conv => whnf
  have fin : ∀ (z : Bool) (P : Prop) [Decidable P], z = decide P → (P ↔ betR a.p b.p p.p) → Value.bool z = betweenS.val (a, b, p) := fun z P _ h h2 => by
    show _ = Value.bool (decide (betR a.p b.p p.p))
    rw [h]
    congr 1
    exact decide_eq_decide.2 h2
  refine br_intro (fun h => ?_) (fun h => ?_)
  · have h : o ≠ 0 := by intro e; subst e; simp at h
    conv => whnf
    exact fin _ False rfl ⟨False.elim, fun e => h (by rw [po]; exact cmpQ_eq e.1)⟩
  · have h : o = 0 := by simpa using h
    have h0 : orR a.p b.p p.p = 0 := cmpQ_zero.1 (by rw [← po]; exact h)
    have bc := bet_code h0
    conv => whnf
    refine .inl ⟨16, [[], [], [0, 1], [], [], [0, 1, 2, 3, 4], [0, 1, 2, 3, 4, 5], [0, 1, 2, 3, 4, 5, 6], [0, 1, 2, 3, 4, 5, 6, 7], [0, 1, 2, 3, 4, 5, 6, 7, 8], [0, 1, 2, 3, 4, 5, 6, 7, 8], [0, 1, 2, 3, 4, 5, 6, 7, 8, 9, 10], [0, 1, 2, 3, 4, 5, 6, 7, 8, 9, 10, 11], [0, 1, 2, 3, 4, 5, 6, 7, 8, 9, 10, 11, 12], [0, 1, 2, 3, 4, 5, 6, 7, 8, 9, 10, 11, 12, 13], [0, 1, 2, 3, 4, 5, 6, 7, 8, 9, 10, 11, 12, 13], [0, 1, 2, 3, 4, 5, 6, 7, 8, 9, 10, 11, 12, 13, 14, 15], [0, 1, 2, 3, 4, 5, 6, 7, 8, 9, 10, 11, 12, 13, 14, 15, 16], [0, 1, 2, 3, 4, 5, 6, 7, 8, 9, 10, 11, 12, 13, 14, 15, 16, 17], [0, 1, 2, 3, 4, 5, 6, 7, 8, 9, 10, 11, 12, 13, 14, 15, 16, 17, 18], [0, 1, 2, 3, 4, 5, 6, 7, 8, 9, 10, 11, 12, 13, 14, 15, 16, 17, 18, 19]], by kernel_rfl, ?_⟩
    conv => whnf
    obtain ⟨m, em, pm⟩ := hideZ (cmpR a.p p.p)
    refine ⟨(a, p), rfl, ⟨PV.sz_mono sa (by decide), PV.sz_mono sp (by decide)⟩, ?_⟩
    rw [show vcmpS.val (a, p) = .int .i64 m from em]
    conv => whnf
    obtain ⟨n, en, pn⟩ := hideZ (cmpR p.p b.p)
    refine ⟨(p, b), rfl, ⟨PV.sz_mono sp (by decide), PV.sz_mono sb (by decide)⟩, ?_⟩
    rw [show vcmpS.val (p, b) = .int .i64 n from en]
    conv => whnf
    have hw : IntKind.i64.wrap (m * n) = m * n := by
      have h1 := cmpR_range a.p p.p
      have h2 := cmpR_range p.p b.p
      rw [← pm] at h1
      rw [← pn] at h2
      rcases h1 with rfl | rfl | rfl <;> rcases h2 with rfl | rfl | rfl <;> rfl
    rw [hw]
    by_cases hmn : m * n ≥ 0
    · rw [show decide (m * n ≥ 0) = true from decide_eq_true hmn]
      conv => whnf
      obtain ⟨k, ek, pk⟩ := hideZ (cmpR a.p b.p)
      refine ⟨(a, b), rfl, ⟨PV.sz_mono sa (by decide), PV.sz_mono sb (by decide)⟩, ?_⟩
      rw [show vcmpS.val (a, b) = .int .i64 k from ek]
      conv => whnf
      by_cases hk : k = 0
      · subst hk
        conv => whnf
        obtain ⟨l, el, pl⟩ := hideZ (cmpR a.p p.p)
        refine ⟨(a, p), rfl, ⟨PV.sz_mono sa (by decide), PV.sz_mono sp (by decide)⟩, ?_⟩
        rw [show vcmpS.val (a, p) = .int .i64 l from el]
        conv => whnf
        refine fin _ (l = 0) rfl (Iff.trans ⟨fun h => ?_, fun h => ?_⟩ bc)
        · rw [← pm, ← pn, ← pk]; exact ⟨hmn, .inr (by rw [pm, ← pl]; exact h)⟩
        · rw [← pm, ← pk] at h
          rcases h.2 with h | h
          · exact absurd rfl h
          · rw [pl, ← pm]; exact h
      · rw [show (k != 0) = true from by simp [hk]]
        conv => whnf
        exact fin _ True rfl (Iff.trans ⟨fun _ => by rw [← pm, ← pn, ← pk]; exact ⟨hmn, .inl hk⟩, fun _ => trivial⟩ bc)
    · rw [show decide (m * n ≥ 0) = false from decide_eq_false hmn]
      conv => whnf
      exact fin _ False rfl (Iff.trans ⟨False.elim, fun h => hmn (by rw [pm, pn]; exact h.1)⟩ bc)
end Go.Proofs.YtgakcbdahbagkaaGreat
/- Contracts of predicate: centers, circles, wedges. -/
set_option linter.unusedVariables false
set_option linter.unusedSimpArgs false
set_option maxRecDepth 20000
set_option maxHeartbeats 1000000
namespace Go.Proofs.YtgakcbdahbagkaaGreat
open Go Go.Ae

def Epd : Env := { tt := tt, eqs := [], Φ := fun g => match g with
  | 27 => some (.p vsubS)
  | 35 => some (.p vaddS)
  | 36 => some (.p vscaleS)
  | 28 => some (.p vcrossS)
  | 32 => some (.p vdotS)
  | 45 => some (.p qsignS)
  | 34 => some (.p qmulS)
  | 33 => some (.p qsubS)
  | 31 => some (.p qaddS)
  | 29 => some (.p qquoS)
  | 30 => some (.p qofS)
  | 57 => some (.p halfS)
  | 19 => some (.p angleS)
  | _ => none }
theorem Epdok : EnvOk Tryz.prog Epd := ⟨tt_ok, fun t h => by simp [Epd] at h, (fun g S h => by
  simp only [Epd] at h
  split at h
  · cases h; exact vsub_ok
  · cases h; exact vadd_ok
  · cases h; exact vscale_ok
  · cases h; exact vcross_ok
  · cases h; exact vdot_ok
  · cases h; exact qsign_ok
  · cases h; exact qmul_ok
  · cases h; exact qsub_ok
  · cases h; exact qadd_ok
  · cases h; exact qquo_ok
  · cases h; exact qof_ok
  · cases h; exact half_ok
  · cases h; exact angle_ok
  · cases h), fun g F h => by simp [Epd] at h⟩

theorem center_ok : Snd Tryz.prog 8 centerS := by
  refine snd_of Epdok Dok Tryz.func8 (enters_of Tryz.func8 (by kernel_rfl) rfl) (fun _ => rfl) (fun _ => rfl) ?_
  intro ⟨a, b, c⟩ hp
  have hp : a.sz 1048576 ∧ b.sz 1048576 ∧ c.sz 1048576 := hp
  obtain ⟨sa, sb, sc⟩ := hp
  have qa := PV.psz sa (by decide)
  have qb := PV.psz sb (by decide)
  have qc := PV.psz sc (by decide)
  have fin : ∀ (x : PV) (z : Int), cenV a.p b.p c.p = (x, z) → Value.tuple ⟨[x.v, .int .i64 z]⟩ = centerS.val (a, b, c) := fun x z h => by
    show _ = Value.tuple ⟨[(cenV a.p b.p c.p).1.v, .int .i64 (cenV a.p b.p c.p).2]⟩
    rw [h]
  conv => whnf
  refine .inl ⟨8, [[], [], [0, 1], [], [], [0, 1, 2, 3, 4], [], [], [0, 1, 2, 3, 4, 5, 6, 7], [0, 1, 2, 3, 4, 5, 6, 7, 8]], by kernel_rfl, ?_⟩
  conv => whnf
  obtain ⟨u, eu, pu, su, qu⟩ := hideP (sub_sz qb qa)
  refine ⟨(b, a), rfl, ⟨PV.sz_mono sb (by decide), PV.sz_mono sa (by decide)⟩, ?_⟩
  rw [show vsubS.val (b, a) = u.v from eu]
  conv => whnf
  obtain ⟨v, ev, pv, sv, qv⟩ := hideP (sub_sz qc qa)
  refine ⟨(c, a), rfl, ⟨PV.sz_mono sc (by decide), PV.sz_mono sa (by decide)⟩, ?_⟩
  rw [show vsubS.val (c, a) = v.v from ev]
  conv => whnf
  obtain ⟨d, ed, pd, sd, qd⟩ := hideR (cross_sz qu qv)
  refine ⟨(u, v), rfl, ⟨PV.sz_mono su (by decide), PV.sz_mono sv (by decide)⟩, ?_⟩
  rw [show vcrossS.val (u, v) = d.v from ed]
  conv => whnf
  have hd : d.q = orR a.p b.p c.p := by rw [pd, pu, pv]; rfl
  refine .inr (.inr ⟨9, 1, [[], [], [], [0, 1, 2], [0, 1, 2, 3], [0, 1, 2, 3, 4], [0, 1, 2, 3, 4, 5], [0, 1, 2, 3, 4, 5], [], [0, 1, 2, 3, 4, 5, 6, 8], [0, 1, 2, 3, 4, 5, 6, 7, 8, 9]], [7], by kernel_rfl, ?_⟩)
  conv => whnf
  obtain ⟨o, eo, po, so, qo⟩ := hideR (q := ((1 : Int) : Rat)) (QB.of_int (n := 1) (k := 1) (nby_le (show Int.natAbs 1 < C ^ 1 by decide)) (by decide))
  refine ⟨(1 : Int), rfl, ⟨by decide, by decide⟩, ?_⟩
  rw [show qofS.val (1 : Int) = o.v from eo]
  conv => whnf
  obtain ⟨f, ef, pf, sf, qf⟩ := hideR (QB.add qd qd)
  refine ⟨(d, d), rfl, ⟨RV.sz_ok sd (by decide), RV.sz_ok sd (by decide)⟩, ?_⟩
  rw [show qaddS.val (d, d) = f.v from ef]
  conv => whnf
  obtain ⟨k, ek, pk, sk, qk⟩ := hideR (QB.div qo qf (by decide))
  obtain ⟨e, ee, pe⟩ := hideZ (if f.q = 0 then 10 else 0)
  refine ⟨(o, f), rfl, ⟨RV.sz_ok so (by decide), RV.sz_ok sf (by decide)⟩, ?_⟩
  rw [show qquoS.val (o, f) = .tuple ⟨[k.v, .int .i64 e]⟩ from by rw [← ek, ← ee]; rfl]
  conv => whnf
  have hf : f.q = 0 ↔ orR a.p b.p c.p = 0 := by rw [pf, hd]; constructor <;> intro h <;> grind
  refine br_intro (fun h => ?_) (fun h => ?_)
  · have h : e ≠ 0 := by intro e'; subst e'; simp at h
    conv => whnf
    refine fin (zeroR, zeroR) 12 ?_
    unfold cenV
    rw [if_pos]
    refine Classical.byContradiction fun hn => h ?_
    rw [pe, if_neg (fun e => hn (hf.1 e))]
  · have h : e = 0 := by simpa using h
    have h0 : ¬ orR a.p b.p c.p = 0 := fun hn => by rw [pe, if_pos (hf.2 hn)] at h; cases h
    conv => whnf
    refine .inl ⟨8, [[], [], [0, 1], [], [], [0, 1, 2, 3, 4], [], [], [0, 1, 2, 3, 4, 5, 6, 7], [0, 1, 2, 3, 4, 5, 6, 7, 8]], by kernel_rfl, ?_⟩
    conv => whnf
    obtain ⟨m, em, pm, sm, qm⟩ := hideR (dot_sz qu qu)
    refine ⟨(u, u), rfl, ⟨PV.sz_mono su (by decide), PV.sz_mono su (by decide)⟩, ?_⟩
    rw [show vdotS.val (u, u) = m.v from em]
    conv => whnf
    obtain ⟨n, en, pn, sn, qn⟩ := hideR (dot_sz qv qv)
    refine ⟨(v, v), rfl, ⟨PV.sz_mono sv (by decide), PV.sz_mono sv (by decide)⟩, ?_⟩
    rw [show vdotS.val (v, v) = n.v from en]
    conv => whnf
    obtain ⟨u1, u2⟩ := u
    have su1 := su.1
    have su2 := su.2
    have qu1 : QB u1.q _ := qu.1
    have qu2 : QB u2.q _ := qu.2
    obtain ⟨v1, v2⟩ := v
    have sv1 := sv.1
    have sv2 := sv.2
    have qv1 : QB v1.q _ := qv.1
    have qv2 : QB v2.q _ := qv.2
    refine .inl ⟨20, [[], [0], [], [0, 1, 2], [], [4], [], [0, 1, 2, 3, 4, 5, 6], [0, 1, 2, 3, 4, 5, 6, 7], [], [9], [], [0, 1, 2, 3, 4, 5, 6, 7, 8, 9, 10, 11], [], [13], [], [0, 1, 2, 3, 4, 5, 6, 7, 8, 9, 10, 11, 12, 13, 14, 15], [0, 1, 2, 3, 4, 5, 6, 7, 8, 9, 10, 11, 12, 13, 14, 15, 16], [0, 1, 2, 3, 4, 5, 6, 7, 8, 9, 10, 11, 12, 13, 14, 15, 16, 17], [], [0, 1, 2, 3, 4, 5, 6, 7, 8, 9, 10, 11, 12, 13, 14, 15, 16, 17, 18, 19]], by kernel_rfl, ?_⟩
    conv => whnf
    obtain ⟨x1, ex1, px1, sx1, qx1⟩ := hideR (QB.mul qv2 qm)
    refine ⟨(v2, m), rfl, ⟨RV.sz_ok sv2 (by decide), RV.sz_ok sm (by decide)⟩, ?_⟩
    rw [show qmulS.val (v2, m) = x1.v from ex1]
    conv => whnf
    obtain ⟨x2, ex2, px2, sx2, qx2⟩ := hideR (QB.mul qu2 qn)
    refine ⟨(u2, n), rfl, ⟨RV.sz_ok su2 (by decide), RV.sz_ok sn (by decide)⟩, ?_⟩
    rw [show qmulS.val (u2, n) = x2.v from ex2]
    conv => whnf
    obtain ⟨x, ex, px, sx, qx⟩ := hideR (QB.sub qx1 qx2)
    refine ⟨(x1, x2), rfl, ⟨RV.sz_ok sx1 (by decide), RV.sz_ok sx2 (by decide)⟩, ?_⟩
    rw [show qsubS.val (x1, x2) = x.v from ex]
    conv => whnf
    obtain ⟨y1, ey1, py1, sy1, qy1⟩ := hideR (QB.mul qu1 qn)
    refine ⟨(u1, n), rfl, ⟨RV.sz_ok su1 (by decide), RV.sz_ok sn (by decide)⟩, ?_⟩
    rw [show qmulS.val (u1, n) = y1.v from ey1]
    conv => whnf
    obtain ⟨y2, ey2, py2, sy2, qy2⟩ := hideR (QB.mul qv1 qm)
    refine ⟨(v1, m), rfl, ⟨RV.sz_ok sv1 (by decide), RV.sz_ok sm (by decide)⟩, ?_⟩
    rw [show qmulS.val (v1, m) = y2.v from ey2]
    conv => whnf
    obtain ⟨y, ey, py, sy, qy⟩ := hideR (QB.sub qy1 qy2)
    refine ⟨(y1, y2), rfl, ⟨RV.sz_ok sy1 (by decide), RV.sz_ok sy2 (by decide)⟩, ?_⟩
    rw [show qsubS.val (y1, y2) = y.v from ey]
    conv => whnf
    refine .inl ⟨4, [[], [], [], [1, 2], [0, 1, 2, 3], [0, 1, 2, 3, 4], [0, 1, 2, 3, 4, 5]], by kernel_rfl, ?_⟩
    conv => whnf
    obtain ⟨w, ew, pw, sw, qw⟩ := hideP (scale_sz (mkQ qx qy) qk)
    refine ⟨((x, y), k), rfl, ⟨PV.sz_mono (mkP sx sy) (by decide), RV.sz_mono sk (by decide)⟩, ?_⟩
    rw [show vscaleS.val ((x, y), k) = w.v from ew]
    conv => whnf
    obtain ⟨r, er, pr, sr, qr⟩ := hideP (add_sz qa qw)
    refine ⟨(a, w), rfl, ⟨PV.sz_mono sa (by decide), PV.sz_mono sw (by decide)⟩, ?_⟩
    rw [show vaddS.val (a, w) = r.v from er]
    conv => whnf
    show Value.tuple ⟨[r.v, .int .i64 0]⟩ = _
    rw [← er]
    refine fin _ 0 ?_
    unfold cenV
    rw [if_neg h0]
    have hk : k.q = ((1 : Int) : Rat) / (d.q + d.q) := by rw [pk, po, pf]
    rw [← cen_code hk hd, pw]
    have g1 : PV.p (x, y) = (v2.q * m.q - u2.q * n.q, u1.q * n.q - v1.q * m.q) := by
      show (x.q, y.q) = _
      rw [px, px1, px2, py, py1, py2]
    rw [g1, pm, pn, pu, pv, ← pu, ← pv]
    rfl
theorem from_ok : QSnd Tryz.prog 59 fromS := by
  refine qsnd_of Epdok Dok Tryz.func59 (enters_of Tryz.func59 (by kernel_rfl) rfl) ?_ ?_ ?_
  · intro i b hb; simp [fromS] at hb; rw [hb]; rfl
  · intro i b hb; simp [fromS] at hb
  intro ⟨u, p⟩ hp
  have hp : u.sz 1048576 ∧ p.sz 1048576 := hp
  obtain ⟨su, sp⟩ := hp
  have qu := PV.psz su (by decide)
  have qp := PV.psz sp (by decide)
  conv => whnf
  refine .inl ⟨5, [[], [], [0, 1], [], [], [0, 1, 2, 3, 4], [0, 1, 2, 3, 4, 5], [0, 1, 2, 3, 4, 5, 6]], by kernel_rfl, ?_⟩
  conv => whnf
  refine ⟨by decide, ?_⟩
  conv => whnf
  obtain ⟨x, ex, px, sx, qx⟩ := hideR (dot_sz qu qp)
  refine ⟨(u, p), rfl, ⟨PV.sz_mono su (by decide), PV.sz_mono sp (by decide)⟩, ?_⟩
  rw [show vdotS.val (u, p) = x.v from ex]
  conv => whnf
  refine ⟨by decide, ?_⟩
  conv => whnf
  obtain ⟨y, ey, py, sy, qy⟩ := hideR (cross_sz qu qp)
  refine ⟨(u, p), rfl, ⟨PV.sz_mono su (by decide), PV.sz_mono sp (by decide)⟩, ?_⟩
  rw [show vcrossS.val (u, p) = y.v from ey]
  conv => whnf
  refine ⟨PV.v (x, y), ?_, .refl _⟩
  show some (Value.agg ⟨[.bool (RV.of (dotR u.p p.p)).1, .string (RV.of (dotR u.p p.p)).2.1, .string (RV.of (dotR u.p p.p)).2.2, .bool (RV.of (crossR u.p p.p)).1, .string (RV.of (crossR u.p p.p)).2.1, .string (RV.of (crossR u.p p.p)).2.2]⟩) = some (Value.agg ⟨[.bool x.1, .string x.2.1, .string x.2.2, .bool y.1, .string y.2.1, .string y.2.2]⟩)
  obtain ⟨e1, e2, e3⟩ := RV.v_inj ex
  obtain ⟨e4, e5, e6⟩ := RV.v_inj ey
  rw [e1, e2, e3, e4, e5, e6]
def Epe : Env := { tt := tt, eqs := [], Φ := fun g => match g with
  | 57 => some (.p halfS)
  | 19 => some (.p angleS)
  | 59 => some (.q fromS)
  | _ => none }
theorem Epeok : EnvOk Tryz.prog Epe := ⟨tt_ok, fun t h => by simp [Epe] at h, (fun g S h => by
  simp only [Epe] at h
  split at h
  · cases h; exact half_ok
  · cases h; exact angle_ok
  · cases h; exact from_ok
  · cases h), fun g F h => by simp [Epe] at h⟩
theorem wedge_ok : Snd Tryz.prog 21 wedgeS := by
  refine snd_of Epeok Dok Tryz.func21 (enters_of Tryz.func21 (by kernel_rfl) rfl) (fun _ => rfl) (fun _ => rfl) ?_
  intro ⟨u, v, w⟩ hp
  have hp : u.sz 1048576 ∧ v.sz 1048576 ∧ w.sz 1048576 := hp
  obtain ⟨su, sv, sw⟩ := hp
  have qu := PV.psz su (by decide)
  have qv := PV.psz sv (by decide)
  have qw := PV.psz sw (by decide)
  have fin : ∀ (z : Bool) (P : Prop) [Decidable P], z = decide P → (P ↔ wedR u.p v.p w.p) → Value.bool z = wedgeS.val (u, v, w) := fun z P _ h h2 => by
    show _ = Value.bool (decide (wedR u.p v.p w.p))
    rw [h]
    congr 1
    exact decide_eq_decide.2 h2
  conv => whnf
  obtain ⟨k, ek, pk⟩ := hideZ (halfR u.p)
  refine ⟨u, rfl, PV.sz_mono su (by decide), ?_⟩
  rw [show halfS.val u = .int .i64 k from ek]
  conv => whnf
  by_cases hk : k = 0
  · subst hk
    conv => whnf
    exact fin _ False rfl ⟨False.elim, fun h => h.1 pk.symm⟩
  · rw [show (k == 0) = false from by simp [hk]]
    conv => whnf
    obtain ⟨l, el, pl⟩ := hideZ (halfR v.p)
    refine ⟨v, rfl, PV.sz_mono sv (by decide), ?_⟩
    rw [show halfS.val v = .int .i64 l from el]
    conv => whnf
    by_cases hl : l = 0
    · subst hl
      conv => whnf
      exact fin _ False rfl ⟨False.elim, fun h => h.2.1 pl.symm⟩
    · rw [show (l == 0) = false from by simp [hl]]
      conv => whnf
      obtain ⟨m, em, pm⟩ := hideZ (halfR w.p)
      refine ⟨w, rfl, PV.sz_mono sw (by decide), ?_⟩
      rw [show halfS.val w = .int .i64 m from em]
      conv => whnf
      by_cases hm : m = 0
      · subst hm
        conv => whnf
        exact fin _ False rfl ⟨False.elim, fun h => h.2.2.1 pm.symm⟩
      · rw [show (m == 0) = false from by simp [hm]]
        conv => whnf
        have hk' : halfR u.p ≠ 0 := fun e => hk (pk.trans e)
        have hl' : halfR v.p ≠ 0 := fun e => hl (pl.trans e)
        have hm' : halfR w.p ≠ 0 := fun e => hm (pm.trans e)
        obtain ⟨U, eU, pU, sU, qU⟩ := hideP (from_sz qu qu)
        refine ⟨(u, u), [0], rfl, ⟨su, su⟩, ?_⟩
        rw [show fromS.val (u, u) = U.v from eU, show fromS.blks (u, u) = [.flat false 1 6 (fun _ => u.cells)] from rfl, show fromS.new (u, u) = none from rfl]
        conv => whnf
        refine ⟨pt_blk u, ?_⟩
        conv => whnf
        refine ⟨U.v, rfl, ?_⟩
        conv => whnf
        refine .inl ⟨4, [[], [], [0, 1], [], [0, 1, 2, 3], [0, 1, 2, 3, 4]], by kernel_rfl, ?_⟩
        conv => whnf
        obtain ⟨W, eW, pW, sW, qW⟩ := hideP (from_sz qu qw)
        refine ⟨(u, w), [0], rfl, ⟨su, sw⟩, ?_⟩
        rw [show fromS.val (u, w) = W.v from eW, show fromS.blks (u, w) = [.flat false 1 6 (fun _ => u.cells)] from rfl, show fromS.new (u, w) = none from rfl]
        conv => whnf
        refine ⟨pt_blk u, ?_⟩
        conv => whnf
        refine ⟨W.v, rfl, ?_⟩
        conv => whnf
        obtain ⟨a, ea, pa⟩ := hideZ (angR W.p U.p)
        refine ⟨(W, U), rfl, ⟨PV.sz_mono sW (by decide), PV.sz_mono sU (by decide)⟩, ?_⟩
        rw [show angleS.val (W, U) = .int .i64 a from ea]
        conv => whnf
        have ha : a = angR (fromR u.p w.p) (fromR u.p u.p) := by rw [pa, pW, pU]
        by_cases h1 : a = 0
        · subst h1
          conv => whnf
          exact fin _ False rfl ⟨False.elim, fun h => h.2.2.2.1 ha.symm⟩
        · rw [show (a == 0) = false from by simp [h1]]
          conv => whnf
          refine .inl ⟨12, [[], [], [0, 1], [], [0, 1, 2, 3], [0, 1, 2, 3, 4], [0, 1, 2, 3, 4, 5], [0, 1, 2, 3, 4, 5, 6], [0, 1, 2, 3, 4, 5, 6], [0, 1, 2, 3, 4, 5, 6, 7, 8], [0, 1, 2, 3, 4, 5, 6], [0, 1, 2, 3, 4, 5, 6], [0, 1, 2, 3, 4, 5, 6, 7, 8, 9, 10, 11], [0, 1, 2, 3, 4, 5, 6, 7, 8, 9, 10, 11, 12], [0, 1, 2, 3, 4, 5, 6, 7, 8, 9, 10, 11, 12, 13], [0, 1, 2, 3, 4, 5, 6, 7, 8, 9, 10, 11, 12, 13, 14], [0, 1, 2, 3, 4, 5, 6, 7, 8, 9, 10, 11, 12, 13, 14, 15]], by kernel_rfl, ?_⟩
          conv => whnf
          obtain ⟨V, eV, pV, sV, qV⟩ := hideP (from_sz qu qv)
          refine ⟨(u, v), [0], rfl, ⟨su, sv⟩, ?_⟩
          rw [show fromS.val (u, v) = V.v from eV, show fromS.blks (u, v) = [.flat false 1 6 (fun _ => u.cells)] from rfl, show fromS.new (u, v) = none from rfl]
          conv => whnf
          refine ⟨pt_blk u, ?_⟩
          conv => whnf
          refine ⟨V.v, rfl, ?_⟩
          conv => whnf
          obtain ⟨b, eb, pb⟩ := hideZ (angR V.p U.p)
          refine ⟨(V, U), rfl, ⟨PV.sz_mono sV (by decide), PV.sz_mono sU (by decide)⟩, ?_⟩
          rw [show angleS.val (V, U) = .int .i64 b from eb]
          conv => whnf
          have hb : b = angR (fromR u.p v.p) (fromR u.p u.p) := by rw [pb, pV, pU]
          by_cases h2 : b = 0
          · subst h2
            conv => whnf
            exact fin _ True rfl ⟨fun _ => ⟨hk', hl', hm', fun e => h1 (ha.trans e), .inl hb.symm⟩, fun _ => trivial⟩
          · rw [show (b == 0) = false from by simp [h2]]
            conv => whnf
            obtain ⟨W2, eW2, pW2, sW2, qW2⟩ := hideP (from_sz qu qw)
            refine ⟨(u, w), [0], rfl, ⟨su, sw⟩, ?_⟩
            rw [show fromS.val (u, w) = W2.v from eW2, show fromS.blks (u, w) = [.flat false 1 6 (fun _ => u.cells)] from rfl, show fromS.new (u, w) = none from rfl]
            conv => whnf
            refine ⟨pt_blk u, ?_⟩
            conv => whnf
            refine ⟨W2.v, rfl, ?_⟩
            conv => whnf
            obtain ⟨V2, eV2, pV2, sV2, qV2⟩ := hideP (from_sz qu qv)
            refine ⟨(u, v), [0], rfl, ⟨su, sv⟩, ?_⟩
            rw [show fromS.val (u, v) = V2.v from eV2, show fromS.blks (u, v) = [.flat false 1 6 (fun _ => u.cells)] from rfl, show fromS.new (u, v) = none from rfl]
            conv => whnf
            refine ⟨pt_blk u, ?_⟩
            conv => whnf
            refine ⟨V2.v, rfl, ?_⟩
            conv => whnf
            obtain ⟨c, ec, pc⟩ := hideZ (angR W2.p V2.p)
            refine ⟨(W2, V2), rfl, ⟨PV.sz_mono sW2 (by decide), PV.sz_mono sV2 (by decide)⟩, ?_⟩
            rw [show angleS.val (W2, V2) = .int .i64 c from ec]
            conv => whnf
            have hc : c = angR (fromR u.p w.p) (fromR u.p v.p) := by rw [pc, pW2, pV2]
            refine fin _ (c < 0) rfl ⟨fun h => ⟨hk', hl', hm', fun e => h1 (ha.trans e), .inr (by rw [← hc]; exact h)⟩, fun h => ?_⟩
            rcases h.2.2.2.2 with h | h
            · exact absurd (hb.trans h) h2
            · rw [hc]; exact h
end Go.Proofs.YtgakcbdahbagkaaGreat
/- Contracts of predicate: circles; lists. -/
set_option linter.unusedVariables false
set_option linter.unusedSimpArgs false
set_option maxRecDepth 20000
set_option maxHeartbeats 2000000
namespace Go.Proofs.YtgakcbdahbagkaaGreat
open Go Go.Ae

theorem inc1_ok : QSnd Tryz.prog 47 inc1S := by
  refine qsnd_of Epdok Dok Tryz.func47 (enters_of Tryz.func47 (by kernel_rfl) rfl) ?_ ?_ ?_
  · intro i b hb; simp [inc1S] at hb; rw [hb]; rfl
  · intro i b hb; simp [inc1S] at hb
  intro ⟨p, d⟩ hp
  have hp : p.sz 1048576 ∧ d.sz 1048576 := hp
  obtain ⟨sp, sd⟩ := hp
  have qp := PV.psz sp (by decide)
  have qd := PV.psz sd (by decide)
  conv => whnf
  refine ⟨by decide, ?_⟩
  conv => whnf
  obtain ⟨u, eu, pu, su, qu⟩ := hideP (sub_sz qp qd)
  refine ⟨(p, d), rfl, ⟨PV.sz_mono sp (by decide), PV.sz_mono sd (by decide)⟩, ?_⟩
  rw [show vsubS.val (p, d) = u.v from eu]
  conv => whnf
  refine .inl ⟨7, [[], [0], [], [2], [], [], [4, 5], [0, 1, 2, 3, 4, 5, 6], [0, 1, 2, 3, 4, 5, 6, 7]], by kernel_rfl, ?_⟩
  conv => whnf
  obtain ⟨x, ex, px, sx, qx⟩ := hideR (dot_sz qu qu)
  refine ⟨(u, u), rfl, ⟨PV.sz_mono su (by decide), PV.sz_mono su (by decide)⟩, ?_⟩
  rw [show vdotS.val (u, u) = x.v from ex]
  conv => whnf
  refine ⟨R3.v (u.1, u.2, x), ?_, .refl _⟩
  rw [pu] at ex
  show some (R3.v (rowC p.p d.p)) = some (R3.v (u.1, u.2, x))
  unfold rowC
  rw [← RV.v_eq ex]
  have := PV.v_eq eu
  rw [← this]
  rfl
theorem inc2_ok : QSnd Tryz.prog 48 inc2S := by
  refine qsnd_of Epdok Dok Tryz.func48 (enters_of Tryz.func48 (by kernel_rfl) rfl) ?_ ?_ ?_
  · intro i b hb; simp [inc2S] at hb; rcases hb with rfl | rfl <;> rfl
  · intro i b hb; simp [inc2S] at hb
  intro ⟨⟨i, j⟩, ⟨v0, v1, v2⟩, ⟨w0, w1, w2⟩⟩ hp
  have hp : ((i, j) = (1, 2) ∨ (i, j) = (0, 2) ∨ (i, j) = (0, 1)) ∧ (v0.sz 67108864 ∧ v1.sz 67108864 ∧ v2.sz 67108864) ∧ (w0.sz 67108864 ∧ w1.sz 67108864 ∧ w2.sz 67108864) := hp
  obtain ⟨hij, ⟨sv0, sv1, sv2⟩, sw0, sw1, sw2⟩ := hp
  have qv0 := RV.qb' sv0 (by decide)
  have qv1 := RV.qb' sv1 (by decide)
  have qv2 := RV.qb' sv2 (by decide)
  have qw0 := RV.qb' sw0 (by decide)
  have qw1 := RV.qb' sw1 (by decide)
  have qw2 := RV.qb' sw2 (by decide)
  rcases hij with h | h | h
  all_goals (cases h)
  · conv => whnf
    refine .inl ⟨13, [[], [0], [0, 1], [], [3], [3, 4], [0, 1, 2, 3, 4, 5], [], [7], [7, 8], [], [10], [10, 11], [0, 1, 2, 3, 4, 5, 6, 7, 8, 9, 10, 11, 12], [0, 1, 2, 3, 4, 5, 6, 7, 8, 9, 10, 11, 12, 13], [0, 1, 2, 3, 4, 5, 6, 7, 8, 9, 10, 11, 12, 13, 14]], by kernel_rfl, ?_⟩
    conv => whnf
    refine ⟨⟨of_decide_eq_true rfl, of_decide_eq_true rfl⟩, ?_⟩
    conv => whnf
    refine ⟨by decide, ?_⟩
    conv => whnf
    refine ⟨⟨of_decide_eq_true rfl, of_decide_eq_true rfl⟩, ?_⟩
    conv => whnf
    refine ⟨by decide, ?_⟩
    conv => whnf
    obtain ⟨x, ex, px, sx, qx⟩ := hideR (QB.mul qv1 qw2)
    refine ⟨(v1, w2), rfl, ⟨RV.sz_ok sv1 (by decide), RV.sz_ok sw2 (by decide)⟩, ?_⟩
    rw [show qmulS.val (v1, w2) = x.v from ex]
    conv => whnf
    refine ⟨⟨of_decide_eq_true rfl, of_decide_eq_true rfl⟩, ?_⟩
    conv => whnf
    refine ⟨by decide, ?_⟩
    conv => whnf
    refine ⟨⟨of_decide_eq_true rfl, of_decide_eq_true rfl⟩, ?_⟩
    conv => whnf
    refine ⟨by decide, ?_⟩
    conv => whnf
    obtain ⟨y, ey, py, sy, qy⟩ := hideR (QB.mul qv2 qw1)
    refine ⟨(v2, w1), rfl, ⟨RV.sz_ok sv2 (by decide), RV.sz_ok sw1 (by decide)⟩, ?_⟩
    rw [show qmulS.val (v2, w1) = y.v from ey]
    conv => whnf
    obtain ⟨z, ez, pz, sz, qz⟩ := hideR (QB.sub qx qy)
    refine ⟨(x, y), rfl, ⟨RV.sz_ok sx (by decide), RV.sz_ok sy (by decide)⟩, ?_⟩
    rw [show qsubS.val (x, y) = z.v from ez]
    conv => whnf
    refine ⟨z.v, ?_, .refl _⟩
    rw [px, py] at ez
    show some (RV.of (v1.q * w2.q - v2.q * w1.q)).v = some z.v
    rw [ez]
  · conv => whnf
    refine .inl ⟨13, [[], [0], [0, 1], [], [3], [3, 4], [0, 1, 2, 3, 4, 5], [], [7], [7, 8], [], [10], [10, 11], [0, 1, 2, 3, 4, 5, 6, 7, 8, 9, 10, 11, 12], [0, 1, 2, 3, 4, 5, 6, 7, 8, 9, 10, 11, 12, 13], [0, 1, 2, 3, 4, 5, 6, 7, 8, 9, 10, 11, 12, 13, 14]], by kernel_rfl, ?_⟩
    conv => whnf
    refine ⟨⟨of_decide_eq_true rfl, of_decide_eq_true rfl⟩, ?_⟩
    conv => whnf
    refine ⟨by decide, ?_⟩
    conv => whnf
    refine ⟨⟨of_decide_eq_true rfl, of_decide_eq_true rfl⟩, ?_⟩
    conv => whnf
    refine ⟨by decide, ?_⟩
    conv => whnf
    obtain ⟨x, ex, px, sx, qx⟩ := hideR (QB.mul qv0 qw2)
    refine ⟨(v0, w2), rfl, ⟨RV.sz_ok sv0 (by decide), RV.sz_ok sw2 (by decide)⟩, ?_⟩
    rw [show qmulS.val (v0, w2) = x.v from ex]
    conv => whnf
    refine ⟨⟨of_decide_eq_true rfl, of_decide_eq_true rfl⟩, ?_⟩
    conv => whnf
    refine ⟨by decide, ?_⟩
    conv => whnf
    refine ⟨⟨of_decide_eq_true rfl, of_decide_eq_true rfl⟩, ?_⟩
    conv => whnf
    refine ⟨by decide, ?_⟩
    conv => whnf
    obtain ⟨y, ey, py, sy, qy⟩ := hideR (QB.mul qv2 qw0)
    refine ⟨(v2, w0), rfl, ⟨RV.sz_ok sv2 (by decide), RV.sz_ok sw0 (by decide)⟩, ?_⟩
    rw [show qmulS.val (v2, w0) = y.v from ey]
    conv => whnf
    obtain ⟨z, ez, pz, sz, qz⟩ := hideR (QB.sub qx qy)
    refine ⟨(x, y), rfl, ⟨RV.sz_ok sx (by decide), RV.sz_ok sy (by decide)⟩, ?_⟩
    rw [show qsubS.val (x, y) = z.v from ez]
    conv => whnf
    refine ⟨z.v, ?_, .refl _⟩
    rw [px, py] at ez
    show some (RV.of (v0.q * w2.q - v2.q * w0.q)).v = some z.v
    rw [ez]
  · conv => whnf
    refine .inl ⟨13, [[], [0], [0, 1], [], [3], [3, 4], [0, 1, 2, 3, 4, 5], [], [7], [7, 8], [], [10], [10, 11], [0, 1, 2, 3, 4, 5, 6, 7, 8, 9, 10, 11, 12], [0, 1, 2, 3, 4, 5, 6, 7, 8, 9, 10, 11, 12, 13], [0, 1, 2, 3, 4, 5, 6, 7, 8, 9, 10, 11, 12, 13, 14]], by kernel_rfl, ?_⟩
    conv => whnf
    refine ⟨⟨of_decide_eq_true rfl, of_decide_eq_true rfl⟩, ?_⟩
    conv => whnf
    refine ⟨by decide, ?_⟩
    conv => whnf
    refine ⟨⟨of_decide_eq_true rfl, of_decide_eq_true rfl⟩, ?_⟩
    conv => whnf
    refine ⟨by decide, ?_⟩
    conv => whnf
    obtain ⟨x, ex, px, sx, qx⟩ := hideR (QB.mul qv0 qw1)
    refine ⟨(v0, w1), rfl, ⟨RV.sz_ok sv0 (by decide), RV.sz_ok sw1 (by decide)⟩, ?_⟩
    rw [show qmulS.val (v0, w1) = x.v from ex]
    conv => whnf
    refine ⟨⟨of_decide_eq_true rfl, of_decide_eq_true rfl⟩, ?_⟩
    conv => whnf
    refine ⟨by decide, ?_⟩
    conv => whnf
    refine ⟨⟨of_decide_eq_true rfl, of_decide_eq_true rfl⟩, ?_⟩
    conv => whnf
    refine ⟨by decide, ?_⟩
    conv => whnf
    obtain ⟨y, ey, py, sy, qy⟩ := hideR (QB.mul qv1 qw0)
    refine ⟨(v1, w0), rfl, ⟨RV.sz_ok sv1 (by decide), RV.sz_ok sw0 (by decide)⟩, ?_⟩
    rw [show qmulS.val (v1, w0) = y.v from ey]
    conv => whnf
    obtain ⟨z, ez, pz, sz, qz⟩ := hideR (QB.sub qx qy)
    refine ⟨(x, y), rfl, ⟨RV.sz_ok sx (by decide), RV.sz_ok sy (by decide)⟩, ?_⟩
    rw [show qsubS.val (x, y) = z.v from ez]
    conv => whnf
    refine ⟨z.v, ?_, .refl _⟩
    rw [px, py] at ez
    show some (RV.of (v0.q * w1.q - v1.q * w0.q)).v = some z.v
    rw [ez]
def Epx : Env := { tt := tt, eqs := [], Φ := fun g => match g with
  | 47 => some (.q inc1S)
  | 48 => some (.q inc2S)
  | 45 => some (.p qsignS)
  | 34 => some (.p qmulS)
  | 33 => some (.p qsubS)
  | 31 => some (.p qaddS)
  | _ => none }
theorem Epxok : EnvOk Tryz.prog Epx := ⟨tt_ok, fun t h => by simp [Epx] at h, (fun g S h => by
  simp only [Epx] at h
  split at h
  · cases h; exact inc1_ok
  · cases h; exact inc2_ok
  · cases h; exact qsign_ok
  · cases h; exact qmul_ok
  · cases h; exact qsub_ok
  · cases h; exact qadd_ok
  · cases h), fun g F h => by simp [Epx] at h⟩
theorem incircle_ok : Snd Tryz.prog 12 incircleS := by
  refine snd_of Epxok Dok Tryz.func12 (enters_of Tryz.func12 (by kernel_rfl) rfl) (fun _ => rfl) (fun _ => rfl) ?_
  intro ⟨a, b, c, d⟩ hp
  have hp : a.sz 1048576 ∧ b.sz 1048576 ∧ c.sz 1048576 ∧ d.sz 1048576 := hp
  obtain ⟨sa, sb, sc, sd⟩ := hp
  have qa := PV.psz sa (by decide)
  have qb := PV.psz sb (by decide)
  have qc := PV.psz sc (by decide)
  have qd := PV.psz sd (by decide)
  conv => whnf
  refine .inl ⟨12, [[], [], [0, 1], [], [], [0, 1, 2, 3, 4], [], [], [0, 1, 2, 3, 4, 5, 6, 7], [], [], [], [0, 1, 2, 3, 4, 5, 6, 7, 8, 9, 10, 11], [0, 1, 2, 3, 4, 5, 6, 7, 8, 9, 10, 11, 12], [0, 1, 2, 3, 4, 5, 6, 7, 8, 9, 10, 11, 12, 13]], by kernel_rfl, ?_⟩
  conv => whnf
  obtain ⟨u0, u1, u2, eu, hu0, hu1, hu2, su0, su1, su2, qu0, qu1, qu2⟩ := hideC qa qd
  refine ⟨(a, d), [3], rfl, ⟨sa, sd⟩, ?_⟩
  rw [show inc1S.val (a, d) = R3.v (u0, u1, u2) from congrArg R3.v eu, show inc1S.blks (a, d) = [.flat false 1 6 (fun _ => d.cells)] from rfl, show inc1S.new (a, d) = none from rfl]
  conv => whnf
  refine ⟨pt_blk d, ?_⟩
  conv => whnf
  refine ⟨R3.v (u0, u1, u2), rfl, ?_⟩
  conv => whnf
  obtain ⟨v0, v1, v2, ev, hv0, hv1, hv2, sv0, sv1, sv2, qv0, qv1, qv2⟩ := hideC qb qd
  refine ⟨(b, d), [3], rfl, ⟨sb, sd⟩, ?_⟩
  rw [show inc1S.val (b, d) = R3.v (v0, v1, v2) from congrArg R3.v ev, show inc1S.blks (b, d) = [.flat false 1 6 (fun _ => d.cells)] from rfl, show inc1S.new (b, d) = none from rfl]
  conv => whnf
  refine ⟨pt_blk d, ?_⟩
  conv => whnf
  refine ⟨R3.v (v0, v1, v2), rfl, ?_⟩
  conv => whnf
  obtain ⟨w0, w1, w2, ew, hw0, hw1, hw2, sw0, sw1, sw2, qw0, qw1, qw2⟩ := hideC qc qd
  refine ⟨(c, d), [3], rfl, ⟨sc, sd⟩, ?_⟩
  rw [show inc1S.val (c, d) = R3.v (w0, w1, w2) from congrArg R3.v ew, show inc1S.blks (c, d) = [.flat false 1 6 (fun _ => d.cells)] from rfl, show inc1S.new (c, d) = none from rfl]
  conv => whnf
  refine ⟨pt_blk d, ?_⟩
  conv => whnf
  refine ⟨R3.v (w0, w1, w2), rfl, ?_⟩
  conv => whnf
  refine .inl ⟨6, [[], [0], [], [2], [0, 1, 2, 3], [], [0, 1, 2, 3, 4, 5]], by kernel_rfl, ?_⟩
  conv => whnf
  refine ⟨by decide, ?_⟩
  conv => whnf
  obtain ⟨m, em, pm, sm, qm⟩ := hideR (QB.sub (QB.mul qv1 qw2) (QB.mul qv2 qw1))
  refine ⟨((1, 2), ((v0, v1, v2), (w0, w1, w2))), [14, 15], rfl, ⟨.inl rfl, ⟨sv0, sv1, sv2⟩, sw0, sw1, sw2⟩, ?_⟩
  rw [show inc2S.val ((1, 2), ((v0, v1, v2), (w0, w1, w2))) = m.v from em, show inc2S.blks ((1, 2), ((v0, v1, v2), (w0, w1, w2))) = [.flat false 1 9 (fun _ => R3.cells (v0, v1, v2)), .flat false 1 9 (fun _ => R3.cells (w0, w1, w2))] from rfl, show inc2S.new ((1, 2), ((v0, v1, v2), (w0, w1, w2))) = none from rfl]
  conv => whnf
  refine ⟨R3.blk (v0, v1, v2), R3.blk (w0, w1, w2), ?_⟩
  conv => whnf
  refine ⟨m.v, rfl, ?_⟩
  conv => whnf
  obtain ⟨x1, ex1, px1, sx1, qx1⟩ := hideR (QB.mul qu0 qm)
  refine ⟨(u0, m), rfl, ⟨RV.sz_ok su0 (by decide), RV.sz_ok sm (by decide)⟩, ?_⟩
  rw [show qmulS.val (u0, m) = x1.v from ex1]
  conv => whnf
  skip
  refine .inl ⟨6, [[], [], [1], [], [3], [1, 2, 3, 4], [0, 1, 2, 3, 4, 5], [0, 1, 2, 3, 4, 5, 6]], by kernel_rfl, ?_⟩
  conv => whnf
  refine ⟨by decide, ?_⟩
  conv => whnf
  obtain ⟨n, en, pn, sn, qn⟩ := hideR (QB.sub (QB.mul qv0 qw2) (QB.mul qv2 qw0))
  refine ⟨((0, 2), ((v0, v1, v2), (w0, w1, w2))), [14, 15], rfl, ⟨.inr (.inl rfl), ⟨sv0, sv1, sv2⟩, sw0, sw1, sw2⟩, ?_⟩
  rw [show inc2S.val ((0, 2), ((v0, v1, v2), (w0, w1, w2))) = n.v from en, show inc2S.blks ((0, 2), ((v0, v1, v2), (w0, w1, w2))) = [.flat false 1 9 (fun _ => R3.cells (v0, v1, v2)), .flat false 1 9 (fun _ => R3.cells (w0, w1, w2))] from rfl, show inc2S.new ((0, 2), ((v0, v1, v2), (w0, w1, w2))) = none from rfl]
  conv => whnf
  refine ⟨R3.blk (v0, v1, v2), R3.blk (w0, w1, w2), ?_⟩
  conv => whnf
  refine ⟨n.v, rfl, ?_⟩
  conv => whnf
  obtain ⟨y1, ey1, py1, sy1, qy1⟩ := hideR (QB.mul qu1 qn)
  refine ⟨(u1, n), rfl, ⟨RV.sz_ok su1 (by decide), RV.sz_ok sn (by decide)⟩, ?_⟩
  rw [show qmulS.val (u1, n) = y1.v from ey1]
  conv => whnf
  obtain ⟨s2, es2, ps2, ss2, qs2⟩ := hideR (QB.sub qx1 qy1)
  refine ⟨(x1, y1), rfl, ⟨RV.sz_ok sx1 (by decide), RV.sz_ok sy1 (by decide)⟩, ?_⟩
  rw [show qsubS.val (x1, y1) = s2.v from es2]
  conv => whnf
  refine .inl ⟨6, [[], [], [1], [], [3], [1, 2, 3, 4], [0, 1, 2, 3, 4, 5], [0, 1, 2, 3, 4, 5, 6], [0, 1, 2, 3, 4, 5, 6, 7]], by kernel_rfl, ?_⟩
  conv => whnf
  refine ⟨by decide, ?_⟩
  conv => whnf
  obtain ⟨k, ek, pk, sk, qk⟩ := hideR (QB.sub (QB.mul qv0 qw1) (QB.mul qv1 qw0))
  refine ⟨((0, 1), ((v0, v1, v2), (w0, w1, w2))), [14, 15], rfl, ⟨.inr (.inr rfl), ⟨sv0, sv1, sv2⟩, sw0, sw1, sw2⟩, ?_⟩
  rw [show inc2S.val ((0, 1), ((v0, v1, v2), (w0, w1, w2))) = k.v from ek, show inc2S.blks ((0, 1), ((v0, v1, v2), (w0, w1, w2))) = [.flat false 1 9 (fun _ => R3.cells (v0, v1, v2)), .flat false 1 9 (fun _ => R3.cells (w0, w1, w2))] from rfl, show inc2S.new ((0, 1), ((v0, v1, v2), (w0, w1, w2))) = none from rfl]
  conv => whnf
  refine ⟨R3.blk (v0, v1, v2), R3.blk (w0, w1, w2), ?_⟩
  conv => whnf
  refine ⟨k.v, rfl, ?_⟩
  conv => whnf
  obtain ⟨z1, ez1, pz1, sz1, qz1⟩ := hideR (QB.mul qu2 qk)
  refine ⟨(u2, k), rfl, ⟨RV.sz_ok su2 (by decide), RV.sz_ok sk (by decide)⟩, ?_⟩
  rw [show qmulS.val (u2, k) = z1.v from ez1]
  conv => whnf
  obtain ⟨t2, et2, pt2, st2, qt2⟩ := hideR (QB.add qs2 qz1)
  refine ⟨(s2, z1), rfl, ⟨RV.sz_ok ss2 (by decide), RV.sz_ok sz1 (by decide)⟩, ?_⟩
  rw [show qaddS.val (s2, z1) = t2.v from et2]
  conv => whnf
  obtain ⟨r, er, pr⟩ := hideZ (cmpQ t2.q 0)
  refine ⟨t2, rfl, RV.sz_ok st2 (by decide), ?_⟩
  rw [show qsignS.val t2 = .int .i64 r from er]
  conv => whnf
  show Value.int .i64 r = Value.int .i64 (cmpQ (icR a.p b.p c.p d.p) 0)
  rw [pr]
  congr 2
  rw [pt2, ps2, px1, py1, pz1, pm, pn, pk, hu0, hu1, hu2, hv0, hv1, hv2, hw0, hw1, hw2]
  unfold icR
  rw [← ic_code]
  grind
end Go.Proofs.YtgakcbdahbagkaaGreat
/- Lists of points: sizes, equality. -/
set_option linter.unusedVariables false
set_option linter.unusedSimpArgs false
set_option maxRecDepth 20000
set_option maxHeartbeats 2000000
namespace Go.Proofs.YtgakcbdahbagkaaGreat
open Go Go.Ae

theorem big7_ok : QSnd Tryz.prog 25 (bigS 12) := by
  refine qsnd_of Epdok Dok Tryz.func25 (enters_of Tryz.func25 (by kernel_rfl) rfl) ?_ ?_ ?_
  · intro i b hb
    cases i with
    | none => simp [bigS, PL.blks] at hb
    | some i => simp [bigS, PL.blks] at hb; rw [hb]; rfl
  · intro i b hb; simp [bigS] at hb
  intro i hp
  cases i with
  | none =>
    conv => whnf
    refine .inr ⟨1, ?_⟩
    conv => whnf
    exact ⟨.bool false, rfl, .refl _⟩
  | some i =>
    obtain ⟨l, c⟩ := i
    have hp : l.length ≤ 1099511627776 := hp
    obtain ⟨n, hn⟩ : ∃ n, n = l.length := ⟨_, rfl⟩
    obtain ⟨g, hg⟩ : ∃ g, g = rowsP l := ⟨_, rfl⟩
    rw [← hn] at hp
    rw [show (bigS 12).blks (some (l, c)) = [.flat false n 6 g] from by rw [hn, hg]; rfl, show (bigS 12).args (some (l, c)) = [.slice (some ⟨0, 0, none⟩) n c] from by rw [hn]; rfl]
    have yes : ∀ p ∈ l, ¬ p.sz 12 → ∃ v', renV (List.range 1) 3 ((bigS 12).val (some (l, c))) = some v' ∧ VLe (.bool true) v' := fun p hm hb => ⟨.bool true, by rw [show (bigS 12).val (some (l, c)) = .bool true from by show Value.bool (anyBig 12 l) = _; rw [anyBig_true hm hb]]; rfl, .refl _⟩
    conv => whnf
    refine .inl ⟨fun mm tz hz => ∃ (i : Nat), Pat [some (.slice (some ⟨0, 0, none⟩) n c), none, none, some (.int .i64 i), none, none, none, none, none, none, none, none, none, none, none, none, none, none, none, none, none, none, none, none, none, none, none, none, none, none, none, none, none, none, none, none, none, none, none, none, none, none, none, none, none, none, none, none] tz ∧ hz = [some (.flat false n 6 g)] ∧ n - i = mm ∧ (i ≤ n ∧ smallUp 12 l i), .inr ⟨[0], [0, 3], ?_⟩, ?_⟩
    · conv => whnf
      intro _
      conv => whnf
      refine ⟨_, 0, (.keep (.skip (.skip (.keep (.skip (.skip (.skip (.skip (.skip (.skip (.skip (.skip (.skip (.skip (.skip (.skip (.skip (.skip (.skip (.skip (.skip (.skip (.skip (.skip (.skip (.skip (.skip (.skip (.skip (.skip (.skip (.skip (.skip (.skip (.skip (.skip (.skip (.skip (.skip (.skip (.skip (.skip (.skip (.skip (.skip (.skip (.skip (.skip (.nil))))))))))))))))))))))))))))))))))))))))))))))))), rfl, rfl, ?_⟩
      exact ⟨Nat.zero_le _, smallUp_start _ _⟩
    rintro mm tms _ ⟨i, hpat, rfl, rfl, ⟨hi, hN⟩⟩
    obtain ⟨az, rfl⟩ : ∃ az : Nat → Value, tms = [.slice (some ⟨0, 0, none⟩) n c, az 1, az 2, .int .i64 i, az 4, az 5, az 6, az 7, az 8, az 9, az 10, az 11, az 12, az 13, az 14, az 15, az 16, az 17, az 18, az 19, az 20, az 21, az 22, az 23, az 24, az 25, az 26, az 27, az 28, az 29, az 30, az 31, az 32, az 33, az 34, az 35, az 36, az 37, az 38, az 39, az 40, az 41, az 42, az 43, az 44, az 45, az 46, az 47] := pat_fill hpat
    clear hpat
    conv => whnf
    refine br_intro (fun h1 => ?_) (fun h1 => ?_)
    · have h1 : i < n := by
        have := of_decide_eq_true h1
        omega
      obtain ⟨p, hpl, hpm, hrow⟩ := rowsP_get (l := l) (i := i) (by omega)
      rw [← hg] at hrow
      have e7 : IntKind.i64.wrap ((i : Int) + 1) = ((i + 1 : Nat) : Int) := by rw [wrapi64 (by omega) (by omega)]; rfl
      have yes := yes p hpm
      obtain ⟨⟨b1, s1, s2⟩, b2, s3, s4⟩ := p
      obtain ⟨k1, hk1⟩ : ∃ k, k = s1.size := ⟨_, rfl⟩
      obtain ⟨k2, hk2⟩ : ∃ k, k = s2.size := ⟨_, rfl⟩
      obtain ⟨k3, hk3⟩ : ∃ k, k = s3.size := ⟨_, rfl⟩
      obtain ⟨k4, hk4⟩ : ∃ k, k = s4.size := ⟨_, rfl⟩
      have hsz : PV.sz 12 ((b1, s1, s2), b2, s3, s4) ↔ (k1 ≤ 12 ∧ k2 ≤ 12) ∧ k3 ≤ 12 ∧ k4 ≤ 12 := by rw [hk1, hk2, hk3, hk4]; rfl
      rw [hsz] at yes
      conv => whnf
      refine ⟨⟨by omega, by omega⟩, ?_⟩
      simp only [toNat_cast, rowAdd_eq, Nat.zero_add]
      conv => whnf
      refine ⟨by show i < n; omega, ?_⟩
      conv => whnf
      rw [hrow]
      conv => whnf
      rw [← hk1]
      by_cases h2 : 12 < k1
      · rw [show decide (((k1 : Nat) : Int) > 12) = true from decide_eq_true (by omega)]
        exact yes (fun h => by omega)
      · rw [show decide (((k1 : Nat) : Int) > 12) = false from decide_eq_false (by omega)]
        conv => whnf
        refine ⟨⟨by omega, by omega⟩, ?_⟩
        simp only [toNat_cast, rowAdd_eq, Nat.zero_add]
        conv => whnf
        refine ⟨by show i < n; omega, ?_⟩
        conv => whnf
        rw [hrow]
        conv => whnf
        rw [← hk2]
        by_cases h3 : 12 < k2
        · rw [show decide (((k2 : Nat) : Int) > 12) = true from decide_eq_true (by omega)]
          exact yes (fun h => by omega)
        · rw [show decide (((k2 : Nat) : Int) > 12) = false from decide_eq_false (by omega)]
          conv => whnf
          refine ⟨⟨by omega, by omega⟩, ?_⟩
          simp only [toNat_cast, rowAdd_eq, Nat.zero_add]
          conv => whnf
          refine ⟨by show i < n; omega, ?_⟩
          conv => whnf
          rw [hrow]
          conv => whnf
          rw [← hk3]
          by_cases h4 : 12 < k3
          · rw [show decide (((k3 : Nat) : Int) > 12) = true from decide_eq_true (by omega)]
            exact yes (fun h => by omega)
          · rw [show decide (((k3 : Nat) : Int) > 12) = false from decide_eq_false (by omega)]
            conv => whnf
            refine ⟨⟨by omega, by omega⟩, ?_⟩
            simp only [toNat_cast, rowAdd_eq, Nat.zero_add]
            conv => whnf
            refine ⟨by show i < n; omega, ?_⟩
            conv => whnf
            rw [hrow]
            conv => whnf
            rw [← hk4]
            by_cases h5 : 12 < k4
            · rw [show decide (((k4 : Nat) : Int) > 12) = true from decide_eq_true (by omega)]
              exact yes (fun h => by omega)
            · rw [show decide (((k4 : Nat) : Int) > 12) = false from decide_eq_false (by omega)]
              conv => whnf
              rw [e7]
              refine .inr ⟨[0], [0, 3], ?_⟩
              conv => whnf
              intro _
              conv => whnf
              refine ⟨_, ?_, i + 1, (.keep (.skip (.skip (.keep (.skip (.skip (.skip (.skip (.skip (.skip (.skip (.skip (.skip (.skip (.skip (.skip (.skip (.skip (.skip (.skip (.skip (.skip (.skip (.skip (.skip (.skip (.skip (.skip (.skip (.skip (.skip (.skip (.skip (.skip (.skip (.skip (.skip (.skip (.skip (.skip (.skip (.skip (.skip (.skip (.skip (.skip (.skip (.skip (.nil))))))))))))))))))))))))))))))))))))))))))))))))), rfl, rfl, ?_⟩
              · omega
              · exact ⟨by omega, smallUp_step hN hpl (hsz.2 ⟨⟨by omega, by omega⟩, by omega, by omega⟩)⟩
    · have h1 : i = n := by
        have := of_decide_eq_false h1
        omega
      subst h1
      conv => whnf
      exact ⟨.bool false, by rw [show (bigS 12).val (some (l, c)) = .bool false from by show Value.bool (anyBig 12 l) = _; rw [smallUp_end (by rw [← hn]; exact hN)]]; rfl, .refl _⟩
def Epf : Env := { tt := tt, eqs := [], Φ := fun g => match g with
  | 25 => some (.q (bigS 12))
  | _ => none }
theorem Epfok : EnvOk Tryz.prog Epf := ⟨tt_ok, fun t h => by simp [Epf] at h, (fun g S h => by
  simp only [Epf] at h
  split at h
  · cases h; exact big7_ok
  · cases h), fun g F h => by simp [Epf] at h⟩
theorem big7l_ok : QSnd Tryz.prog 6 (bigS 12) := by
  refine qsnd_of Epfok Dok Tryz.func6 (enters_of Tryz.func6 (by kernel_rfl) rfl) ?_ ?_ ?_
  · intro i b hb
    cases i with
    | none => simp [bigS, PL.blks] at hb
    | some i => simp [bigS, PL.blks] at hb; rw [hb]; rfl
  · intro i b hb; simp [bigS] at hb
  intro i hp
  cases i with
  | none =>
    conv => whnf
    refine ⟨none, [], rfl, hp, ?_⟩
    conv => whnf
    exact ⟨.bool false, rfl, .bool false, rfl, .refl _⟩
  | some i =>
    obtain ⟨l, c⟩ := i
    obtain ⟨n, hn⟩ : ∃ n, n = l.length := ⟨_, rfl⟩
    obtain ⟨g, hg⟩ : ∃ g, g = rowsP l := ⟨_, rfl⟩
    obtain ⟨b, hb⟩ : ∃ b, b = anyBig 12 l := ⟨_, rfl⟩
    have e1 : (bigS 12).blks (some (l, c)) = [.flat false n 6 g] := by rw [hn, hg]; rfl
    have e2 : (bigS 12).args (some (l, c)) = [.slice (some ⟨0, 0, none⟩) n c] := by rw [hn]; rfl
    have e3 : (bigS 12).val (some (l, c)) = .bool b := by rw [hb]; rfl
    rw [e1, e2]
    conv => whnf
    refine ⟨some (l, c), [0], by rw [e2]; rfl, hp, ?_⟩
    rw [e1, e3]
    conv => whnf
    refine ⟨list_blk hg, ?_⟩
    conv => whnf
    exact ⟨.bool b, rfl, .bool b, by rw [e3]; rfl, .refl _⟩
end Go.Proofs.YtgakcbdahbagkaaGreat
/- Lists of points: equality; the comparison that sorts directions. -/
set_option linter.unusedVariables false
set_option linter.unusedSimpArgs false
set_option maxRecDepth 20000
set_option maxHeartbeats 2000000
namespace Go.Proofs.YtgakcbdahbagkaaGreat
open Go Go.Ae

def Epg : Env := { tt := tt, eqs := eqsL, Φ := fun g => match g with
  | 19 => some (.p angleS)
  | 32 => some (.p vdotS)
  | 54 => some (.p qcmpS)
  | _ => none }
theorem Epgok : EnvOk Tryz.prog Epg := ⟨tt_ok, eqs_ok, (fun g S h => by
  simp only [Epg] at h
  split at h
  · cases h; exact angle_ok
  · cases h; exact vdot_ok
  · cases h; exact qcmp_ok
  · cases h), fun g F h => by simp [Epg] at h⟩
theorem or_ok : QSnd Tryz.prog 53 orS := by
  refine qsnd_of Epgok Dok Tryz.func53 (enters_of Tryz.func53 (by kernel_rfl) rfl) ?_ ?_ ?_
  · intro i b hb; simp [orS] at hb; rw [hb]; rfl
  · intro i b hb; simp [orS] at hb
  intro ⟨a, b⟩ hp
  obtain ⟨z, hz⟩ : ∃ z, z = if a ≠ 0 then a else b := ⟨_, rfl⟩
  have hv : orS.val (a, b) = .int .i64 z := by rw [hz]; rfl
  conv => whnf
  refine .inr ⟨3, ?_⟩
  conv => whnf
  refine ⟨by decide, ?_⟩
  conv => whnf
  refine ⟨by decide, ?_⟩
  conv => whnf
  by_cases h1 : a = 0
  · subst h1
    rw [if_neg (fun h => h rfl)] at hz
    conv => whnf
    refine ⟨by decide, ?_⟩
    conv => whnf
    refine ⟨by decide, ?_⟩
    conv => whnf
    by_cases h2 : b = 0
    · subst h2
      conv => whnf
      exact ⟨.int .i64 z, by rw [hv]; rfl, by rw [hz]; exact .refl _⟩
    · rw [show ((if rowAdd 0 (IntKind.i64.wrap (0 + 1)).toNat = 0 then (((0 : Int), b) : Int × Int).fst else (((0 : Int), b) : Int × Int).snd) != 0) = true from by show (b != 0) = true; simp [h2]]
      conv => whnf
      exact ⟨.int .i64 z, by rw [hv]; rfl, by rw [hz]; exact .refl _⟩
  · rw [if_pos h1] at hz
    rw [show ((if rowAdd 0 (Int.toNat 0) = 0 then ((a, b) : Int × Int).fst else ((a, b) : Int × Int).snd) != 0) = true from by show (a != 0) = true; simp [h1]]
    conv => whnf
    exact ⟨.int .i64 z, by rw [hv]; rfl, by rw [hz]; exact .refl _⟩
def Eph : Env := { tt := tt, eqs := [], Φ := fun g => match g with
  | 19 => some (.p angleS)
  | 32 => some (.p vdotS)
  | 54 => some (.p qcmpS)
  | 53 => some (.q orS)
  | _ => none }
theorem Ephok : EnvOk Tryz.prog Eph := ⟨tt_ok, fun t h => by simp [Eph] at h, (fun g S h => by
  simp only [Eph] at h
  split at h
  · cases h; exact angle_ok
  · cases h; exact vdot_ok
  · cases h; exact qcmp_ok
  · cases h; exact or_ok
  · cases h), fun g F h => by simp [Eph] at h⟩
theorem cmpV_ok : Snd Tryz.prog 52 cmpPS := by
  refine snd_of Ephok Dok Tryz.func52 (enters_of Tryz.func52 (by kernel_rfl) rfl) (fun _ => rfl) (fun _ => rfl) ?_
  intro ⟨u, v⟩ hp
  have hp : u.sz 1048576 ∧ v.sz 1048576 := hp
  obtain ⟨su, sv⟩ := hp
  have qu := PV.psz su (by decide)
  have qv := PV.psz sv (by decide)
  conv => whnf
  refine .inl ⟨8, [[], [], [0, 1], [], [], [0, 1, 2, 3, 4], [], [], [0, 1, 2, 3, 4, 5, 6, 7], [0, 1, 2, 3, 4, 5, 6, 7, 8], [0, 1, 2, 3, 4, 5, 6, 7, 8, 9], [0, 1, 2, 3, 4, 5, 6, 7, 8, 9, 10], [0, 1, 2, 3, 4, 5, 6, 7, 8, 9, 10, 11]], by kernel_rfl, ?_⟩
  conv => whnf
  obtain ⟨a, ea, pa⟩ := hideZ (angR u.p v.p)
  refine ⟨(u, v), rfl, ⟨PV.sz_mono su (by decide), PV.sz_mono sv (by decide)⟩, ?_⟩
  rw [show angleS.val (u, v) = .int .i64 a from ea]
  conv => whnf
  obtain ⟨x, ex, px, sx, qx⟩ := hideR (dot_sz qu qu)
  refine ⟨(u, u), rfl, ⟨PV.sz_mono su (by decide), PV.sz_mono su (by decide)⟩, ?_⟩
  rw [show vdotS.val (u, u) = x.v from ex]
  conv => whnf
  obtain ⟨y, ey, py, sy, qy⟩ := hideR (dot_sz qv qv)
  refine ⟨(v, v), rfl, ⟨PV.sz_mono sv (by decide), PV.sz_mono sv (by decide)⟩, ?_⟩
  rw [show vdotS.val (v, v) = y.v from ey]
  conv => whnf
  obtain ⟨b, eb, pb⟩ := hideZ (cmpQ x.q y.q)
  refine ⟨(x, y), rfl, ⟨RV.sz_ok sx (by decide), RV.sz_ok sy (by decide)⟩, ?_⟩
  rw [show qcmpS.val (x, y) = .int .i64 b from eb]
  conv => whnf
  obtain ⟨z, hz⟩ : ∃ z, z = if a ≠ 0 then a else b := ⟨_, rfl⟩
  refine ⟨(a, b), [10], rfl, trivial, ?_⟩
  rw [show orS.val (a, b) = .int .i64 z from by rw [hz]; rfl, show orS.blks (a, b) = [.flat false 2 1 (fun r => [.int .i64 (if r = 0 then a else b)])] from rfl, show orS.new (a, b) = none from rfl]
  conv => whnf
  refine ⟨or_blk a b, ?_⟩
  conv => whnf
  refine ⟨.int .i64 z, rfl, ?_⟩
  conv => whnf
  show Value.int .i64 z = Value.int .i64 (cmpV u v)
  rw [hz, pa, pb, px, py]
  rfl
theorem same_ok : QSnd Tryz.prog 18 sameS := by
  refine qsnd_of Epgok Dok Tryz.func18 (enters_of Tryz.func18 (by kernel_rfl) rfl) ?_ ?_ ?_
  · intro ⟨i, j⟩ b hb
    cases i <;> cases j <;> simp [sameS, PL.blks] at hb <;> (try rcases hb with rfl | rfl) <;> (try subst hb) <;> first | rfl | skip
  · intro i b hb; simp [sameS] at hb
  intro ⟨i, j⟩ hp
  have hp : i.list.length ≤ 1099511627776 ∧ j.list.length ≤ 1099511627776 := hp
  obtain ⟨hpi, hpj⟩ := hp
  cases i with
  | none =>
    cases j with
    | none =>
      conv => whnf
      refine .inr ⟨1, ?_⟩
      conv => whnf
      exact ⟨.bool true, rfl, .refl _⟩
    | some j =>
      obtain ⟨m, c⟩ := j
      obtain ⟨n, hn⟩ : ∃ n, n = m.length := ⟨_, rfl⟩
      obtain ⟨g, hg⟩ : ∃ g, g = rowsP m := ⟨_, rfl⟩
      have fin : ∀ b : Bool, b = decide ([] = m) → ∃ v', renV (List.range 1) 3 (sameS.val (none, some (m, c))) = some v' ∧ VLe (.bool b) v' := fun b h => ⟨.bool b, by rw [h]; rfl, .refl _⟩
      rw [show sameS.blks (none, some (m, c)) = [.flat false n 6 g] from by rw [hn, hg]; rfl, show sameS.args (none, some (m, c)) = [.slice none 0 0, .slice (some ⟨0, 0, none⟩) n c] from by rw [hn]; rfl]
      by_cases h0 : n = 0
      · have hm : m = [] := List.length_eq_zero_iff.1 (hn.symm.trans h0)
        subst h0
        conv => whnf
        refine .inr ⟨1, ?_⟩
        conv => whnf
        exact fin true (by rw [hm]; rfl)
      · conv => whnf
        rw [show (((0 : Nat) : Int) != ((n : Nat) : Int)) = true from by simp; omega]
        conv => whnf
        exact fin false (by cases m with | nil => exact absurd hn h0 | cons a m => rfl)
  | some i =>
    obtain ⟨l, c⟩ := i
    obtain ⟨k, hk⟩ : ∃ n, n = l.length := ⟨_, rfl⟩
    obtain ⟨f, hf⟩ : ∃ g, g = rowsP l := ⟨_, rfl⟩
    have hpi : k ≤ 1099511627776 := by rw [hk]; exact hpi
    cases j with
    | none =>
      have fin : ∀ b : Bool, b = decide (l = []) → ∃ v', renV (List.range 1) 3 (sameS.val (some (l, c), none)) = some v' ∧ VLe (.bool b) v' := fun b h => ⟨.bool b, by rw [h]; rfl, .refl _⟩
      rw [show sameS.blks (some (l, c), none) = [.flat false k 6 f] from by rw [hk, hf]; rfl, show sameS.args (some (l, c), none) = [.slice (some ⟨0, 0, none⟩) k c, .slice none 0 0] from by rw [hk]; rfl]
      by_cases h0 : k = 0
      · have hm : l = [] := List.length_eq_zero_iff.1 (hk.symm.trans h0)
        subst h0
        conv => whnf
        refine .inr ⟨1, ?_⟩
        conv => whnf
        exact fin true (by rw [hm]; rfl)
      · conv => whnf
        rw [show (((k : Nat) : Int) != ((0 : Nat) : Int)) = true from by simp; omega]
        conv => whnf
        exact fin false (by cases l with | nil => exact absurd hk h0 | cons a m => rfl)
    | some j =>
      obtain ⟨m, d⟩ := j
      obtain ⟨n, hn⟩ : ∃ n, n = m.length := ⟨_, rfl⟩
      obtain ⟨g, hg⟩ : ∃ g, g = rowsP m := ⟨_, rfl⟩
      have fin : ∀ b : Bool, b = decide (l = m) → ∃ v', renV (List.range 2) 3 (sameS.val (some (l, c), some (m, d))) = some v' ∧ VLe (.bool b) v' := fun b h => ⟨.bool b, by rw [h]; rfl, .refl _⟩
      rw [show sameS.blks (some (l, c), some (m, d)) = [.flat false k 6 f, .flat false n 6 g] from by rw [hk, hf, hn, hg]; rfl, show sameS.args (some (l, c), some (m, d)) = [.slice (some ⟨0, 0, none⟩) k c, .slice (some ⟨1, 0, none⟩) n d] from by rw [hk, hn]; rfl]
      by_cases h0 : k = n
      · obtain rfl := h0
        conv => whnf
        rw [show ((k : Int) != (k : Int)) = false from by simp]
        conv => whnf
        refine .inl ⟨fun mm tz hz => ∃ (i : Nat), Pat [some (.slice (some ⟨0, 0, none⟩) k c), some (.slice (some ⟨1, 0, none⟩) k d), none, none, none, some (.int .i64 i), none, none, none, none, none, none, none, none, none, none, none, none, none, none, none, none, none, none, none, none] tz ∧ hz = [some (.flat false k 6 f), some (.flat false k 6 g)] ∧ k - i = mm ∧ (i ≤ k ∧ eqUp l m i), .inr ⟨[0, 1], [0, 1, 5], ?_⟩, ?_⟩
        · conv => whnf
          intro _
          conv => whnf
          refine ⟨_, 0, (.keep (.keep (.skip (.skip (.skip (.keep (.skip (.skip (.skip (.skip (.skip (.skip (.skip (.skip (.skip (.skip (.skip (.skip (.skip (.skip (.skip (.skip (.skip (.skip (.skip (.skip (.nil))))))))))))))))))))))))))), rfl, rfl, ?_⟩
          exact ⟨Nat.zero_le _, eqUp_start _ _⟩
        rintro mm tms _ ⟨i, hpat, rfl, rfl, ⟨hi, hN⟩⟩
        obtain ⟨az, rfl⟩ : ∃ az : Nat → Value, tms = [.slice (some ⟨0, 0, none⟩) k c, .slice (some ⟨1, 0, none⟩) k d, az 2, az 3, az 4, .int .i64 i, az 6, az 7, az 8, az 9, az 10, az 11, az 12, az 13, az 14, az 15, az 16, az 17, az 18, az 19, az 20, az 21, az 22, az 23, az 24, az 25] := pat_fill hpat
        clear hpat
        conv => whnf
        refine br_intro (fun h1 => ?_) (fun h1 => ?_)
        · have h1 : i < k := by
            have := of_decide_eq_true h1
            omega
          obtain ⟨p, hpl, _, hrow⟩ := rowsP_get (l := l) (i := i) (by omega)
          obtain ⟨q, hql, _, hrow2⟩ := rowsP_get (l := m) (i := i) (by omega)
          rw [← hf] at hrow
          rw [← hg] at hrow2
          have e7 : IntKind.i64.wrap ((i : Int) + 1) = ((i + 1 : Nat) : Int) := by rw [wrapi64 (by omega) (by omega)]; rfl
          conv => whnf
          refine .inl ⟨8, [[], [], [0, 1], [0, 1, 2], [], [], [4, 5], [4, 5, 6], [0, 1, 2, 3, 4, 5, 6, 7]], by kernel_rfl, ?_⟩
          conv => whnf
          refine ⟨⟨by omega, by omega⟩, ?_⟩
          simp only [toNat_cast, rowAdd_eq, Nat.zero_add]
          conv => whnf
          refine ⟨by show i < k; omega, ?_⟩
          conv => whnf
          rw [hrow]
          conv => whnf
          refine ⟨⟨by omega, by omega⟩, ?_⟩
          simp only [toNat_cast, rowAdd_eq, Nat.zero_add]
          conv => whnf
          refine ⟨by show i < k; omega, ?_⟩
          conv => whnf
          rw [hrow2]
          conv => whnf
          rw [eqPQ p q]
          by_cases h2 : p = q
          · rw [decide_eq_true h2]
            conv => whnf
            rw [e7]
            refine .inr ⟨[0, 1], [0, 1, 5], ?_⟩
            conv => whnf
            intro _
            conv => whnf
            refine ⟨_, ?_, i + 1, (.keep (.keep (.skip (.skip (.skip (.keep (.skip (.skip (.skip (.skip (.skip (.skip (.skip (.skip (.skip (.skip (.skip (.skip (.skip (.skip (.skip (.skip (.skip (.skip (.skip (.skip (.nil))))))))))))))))))))))))))), rfl, rfl, ?_⟩
            · omega
            · exact ⟨by omega, eqUp_step hN hpl hql h2⟩
          · rw [decide_eq_false h2]
            conv => whnf
            exact fin false (decide_eq_false (ne_at hpl hql h2)).symm
        · have h1 : i = k := by
            have := of_decide_eq_false h1
            omega
          subst h1
          conv => whnf
          exact fin true (decide_eq_true (eqUp_end (by rw [← hk]; exact hN) (hk.symm.trans hn))).symm
      · conv => whnf
        rw [show ((k : Int) != (n : Int)) = true from by simp; omega]
        conv => whnf
        exact fin false (decide_eq_false (fun e => h0 (by rw [hk, hn, e]))).symm
end Go.Proofs.YtgakcbdahbagkaaGreat
/- slices.Clone of points. -/
set_option linter.unusedVariables false
set_option linter.unusedSimpArgs false
set_option maxRecDepth 20000
set_option maxHeartbeats 4000000
namespace Go.Proofs.YtgakcbdahbagkaaGreat
open Go Go.Ae

def Eld : Env := { tt := tt, eqs := [], Φ := fun g => match g with
  | _ => none }
theorem Eldok : EnvOk Tryz.prog Eld := ⟨tt_ok, fun t h => by simp [Eld] at h, (fun g S h => by
  change none = some S at h
  cases h), fun g F h => by simp [Eld] at h⟩
theorem clone_ok : QSnd Tryz.prog 83 cloneS := by
  refine qsnd_of Eldok Dok Tryz.func83 (enters_of Tryz.func83 (by kernel_rfl) rfl) ?_ ?_ ?_
  · intro i b hb
    cases i with
    | none => simp [cloneS, PL.blks] at hb
    | some i => simp [cloneS, PL.blks] at hb; rw [hb]; rfl
  · intro i b hb
    cases i with
    | none => simp [cloneS] at hb
    | some i => simp [cloneS] at hb; rw [← hb]; rfl
  intro i hp
  cases i with
  | none =>
    conv => whnf
    exact ⟨_, rfl, .refl _⟩
  | some i =>
    obtain ⟨l, c⟩ := i
    have hp : l.length ≤ 1099511627776 := hp
    obtain ⟨n, hn⟩ : ∃ n, n = l.length := ⟨_, rfl⟩
    obtain ⟨g, hg⟩ : ∃ g, g = rowsP l := ⟨_, rfl⟩
    have hs : ∀ r, r < n → allS (g r) = true := fun r hr => by rw [hg]; rfl
    rw [← hn] at hp
    unfold qRes
    rw [show cloneS.new (some (l, c)) = some (.flat true n 6 g) from by rw [hn, hg]; rfl, show cloneS.val (some (l, c)) = .slice (some ⟨1, 0, none⟩) n capU from by rw [hn]; rfl, show cloneS.blks (some (l, c)) = [.flat false n 6 g] from by rw [hn, hg]; rfl, show cloneS.args (some (l, c)) = [.slice (some ⟨0, 0, none⟩) n c] from by rw [hn]; rfl]
    clear hg hn
    conv => whnf
    refine ⟨by omega, ?_⟩
    conv => whnf
    refine br_intro (fun h => ?_) (fun h => ?_)
    · have h : n ≤ 0 := by
        have := Nat.le_of_ble_eq_true h
        have : 0 + n ≤ 0 := this
        omega
      obtain rfl : n = 0 := by omega
      refine ⟨rfl, ?_⟩
      conv => whnf
      refine ⟨1, ?_⟩
      conv => whnf
      exact ⟨⟨rfl, BlkLe.flat_rows (fun h => h) (fun r hr => absurd hr (Nat.not_lt_zero r)) (fun r hr => absurd hr (Nat.not_lt_zero r))⟩, .slice (some ⟨2 - 1, 0, none⟩) 0 capU, rfl, .cap _ _ _ rfl⟩
    · refine ⟨⟨Nat.le_refl _, Nat.le_trans (Nat.mul_le_mul_right _ (show 0 + n ≤ 1099511627776 by omega)) (by decide)⟩, ?_⟩
      conv => whnf
      rw [show (0 + (Src.fl n fun j => g (rowAdd 0 j)).m) = n from Nat.zero_add n, show 0 + n = n from Nat.zero_add n]
      refine ⟨2, ?_⟩
      conv => whnf
      exact ⟨⟨rfl, BlkLe.flat_rows (fun h => h) (fun r hr => by rw [appGet_hi (Nat.zero_le _)]; simp [rowAdd_eq]) hs⟩, _, rfl, .refl _⟩
end Go.Proofs.YtgakcbdahbagkaaGreat
/- Directions sorted. -/
set_option linter.unusedVariables false
set_option linter.unusedSimpArgs false
set_option maxRecDepth 20000
set_option maxHeartbeats 4000000
namespace Go.Proofs.YtgakcbdahbagkaaGreat
open Go Go.Ae

def Epi : Env := { tt := tt, eqs := [], Φ := fun g => match g with
  | 52 => some (.p cmpPS)
  | _ => none }
theorem Epiok : EnvOk Tryz.prog Epi := ⟨tt_ok, fun t h => by simp [Epi] at h, (fun g S h => by
  simp only [Epi] at h
  split at h
  · cases h; exact cmpV_ok
  · cases h), fun g F h => by simp [Epi] at h⟩
theorem insS_ok : FTOk Tryz.prog 128 (wFT (insSS 52)) := by
  refine wft_of Epiok Dok Tryz.func128 (enters_of Tryz.func128 (by kernel_rfl) rfl) ?_
  intro ⟨l, c⟩ hp
  have hp : l.length ≤ 12 ∧ ∀ p ∈ l, PV.sz 1048576 p := hp
  obtain ⟨hp, hsz⟩ := hp
  obtain ⟨n, hn⟩ : ∃ n, n = l.length := ⟨_, rfl⟩
  obtain ⟨g, hg⟩ : ∃ g, g = rowsP l := ⟨_, rfl⟩
  have hb : (insSS 52).blks (l, c) = [.flat true n 6 g] := by rw [hn, hg]; rfl
  have hpo : (insSS 52).post (l, c) = [.flat true n 6 (rowsP (sortL cmpV l))] := by rw [hn]; rfl
  rw [hb, show (insSS 52).args (l, c) = [.slice (some ⟨0, 0, none⟩) n c, .int .i64 0, .int .i64 n, .func (.func 52) #[] #[]] from by rw [hn]; rfl]
  rw [← hn] at hp
  conv => whnf
  refine .inl ⟨fun mm tz hz => ∃ (i : Nat) (f : Nat → List Value), Pat [some (.slice (some ⟨0, 0, none⟩) n c), some (.int .i64 0), some (.int .i64 n), some (.func (.func 52) #[] #[]), none, none, none, none, some (.int .i64 i), none, none, none, none, none, none, none, none, none, none, none, none, none, none, none, none, none, none, none, none, none, none, none, none, none, none, none, none, none, none, none, none, none, none, none, none, none, none, none, none, none, none, none, none] tz ∧ hz = [some (.flat true n 6 f)] ∧ n + 1 - i = mm ∧ ((1 ≤ i ∧ i ≤ n + 1) ∧ ∀ r, r < n → f r = rowsP (partL cmpV l i) r), .inr ⟨[0], [0, 1, 2, 3, 8], ?_⟩, ?_⟩
  · conv => whnf
    intro _
    conv => whnf
    refine ⟨_, 1, g, (.keep (.keep (.keep (.keep (.skip (.skip (.skip (.skip (.keep (.skip (.skip (.skip (.skip (.skip (.skip (.skip (.skip (.skip (.skip (.skip (.skip (.skip (.skip (.skip (.skip (.skip (.skip (.skip (.skip (.skip (.skip (.skip (.skip (.skip (.skip (.skip (.skip (.skip (.skip (.skip (.skip (.skip (.skip (.skip (.skip (.skip (.skip (.skip (.skip (.skip (.skip (.skip (.skip (.nil)))))))))))))))))))))))))))))))))))))))))))))))))))))), rfl, rfl, ?_⟩
    exact ⟨⟨Nat.le_refl _, by omega⟩, fun r hr => by rw [partL_one cmpV l (Nat.le_refl 1), hg]⟩
  rintro mm tms _ ⟨i, f, hpat, rfl, rfl, ⟨⟨hi1, hi2⟩, hF⟩⟩
  obtain ⟨az, rfl⟩ : ∃ az : Nat → Value, tms = [.slice (some ⟨0, 0, none⟩) n c, .int .i64 0, .int .i64 n, .func (.func 52) #[] #[], az 4, az 5, az 6, az 7, .int .i64 i, az 9, az 10, az 11, az 12, az 13, az 14, az 15, az 16, az 17, az 18, az 19, az 20, az 21, az 22, az 23, az 24, az 25, az 26, az 27, az 28, az 29, az 30, az 31, az 32, az 33, az 34, az 35, az 36, az 37, az 38, az 39, az 40, az 41, az 42, az 43, az 44, az 45, az 46, az 47, az 48, az 49, az 50, az 51, az 52] := pat_fill hpat
  clear hpat
  conv => whnf
  refine br_intro (fun h1 => ?_) (fun h1 => ?_)
  · have h1 : i < n := by
      have := of_decide_eq_true h1
      omega
    obtain ⟨x, hx⟩ : ∃ x, l[i]? = some x := ⟨_, List.getElem?_eq_getElem (by omega)⟩
    have hxm : x ∈ l := List.mem_of_getElem? hx
    have sx := hsz x hxm
    conv => whnf
    refine .inl ⟨fun mm tz hz => ∃ (j : Nat) (r : List PV) (B : List PV) (f2 : Nat → List Value), Pat [some (.slice (some ⟨0, 0, none⟩) n c), some (.int .i64 0), some (.int .i64 n), some (.func (.func 52) #[] #[]), none, none, none, none, some (.int .i64 i), some (.int .i64 j), none, none, none, none, none, none, none, none, none, none, none, none, none, none, none, none, none, none, none, none, none, none, none, none, none, none, none, none, none, none, none, none, none, none, none, none, none, none, none, none, none, none, none] tz ∧ hz = [some (.flat true n 6 f2)] ∧ j = mm ∧ (∃ L, Mid cmpV l i j x r B L ∧ ∀ q, q < n → f2 q = rowsP L q), .inr ⟨[0], [0, 1, 2, 3, 8, 9], ?_⟩, ?_⟩
    · conv => whnf
      intro _
      conv => whnf
      refine ⟨_, i, srtB cmpV (l.take i), [], f, (.keep (.keep (.keep (.keep (.skip (.skip (.skip (.skip (.keep (.keep (.skip (.skip (.skip (.skip (.skip (.skip (.skip (.skip (.skip (.skip (.skip (.skip (.skip (.skip (.skip (.skip (.skip (.skip (.skip (.skip (.skip (.skip (.skip (.skip (.skip (.skip (.skip (.skip (.skip (.skip (.skip (.skip (.skip (.skip (.skip (.skip (.skip (.skip (.skip (.skip (.skip (.skip (.skip (.nil)))))))))))))))))))))))))))))))))))))))))))))))))))))), rfl, rfl, ?_⟩
      exact ⟨_, Mid.start hx, hF⟩
    rintro mm tms _ ⟨j, r, B, f2, hpat, rfl, rfl, ⟨L, hM, hF2⟩⟩
    obtain ⟨az, rfl⟩ : ∃ az : Nat → Value, tms = [.slice (some ⟨0, 0, none⟩) n c, .int .i64 0, .int .i64 n, .func (.func 52) #[] #[], az 4, az 5, az 6, az 7, .int .i64 i, .int .i64 j, az 10, az 11, az 12, az 13, az 14, az 15, az 16, az 17, az 18, az 19, az 20, az 21, az 22, az 23, az 24, az 25, az 26, az 27, az 28, az 29, az 30, az 31, az 32, az 33, az 34, az 35, az 36, az 37, az 38, az 39, az 40, az 41, az 42, az 43, az 44, az 45, az 46, az 47, az 48, az 49, az 50, az 51, az 52] := pat_fill hpat
    clear hpat
    conv => whnf
    refine .inl ⟨14, [[], [], [0, 1], [0, 1, 2], [0, 1, 2, 3], [0, 1, 2, 3], [0, 1, 2, 3], [0, 1, 2, 3, 5, 6], [0, 1, 2, 3, 5, 6, 7], [0, 1, 2, 3], [0, 1, 2, 3], [0, 1, 2, 3, 10], [0, 1, 2, 3, 9, 10, 11], [0, 1, 2, 3, 9, 10, 11, 12], [0, 1, 2, 3, 4, 5, 6, 7, 8, 9, 10, 11, 12, 13], [0, 1, 2, 3, 4, 5, 6, 7, 8, 9, 10, 11, 12, 13, 14], [0, 1, 2, 3, 4, 5, 6, 7, 8, 9, 10, 11, 12, 13, 14, 15]], by kernel_rfl, ?_⟩
    conv => whnf
    cases r with
    | nil =>
      obtain rfl : j = 0 := hM.len.symm
      rw [show decide (((0 : Nat) : Int) > 0) = false from rfl]
      conv => whnf
      rw [show IntKind.i64.wrap ((i : Int) + 1) = ((i + 1 : Nat) : Int) from by rw [wrapi64 (by omega) (by omega)]; rfl]
      refine .inr ⟨[0], [0, 1, 2, 3, 8], ?_⟩
      conv => whnf
      intro _
      conv => whnf
      refine ⟨_, ?_, i + 1, _, (.keep (.keep (.keep (.keep (.skip (.skip (.skip (.skip (.keep (.skip (.skip (.skip (.skip (.skip (.skip (.skip (.skip (.skip (.skip (.skip (.skip (.skip (.skip (.skip (.skip (.skip (.skip (.skip (.skip (.skip (.skip (.skip (.skip (.skip (.skip (.skip (.skip (.skip (.skip (.skip (.skip (.skip (.skip (.skip (.skip (.skip (.skip (.skip (.skip (.skip (.skip (.skip (.skip (.nil)))))))))))))))))))))))))))))))))))))))))))))))))))))), rfl, rfl, ?_⟩
      · omega
      · exact ⟨⟨by omega, by omega⟩, fun q hq => by rw [hF2 q hq, hM.done rfl]⟩
    | cons y r =>
      obtain ⟨k, hk⟩ : ∃ k, j = k + 1 := ⟨r.length, hM.len.symm⟩
      have hlen : r.length = k := by have := hM.len; simp at this; omega
      have hjn : j ≤ i := by
        have := congrArg List.length hM.acc
        rw [srtB_length, List.length_take, List.length_append, List.length_cons] at this
        omega
      have hall : L = r.reverse ++ y :: x :: (B.reverse ++ l.drop (i + 1)) := by rw [hM.all]; simp
      have rx : f2 j = x.cells := by rw [hF2 j (by omega), rowsP_at (A := r.reverse ++ [y]) (p := x) (R := B.reverse ++ l.drop (i + 1)) (by rw [hall]; simp) (by simp; omega)]
      have ry : f2 k = y.cells := by rw [hF2 k (by omega), rowsP_at (A := r.reverse) hall (by simp; omega)]
      have hym : y ∈ l := by
        have : y ∈ srtB cmpV (l.take i) := by rw [hM.acc]; simp
        exact List.mem_of_mem_take ((srtB_perm cmpV _).mem_iff.1 this)
      have sy := hsz y hym
      rw [show decide (((j : Nat) : Int) > 0) = true from decide_eq_true (by omega)]
      conv => whnf
      refine ⟨⟨by omega, by omega⟩, ?_⟩
      simp only [toNat_cast, rowAdd_eq, Nat.zero_add]
      conv => whnf
      refine ⟨by show j < n; omega, ?_⟩
      conv => whnf
      rw [rx]
      conv => whnf
      have ek : IntKind.i64.wrap ((j : Int) - 1) = (k : Int) := by rw [wrapi64 (by omega) (by omega)]; omega
      rw [ek]
      refine ⟨⟨by omega, by omega⟩, ?_⟩
      simp only [toNat_cast, rowAdd_eq, Nat.zero_add]
      conv => whnf
      refine ⟨by show k < n; omega, ?_⟩
      conv => whnf
      rw [ry]
      conv => whnf
      obtain ⟨z, hz⟩ : ∃ z, z = cmpV x y := ⟨_, rfl⟩
      refine ⟨(x, y), rfl, ⟨sx, sy⟩, ?_⟩
      rw [show cmpPS.val (x, y) = .int .i64 z from by rw [hz]; rfl]
      conv => whnf
      refine br_intro (fun h2 => ?_) (fun h2 => ?_)
      · have h2 : cmpV x y < 0 := by rw [← hz]; exact of_decide_eq_true h2
        conv => whnf
        refine .inr (.inr ⟨15, 1, [[], [], [], [], [3], [], [], [6], [5, 6, 7], [5, 6, 7, 8], [], [], [10, 11], [10, 11, 12], [0, 1, 5, 6, 7, 8, 9, 10, 11, 12, 13], [0, 1, 5, 6, 7, 8, 9, 10, 11, 12, 13, 14], [0, 1, 2, 3, 4, 5, 6, 7, 8, 9, 10, 11, 12, 13, 14, 15], [0, 1, 2, 3, 4, 5, 6, 7, 8, 9, 10, 11, 12, 13, 14, 15, 16]], [2, 3, 4], by kernel_rfl, ?_⟩)
        conv => whnf
        rw [ek]
        refine ⟨⟨by omega, by omega⟩, ?_⟩
        simp only [toNat_cast, rowAdd_eq, Nat.zero_add]
        conv => whnf
        refine ⟨by show k < n; omega, ?_⟩
        conv => whnf
        rw [ry]
        conv => whnf
        refine ⟨⟨by omega, by omega⟩, ?_⟩
        simp only [toNat_cast, rowAdd_eq, Nat.zero_add]
        conv => whnf
        refine ⟨by show j < n; omega, ?_⟩
        conv => whnf
        rw [rx]
        conv => whnf
        refine ⟨⟨by omega, by omega⟩, ?_⟩
        simp only [toNat_cast, rowAdd_eq, Nat.zero_add]
        conv => whnf
        refine ⟨by show j < n; omega, ?_⟩
        conv => whnf
        rw [rx]
        conv => whnf
        refine ⟨⟨by omega, by omega⟩, ?_⟩
        simp only [toNat_cast, rowAdd_eq, Nat.zero_add]
        conv => whnf
        refine ⟨by show k < n; omega, ?_⟩
        conv => whnf
        show putK (if k = j then _ else f2 k) _ _ _
        rw [if_neg (show ¬ k = j by omega), ry]
        conv => whnf
        rw [ek]
        refine .inr ⟨[0], [0, 1, 2, 3, 8, 9], ?_⟩
        conv => whnf
        intro _
        conv => whnf
        refine ⟨_, ?_, k, r, B ++ [y], _, (.keep (.keep (.keep (.keep (.skip (.skip (.skip (.skip (.keep (.keep (.skip (.skip (.skip (.skip (.skip (.skip (.skip (.skip (.skip (.skip (.skip (.skip (.skip (.skip (.skip (.skip (.skip (.skip (.skip (.skip (.skip (.skip (.skip (.skip (.skip (.skip (.skip (.skip (.skip (.skip (.skip (.skip (.skip (.skip (.skip (.skip (.skip (.skip (.skip (.skip (.skip (.skip (.skip (.nil)))))))))))))))))))))))))))))))))))))))))))))))))))))), rfl, rfl, ?_⟩
        · omega
        · exact ⟨_, by have := hM.step h2; rw [show j - 1 = k from by omega] at this; exact this, rows_swap (f := f2) (A := r.reverse) (R := B.reverse ++ l.drop (i + 1)) (j := j) (by simp; omega) (fun q hq => by rw [hF2 q hq, hall]) (fun q => by rw [show j - 1 = k from by omega]; rfl)⟩
      · have h2 : ¬ cmpV x y < 0 := by rw [← hz]; exact of_decide_eq_false h2
        conv => whnf
        rw [show IntKind.i64.wrap ((i : Int) + 1) = ((i + 1 : Nat) : Int) from by rw [wrapi64 (by omega) (by omega)]; rfl]
        refine .inr ⟨[0], [0, 1, 2, 3, 8], ?_⟩
        conv => whnf
        intro _
        conv => whnf
        refine ⟨_, ?_, i + 1, _, (.keep (.keep (.keep (.keep (.skip (.skip (.skip (.skip (.keep (.skip (.skip (.skip (.skip (.skip (.skip (.skip (.skip (.skip (.skip (.skip (.skip (.skip (.skip (.skip (.skip (.skip (.skip (.skip (.skip (.skip (.skip (.skip (.skip (.skip (.skip (.skip (.skip (.skip (.skip (.skip (.skip (.skip (.skip (.skip (.skip (.skip (.skip (.skip (.skip (.skip (.skip (.skip (.skip (.nil)))))))))))))))))))))))))))))))))))))))))))))))))))))), rfl, rfl, ?_⟩
        · omega
        · exact ⟨⟨by omega, by omega⟩, fun q hq => by rw [hF2 q hq, hM.done (ins_stop h2)]⟩
  · have h1 : n ≤ i := by
      have := of_decide_eq_false h1
      omega
    conv => whnf
    exact wres_w1 hb hpo rfl rfl (fun r hr => by rw [hF r hr, partL_end cmpV (by omega)]) (fun r hr => rfl)
def Ep0W : FuncId → Option FT := fun g => match g with
  | 128 => some (wFT (insSS 52))
  | _ => none
def Ep0 : Env := { tt := tt, eqs := [], Ψ := Ep0W, Φ := fun g => match g with
  | 52 => some (.p cmpPS)
  | _ => none }
theorem Ep0ok : EnvOk Tryz.prog Ep0 := ⟨tt_ok, fun t h => by simp [Ep0] at h, (fun g S h => by
  simp only [Ep0] at h
  split at h
  · cases h; exact cmpV_ok
  · cases h), (fun g F h => by
  simp only [Ep0, Ep0W] at h
  split at h
  · cases h; exact insS_ok
  · cases h)⟩
theorem stab_ok : FTOk Tryz.prog 116 (wFT (stabS 52)) := by
  refine wft_of Ep0ok Dok Tryz.func116 (enters_of Tryz.func116 (by kernel_rfl) rfl) ?_
  intro ⟨l, c⟩ hp
  have hp : l.length ≤ 12 ∧ ∀ p ∈ l, PV.sz 1048576 p := hp
  obtain ⟨hp, hsz⟩ := hp
  obtain ⟨n, hn⟩ : ∃ n, n = l.length := ⟨_, rfl⟩
  obtain ⟨g, hg⟩ : ∃ g, g = rowsP l := ⟨_, rfl⟩
  obtain ⟨gs, hgs⟩ : ∃ g, g = rowsP (sortL cmpV l) := ⟨_, rfl⟩
  have hb : (stabS 52).blks (l, c) = [.flat true n 6 g] := by rw [hn, hg]; rfl
  have hpo : (stabS 52).post (l, c) = [.flat true n 6 gs] := by rw [hn, hgs]; rfl
  have ib : (insSS 52).blks (l, c) = [.flat true n 6 g] := hb
  have ip : (insSS 52).post (l, c) = [.flat true n 6 gs] := hpo
  have ia : (insSS 52).args (l, c) = [.slice (some ⟨0, 0, none⟩) n c, .int .i64 0, .int .i64 n, .func (.func 52) #[] #[]] := by rw [hn]; rfl
  rw [hb, show (stabS 52).args (l, c) = [.slice (some ⟨0, 0, none⟩) n c, .int .i64 n, .func (.func 52) #[] #[]] from by rw [hn]; rfl]
  rw [← hn] at hp
  conv => whnf
  refine .inr ⟨1, ?_⟩
  conv => whnf
  rw [show decide ((20 : Int) ≤ ((n : Nat) : Int)) = false from decide_eq_false (by omega)]
  conv => whnf
  refine ⟨(l, c), [0], by rw [ia]; rfl, ⟨by rw [← hn]; exact hp, hsz⟩, by decide, ?_⟩
  rw [ib, ip, show (insSS 52).val (l, c) = .tuple ⟨[]⟩ from rfl, show (insSS 52).new (l, c) = [] from rfl]
  conv => whnf
  refine ⟨BlkLe.flat_flat (fun h => h) (fun r hr => by rw [hg]; rfl), ?_⟩
  conv => whnf
  refine ⟨_, rfl, ?_⟩
  conv => whnf
  refine .inr ⟨1, ?_⟩
  conv => whnf
  rw [show decide ((20 : Int) < ((n : Nat) : Int)) = false from decide_eq_false (by omega)]
  conv => whnf
  exact wres_w1 hb hpo rfl rfl (fun r hr => rfl) (fun r hr => by rw [hgs]; rfl)
def Ep1W : FuncId → Option FT := fun g => match g with
  | 116 => some (wFT (stabS 52))
  | _ => none
def Ep1 : Env := { tt := tt, eqs := [], Ψ := Ep1W, Φ := fun g => match g with
  | _ => none }
theorem Ep1ok : EnvOk Tryz.prog Ep1 := ⟨tt_ok, fun t h => by simp [Ep1] at h, (fun g S h => by
  change none = some S at h
  cases h), (fun g F h => by
  simp only [Ep1, Ep1W] at h
  split at h
  · cases h; exact stab_ok
  · cases h)⟩
theorem sortS_ok : FTOk Tryz.prog 84 (wFT (sortSS 52)) := by
  refine wft_of Ep1ok Dok Tryz.func84 (enters_of Tryz.func84 (by kernel_rfl) rfl) ?_
  intro ⟨l, c⟩ hp
  have hp : l.length ≤ 12 ∧ ∀ p ∈ l, PV.sz 1048576 p := hp
  obtain ⟨n, hn⟩ : ∃ n, n = l.length := ⟨_, rfl⟩
  obtain ⟨g, hg⟩ : ∃ g, g = rowsP l := ⟨_, rfl⟩
  obtain ⟨gs, hgs⟩ : ∃ g, g = rowsP (sortL cmpV l) := ⟨_, rfl⟩
  have hb : (sortSS 52).blks (l, c) = [.flat true n 6 g] := by rw [hn, hg]; rfl
  have hpo : (sortSS 52).post (l, c) = [.flat true n 6 gs] := by rw [hn, hgs]; rfl
  have ib : (stabS 52).blks (l, c) = [.flat true n 6 g] := hb
  have ip : (stabS 52).post (l, c) = [.flat true n 6 gs] := hpo
  have ia : (stabS 52).args (l, c) = [.slice (some ⟨0, 0, none⟩) n c, .int .i64 n, .func (.func 52) #[] #[]] := by rw [hn]; rfl
  rw [hb, show (sortSS 52).args (l, c) = [.slice (some ⟨0, 0, none⟩) n c, .func (.func 52) #[] #[]] from by rw [hn]; rfl]
  conv => whnf
  refine ⟨(l, c), [0], by rw [ia]; rfl, hp, by decide, ?_⟩
  rw [ib, ip, show (stabS 52).val (l, c) = .tuple ⟨[]⟩ from rfl, show (stabS 52).new (l, c) = [] from rfl]
  conv => whnf
  refine ⟨BlkLe.flat_flat (fun h => h) (fun r hr => by rw [hg]; rfl), ?_⟩
  conv => whnf
  refine ⟨_, rfl, ?_⟩
  conv => whnf
  exact wres_w1 hb hpo rfl rfl (fun r hr => rfl) (fun r hr => by rw [hgs]; rfl)
def Ep2W : FuncId → Option FT := fun g => match g with
  | 84 => some (wFT (sortSS 52))
  | _ => none
def Ep2 : Env := { tt := tt, eqs := [], Ψ := Ep2W, Φ := fun g => match g with
  | 83 => some (.q cloneS)
  | _ => none }
theorem Ep2ok : EnvOk Tryz.prog Ep2 := ⟨tt_ok, fun t h => by simp [Ep2] at h, (fun g S h => by
  simp only [Ep2] at h
  split at h
  · cases h; exact clone_ok
  · cases h), (fun g F h => by
  simp only [Ep2, Ep2W] at h
  split at h
  · cases h; exact sortS_ok
  · cases h)⟩
theorem sorted_ok : QSnd Tryz.prog 51 (sortedS 52) := by
  refine qsnd_of Ep2ok Dok Tryz.func51 (enters_of Tryz.func51 (by kernel_rfl) rfl) ?_ ?_ ?_
  · intro i b hb; simp [sortedS] at hb; rw [hb]; rfl
  · intro i b hb; simp [sortedS] at hb; rw [← hb]; rfl
  intro ⟨l, c⟩ hp
  have hp : l.length ≤ 12 ∧ ∀ p ∈ l, PV.sz 1048576 p := hp
  obtain ⟨n, hn⟩ : ∃ n, n = l.length := ⟨_, rfl⟩
  obtain ⟨g, hg⟩ : ∃ g, g = rowsP l := ⟨_, rfl⟩
  obtain ⟨gs, hgs⟩ : ∃ g, g = rowsP (sortL cmpV l) := ⟨_, rfl⟩
  obtain ⟨cu, hcu⟩ : ∃ cu, cu = capU := ⟨_, rfl⟩
  unfold qRes
  rw [show (sortedS 52).blks (l, c) = [.flat false n 6 g] from by rw [hn, hg]; rfl, show (sortedS 52).args (l, c) = [.slice (some ⟨0, 0, none⟩) n c, .func (.func 52) #[] #[]] from by rw [hn]; rfl, show (sortedS 52).val (l, c) = .slice (some ⟨1, 0, none⟩) n cu from by rw [hn, hcu]; rfl, show (sortedS 52).new (l, c) = some (.flat true n 6 gs) from by rw [hn, hgs]; rfl]
  have ib : (sortSS 52).blks (l, cu) = [.flat true n 6 g] := by rw [hn, hg]; rfl
  have ip : (sortSS 52).post (l, cu) = [.flat true n 6 gs] := by rw [hn, hgs]; rfl
  have ia : (sortSS 52).args (l, cu) = [.slice (some ⟨0, 0, none⟩) n cu, .func (.func 52) #[] #[]] := by rw [hn]; rfl
  conv => whnf
  refine ⟨some (l, c), [0], by rw [show cloneS.args (some (l, c)) = [.slice (some ⟨0, 0, none⟩) n c] from by rw [hn]; rfl]; rfl, by show l.length ≤ 1099511627776; omega, ?_⟩
  rw [show cloneS.blks (some (l, c)) = [.flat false n 6 g] from by rw [hn, hg]; rfl, show cloneS.val (some (l, c)) = .slice (some ⟨1, 0, none⟩) n cu from by rw [hn, hcu]; rfl, show cloneS.new (some (l, c)) = some (.flat true n 6 g) from by rw [hn, hg]; rfl]
  conv => whnf
  refine ⟨list_blk hg, ?_⟩
  conv => whnf
  refine ⟨_, rfl, ?_⟩
  conv => whnf
  refine ⟨(l, cu), [1], by rw [ia]; rfl, hp, by decide, ?_⟩
  rw [ib, ip, show (sortSS 52).val (l, cu) = .tuple ⟨[]⟩ from rfl, show (sortSS 52).new (l, cu) = [] from rfl]
  conv => whnf
  refine ⟨BlkLe.flat_flat (fun h => h) (fun r hr => by rw [hg]; rfl), ?_⟩
  conv => whnf
  refine ⟨_, rfl, ?_⟩
  conv => whnf
  refine ⟨1, ?_⟩
  conv => whnf
  exact ⟨⟨rfl, BlkLe.flat_flat (fun h => h) (fun r hr => by rw [hgs]; rfl)⟩, _, rfl, .refl _⟩
def Ep3 : Env := { tt := tt, eqs := [], Φ := fun g => match g with
  | 51 => some (.q (sortedS 52))
  | 35 => some (.p vaddS)
  | _ => none }
theorem Ep3ok : EnvOk Tryz.prog Ep3 := ⟨tt_ok, fun t h => by simp [Ep3] at h, (fun g S h => by
  simp only [Ep3] at h
  split at h
  · cases h; exact sorted_ok
  · cases h; exact vadd_ok
  · cases h), fun g F h => by simp [Ep3] at h⟩
theorem predSort_ok : QSnd Tryz.prog 16 predSortS := by
  refine qsnd_of Ep3ok Dok Tryz.func16 (enters_of Tryz.func16 (by kernel_rfl) rfl) ?_ ?_ ?_
  · intro i b hb
    cases i with
    | none => simp [predSortS, PL.blks] at hb
    | some i => simp [predSortS, PL.blks] at hb; rw [hb]; rfl
  · intro i b hb
    have hb : (if 1000 < i.list.length then none else some (Blk.flat true i.list.length 6 (rowsP (sortR i.list)))) = some b := hb
    split at hb
    · cases hb
    · rw [← Option.some.inj hb]; rfl
  intro i hp
  have hp : (i.list.length ≤ 12 ∨ 1000 < i.list.length) ∧ i.list.length ≤ 1099511627776 ∧ ∀ p ∈ i.list, p.sz 524288 := hp
  obtain ⟨hp1, hp2, hsz⟩ := hp
  obtain ⟨cu, hcu⟩ : ∃ cu, cu = capU := ⟨_, rfl⟩
  cases i with
  | none =>
    obtain ⟨gz, hgz⟩ : ∃ gz, gz = rowsP (sortL cmpV []) := ⟨_, rfl⟩
    unfold qRes
    rw [show predSortS.blks none = [] from rfl, show predSortS.val none = .tuple ⟨[.slice (some ⟨0, 0, none⟩) 0 cu, .int .i64 0]⟩ from by rw [hcu]; rfl, show predSortS.new none = some (.flat true 0 6 gz) from by rw [hgz]; rfl]
    conv => whnf
    refine ⟨⟨by decide, by decide, by decide⟩, ?_⟩
    conv => whnf
    refine .inr ⟨1, ?_⟩
    conv => whnf
    refine ⟨([], 0), [0], rfl, ⟨by decide, fun p hp => (by cases hp)⟩, ?_⟩
    rw [show (sortedS 52).blks ([], 0) = [.flat false 0 6 (rowsP [])] from rfl, show (sortedS 52).val ([], 0) = .slice (some ⟨1, 0, none⟩) 0 cu from by rw [hcu]; rfl, show (sortedS 52).new ([], 0) = some (.flat true 0 6 gz) from by rw [hgz]; rfl]
    conv => whnf
    refine ⟨BlkLe.flat_rows (fun h => by cases h) (fun r hr => absurd hr (Nat.not_lt_zero r)) (fun r hr => absurd hr (Nat.not_lt_zero r)), ?_⟩
    conv => whnf
    refine ⟨_, rfl, ?_⟩
    conv => whnf
    refine ⟨1, ?_⟩
    conv => whnf
    exact ⟨⟨rfl, BlkLe.flat_flat (fun h => h) (fun r hr => by rw [hgz]; rfl)⟩, _, rfl, .refl _⟩
  | some i =>
    obtain ⟨l, c⟩ := i
    obtain ⟨n, hn⟩ : ∃ n, n = l.length := ⟨_, rfl⟩
    obtain ⟨g, hg⟩ : ∃ g, g = rowsP l := ⟨_, rfl⟩
    obtain ⟨gs, hgs⟩ : ∃ g, g = rowsP (sortR l) := ⟨_, rfl⟩
    have hp1 : n ≤ 12 ∨ 1000 < n := by rw [hn]; exact hp1
    have hp2 : n ≤ 1099511627776 := by rw [hn]; exact hp2
    have hsz : ∀ p ∈ l, p.sz 524288 := hsz
    have eb : predSortS.blks (some (l, c)) = [.flat false n 6 g] := by rw [hn, hg]; rfl
    have ea : predSortS.args (some (l, c)) = [.slice (some ⟨0, 0, none⟩) n c] := by rw [hn]; rfl
    unfold qRes
    by_cases h1 : 1000 < n
    · rw [eb, ea, show predSortS.val (some (l, c)) = .tuple ⟨[.slice none 0 0, .int .i64 4]⟩ from by
        show (if 1000 < l.length then _ else _) = _
        rw [if_pos (by omega)], show predSortS.new (some (l, c)) = none from by
        show (if 1000 < l.length then _ else _) = _
        rw [if_pos (by omega)]]
      conv => whnf
      rw [show decide (((n : Nat) : Int) > 1000) = true from decide_eq_true (by omega)]
      conv => whnf
      exact ⟨_, rfl, .refl _⟩
    · rw [eb, ea, show predSortS.val (some (l, c)) = .tuple ⟨[.slice (some ⟨1, 0, none⟩) n cu, .int .i64 0]⟩ from by
        show (if 1000 < l.length then _ else _) = _
        rw [if_neg (by omega), hn, hcu]; rfl, show predSortS.new (some (l, c)) = some (.flat true n 6 gs) from by
        show (if 1000 < l.length then _ else _) = _
        rw [if_neg (by omega), hn, hgs]; rfl]
      conv => whnf
      rw [show decide (((n : Nat) : Int) > 1000) = false from decide_eq_false (by omega)]
      conv => whnf
      refine ⟨⟨by omega, by omega, by show ((n : Nat) : Int) * ((80 : Nat) : Int) ≤ _; omega⟩, ?_⟩
      conv => whnf
      refine .inl ⟨fun mm tz hz => ∃ (i : Nat) (f : Nat → List Value), Pat [none, none, none, none, some (.slice (some ⟨1, 0, none⟩) n n), none, none, none, none, none, none, none, none, some (.slice (some ⟨0, 0, none⟩) n c), some (.int .i64 n), some (.int .i64 i), none, none, none, none, none, none, none, none, none, none, none, none, none] tz ∧ hz = [some (.flat false n 6 g), some (.flat true n 6 f)] ∧ n - i = mm ∧ (i ≤ n ∧ ∀ r, r < n → f r = if r < i then rowsP (l.map canonP) r else PV.cells (zeroR, zeroR)), .inr ⟨[0, 1], [4, 13, 14, 15], ?_⟩, ?_⟩
      · conv => whnf
        intro _
        conv => whnf
        refine ⟨_, 0, _, (.skip (.skip (.skip (.skip (.keep (.skip (.skip (.skip (.skip (.skip (.skip (.skip (.skip (.keep (.keep (.keep (.skip (.skip (.skip (.skip (.skip (.skip (.skip (.skip (.skip (.skip (.skip (.skip (.skip (.nil)))))))))))))))))))))))))))))), rfl, rfl, ?_⟩
        exact ⟨Nat.zero_le _, fun r hr => by rw [if_neg (by omega)]; rfl⟩
      rintro mm tms _ ⟨i, f, hpat, rfl, rfl, ⟨hi, hF⟩⟩
      obtain ⟨az, rfl⟩ : ∃ az : Nat → Value, tms = [az 0, az 1, az 2, az 3, .slice (some ⟨1, 0, none⟩) n n, az 5, az 6, az 7, az 8, az 9, az 10, az 11, az 12, .slice (some ⟨0, 0, none⟩) n c, .int .i64 n, .int .i64 i, az 16, az 17, az 18, az 19, az 20, az 21, az 22, az 23, az 24, az 25, az 26, az 27, az 28] := pat_fill hpat
      clear hpat
      conv => whnf
      refine br_intro (fun h3 => ?_) (fun h3 => ?_)
      · have h3 : i < n := by
          have := of_decide_eq_true h3
          omega
        obtain ⟨p, hpl, hpm, hrow⟩ := rowsP_get (l := l) (i := i) (by omega)
        rw [← hg] at hrow
        have sp := hsz p hpm
        have hfi : f i = PV.cells (zeroR, zeroR) := by rw [hF i h3, if_neg (by omega)]
        have hci : rowsP (l.map canonP) i = (canonP p).cells := by
          unfold rowsP
          rw [List.getD_eq_getElem?_getD, List.getElem?_map, hpl]; rfl
        obtain ⟨q, hq⟩ : ∃ q, q = canonP p := ⟨_, rfl⟩
        have eq : vaddS.val (p, (zeroR, zeroR)) = q.v := by rw [hq, add_val, add_zeroP]; rfl
        rw [← hq] at hci
        have e7 : IntKind.i64.wrap ((i : Int) + 1) = ((i + 1 : Nat) : Int) := by rw [wrapi64 (by omega) (by omega)]; rfl
        conv => whnf
        refine ⟨⟨by omega, by omega⟩, ?_⟩
        simp only [toNat_cast, rowAdd_eq, Nat.zero_add]
        conv => whnf
        refine ⟨by show i < n; omega, ?_⟩
        conv => whnf
        rw [hrow]
        conv => whnf
        refine ⟨(p, (zeroR, zeroR)), rfl, ⟨PV.sz_mono sp (by decide), zeroR_sz _, zeroR_sz _⟩, ?_⟩
        rw [eq]
        conv => whnf
        refine ⟨⟨by omega, by omega⟩, ?_⟩
        simp only [toNat_cast, rowAdd_eq, Nat.zero_add]
        conv => whnf
        refine ⟨by show i < n; omega, ?_⟩
        conv => whnf
        rw [hfi]
        conv => whnf
        rw [e7]
        refine .inr ⟨[0, 1], [4, 13, 14, 15], ?_⟩
        conv => whnf
        intro _
        conv => whnf
        refine ⟨_, ?_, i + 1, _, (.skip (.skip (.skip (.skip (.keep (.skip (.skip (.skip (.skip (.skip (.skip (.skip (.skip (.keep (.keep (.keep (.skip (.skip (.skip (.skip (.skip (.skip (.skip (.skip (.skip (.skip (.skip (.skip (.skip (.nil)))))))))))))))))))))))))))))), rfl, rfl, ?_⟩
        · omega
        · refine ⟨by omega, fun r hr => ?_⟩
          show (if r = i then q.cells else f r) = _
          by_cases h4 : r = i
          · rw [if_pos h4, if_pos (by omega), h4, hci]
          · rw [if_neg h4, hF r hr]
            by_cases h5 : r < i
            · rw [if_pos h5, if_pos (by omega)]
            · rw [if_neg h5, if_neg (by omega)]
      · have h3 : i = n := by
          have := of_decide_eq_false h3
          omega
        subst h3
        have hln : (l.map canonP).length = i := by rw [List.length_map, ← hn]
        have hcs : ∀ p ∈ l.map canonP, PV.sz 1048576 p := fun p hp => by
          obtain ⟨q, hq, rfl⟩ := List.mem_map.1 hp
          exact ptV_sz (PV.psz (hsz q hq) (by decide)) (by decide)
        conv => whnf
        refine ⟨(l.map canonP, i), [1], by rw [show (sortedS 52).args (l.map canonP, i) = [.slice (some ⟨0, 0, none⟩) i i, .func (.func 52) #[] #[]] from by rw [← hln]; rfl]; rfl, ⟨by show (l.map canonP).length ≤ 12; omega, hcs⟩, ?_⟩
        rw [show (sortedS 52).blks (l.map canonP, i) = [.flat false i 6 (rowsP (l.map canonP))] from by rw [← hln]; rfl, show (sortedS 52).val (l.map canonP, i) = .slice (some ⟨1, 0, none⟩) i cu from by rw [hcu, ← hln]; rfl, show (sortedS 52).new (l.map canonP, i) = some (.flat true i 6 gs) from by rw [hgs, ← hln]; rfl]
        conv => whnf
        refine ⟨BlkLe.flat_rows (fun h => by cases h) (fun r hr => by rw [hF r hr, if_pos hr]) (fun r hr => rfl), ?_⟩
        conv => whnf
        refine ⟨_, rfl, ?_⟩
        conv => whnf
        refine ⟨2, ?_⟩
        conv => whnf
        exact ⟨⟨rfl, BlkLe.flat_flat (fun h => h) (fun r hr => by rw [hgs]; rfl)⟩, _, rfl, .refl _⟩
end Go.Proofs.YtgakcbdahbagkaaGreat
