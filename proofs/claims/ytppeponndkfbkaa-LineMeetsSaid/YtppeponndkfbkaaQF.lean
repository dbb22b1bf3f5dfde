import Derived.Test.YtppeponndkfbkaaQE
/- Contracts of bigint: division by one limb, shifts. -/
set_option linter.unusedVariables false
set_option linter.unusedSimpArgs false
set_option maxRecDepth 20000
namespace Go.Proofs.Ytppeponndkfbkaa
open Go Go.Ae

def Ef : Env := { tt := tt, eqs := [], Φ := fun g => match g with
  | 106 => some (.q trimS)
  | 120 => some (.p div32S)
  | _ => none }
theorem Efok : EnvOk Try.prog Ef := ⟨tt_ok, fun t h => by simp [Ef] at h, (fun g S h => by
  simp only [Ef] at h
  split at h
  · cases h; exact trim_ok
  · cases h; exact div32_ok
  · cases h), fun g F h => by simp [Ef] at h⟩

theorem short_ok : QSnd Try.prog 115 shortS := by
  refine qsnd_of Efok Dok Try.func115 (enters_of Try.func115 (by kernel_rfl) rfl) ?_ ?_ ?_
  · intro i b hb; simp [shortS, newB] at hb; rcases hb with rfl | rfl <;> rfl
  · intro i b hb; simp [shortS] at hb; rw [← hb]; rfl
  intro ⟨A, ca, d⟩ hp
  have hp : nl A ≤ 137438953472 ∧ 0 < d ∧ d < 4294967296 := hp
  conv => whnf
  refine ⟨⟨by omega, by omega, by show ((nl A : Nat) : Int) * ((4 : Nat) : Int) ≤ _; omega⟩, ?_⟩
  simp only [toNat_cast, limbRow_zero]
  conv => whnf
  refine .inl ⟨fun mm tz hz => ∃ (i : Nat) (rem : Nat) (Y : Nat), Pat [some (.slice (some ⟨0, 0, none⟩) (nl A) ca), some (.int .u32 d), none, none, none, none, some (.slice (some ⟨1, 0, none⟩) (nl A) (nl A)), some (.int .u32 rem), some (.int .i64 (IntKind.i64.wrap ((i : Int) - 1))), none, none, none, none, none, none, none, none, none, none, none, none, none, none, none, none, none, none, none, none, none, none, none, none, none, none] tz ∧ hz = [some (.flat false (nl A) 1 (limbRow A)), some (.flat true (nl A) 1 (limbRow Y))] ∧ i = mm ∧ (i ≤ nl A ∧ rem = A / B ^ i % d ∧ Y = A / B ^ i / d * B ^ i), .inl ⟨_, nl A, 0, 0, (.keep (.keep (.skip (.skip (.skip (.skip (.keep (.keep (.keep (.skip (.skip (.skip (.skip (.skip (.skip (.skip (.skip (.skip (.skip (.skip (.skip (.skip (.skip (.skip (.skip (.skip (.skip (.skip (.skip (.skip (.skip (.skip (.skip (.skip (.skip (.nil)))))))))))))))))))))))))))))))))))), rfl, rfl, ?_⟩, ?_⟩
  · have h := Nat.div_eq_of_lt (lt_nl A)
    exact ⟨Nat.le_refl _, by rw [h]; simp, by rw [h]; simp⟩
  rintro mm tms _ ⟨i, rem, Y, hpat, rfl, rfl, ⟨hi, hr, hY⟩⟩
  obtain ⟨az, rfl⟩ : ∃ az : Nat → Value, tms = [.slice (some ⟨0, 0, none⟩) (nl A) ca, .int .u32 d, az 2, az 3, az 4, az 5, .slice (some ⟨1, 0, none⟩) (nl A) (nl A), .int .u32 rem, .int .i64 (IntKind.i64.wrap ((i : Int) - 1)), az 9, az 10, az 11, az 12, az 13, az 14, az 15, az 16, az 17, az 18, az 19, az 20, az 21, az 22, az 23, az 24, az 25, az 26, az 27, az 28, az 29, az 30, az 31, az 32, az 33, az 34] := pat_fill hpat
  clear hpat
  conv => whnf
  refine br_intro (fun h1 => ?_) (fun h1 => ?_)
  · have h1 : 0 < i := by
      rcases Nat.eq_zero_or_pos i with h | h
      · subst h; revert h1; decide
      · exact h
    obtain ⟨i, rfl⟩ : ∃ i', i = i' + 1 := ⟨i - 1, by omega⟩
    have ei : IntKind.i64.wrap (((i + 1 : Nat) : Int) - 1) = ((i : Nat) : Int) := by rw [wrapi64 (by omega) (by omega)]; omega
    simp only [ei]
    have hl := limb_lt A i
    have hrd : rem < d := by rw [hr]; exact Nat.mod_lt _ hp.2.1
    obtain ⟨t, ht⟩ : ∃ t, t = rem * B + limb A i := ⟨_, rfl⟩
    have ht' := ht
    rw [hr] at ht'
    have hst := short_step hp.2.1 ht'
    have hse := short_set hp.2.1 ht'
    have hlt := short_lt hp.2.1 ht'
    conv => whnf
    refine ⟨⟨by omega, by omega⟩, ?_⟩
    try simp (disch := omega) only [wrapi64, wrapu64, wrapu32, wrapu8, shr_u64_32, shr_u64_31, shl_u64_32, shl_i64_8, shr_i64_8, shr_u32_8, shr_u32_16, shr_u32_24, or_word', or_byte', toNat_cast, rowAdd_eq, Nat.zero_add, capSub_zero, toNat_0, toNat_1, Nat.sub_zero, sub1c, add1c, subc, addc, tdiv4, tmod4, cast_mul8, mul8c]
    conv => whnf
    refine ⟨by show i < nl A; omega, ?_⟩
    conv => whnf
    refine ⟨(rem, limb A i, d), rfl, ⟨hrd, hl, hp.2.2⟩, ?_⟩
    have ht2 : rem * 4294967296 + limb A i = t := ht.symm
    simp only [div32S, ht2]
    conv => whnf
    refine ⟨⟨by omega, by omega⟩, ?_⟩
    try simp (disch := omega) only [wrapi64, wrapu64, wrapu32, wrapu8, shr_u64_32, shr_u64_31, shl_u64_32, shl_i64_8, shr_i64_8, shr_u32_8, shr_u32_16, shr_u32_24, or_word', or_byte', toNat_cast, rowAdd_eq, Nat.zero_add, capSub_zero, toNat_0, toNat_1, Nat.sub_zero, sub1c, add1c, subc, addc, tdiv4, tmod4, cast_mul8, mul8c]
    conv => whnf
    refine ⟨by show i < nl A; omega, ?_⟩
    conv => whnf
    rw [limbRow_set hlt]
    refine .inl ⟨_, ?_, i, t % d, setLimb Y i (t / d), (.keep (.keep (.skip (.skip (.skip (.skip (.keep (.keep (.keep (.skip (.skip (.skip (.skip (.skip (.skip (.skip (.skip (.skip (.skip (.skip (.skip (.skip (.skip (.skip (.skip (.skip (.skip (.skip (.skip (.skip (.skip (.skip (.skip (.skip (.skip (.nil)))))))))))))))))))))))))))))))))))), rfl, rfl, ?_⟩
    · omega
    · exact ⟨by omega, hst.1.symm, by rw [hY]; exact hse⟩
  · have h1 : i = 0 := by
      rcases Nat.eq_zero_or_pos i with h | h
      · exact h
      · have e : IntKind.i64.wrap ((i : Int) - 1) = ((i - 1 : Nat) : Int) := by rw [wrapi64 (by omega) (by omega)]; omega
        rw [e] at h1
        exact absurd h1 (by simp)
    subst h1
    rw [Nat.pow_zero, Nat.div_one] at hr hY
    rw [Nat.mul_one] at hY
    subst hr hY
    have hlt : A / d < B ^ nl A := Nat.lt_of_le_of_lt (Nat.div_le_self _ _) (lt_nl A)
    have hle := nl_le hlt
    conv => whnf
    refine ⟨some (nl A, A / d, nl A), [1], rfl, ⟨hlt, by omega⟩, ?_⟩
    conv => whnf
    refine ⟨BlkLe.flat_flat (fun h => by cases h) (fun r hr => rfl), ?_⟩
    conv => whnf
    refine ⟨_, rfl, ?_⟩
    conv => whnf
    refine ⟨1, ?_⟩
    conv => whnf
    refine ⟨⟨rfl, ⟨(fun h => ⟨rfl, rfl⟩), rfl, Nat.le_refl _, fun _ _ => rfl, fun r hr v hv => allS_spec (l := limbRow (A / d) r) rfl v hv⟩⟩, _, rfl, ?_⟩
    exact .two (.cap _ _ _ rfl) (.refl _)

theorem shift_ok : QSnd Try.prog 117 shiftS := by
  refine qsnd_of Efok Dok Try.func117 (enters_of Try.func117 (by kernel_rfl) rfl) ?_ ?_ ?_
  · intro i b hb; simp [shiftS, newB] at hb; rcases hb with rfl | rfl <;> rfl
  · intro i b hb; simp [shiftS] at hb; rw [← hb]; rfl
  intro ⟨A, ca, s⟩ hp
  have hp : nl A ≤ 137438953472 ∧ s ≤ 31 := hp
  conv => whnf
  have e1 : IntKind.i64.wrap (((nl A : Nat) : Int) + 1) = ((nl A + 1 : Nat) : Int) := by rw [wrapi64 (by omega) (by omega)]; rfl
  simp only [e1]
  refine ⟨⟨by omega, by omega, by show ((nl A + 1 : Nat) : Int) * ((4 : Nat) : Int) ≤ _; omega⟩, ?_⟩
  simp only [toNat_cast, limbRow_zero]
  conv => whnf
  refine .inl ⟨fun mm tz hz => ∃ (i : Nat) (Y : Nat), Pat [some (.slice (some ⟨0, 0, none⟩) (nl A) ca), some (.int .i64 s), none, none, none, some (.slice (some ⟨1, 0, none⟩) (nl A + 1) (nl A + 1)), none, none, none, none, none, none, none, some (.slice (some ⟨0, 0, none⟩) (nl A) ca), some (.int .i64 (nl A)), some (.int .i64 i), none, none, none, none, none, none, none, none, none, none, none, none, none, none, none, none, none, none, none, none, none, none, none, none, none] tz ∧ hz = [some (.flat false (nl A) 1 (limbRow A)), some (.flat true (nl A + 1) 1 (limbRow Y))] ∧ nl A - i = mm ∧ (i ≤ nl A ∧ Y = A % B ^ i * 2 ^ s), .inl ⟨_, 0, 0, (.keep (.keep (.skip (.skip (.skip (.keep (.skip (.skip (.skip (.skip (.skip (.skip (.skip (.keep (.keep (.keep (.skip (.skip (.skip (.skip (.skip (.skip (.skip (.skip (.skip (.skip (.skip (.skip (.skip (.skip (.skip (.skip (.skip (.skip (.skip (.skip (.skip (.skip (.skip (.skip (.skip (.nil)))))))))))))))))))))))))))))))))))))))))), rfl, rfl, ?_⟩, ?_⟩
  · exact ⟨Nat.zero_le _, by simp [Nat.mod_one]⟩
  rintro mm tms _ ⟨i, Y, hpat, rfl, rfl, ⟨hi, hY⟩⟩
  obtain ⟨az, rfl⟩ : ∃ az : Nat → Value, tms = [.slice (some ⟨0, 0, none⟩) (nl A) ca, .int .i64 s, az 2, az 3, az 4, .slice (some ⟨1, 0, none⟩) (nl A + 1) (nl A + 1), az 6, az 7, az 8, az 9, az 10, az 11, az 12, .slice (some ⟨0, 0, none⟩) (nl A) ca, .int .i64 (nl A), .int .i64 i, az 16, az 17, az 18, az 19, az 20, az 21, az 22, az 23, az 24, az 25, az 26, az 27, az 28, az 29, az 30, az 31, az 32, az 33, az 34, az 35, az 36, az 37, az 38, az 39, az 40] := pat_fill hpat
  clear hpat
  conv => whnf
  refine br_intro (fun h1 => ?_) (fun h1 => ?_)
  · have h1 : i < nl A := by simpa using h1
    have hl := limb_lt A i
    have hu : limb Y i < 2 ^ s := by rw [hY]; exact shift_limb
    have hor := or_u32 (l := limb A i) hp.2 hu
    have horl := or_lt (l := limb A i) hp.2 hu
    have hst := shift_step (A := A) (i := i) hp.2
    rw [← hY] at hst
    have h2 := two_le_B hp.2
    have hvB : limb A i * 2 ^ s / B < B := by
      refine (Nat.div_lt_iff_lt_mul (by decide)).2 ?_
      exact Nat.mul_lt_mul_of_lt_of_le hl (by show _ ≤ 4294967296; omega) (by decide)
    conv => whnf
    refine ⟨⟨by omega, by omega⟩, ?_⟩
    try simp (disch := omega) only [wrapi64, wrapu64, wrapu32, wrapu8, shr_u64_32, shr_u64_31, shl_u64_32, shl_i64_8, shr_i64_8, shr_u32_8, shr_u32_16, shr_u32_24, or_word', or_byte', toNat_cast, rowAdd_eq, Nat.zero_add, capSub_zero, toNat_0, toNat_1, Nat.sub_zero, sub1c, add1c, subc, addc, tdiv4, tmod4, cast_mul8, mul8c]
    conv => whnf
    refine ⟨by show i < nl A; omega, ?_⟩
    conv => whnf
    have hl64 : IntKind.u64.wrap ((limb A i : Nat) : Int) = ((limb A i : Nat) : Int) := wrapu64 (by omega) (by have : B = 4294967296 := rfl; omega)
    have hv := shl_u64 hp.2 hl
    have hvm : limb A i * 2 ^ s / B % B = limb A i * 2 ^ s / B := Nat.mod_eq_of_lt hvB
    have e3 : IntKind.i64.wrap (((i : Nat) : Int) + 1) = ((i + 1 : Nat) : Int) := by rw [wrapi64 (by omega) (by omega)]; rfl
    simp only [toNat_cast, hl64, hv]
    refine ⟨⟨by omega, by omega⟩, ?_⟩
    simp only [toNat_cast, rowAdd_eq, Nat.zero_add]
    conv => whnf
    refine ⟨by show i < nl A + 1; omega, ?_⟩
    conv => whnf
    simp only [u32_mod, hor, e3, shr_u64_32, div_B, hvm]
    refine ⟨⟨by omega, by omega⟩, ?_⟩
    simp only [toNat_cast, rowAdd_eq, Nat.zero_add]
    conv => whnf
    refine ⟨by show i < nl A + 1; omega, ?_⟩
    conv => whnf
    rw [limbRow_set horl]
    simp only [e3, shr_u64_32, div_B, u32_mod, hvm]
    refine ⟨⟨by omega, by omega⟩, ?_⟩
    simp only [toNat_cast, rowAdd_eq, Nat.zero_add]
    conv => whnf
    refine ⟨by show i + 1 < nl A + 1; omega, ?_⟩
    conv => whnf
    rw [limbRow_set hvB, hst]
    simp only [e3]
    refine .inl ⟨_, ?_, i + 1, A % B ^ (i + 1) * 2 ^ s, (.keep (.keep (.skip (.skip (.skip (.keep (.skip (.skip (.skip (.skip (.skip (.skip (.skip (.keep (.keep (.keep (.skip (.skip (.skip (.skip (.skip (.skip (.skip (.skip (.skip (.skip (.skip (.skip (.skip (.skip (.skip (.skip (.skip (.skip (.skip (.skip (.skip (.skip (.skip (.skip (.skip (.nil)))))))))))))))))))))))))))))))))))))))))), rfl, rfl, ?_⟩
    · omega
    · exact ⟨by omega, rfl⟩
  · have h1 : i = nl A := by
      have h1 : ¬ i < nl A := by simpa using h1
      omega
    subst h1
    rw [Nat.mod_eq_of_lt (lt_nl A)] at hY
    subst hY
    conv => whnf
    refine ⟨1, ?_⟩
    conv => whnf
    refine ⟨⟨rfl, ⟨(fun h => ⟨rfl, rfl⟩), rfl, Nat.le_refl _, fun _ _ => rfl, fun r hr v hv => allS_spec (l := limbRow (A * 2 ^ s) r) rfl v hv⟩⟩, _, rfl, ?_⟩
    exact .refl _

theorem unshift_ok : QSnd Try.prog 119 unshiftS := by
  refine qsnd_of Efok Dok Try.func119 (enters_of Try.func119 (by kernel_rfl) rfl) ?_ ?_ ?_
  · intro i b hb; simp [unshiftS, newB] at hb; rcases hb with rfl | rfl <;> rfl
  · intro i b hb; simp [unshiftS] at hb; rw [← hb]; rfl
  intro ⟨A, ca, s⟩ hp
  have hp : nl A ≤ 137438953472 ∧ s ≤ 31 := hp
  conv => whnf
  refine ⟨⟨by omega, by omega, by show ((nl A : Nat) : Int) * ((4 : Nat) : Int) ≤ _; omega⟩, ?_⟩
  simp only [toNat_cast, limbRow_zero]
  conv => whnf
  refine .inl ⟨fun mm tz hz => ∃ (i : Nat) (Y : Nat), Pat [some (.slice (some ⟨0, 0, none⟩) (nl A) ca), some (.int .i64 s), none, none, none, some (.slice (some ⟨1, 0, none⟩) (nl A) (nl A)), none, none, none, none, none, none, some (.int .i64 (nl A)), some (.int .i64 i), none, none, none, none, none, none, none, none, none, none, none, none, none, none, none, none, none, none, none, none, none, none, none, none, none, none, none, none, none, none, none] tz ∧ hz = [some (.flat false (nl A) 1 (limbRow A)), some (.flat true (nl A) 1 (limbRow Y))] ∧ nl A - i = mm ∧ (i ≤ nl A ∧ Y = A / 2 ^ s % B ^ i), .inl ⟨_, 0, 0, (.keep (.keep (.skip (.skip (.skip (.keep (.skip (.skip (.skip (.skip (.skip (.skip (.keep (.keep (.skip (.skip (.skip (.skip (.skip (.skip (.skip (.skip (.skip (.skip (.skip (.skip (.skip (.skip (.skip (.skip (.skip (.skip (.skip (.skip (.skip (.skip (.skip (.skip (.skip (.skip (.skip (.skip (.skip (.skip (.skip (.nil)))))))))))))))))))))))))))))))))))))))))))))), rfl, rfl, ?_⟩, ?_⟩
  · exact ⟨Nat.zero_le _, by simp [Nat.mod_one]⟩
  rintro mm tms _ ⟨i, Y, hpat, rfl, rfl, ⟨hi, hY⟩⟩
  obtain ⟨az, rfl⟩ : ∃ az : Nat → Value, tms = [.slice (some ⟨0, 0, none⟩) (nl A) ca, .int .i64 s, az 2, az 3, az 4, .slice (some ⟨1, 0, none⟩) (nl A) (nl A), az 6, az 7, az 8, az 9, az 10, az 11, .int .i64 (nl A), .int .i64 i, az 14, az 15, az 16, az 17, az 18, az 19, az 20, az 21, az 22, az 23, az 24, az 25, az 26, az 27, az 28, az 29, az 30, az 31, az 32, az 33, az 34, az 35, az 36, az 37, az 38, az 39, az 40, az 41, az 42, az 43, az 44] := pat_fill hpat
  clear hpat
  conv => whnf
  refine br_intro (fun h1 => ?_) (fun h1 => ?_)
  · have h1 : i < nl A := by simpa using h1
    have hl := limb_lt A i
    have hl2 : limb A (i + 1) < B := limb_lt A (i + 1)
    have e3 : IntKind.i64.wrap (((i : Nat) : Int) + 1) = ((i + 1 : Nat) : Int) := by rw [wrapi64 (by omega) (by omega)]; rfl
    have hl64 : IntKind.u64.wrap ((limb A i : Nat) : Int) = ((limb A i : Nat) : Int) := wrapu64 (by omega) (by have : B = 4294967296 := rfl; omega)
    have hl65 : IntKind.u64.wrap ((limb A (i + 1) : Nat) : Int) = ((limb A (i + 1) : Nat) : Int) := wrapu64 (by omega) (by have : B = 4294967296 := rfl; omega)
    have hd := unshift_limb (A := A) (i := i) hp.2
    have hY2 : setLimb Y i (limb (A / 2 ^ s) i) = A / 2 ^ s % B ^ (i + 1) := by
      rw [mod_succ, ← hY]
      exact setLimb_new (by rw [hY]; exact Nat.mod_lt _ (Bpos i))
    conv => whnf
    refine ⟨⟨by omega, by omega⟩, ?_⟩
    try simp (disch := omega) only [wrapi64, wrapu64, wrapu32, wrapu8, shr_u64_32, shr_u64_31, shl_u64_32, shl_i64_8, shr_i64_8, shr_u32_8, shr_u32_16, shr_u32_24, or_word', or_byte', toNat_cast, rowAdd_eq, Nat.zero_add, capSub_zero, toNat_0, toNat_1, Nat.sub_zero, sub1c, add1c, subc, addc, tdiv4, tmod4, cast_mul8, mul8c]
    conv => whnf
    refine ⟨by show i < nl A; omega, ?_⟩
    conv => whnf
    simp only [e3, hl64]
    refine br_intro (fun h2 => ?_) (fun h2 => ?_)
    · have h2 : i + 1 < nl A := by
        have h2 := of_decide_eq_true h2
        omega
      conv => whnf
      simp only [e3]
      refine ⟨⟨by omega, by omega⟩, ?_⟩
      simp only [toNat_cast, rowAdd_eq, Nat.zero_add]
      conv => whnf
      refine ⟨by show i + 1 < nl A; omega, ?_⟩
      conv => whnf
      have hsl : IntKind.u64.wrap (((limb A (i + 1) : Nat) : Int) * 4294967296) = ((limb A (i + 1) : Nat) : Int) * 4294967296 := wrapu64 (by omega) (by have : B = 4294967296 := rfl; omega)
      simp only [hl65, shl_u64_32, hsl, or_word2 hl2 hl]
      simp only [shr_u64 hp.2, toNat_cast, u32_mod]
      refine ⟨⟨by omega, by omega⟩, ?_⟩
      simp only [toNat_cast, rowAdd_eq, Nat.zero_add]
      conv => whnf
      refine ⟨by show i < nl A; omega, ?_⟩
      conv => whnf
      simp only [e3, ← hd]
      rw [limbRow_set (limb_lt (A / 2 ^ s) i), hY2]
      refine .inl ⟨_, ?_, i + 1, A / 2 ^ s % B ^ (i + 1), (.keep (.keep (.skip (.skip (.skip (.keep (.skip (.skip (.skip (.skip (.skip (.skip (.keep (.keep (.skip (.skip (.skip (.skip (.skip (.skip (.skip (.skip (.skip (.skip (.skip (.skip (.skip (.skip (.skip (.skip (.skip (.skip (.skip (.skip (.skip (.skip (.skip (.skip (.skip (.skip (.skip (.skip (.skip (.skip (.skip (.nil)))))))))))))))))))))))))))))))))))))))))))))), rfl, rfl, ?_⟩
      · omega
      · exact ⟨by omega, rfl⟩
    · have h2 : nl A ≤ i + 1 := by
        have h2 := of_decide_eq_false h2
        omega
      have h0 := limb_top (lt_nl A) h2
      rw [h0, Nat.zero_mul, Nat.add_zero] at hd
      conv => whnf
      simp only [shr_u64 hp.2, toNat_cast, u32_mod]
      refine ⟨⟨by omega, by omega⟩, ?_⟩
      simp only [toNat_cast, rowAdd_eq, Nat.zero_add]
      conv => whnf
      refine ⟨by show i < nl A; omega, ?_⟩
      conv => whnf
      simp only [e3, ← hd]
      rw [limbRow_set (limb_lt (A / 2 ^ s) i), hY2]
      refine .inl ⟨_, ?_, i + 1, A / 2 ^ s % B ^ (i + 1), (.keep (.keep (.skip (.skip (.skip (.keep (.skip (.skip (.skip (.skip (.skip (.skip (.keep (.keep (.skip (.skip (.skip (.skip (.skip (.skip (.skip (.skip (.skip (.skip (.skip (.skip (.skip (.skip (.skip (.skip (.skip (.skip (.skip (.skip (.skip (.skip (.skip (.skip (.skip (.skip (.skip (.skip (.skip (.skip (.skip (.nil)))))))))))))))))))))))))))))))))))))))))))))), rfl, rfl, ?_⟩
      · omega
      · exact ⟨by omega, rfl⟩
  · have h1 : i = nl A := by
      have h1 : ¬ i < nl A := by simpa using h1
      omega
    subst h1
    have hlt : A / 2 ^ s < B ^ nl A := Nat.lt_of_le_of_lt (Nat.div_le_self _ _) (lt_nl A)
    have hle := nl_le hlt
    rw [Nat.mod_eq_of_lt hlt] at hY
    subst hY
    conv => whnf
    refine ⟨some (nl A, A / 2 ^ s, nl A), [1], rfl, ⟨hlt, by omega⟩, ?_⟩
    conv => whnf
    refine ⟨BlkLe.flat_flat (fun h => by cases h) (fun r hr => rfl), ?_⟩
    conv => whnf
    refine ⟨_, rfl, ?_⟩
    conv => whnf
    refine ⟨1, ?_⟩
    conv => whnf
    refine ⟨⟨rfl, ⟨(fun h => ⟨rfl, rfl⟩), rfl, Nat.le_refl _, fun _ _ => rfl, fun r hr v hv => allS_spec (l := limbRow (A / 2 ^ s) r) rfl v hv⟩⟩, _, rfl, ?_⟩
    exact .cap _ _ _ rfl
end Go.Proofs.Ytppeponndkfbkaa
