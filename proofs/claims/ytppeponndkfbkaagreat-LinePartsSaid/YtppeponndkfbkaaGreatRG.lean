import Derived.Test.YtppeponndkfbkaaGreatRF
set_option linter.unusedVariables false
set_option linter.unusedSimpArgs false
/- Contracts of bigint: division by one limb, shifts. -/
set_option maxRecDepth 20000
namespace Go.Proofs.YtppeponndkfbkaaGreat
open Go Go.Ae
def Ef : Env := { tt := tt, eqs := [], Φ := fun g => match g with
 | 145 => some (.q trimS)
 | 171 => some (.p div32S)
 | _ => none }
theorem Efok : EnvOk Tryz.prog Ef := ⟨tt_ok, fun t h => by simp [Ef] at h, (fun g S h => by
 simp only [Ef] at h
 split at h
 ·cases h; exact trim_ok
 ·cases h; exact div32_ok
 ·cases h), fun g F h => by simp [Ef] at h⟩
theorem short_ok : QSnd Tryz.prog 165 shortS := by
 refine qsnd_of Efok Dok Tryz.func165 (enters_of Tryz.func165 (by kernel_rfl) rfl) ?_ ?_ ?_
 ·intro i b hb; simp [shortS, newB] at hb; rcases hb with rfl | rfl <;> rfl
 ·intro i b hb; simp [shortS] at hb; rw [← hb]; rfl
 intro ⟨A, ca, d⟩ hp
 have hp : nl A ≤ 137438953472 ∧ 0 < d ∧ d < 4294967296 := hp
 conv => whnf
 refine ⟨⟨by omega, by omega, by show ((nl A : Nat) : Int) * ((4 : Nat) : Int) ≤ _; omega⟩, ?_⟩
 simp only [toNat_cast, limbRow_zero]
 conv => whnf
 refine .inl ⟨fun mm tz hz => ∃ (i : Nat) (rem : Nat) (Y : Nat), Pat [some (.slice (some ⟨0, 0, none⟩) (nl A) ca), some (.int .u32 d), none, none, none, none, some (.slice (some ⟨1, 0, none⟩) (nl A) (nl A)), some (.int .u32 rem), some (.int .i64 (IntKind.i64.wrap ((i : Int) - 1))), none, none, none, none, none, none, none, none, none, none, none, none, none, none, none, none, none, none, none, none, none, none, none, none, none, none] tz ∧ hz = [some (.flat false (nl A) 1 (limbRow A)), some (.flat true (nl A) 1 (limbRow Y))] ∧ i = mm ∧ (i ≤ nl A ∧ rem = A / B ^ i % d ∧ Y = A / B ^ i / d * B ^ i), .inl ⟨_, nl A, 0, 0, (.keep (.keep (.skip (.skip (.skip (.skip (.keep (.keep (.keep (.s8 (.s8 (.s8 (.skip (.skip (.nil))))))))))))))), rfl, rfl, ?_⟩, ?_⟩
 ·have h := Nat.div_eq_of_lt (lt_nl A)
  exact ⟨Nat.le_refl _, by rw [h]; simp, by rw [h]; simp⟩
 rintro mm tms _ ⟨i, rem, Y, hpat, rfl, rfl, ⟨hi, hr, hY⟩⟩
 obtain ⟨az, rfl⟩ : ∃ az : Nat → Value, tms = [.slice (some ⟨0, 0, none⟩) (nl A) ca, .int .u32 d, az 2, az 3, az 4, az 5, .slice (some ⟨1, 0, none⟩) (nl A) (nl A), .int .u32 rem, .int .i64 (IntKind.i64.wrap ((i : Int) - 1)), az 9, az 10, az 11, az 12, az 13, az 14, az 15, az 16, az 17, az 18, az 19, az 20, az 21, az 22, az 23, az 24, az 25, az 26, az 27, az 28, az 29, az 30, az 31, az 32, az 33, az 34] := pat_fill hpat
 clear hpat
 conv => whnf
 refine br_intro (fun h1 => ?_) (fun h1 => ?_)
 ·have h1 : 0 < i := by
   rcases Nat.eq_zero_or_pos i with h | h
   ·subst h; revert h1; decide
   ·exact h
  obtain ⟨i, rfl⟩ : ∃ i', i = i' + 1 := ⟨i - 1, by omega⟩
  have ei : IntKind.i64.wrap (((i + 1 : Nat) : Int) - 1) = ((i : Nat) : Int) := by rw [wrapi64 (by omega) (by omega)]; omega
  simp only [ei]
  have hl := limb_lt A i
  have hrd : rem < d := by rw [hr]; exact Nat.mod_lt _ hp.2.1
  obtain ⟨t, ht⟩ : ∃ t, t = rem * B + limb A i := ⟨_, rfl⟩
  have ht' := ht
  rw [hr] at ht'
  have hst := short_step hp.2.1 ht'
  have hse := short_set hp.2.1 ht'
  have hlt := short_lt hp.2.1 ht'
  conv => whnf
  refine ⟨⟨by omega, by omega⟩, ?_⟩
  try simp (disch := omega) only [wrapi64, wrapu64, wrapu32, wrapu8, shr_u64_32, shr_u64_31, shl_u64_32, shl_i64_8, shr_i64_8, shr_u32_8, shr_u32_16, shr_u32_24, or_word', or_byte', toNat_cast, rowAdd_eq, Nat.zero_add, capSub_zero, toNat_0, toNat_1, Nat.sub_zero, sub1c, add1c, subc, addc, tdiv4, tmod4, cast_mul8, mul8c]
  conv => whnf
  refine ⟨by show i < nl A; omega, ?_⟩
  conv => whnf
  refine ⟨(rem, limb A i, d), rfl, ⟨hrd, hl, hp.2.2⟩, ?_⟩
  have ht2 : rem * 4294967296 + limb A i = t := ht.symm
  simp only [div32S, ht2]
  conv => whnf
  refine ⟨⟨by omega, by omega⟩, ?_⟩
  try simp (disch := omega) only [wrapi64, wrapu64, wrapu32, wrapu8, shr_u64_32, shr_u64_31, shl_u64_32, shl_i64_8, shr_i64_8, shr_u32_8, shr_u32_16, shr_u32_24, or_word', or_byte', toNat_cast, rowAdd_eq, Nat.zero_add, capSub_zero, toNat_0, toNat_1, Nat.sub_zero, sub1c, add1c, subc, addc, tdiv4, tmod4, cast_mul8, mul8c]
  conv => whnf
  refine ⟨by show i < nl A; omega, ?_⟩
  conv => whnf
  rw [limbRow_set hlt]
  refine .inl ⟨_, ?_, i, t % d, setLimb Y i (t / d), (.keep (.keep (.skip (.skip (.skip (.skip (.keep (.keep (.keep (.s8 (.s8 (.s8 (.skip (.skip (.nil))))))))))))))), rfl, rfl, ?_⟩
  ·omega
  ·exact ⟨by omega, hst.1.symm, by rw [hY]; exact hse⟩
 ·have h1 : i = 0 := by
   rcases Nat.eq_zero_or_pos i with h | h
   ·exact h
   ·have e : IntKind.i64.wrap ((i : Int) - 1) = ((i - 1 : Nat) : Int) := by rw [wrapi64 (by omega) (by omega)]; omega
    rw [e] at h1
    exact absurd h1 (by simp)
  subst h1
  rw [Nat.pow_zero, Nat.div_one] at hr hY
  rw [Nat.mul_one] at hY
  subst hr hY
  have hlt : A / d < B ^ nl A := Nat.lt_of_le_of_lt (Nat.div_le_self _ _) (lt_nl A)
  have hle := nl_le hlt
  conv => whnf
  refine ⟨some (nl A, A / d, nl A), [1], rfl, ⟨hlt, by omega⟩, ?_⟩
  conv => whnf
  refine ⟨BlkLe.flat_flat (fun h => by cases h) (fun r hr => rfl), ?_⟩
  conv => whnf
  refine ⟨_, rfl, ?_⟩
  conv => whnf
  refine ⟨1, ?_⟩
  conv => whnf
  refine ⟨⟨rfl, ⟨(fun h => ⟨rfl, rfl⟩), rfl, Nat.le_refl _, fun _ _ => rfl, fun r hr v hv => allS_spec (l := limbRow (A / d) r) rfl v hv⟩⟩, _, rfl, ?_⟩
  exact .two (.cap _ _ _ rfl) (.refl _)
theorem shift_ok : QSnd Tryz.prog 167 shiftS := by
 refine qsnd_of Efok Dok Tryz.func167 (enters_of Tryz.func167 (by kernel_rfl) rfl) ?_ ?_ ?_
 ·intro i b hb; simp [shiftS, newB] at hb; rcases hb with rfl | rfl <;> rfl
 ·intro i b hb; simp [shiftS] at hb; rw [← hb]; rfl
 intro ⟨A, ca, s⟩ hp
 have hp : nl A ≤ 137438953472 ∧ s ≤ 31 := hp
 conv => whnf
 have e1 : IntKind.i64.wrap (((nl A : Nat) : Int) + 1) = ((nl A + 1 : Nat) : Int) := by rw [wrapi64 (by omega) (by omega)]; rfl
 simp only [e1]
 refine ⟨⟨by omega, by omega, by show ((nl A + 1 : Nat) : Int) * ((4 : Nat) : Int) ≤ _; omega⟩, ?_⟩
 simp only [toNat_cast, limbRow_zero]
 conv => whnf
 refine .inl ⟨fun mm tz hz => ∃ (i : Nat) (Y : Nat), Pat [some (.slice (some ⟨0, 0, none⟩) (nl A) ca), some (.int .i64 s), none, none, none, some (.slice (some ⟨1, 0, none⟩) (nl A + 1) (nl A + 1)), none, none, none, none, none, none, none, some (.slice (some ⟨0, 0, none⟩) (nl A) ca), some (.int .i64 (nl A)), some (.int .i64 i), none, none, none, none, none, none, none, none, none, none, none, none, none, none, none, none, none, none, none, none, none, none, none, none, none] tz ∧ hz = [some (.flat false (nl A) 1 (limbRow A)), some (.flat true (nl A + 1) 1 (limbRow Y))] ∧ nl A - i = mm ∧ (i ≤ nl A ∧ Y = A % B ^ i * 2 ^ s), .inl ⟨_, 0, 0, (.keep (.keep (.skip (.skip (.skip (.keep (.skip (.skip (.skip (.skip (.skip (.skip (.skip (.keep (.keep (.keep (.s8 (.s8 (.s8 (.skip (.nil))))))))))))))))))))), rfl, rfl, ?_⟩, ?_⟩
 ·exact ⟨Nat.zero_le _, by simp [Nat.mod_one]⟩
 rintro mm tms _ ⟨i, Y, hpat, rfl, rfl, ⟨hi, hY⟩⟩
 obtain ⟨az, rfl⟩ : ∃ az : Nat → Value, tms = [.slice (some ⟨0, 0, none⟩) (nl A) ca, .int .i64 s, az 2, az 3, az 4, .slice (some ⟨1, 0, none⟩) (nl A + 1) (nl A + 1), az 6, az 7, az 8, az 9, az 10, az 11, az 12, .slice (some ⟨0, 0, none⟩) (nl A) ca, .int .i64 (nl A), .int .i64 i, az 16, az 17, az 18, az 19, az 20, az 21, az 22, az 23, az 24, az 25, az 26, az 27, az 28, az 29, az 30, az 31, az 32, az 33, az 34, az 35, az 36, az 37, az 38, az 39, az 40] := pat_fill hpat
 clear hpat
 conv => whnf
 refine br_intro (fun h1 => ?_) (fun h1 => ?_)
 ·have h1 : i < nl A := by simpa using h1
  have hl := limb_lt A i
  have hu : limb Y i < 2 ^ s := by rw [hY]; exact shift_limb
  have hor := or_u32 (l := limb A i) hp.2 hu
  have horl := or_lt (l := limb A i) hp.2 hu
  have hst := shift_step (A := A) (i := i) hp.2
  rw [← hY] at hst
  have h2 := two_le_B hp.2
  have hvB : limb A i * 2 ^ s / B < B := by
   refine (Nat.div_lt_iff_lt_mul (by decide)).2 ?_
   exact Nat.mul_lt_mul_of_lt_of_le hl (by show _ ≤ 4294967296; omega) (by decide)
  conv => whnf
  refine ⟨⟨by omega, by omega⟩, ?_⟩
  try simp (disch := omega) only [wrapi64, wrapu64, wrapu32, wrapu8, shr_u64_32, shr_u64_31, shl_u64_32, shl_i64_8, shr_i64_8, shr_u32_8, shr_u32_16, shr_u32_24, or_word', or_byte', toNat_cast, rowAdd_eq, Nat.zero_add, capSub_zero, toNat_0, toNat_1, Nat.sub_zero, sub1c, add1c, subc, addc, tdiv4, tmod4, cast_mul8, mul8c]
  conv => whnf
  refine ⟨by show i < nl A; omega, ?_⟩
  conv => whnf
  have hl64 : IntKind.u64.wrap ((limb A i : Nat) : Int) = ((limb A i : Nat) : Int) := wrapu64 (by omega) (by have : B = 4294967296 := rfl; omega)
  have hv := shl_u64 hp.2 hl
  have hvm : limb A i * 2 ^ s / B % B = limb A i * 2 ^ s / B := Nat.mod_eq_of_lt hvB
  have e3 : IntKind.i64.wrap (((i : Nat) : Int) + 1) = ((i + 1 : Nat) : Int) := by rw [wrapi64 (by omega) (by omega)]; rfl
  simp only [toNat_cast, hl64, hv]
  refine ⟨⟨by omega, by omega⟩, ?_⟩
  simp only [toNat_cast, rowAdd_eq, Nat.zero_add]
  conv => whnf
  refine ⟨by show i < nl A + 1; omega, ?_⟩
  conv => whnf
  simp only [u32_mod, hor, e3, shr_u64_32, div_B, hvm]
  refine ⟨⟨by omega, by omega⟩, ?_⟩
  simp only [toNat_cast, rowAdd_eq, Nat.zero_add]
  conv => whnf
  refine ⟨by show i < nl A + 1; omega, ?_⟩
  conv => whnf
  rw [limbRow_set horl]
  simp only [e3, shr_u64_32, div_B, u32_mod, hvm]
  refine ⟨⟨by omega, by omega⟩, ?_⟩
  simp only [toNat_cast, rowAdd_eq, Nat.zero_add]
  conv => whnf
  refine ⟨by show i + 1 < nl A + 1; omega, ?_⟩
  conv => whnf
  rw [limbRow_set hvB, hst]
  simp only [e3]
  refine .inl ⟨_, ?_, i + 1, A % B ^ (i + 1) * 2 ^ s, (.keep (.keep (.skip (.skip (.skip (.keep (.skip (.skip (.skip (.skip (.skip (.skip (.skip (.keep (.keep (.keep (.s8 (.s8 (.s8 (.skip (.nil))))))))))))))))))))), rfl, rfl, ?_⟩
  ·omega
  ·exact ⟨by omega, rfl⟩
 ·have h1 : i = nl A := by
   have h1 : ¬ i < nl A := by simpa using h1
   omega
  subst h1
  rw [Nat.mod_eq_of_lt (lt_nl A)] at hY
  subst hY
  conv => whnf
  refine ⟨1, ?_⟩
  conv => whnf
  refine ⟨⟨rfl, ⟨(fun h => ⟨rfl, rfl⟩), rfl, Nat.le_refl _, fun _ _ => rfl, fun r hr v hv => allS_spec (l := limbRow (A * 2 ^ s) r) rfl v hv⟩⟩, _, rfl, ?_⟩
  exact .refl _
theorem unshift_ok : QSnd Tryz.prog 169 unshiftS := by
 refine qsnd_of Efok Dok Tryz.func169 (enters_of Tryz.func169 (by kernel_rfl) rfl) ?_ ?_ ?_
 ·intro i b hb; simp [unshiftS, newB] at hb; rcases hb with rfl | rfl <;> rfl
 ·intro i b hb; simp [unshiftS] at hb; rw [← hb]; rfl
 intro ⟨A, ca, s⟩ hp
 have hp : nl A ≤ 137438953472 ∧ s ≤ 31 := hp
 conv => whnf
 refine ⟨⟨by omega, by omega, by show ((nl A : Nat) : Int) * ((4 : Nat) : Int) ≤ _; omega⟩, ?_⟩
 simp only [toNat_cast, limbRow_zero]
 conv => whnf
 refine .inl ⟨fun mm tz hz => ∃ (i : Nat) (Y : Nat), Pat [some (.slice (some ⟨0, 0, none⟩) (nl A) ca), some (.int .i64 s), none, none, none, some (.slice (some ⟨1, 0, none⟩) (nl A) (nl A)), none, none, none, none, none, none, some (.int .i64 (nl A)), some (.int .i64 i), none, none, none, none, none, none, none, none, none, none, none, none, none, none, none, none, none, none, none, none, none, none, none, none, none, none, none, none, none, none, none] tz ∧ hz = [some (.flat false (nl A) 1 (limbRow A)), some (.flat true (nl A) 1 (limbRow Y))] ∧ nl A - i = mm ∧ (i ≤ nl A ∧ Y = A / 2 ^ s % B ^ i), .inl ⟨_, 0, 0, (.keep (.keep (.skip (.skip (.skip (.keep (.skip (.skip (.skip (.skip (.skip (.skip (.keep (.keep (.s8 (.s8 (.s8 (.skip (.skip (.skip (.skip (.skip (.skip (.skip (.nil))))))))))))))))))))))))), rfl, rfl, ?_⟩, ?_⟩
 ·exact ⟨Nat.zero_le _, by simp [Nat.mod_one]⟩
 rintro mm tms _ ⟨i, Y, hpat, rfl, rfl, ⟨hi, hY⟩⟩
 obtain ⟨az, rfl⟩ : ∃ az : Nat → Value, tms = [.slice (some ⟨0, 0, none⟩) (nl A) ca, .int .i64 s, az 2, az 3, az 4, .slice (some ⟨1, 0, none⟩) (nl A) (nl A), az 6, az 7, az 8, az 9, az 10, az 11, .int .i64 (nl A), .int .i64 i, az 14, az 15, az 16, az 17, az 18, az 19, az 20, az 21, az 22, az 23, az 24, az 25, az 26, az 27, az 28, az 29, az 30, az 31, az 32, az 33, az 34, az 35, az 36, az 37, az 38, az 39, az 40, az 41, az 42, az 43, az 44] := pat_fill hpat
 clear hpat
 conv => whnf
 refine br_intro (fun h1 => ?_) (fun h1 => ?_)
 ·have h1 : i < nl A := by simpa using h1
  have hl := limb_lt A i
  have hl2 : limb A (i + 1) < B := limb_lt A (i + 1)
  have e3 : IntKind.i64.wrap (((i : Nat) : Int) + 1) = ((i + 1 : Nat) : Int) := by rw [wrapi64 (by omega) (by omega)]; rfl
  have hl64 : IntKind.u64.wrap ((limb A i : Nat) : Int) = ((limb A i : Nat) : Int) := wrapu64 (by omega) (by have : B = 4294967296 := rfl; omega)
  have hl65 : IntKind.u64.wrap ((limb A (i + 1) : Nat) : Int) = ((limb A (i + 1) : Nat) : Int) := wrapu64 (by omega) (by have : B = 4294967296 := rfl; omega)
  have hd := unshift_limb (A := A) (i := i) hp.2
  have hY2 : setLimb Y i (limb (A / 2 ^ s) i) = A / 2 ^ s % B ^ (i + 1) := by
   rw [mod_succ, ← hY]
   exact setLimb_new (by rw [hY]; exact Nat.mod_lt _ (Bpos i))
  conv => whnf
  refine ⟨⟨by omega, by omega⟩, ?_⟩
  try simp (disch := omega) only [wrapi64, wrapu64, wrapu32, wrapu8, shr_u64_32, shr_u64_31, shl_u64_32, shl_i64_8, shr_i64_8, shr_u32_8, shr_u32_16, shr_u32_24, or_word', or_byte', toNat_cast, rowAdd_eq, Nat.zero_add, capSub_zero, toNat_0, toNat_1, Nat.sub_zero, sub1c, add1c, subc, addc, tdiv4, tmod4, cast_mul8, mul8c]
  conv => whnf
  refine ⟨by show i < nl A; omega, ?_⟩
  conv => whnf
  simp only [e3, hl64]
  refine br_intro (fun h2 => ?_) (fun h2 => ?_)
  ·have h2 : i + 1 < nl A := by
    have h2 := of_decide_eq_true h2
    omega
   conv => whnf
   simp only [e3]
   refine ⟨⟨by omega, by omega⟩, ?_⟩
   simp only [toNat_cast, rowAdd_eq, Nat.zero_add]
   conv => whnf
   refine ⟨by show i + 1 < nl A; omega, ?_⟩
   conv => whnf
   have hsl : IntKind.u64.wrap (((limb A (i + 1) : Nat) : Int) * 4294967296) = ((limb A (i + 1) : Nat) : Int) * 4294967296 := wrapu64 (by omega) (by have : B = 4294967296 := rfl; omega)
   simp only [hl65, shl_u64_32, hsl, or_word2 hl2 hl]
   simp only [shr_u64 hp.2, toNat_cast, u32_mod]
   refine ⟨⟨by omega, by omega⟩, ?_⟩
   simp only [toNat_cast, rowAdd_eq, Nat.zero_add]
   conv => whnf
   refine ⟨by show i < nl A; omega, ?_⟩
   conv => whnf
   simp only [e3, ← hd]
   rw [limbRow_set (limb_lt (A / 2 ^ s) i), hY2]
   refine .inl ⟨_, ?_, i + 1, A / 2 ^ s % B ^ (i + 1), (.keep (.keep (.skip (.skip (.skip (.keep (.skip (.skip (.skip (.skip (.skip (.skip (.keep (.keep (.s8 (.s8 (.s8 (.skip (.skip (.skip (.skip (.skip (.skip (.skip (.nil))))))))))))))))))))))))), rfl, rfl, ?_⟩
   ·omega
   ·exact ⟨by omega, rfl⟩
  ·have h2 : nl A ≤ i + 1 := by
    have h2 := of_decide_eq_false h2
    omega
   have h0 := limb_top (lt_nl A) h2
   rw [h0, Nat.zero_mul, Nat.add_zero] at hd
   conv => whnf
   simp only [shr_u64 hp.2, toNat_cast, u32_mod]
   refine ⟨⟨by omega, by omega⟩, ?_⟩
   simp only [toNat_cast, rowAdd_eq, Nat.zero_add]
   conv => whnf
   refine ⟨by show i < nl A; omega, ?_⟩
   conv => whnf
   simp only [e3, ← hd]
   rw [limbRow_set (limb_lt (A / 2 ^ s) i), hY2]
   refine .inl ⟨_, ?_, i + 1, A / 2 ^ s % B ^ (i + 1), (.keep (.keep (.skip (.skip (.skip (.keep (.skip (.skip (.skip (.skip (.skip (.skip (.keep (.keep (.s8 (.s8 (.s8 (.skip (.skip (.skip (.skip (.skip (.skip (.skip (.nil))))))))))))))))))))))))), rfl, rfl, ?_⟩
   ·omega
   ·exact ⟨by omega, rfl⟩
 ·have h1 : i = nl A := by
   have h1 : ¬ i < nl A := by simpa using h1
   omega
  subst h1
  have hlt : A / 2 ^ s < B ^ nl A := Nat.lt_of_le_of_lt (Nat.div_le_self _ _) (lt_nl A)
  have hle := nl_le hlt
  rw [Nat.mod_eq_of_lt hlt] at hY
  subst hY
  conv => whnf
  refine ⟨some (nl A, A / 2 ^ s, nl A), [1], rfl, ⟨hlt, by omega⟩, ?_⟩
  conv => whnf
  refine ⟨BlkLe.flat_flat (fun h => by cases h) (fun r hr => rfl), ?_⟩
  conv => whnf
  refine ⟨_, rfl, ?_⟩
  conv => whnf
  refine ⟨1, ?_⟩
  conv => whnf
  refine ⟨⟨rfl, ⟨(fun h => ⟨rfl, rfl⟩), rfl, Nat.le_refl _, fun _ _ => rfl, fun r hr v hv => allS_spec (l := limbRow (A / 2 ^ s) r) rfl v hv⟩⟩, _, rfl, ?_⟩
  exact .cap _ _ _ rfl
end Go.Proofs.YtppeponndkfbkaaGreat
/- Contracts of bigint: one digit of a long division. -/
set_option maxRecDepth 20000
set_option maxHeartbeats 4000000
namespace Go.Proofs.YtppeponndkfbkaaGreat
open Go Go.Ae
def Eg : Env := { tt := tt, eqs := [], Φ := fun g => match g with
 | 170 => some (.p sub32S)
 | 173 => some (.p add32S)
 | _ => none }
theorem Egok : EnvOk Tryz.prog Eg := ⟨tt_ok, fun t h => by simp [Eg] at h, (fun g S h => by
 simp only [Eg] at h
 split at h
 ·cases h; exact sub32_ok
 ·cases h; exact add32_ok
 ·cases h), fun g F h => by simp [Eg] at h⟩
theorem digit_ok : FTOk Tryz.prog 168 (wFT digitS) := by
 refine wft_of Egok Dok Tryz.func168 (enters_of Tryz.func168 (by kernel_rfl) rfl) ?_
 intro ⟨X, m, cx, D, cd, j⟩ hp
 have hp : m ≤ 137438953473 ∧ 2 ≤ nl D ∧ 2147483648 ≤ limb D (nl D - 1) ∧ j + nl D < m ∧ X < D * B ^ (j + 1) := hp
 obtain ⟨n, hn⟩ : ∃ n, n = nl D - 2 := ⟨_, rfl⟩
 obtain ⟨n1, hn1⟩ : ∃ n1, n1 = nl D - 1 := ⟨_, rfl⟩
 obtain ⟨n2, hn2⟩ : ∃ n2, n2 = nl D := ⟨_, rfl⟩
 rw [← hn1, ← hn2] at hp
 have hn : n2 = n + 2 ∧ n1 = n + 1 := by omega
 have hlX1 := limb_lt X (j + n2)
 have hlX2 := limb_lt X (j + n1)
 have hlX3 := limb_lt X (j + n)
 have hlD1 := limb_lt D n1
 have hlD0 := limb_lt D n
 have hB : B = 4294967296 := rfl
 conv => whnf
 refine .inl ⟨16, [[], [], [], [1, 2], [0, 1, 2, 3], [0, 1, 2, 3, 4], [0, 1, 2, 3, 4, 5], [0, 1, 2, 3, 4, 5, 6], [], [], [], [9, 10], [9, 10, 11], [8, 9, 10, 11, 12], [8, 9, 10, 11, 12, 13], [8, 9, 10, 11, 12, 13, 14], [0, 1, 2, 3, 4, 5, 6, 7, 8, 9, 10, 11, 12, 13, 14, 15], [0, 1, 2, 3, 4, 5, 6, 7, 8, 9, 10, 11, 12, 13, 14, 15, 16]], by kernel_rfl, ?_⟩
 conv => whnf
 rw [← hn2]
 have e1 : IntKind.i64.wrap (((j : Nat) : Int) + ((n2 : Nat) : Int)) = ((j + n2 : Nat) : Int) := by rw [wrapi64 (by omega) (by omega)]; omega
 have e2 : IntKind.i64.wrap (((j + n2 : Nat) : Int) - 1) = ((j + n1 : Nat) : Int) := by rw [wrapi64 (by omega) (by omega)]; omega
 have e3 : IntKind.i64.wrap (((j + n2 : Nat) : Int) - 2) = ((j + n : Nat) : Int) := by rw [wrapi64 (by omega) (by omega)]; omega
 have e4 : IntKind.i64.wrap (((n2 : Nat) : Int) - 1) = ((n1 : Nat) : Int) := by rw [wrapi64 (by omega) (by omega)]; omega
 have e5 : IntKind.i64.wrap (((n2 : Nat) : Int) - 2) = ((n : Nat) : Int) := by rw [wrapi64 (by omega) (by omega)]; omega
 simp only [e1]
 refine ⟨⟨by omega, by omega⟩, ?_⟩
 simp only [toNat_cast, rowAdd_eq, Nat.zero_add]
 conv => whnf
 refine ⟨by show j + n2 < m; omega, ?_⟩
 conv => whnf
 simp only [e1, e2]
 refine ⟨⟨by omega, by omega⟩, ?_⟩
 simp only [toNat_cast, rowAdd_eq, Nat.zero_add]
 conv => whnf
 refine ⟨by show j + n1 < m; omega, ?_⟩
 conv => whnf
 have hl64 : ∀ l : Nat, l < B → IntKind.u64.wrap ((l : Nat) : Int) = (l : Int) := fun l hl => wrapu64 (by omega) (by omega)
 have hsl : ∀ l : Nat, l < B → IntKind.u64.wrap ((l : Int) * 4294967296) = (l : Int) * 4294967296 := fun l hl => wrapu64 (by omega) (by omega)
 simp only [hl64 _ hlX1, hl64 _ hlX2, shl_u64_32, hsl _ hlX1, or_word' _ _ hlX1 hlX2]
 obtain ⟨top, htop⟩ : ∃ top, top = limb X (j + n2) * 4294967296 + limb X (j + n1) := ⟨_, rfl⟩
 have etop : ((limb X (j + n2) : Nat) : Int) * 4294967296 + ((limb X (j + n1) : Nat) : Int) = (top : Int) := by omega
 simp only [etop]
 obtain ⟨d1, hd1⟩ : ∃ d1, d1 = limb D n1 := ⟨_, rfl⟩
 obtain ⟨d0, hd0⟩ : ∃ d0, d0 = limb D n := ⟨_, rfl⟩
 have hp3 : 2147483648 ≤ d1 := by rw [hd1]; exact hp.2.2.1
 have hd1B : d1 < 4294967296 := by rw [hd1]; exact hlD1
 have hd0B : d0 < 4294967296 := by rw [hd0]; exact hlD0
 have htopB : top < 18446744073709551616 := by omega
 refine .inl ⟨17, [[], [], [], [2], [1, 2, 3], [1, 2, 3, 4], [1, 2, 3, 4, 5], [0, 1, 2, 3, 4, 5, 6], [], [], [], [10], [9, 10, 11], [9, 10, 11, 12], [9, 10, 11, 12, 13], [8, 9, 10, 11, 12, 13, 14], [0, 1, 2, 3, 4, 5, 6, 7], [0, 1, 2, 3, 4, 5, 6, 7, 8, 9, 10, 11, 12, 13, 14, 15, 16]], by kernel_rfl, ?_⟩
 conv => whnf
 simp only [e4]
 refine ⟨⟨by omega, by omega⟩, ?_⟩
 simp only [toNat_cast, rowAdd_eq, Nat.zero_add]
 conv => whnf
 refine ⟨by show n1 < nl D; omega, ?_⟩
 conv => whnf
 simp only [hl64 _ hlD1]
 rw [← hd1]
 have hne : decide ((d1 : Int) ≠ 0) = true := decide_eq_true (by omega)
 rw [hne]
 conv => whnf
 simp only [e4]
 refine ⟨⟨by omega, by omega⟩, ?_⟩
 simp only [toNat_cast, rowAdd_eq, Nat.zero_add]
 conv => whnf
 refine ⟨by show n1 < nl D; omega, ?_⟩
 conv => whnf
 simp only [hl64 _ hlD1]
 rw [← hd1, hne]
 conv => whnf
 obtain ⟨w0, hw0⟩ : ∃ w0, w0 = limb X (j + n) := ⟨_, rfl⟩
 rw [← hw0] at hlX3
 obtain ⟨Q, hQ⟩ : ∃ Q, Q = X / B ^ j / D := ⟨_, rfl⟩
 obtain ⟨q0, hq0⟩ : ∃ q0, q0 = top / d1 := ⟨_, rfl⟩
 have F := digitF hn2 hn.1 hn.2 hp.2.2.1 hp.2.2.2.2 htop hd1 hd0 hw0 hQ hq0
 clear hQ
 obtain ⟨hp1, hp4⟩ : m ≤ 137438953473 ∧ j + n2 < m := ⟨hp.1, hp.2.2.2.1⟩
 clear hp
 have fq3 : q0 ≤ 4294967297 := F.fq2
 have eq0 : IntKind.u64.wrap ((q0 : Nat) : Int) = ((q0 : Nat) : Int) := wrapu64 (by omega) (by omega)
 simp only [tdiv_nat, tmod_nat]
 rw [← hq0, eq0]
 refine .inl ⟨fun mm tz hz => ∃ (q : Nat) (r : Nat), Pat [some (.slice (some ⟨0, 0, none⟩) m cx), some (.slice (some ⟨1, 0, none⟩) n2 cd), some (.int .i64 j), none, none, none, some (.int .u32 0), some (.int .i64 n2), none, some (.int .u64 q), some (.int .u64 r), none, none, none, none, none, none, none, none, none, none, none, none, none, none, none, none, none, none, none, none, none, none, none, none, none, none, none, none, none, none, none, none, none, none, none, none, none, none, none, none, none, none, none, none, none, none, none, none, none, none, none, none, none, none, none, none, none, none, none, none, none, none, none, none, none, none, none, none, none, none, none, none, none, none, none, none, none, none, none, none, none, none, none, none, none, none, none, none, none, none, none, none, none, none, none, none, none, none, none, none, none, none, none, none, none, none, none, none, none, none, none, none, none, none, none, none, none, none, none, none, none, none, none, none, none, none, none, none, none, none, none, none, none, none, none, none, none, none, none, none, none, none, none, none, none, none, none, none, none, none, none, none, none, none, none, none, none, none, none, none, none, none, none, none, none, none, none, none, none, none, none, none, none, none, none, none, none, none, none, none, none, none, none] tz ∧ hz = [some (.flat true m 1 (limbRow X)), some (newB D)] ∧ q = mm ∧ (q * d1 + r = top ∧ Q ≤ q ∧ q ≤ 4294967297), .inr ⟨[0, 1], [0, 1, 2, 6, 7, 9, 10], ?_⟩, ?_⟩
 ·conv => whnf
  intro _
  conv => whnf
  refine ⟨_, q0, top % d1, (.keep (.keep (.keep (.skip (.skip (.skip (.keep (.keep (.skip (.keep (.keep (.s8 (.s8 (.s8 (.s8 (.s8 (.s8 (.s8 (.s8 (.s8 (.s8 (.s8 (.s8 (.s8 (.s8 (.s8 (.s8 (.s8 (.s8 (.s8 (.s8 (.s8 (.s8 (.skip (.skip (.skip (.skip (.skip (.skip (.skip (.nil))))))))))))))))))))))))))))))))))))))))), rfl, rfl, ?_⟩
  exact ⟨by rw [hq0, Nat.mul_comm]; exact Nat.div_add_mod top d1, F.fq, F.fq2⟩
 rintro mm tms _ ⟨q, r, hpat, rfl, rfl, ⟨he, hq1, hq2⟩⟩
 obtain ⟨az, rfl⟩ : ∃ az : Nat → Value, tms = [.slice (some ⟨0, 0, none⟩) m cx, .slice (some ⟨1, 0, none⟩) n2 cd, .int .i64 j, az 3, az 4, az 5, .int .u32 0, .int .i64 n2, az 8, .int .u64 q, .int .u64 r, az 11, az 12, az 13, az 14, az 15, az 16, az 17, az 18, az 19, az 20, az 21, az 22, az 23, az 24, az 25, az 26, az 27, az 28, az 29, az 30, az 31, az 32, az 33, az 34, az 35, az 36, az 37, az 38, az 39, az 40, az 41, az 42, az 43, az 44, az 45, az 46, az 47, az 48, az 49, az 50, az 51, az 52, az 53, az 54, az 55, az 56, az 57, az 58, az 59, az 60, az 61, az 62, az 63, az 64, az 65, az 66, az 67, az 68, az 69, az 70, az 71, az 72, az 73, az 74, az 75, az 76, az 77, az 78, az 79, az 80, az 81, az 82, az 83, az 84, az 85, az 86, az 87, az 88, az 89, az 90, az 91, az 92, az 93, az 94, az 95, az 96, az 97, az 98, az 99, az 100, az 101, az 102, az 103, az 104, az 105, az 106, az 107, az 108, az 109, az 110, az 111, az 112, az 113, az 114, az 115, az 116, az 117, az 118, az 119, az 120, az 121, az 122, az 123, az 124, az 125, az 126, az 127, az 128, az 129, az 130, az 131, az 132, az 133, az 134, az 135, az 136, az 137, az 138, az 139, az 140, az 141, az 142, az 143, az 144, az 145, az 146, az 147, az 148, az 149, az 150, az 151, az 152, az 153, az 154, az 155, az 156, az 157, az 158, az 159, az 160, az 161, az 162, az 163, az 164, az 165, az 166, az 167, az 168, az 169, az 170, az 171, az 172, az 173, az 174, az 175, az 176, az 177, az 178, az 179, az 180, az 181, az 182, az 183, az 184, az 185, az 186, az 187, az 188, az 189, az 190, az 191, az 192, az 193] := pat_fill hpat
 clear hpat
 have hr : r < 18446744073709551616 := Nat.lt_of_le_of_lt (Nat.le_trans (Nat.le_add_left _ _) (Nat.le_of_eq he)) htopB
 refine .inl ⟨27, [[], [0], [0, 1], [0, 1, 2], [0, 1, 2, 3], [0, 1, 2, 3, 4], [0, 1, 2, 3, 4, 5], [0, 1, 2, 3, 4, 5, 6], [0, 1, 2, 3, 4, 5, 6, 7], [0, 1, 2, 3, 4, 5, 6, 7], [0, 1, 2, 3, 4, 5, 6, 7], [0, 1, 2, 3, 4, 5, 6, 7, 10], [0, 1, 2, 3, 4, 5, 6, 7, 9, 10, 11], [0, 1, 2, 3, 4, 5, 6, 7, 9, 10, 11, 12], [0, 1, 2, 3, 4, 5, 6, 7, 9, 10, 11, 12, 13], [0, 1, 2, 3, 4, 5, 6, 7, 8, 9, 10, 11, 12, 13, 14], [0, 1, 2, 3, 4, 5, 6, 7], [0, 1, 2, 3, 4, 5, 6, 7, 16], [0, 1, 2, 3, 4, 5, 6, 7], [0, 1, 2, 3, 4, 5, 6, 7], [0, 1, 2, 3, 4, 5, 6, 7], [0, 1, 2, 3, 4, 5, 6, 7, 19, 20], [0, 1, 2, 3, 4, 5, 6, 7, 19, 20, 21], [0, 1, 2, 3, 4, 5, 6, 7, 18, 19, 20, 21, 22], [0, 1, 2, 3, 4, 5, 6, 7, 18, 19, 20, 21, 22, 23], [0, 1, 2, 3, 4, 5, 6, 7, 18, 19, 20, 21, 22, 23, 24], [0, 1, 2, 3, 4, 5, 6, 7, 16, 17, 18, 19, 20, 21, 22, 23, 24, 25], [0, 1, 2, 3, 4, 5, 6, 7, 8, 9, 10, 11, 12, 13, 14, 15, 16, 17, 18, 19, 20, 21, 22, 23, 24, 25, 26], [0, 1, 2, 3, 4, 5, 6, 7, 8, 9, 10, 11, 12, 13, 14, 15, 16, 17, 18, 19, 20, 21, 22, 23, 24, 25, 26, 27], [0, 1, 2, 3, 4, 5, 6, 7, 8, 9, 10, 11, 12, 13, 14, 15, 16, 17, 18, 19, 20, 21, 22, 23, 24, 25, 26, 27, 28]], by kernel_rfl, ?_⟩
 conv => whnf
 simp only [shr_u64_32, div_B]
 rcases Nat.lt_or_ge q 4294967296 with hqB | hqB
 ·rw [show decide (((q / B : Nat) : Int) > 0) = false from decide_eq_false (by show ¬ (((q / 4294967296 : Nat) : Int) > 0); omega)]
  conv => whnf
  simp only [shr_u64_32, div_B]
  have hend : q * d0 ≤ r * B + w0 ∨ B ≤ r → q ≤ Q + 1 := fun h => by
   rw [F.fQ]
   exact est_end (Bpos n) F.fW F.fD he hqB F.fP hd0B h.symm
  rcases Nat.lt_or_ge r 4294967296 with hrB | hrB
  ·rw [show (((((r / B : Nat) : Int) == 0) : Bool)) = true by show decide (((r / 4294967296 : Nat) : Int) = 0) = true; exact decide_eq_true (by omega)]
   conv => whnf
   simp only [e5]
   refine ⟨⟨by omega, by omega⟩, ?_⟩
   simp only [toNat_cast, rowAdd_eq, Nat.zero_add]
   conv => whnf
   refine ⟨by show n < nl D; omega, ?_⟩
   conv => whnf
   simp only [hl64 _ hlD0]
   rw [← hd0, (mul64 hq2 hd0B).1]
   simp only [e1, e3]
   obtain ⟨vq, hvq⟩ : ∃ v, v = Value.int .u64 ((q * d0 : Nat) : Int) := ⟨_, rfl⟩
   rw [← hvq]
   refine ⟨⟨by omega, by omega⟩, ?_⟩
   simp only [toNat_cast, rowAdd_eq, Nat.zero_add]
   conv => whnf
   refine ⟨by show j + n < m; omega, ?_⟩
   conv => whnf
   rw [← hw0]
   simp only [hl64 _ hlX3, shl_u64_32, hsl r hrB, or_word' _ _ hrB hlX3]
   rw [show ((r : Nat) : Int) * 4294967296 + ((w0 : Nat) : Int) = ((r * 4294967296 + w0 : Nat) : Int) by omega]
   obtain ⟨qd, hqd⟩ : ∃ qd, qd = q * d0 := ⟨_, rfl⟩
   obtain ⟨rw0, hrw0⟩ : ∃ rw0, rw0 = r * 4294967296 + w0 := ⟨_, rfl⟩
   rw [hvq, ← hqd, ← hrw0]
   conv => whnf
   rcases Nat.lt_or_ge rw0 qd with hlt2 | hge2
   ·rw [show decide ((qd : Int) > (rw0 : Int)) = true from decide_eq_true (by omega)]
    have hlt : Q < q := by
     rw [F.fQ]
     refine est_down F.fD0 (Bpos n) F.fW F.fD he ?_
     rw [← hqd]
     show r * 4294967296 + w0 < qd
     omega
    clear hvq hqd hrw0 hlt2
    conv => whnf
    have ep : IntKind.u64.wrap ((q : Int) - 1) = ((q - 1 : Nat) : Int) := by rw [wrapu64 (by omega) (by omega)]; omega
    have he2 : (q - 1) * d1 + (r + d1) = top := by
     have h1 : (q - 1) * d1 + d1 = q * d1 := by
      conv => rhs; rw [show q = (q - 1) + 1 by omega, Nat.add_mul, Nat.one_mul]
     omega
    have hr2 : r + d1 < 18446744073709551616 := Nat.lt_of_le_of_lt (Nat.le_trans (Nat.le_add_left _ _) (Nat.le_of_eq he2)) htopB
    have er : IntKind.u64.wrap ((r : Int) + (d1 : Int)) = ((r + d1 : Nat) : Int) := by rw [wrapu64 (by omega) (by omega)]; omega
    simp only [ep, e4]
    refine ⟨⟨by omega, by omega⟩, ?_⟩
    simp only [toNat_cast, rowAdd_eq, Nat.zero_add]
    conv => whnf
    refine ⟨by show n1 < nl D; omega, ?_⟩
    conv => whnf
    simp only [hl64 _ hlD1]
    rw [← hd1, er]
    simp only [shr_u64_32, div_B]
    rcases Nat.lt_or_ge (r + d1) 4294967296 with hrB | hrB
    ·rw [show decide ((((r + d1) / B : Nat) : Int) > 0) = false from decide_eq_false (by show ¬ ((((r + d1) / 4294967296 : Nat) : Int) > 0); omega)]
     conv => whnf
     refine .inr ⟨[0, 1], [0, 1, 2, 6, 7, 9, 10], ?_⟩
     conv => whnf
     intro _
     conv => whnf
     refine ⟨_, ?_, q - 1, r + d1, (.keep (.keep (.keep (.skip (.skip (.skip (.keep (.keep (.skip (.keep (.keep (.s8 (.s8 (.s8 (.s8 (.s8 (.s8 (.s8 (.s8 (.s8 (.s8 (.s8 (.s8 (.s8 (.s8 (.s8 (.s8 (.s8 (.s8 (.s8 (.s8 (.s8 (.s8 (.skip (.skip (.skip (.skip (.skip (.skip (.skip (.nil))))))))))))))))))))))))))))))))))))))))), rfl, rfl, ?_⟩
     ·omega
     ·exact ⟨he2, by omega, by omega⟩
    ·rw [show decide ((((r + d1) / B : Nat) : Int) > 0) = true from decide_eq_true (by show ((((r + d1) / 4294967296 : Nat) : Int) > 0); omega)]
     conv => whnf
     simp only [shr_u64_32, div_B]
     rcases Nat.lt_or_ge (q - 1) 4294967296 with hqB2 | hqB2
     ·rw [show (((((q - 1) / B : Nat) : Int) == 0) : Bool) = true by show decide ((((q - 1) / 4294967296 : Nat) : Int) = 0) = true; exact decide_eq_true (by omega)]
      conv => whnf
      obtain ⟨qt, hqt⟩ : ∃ qt, qt = q - 1 := ⟨_, rfl⟩
      have hT : qt < 4294967296 ∧ Q ≤ qt ∧ qt ≤ Q + 1 := by
       have h3 : q - 1 ≤ X / B ^ j / D + 1 := est_end (Bpos n) F.fW F.fD he2 hqB2 F.fP hd0B (.inl hrB)
       rw [← F.fQ] at h3
       omega
      rw [← hqt]
      clear hqB hqB2 hlt ep he2 hr2 er hrB he hr hq1 hq2 hqt
      conv => whnf
      refine .inl ⟨fun mm tz hz => ∃ (i : Nat) (c : Nat) (b : Nat) (Z : Nat), Pat [some (.slice (some ⟨0, 0, none⟩) m cx), some (.slice (some ⟨1, 0, none⟩) n2 cd), some (.int .i64 j), none, none, none, some (.int .u32 0), some (.int .i64 n2), none, some (.int .u64 qt), none, some (.int .u64 c), some (.int .u32 b), none, none, none, none, none, none, none, none, none, none, none, none, none, none, none, none, none, none, none, none, none, none, none, none, none, none, none, none, none, none, none, none, none, none, none, none, none, none, none, none, none, none, none, none, none, none, none, none, none, none, none, none, none, none, none, none, none, none, none, none, none, none, none, none, none, none, none, none, none, none, none, none, none, none, none, none, none, none, none, none, none, none, none, none, none, none, none, none, some (.slice (some ⟨1, 0, none⟩) n2 cd), some (.int .i64 n2), some (.int .i64 i), none, none, none, none, none, none, none, none, none, none, none, none, none, none, none, none, none, none, none, none, none, none, none, none, none, none, none, none, none, none, none, none, none, none, none, none, none, none, none, none, none, none, none, none, none, none, none, none, none, none, none, none, none, none, none, none, none, none, none, none, none, none, none, none, none, none, none, none, none, none, none, none, none, none, none, none, none, none, none, none, none, none, none, none, none, none, none, none, none, none] tz ∧ hz = [some (.flat true m 1 (limbRow Z)), some (newB D)] ∧ n2 - i = mm ∧ ((i ≤ n2 ∧ c < 4294967296 ∧ b ≤ 1) ∧ Z < B ^ (j + n2 + 1) ∧ Z + qt * (D % B ^ i) * B ^ j = X + (b + c) * B ^ (j + i)), .inr ⟨[0, 1], [0, 1, 2, 6, 7, 9, 11, 12, 101, 102, 103], ?_⟩, ?_⟩
      ·conv => whnf
       intro _
       conv => whnf
       refine ⟨_, 0, 0, 0, X, (.keep (.keep (.keep (.skip (.skip (.skip (.keep (.keep (.skip (.keep (.skip (.keep (.keep (.s8 (.s8 (.s8 (.s8 (.s8 (.s8 (.s8 (.s8 (.s8 (.s8 (.s8 (.keep (.keep (.keep (.s8 (.s8 (.s8 (.s8 (.s8 (.s8 (.s8 (.s8 (.s8 (.s8 (.s8 (.skip (.skip (.nil))))))))))))))))))))))))))))))))))))))))), rfl, rfl, ?_⟩
       exact ⟨⟨Nat.zero_le _, by decide, by decide⟩, F.fX, by simp [Nat.mod_one]⟩
      rintro mm tms _ ⟨i, c, b, Z, hpat, rfl, rfl, ⟨⟨hi, hc, hb⟩, hZ, he⟩⟩
      obtain ⟨az, rfl⟩ : ∃ az : Nat → Value, tms = [.slice (some ⟨0, 0, none⟩) m cx, .slice (some ⟨1, 0, none⟩) n2 cd, .int .i64 j, az 3, az 4, az 5, .int .u32 0, .int .i64 n2, az 8, .int .u64 qt, az 10, .int .u64 c, .int .u32 b, az 13, az 14, az 15, az 16, az 17, az 18, az 19, az 20, az 21, az 22, az 23, az 24, az 25, az 26, az 27, az 28, az 29, az 30, az 31, az 32, az 33, az 34, az 35, az 36, az 37, az 38, az 39, az 40, az 41, az 42, az 43, az 44, az 45, az 46, az 47, az 48, az 49, az 50, az 51, az 52, az 53, az 54, az 55, az 56, az 57, az 58, az 59, az 60, az 61, az 62, az 63, az 64, az 65, az 66, az 67, az 68, az 69, az 70, az 71, az 72, az 73, az 74, az 75, az 76, az 77, az 78, az 79, az 80, az 81, az 82, az 83, az 84, az 85, az 86, az 87, az 88, az 89, az 90, az 91, az 92, az 93, az 94, az 95, az 96, az 97, az 98, az 99, az 100, .slice (some ⟨1, 0, none⟩) n2 cd, .int .i64 n2, .int .i64 i, az 104, az 105, az 106, az 107, az 108, az 109, az 110, az 111, az 112, az 113, az 114, az 115, az 116, az 117, az 118, az 119, az 120, az 121, az 122, az 123, az 124, az 125, az 126, az 127, az 128, az 129, az 130, az 131, az 132, az 133, az 134, az 135, az 136, az 137, az 138, az 139, az 140, az 141, az 142, az 143, az 144, az 145, az 146, az 147, az 148, az 149, az 150, az 151, az 152, az 153, az 154, az 155, az 156, az 157, az 158, az 159, az 160, az 161, az 162, az 163, az 164, az 165, az 166, az 167, az 168, az 169, az 170, az 171, az 172, az 173, az 174, az 175, az 176, az 177, az 178, az 179, az 180, az 181, az 182, az 183, az 184, az 185, az 186, az 187, az 188, az 189, az 190, az 191, az 192, az 193] := pat_fill hpat
      clear hpat
      conv => whnf
      refine br_intro (fun h1 => ?_) (fun h1 => ?_)
      ·have h1 : i < n2 := by simpa using h1
       conv => whnf
       refine ⟨⟨by omega, by omega⟩, ?_⟩
       simp only [toNat_cast, rowAdd_eq, Nat.zero_add]
       conv => whnf
       refine ⟨by show i < nl D; omega, ?_⟩
       conv => whnf
       obtain ⟨x, hx⟩ : ∃ x, x = limb D i := ⟨_, rfl⟩
       obtain ⟨l, hl⟩ : ∃ l, l = limb Z (j + i) := ⟨_, rfl⟩
       obtain ⟨t, ht⟩ : ∃ t, t = c + qt * limb D i := ⟨_, rfl⟩
       have hxB : x < B := by rw [hx]; exact limb_lt D i
       have hlB : l < 4294967296 := by rw [hl]; exact limb_lt Z (j + i)
       obtain ⟨hv, htC⟩ := muladd64 (t := t) hc hT.1 hxB (by rw [hx]; exact ht)
       have htm : t % B < 4294967296 := Nat.mod_lt _ (by decide)
       obtain ⟨d, hd⟩ : ∃ d, d = (l + 2 * 4294967296 - t % B - b) % 4294967296 := ⟨_, rfl⟩
       obtain ⟨b', hb'⟩ : ∃ b', b' = if l < t % B + b then 1 else 0 := ⟨_, rfl⟩
       have hdB : d < 4294967296 := by rw [hd]; exact Nat.mod_lt _ (by decide)
       have hst := away_step (i := i) (j := j) (d := d) (b' := b') he ht (by
        rw [← hl, hb', hB, ← hB]
        clear he hZ ht hv
        obtain ⟨u, hu⟩ : ∃ u, u = t % B := ⟨_, rfl⟩
        rw [← hu] at hd htm ⊢
        split <;> omega)
       have hZ2 := setLimb_lt hZ (show j + i < j + n2 + 1 by omega) (show d < B from hdB)
       have hb2 : b' ≤ 1 := by rw [hb']; split <;> omega
       have e6 : IntKind.i64.wrap (((j : Nat) : Int) + ((i : Nat) : Int)) = ((j + i : Nat) : Int) := by rw [wrapi64 (by omega) (by omega)]; omega
       have e7 : IntKind.i64.wrap (((i : Nat) : Int) + 1) = ((i + 1 : Nat) : Int) := by rw [wrapi64 (by omega) (by omega)]; omega
       rw [← hx]
       simp only [hl64 _ hxB, hv, e6]
       refine ⟨⟨by omega, by omega⟩, ?_⟩
       simp only [toNat_cast, rowAdd_eq, Nat.zero_add]
       conv => whnf
       refine ⟨by show j + i < m; omega, ?_⟩
       conv => whnf
       rw [← hl]
       simp only [u32_mod]
       refine ⟨(l, t % B, b), rfl, ⟨hlB, htm, hb⟩, ?_⟩
       simp only [sub32S, ← hd, ← hb', e6]
       conv => whnf
       refine ⟨⟨by omega, by omega⟩, ?_⟩
       simp only [toNat_cast, rowAdd_eq, Nat.zero_add]
       conv => whnf
       refine ⟨by show j + i < m; omega, ?_⟩
       conv => whnf
       simp only [shr_u64_32, div_B, e7]
       rw [limbRow_set hdB]
       refine .inl ⟨_, ?_, i + 1, t / B, b', setLimb Z (j + i) d, (.keep (.keep (.keep (.skip (.skip (.skip (.keep (.keep (.skip (.keep (.skip (.keep (.keep (.s8 (.s8 (.s8 (.s8 (.s8 (.s8 (.s8 (.s8 (.s8 (.s8 (.s8 (.keep (.keep (.keep (.s8 (.s8 (.s8 (.s8 (.s8 (.s8 (.s8 (.s8 (.s8 (.s8 (.s8 (.skip (.skip (.nil))))))))))))))))))))))))))))))))))))))))), rfl, rfl, ?_⟩
       ·omega
       ·exact ⟨⟨by omega, htC, hb2⟩, hZ2, hst⟩
      ·have h1 : i = n2 := by
        have h1 : ¬ i < n2 := by simpa using h1
        omega
       subst h1
       obtain ⟨l, hl⟩ : ∃ l, l = limb Z (j + i) := ⟨_, rfl⟩
       have hlB : l < 4294967296 := by rw [hl]; exact limb_lt Z (j + i)
       obtain ⟨d, hd⟩ : ∃ d, d = (l + 2 * 4294967296 - c - b) % 4294967296 := ⟨_, rfl⟩
       obtain ⟨b', hb'⟩ : ∃ b', b' = if l < c + b then 1 else 0 := ⟨_, rfl⟩
       have hdB : d < 4294967296 := by rw [hd]; exact Nat.mod_lt _ (by decide)
       have hst := away_last (j := j) (d := d) (b' := b') (by rw [hn2]; exact lt_nl D) hc he (by
        rw [← hl, hb', hB, ← hB]
        clear he hZ
        split <;> omega)
       have hZ2 := setLimb_lt hZ (show j + i < j + i + 1 by omega) (show d < B from hdB)
       have hcm : c % B = c := Nat.mod_eq_of_lt hc
       have hb2 : b' ≤ 1 := by rw [hb']; split <;> omega
       have hqm : qt % B = qt := Nat.mod_eq_of_lt hT.1
       have hE : 0 < D * B ^ j := Nat.mul_pos F.fD0 (Bpos j)
       have hQ2 : Q = X / (D * B ^ j) := by rw [F.fQ, Nat.div_div_eq_div_mul, Nat.mul_comm]
       conv => whnf
       simp only [e1]
       refine ⟨⟨by omega, by omega⟩, ?_⟩
       simp only [toNat_cast, rowAdd_eq, Nat.zero_add]
       conv => whnf
       refine ⟨by show j + i < m; omega, ?_⟩
       conv => whnf
       rw [← hl]
       simp only [u32_mod, hcm]
       refine ⟨(l, c, b), rfl, ⟨hlB, hc, hb⟩, ?_⟩
       simp only [sub32S, ← hd, ← hb', e1]
       conv => whnf
       refine ⟨⟨by omega, by omega⟩, ?_⟩
       simp only [toNat_cast, rowAdd_eq, Nat.zero_add]
       conv => whnf
       refine ⟨by show j + i < m; omega, ?_⟩
       conv => whnf
       rw [limbRow_set hdB]
       refine br_intro (fun h2 => ?_) (fun h2 => ?_)
       ·have h2 : b' = 0 := by
         have := of_decide_eq_true h2
         omega
        clear hb'
        subst h2
        rw [Nat.zero_mul, Nat.add_zero] at hst
        obtain ⟨hr1, hr2⟩ := right_guess hE hst (by rw [← hQ2]; exact hT.2.1)
        conv => whnf
        simp only [u32_mod, hqm]
        exact wres_digit (i := ⟨X, m, cx, D, cd, j⟩) hr2 hr1 rfl
       ·have h2 : b' = 1 := by
         have := of_decide_eq_false h2
         omega
        clear hb'
        subst h2
        rw [Nat.one_mul] at hst
        obtain ⟨hr1, hr2⟩ := large_guess hE hst hZ2 (by rw [← hQ2]; exact hT.2.2)
        obtain ⟨Y, hY⟩ : ∃ Y, Y = setLimb Z (j + i) d := ⟨_, rfl⟩
        rw [← hY] at hr2 hZ2 ⊢
        clear hst he hZ hY hc hb hl hlB hd hdB hcm
        conv => whnf
        refine .inl ⟨fun mm tz hz => ∃ (k : Nat) (c : Nat) (V : Nat), Pat [some (.slice (some ⟨0, 0, none⟩) m cx), some (.slice (some ⟨1, 0, none⟩) i cd), some (.int .i64 j), none, none, none, some (.int .u32 0), some (.int .i64 i), none, some (.int .u64 qt), none, none, none, none, none, some (.int .u32 c), none, none, none, none, none, none, none, none, none, none, none, none, none, none, none, none, none, none, none, none, none, none, none, none, none, none, none, none, none, none, none, none, none, none, none, none, none, none, none, none, none, none, none, none, none, none, none, none, none, none, none, none, none, none, none, none, none, none, none, none, none, none, none, none, none, none, none, none, none, none, none, none, none, none, none, none, none, none, none, none, none, none, none, none, none, none, none, none, none, none, none, none, none, none, none, none, none, none, none, none, none, none, none, none, none, none, none, none, none, none, none, none, none, none, none, none, none, none, none, none, none, none, none, none, none, none, none, none, none, none, none, none, none, none, none, none, none, none, none, none, none, some (.slice (some ⟨1, 0, none⟩) i cd), some (.int .i64 i), some (.int .i64 k), none, none, none, none, none, none, none, none, none, none, none, none, none, none, none, none, none, none, none, none, none, none, none, none, none, none, none, none, none, none, none, none, none, none] tz ∧ hz = [some (.flat true m 1 (limbRow V)), some (newB D)] ∧ i - k = mm ∧ ((k ≤ i ∧ c ≤ 1) ∧ V < B ^ (j + i + 1) ∧ V + c * B ^ (j + k) = Y + D % B ^ k * B ^ j), .inr ⟨[0, 1], [0, 1, 2, 6, 7, 9, 15, 157, 158, 159], ?_⟩, ?_⟩
        ·conv => whnf
         intro _
         conv => whnf
         refine ⟨_, 0, 0, Y, (.keep (.keep (.keep (.skip (.skip (.skip (.keep (.keep (.skip (.keep (.skip (.skip (.skip (.skip (.skip (.keep (.s8 (.s8 (.s8 (.s8 (.s8 (.s8 (.s8 (.s8 (.s8 (.s8 (.s8 (.s8 (.s8 (.s8 (.s8 (.s8 (.s8 (.skip (.skip (.skip (.skip (.skip (.keep (.keep (.keep (.s8 (.s8 (.s8 (.s8 (.skip (.skip (.nil)))))))))))))))))))))))))))))))))))))))))))))))), rfl, rfl, ?_⟩
         exact ⟨⟨Nat.zero_le _, by decide⟩, hZ2, by simp [Nat.mod_one]⟩
        rintro mm tms _ ⟨k, c, V, hpat, rfl, rfl, ⟨⟨hk, hc⟩, hV, he⟩⟩
        obtain ⟨az, rfl⟩ : ∃ az : Nat → Value, tms = [.slice (some ⟨0, 0, none⟩) m cx, .slice (some ⟨1, 0, none⟩) i cd, .int .i64 j, az 3, az 4, az 5, .int .u32 0, .int .i64 i, az 8, .int .u64 qt, az 10, az 11, az 12, az 13, az 14, .int .u32 c, az 16, az 17, az 18, az 19, az 20, az 21, az 22, az 23, az 24, az 25, az 26, az 27, az 28, az 29, az 30, az 31, az 32, az 33, az 34, az 35, az 36, az 37, az 38, az 39, az 40, az 41, az 42, az 43, az 44, az 45, az 46, az 47, az 48, az 49, az 50, az 51, az 52, az 53, az 54, az 55, az 56, az 57, az 58, az 59, az 60, az 61, az 62, az 63, az 64, az 65, az 66, az 67, az 68, az 69, az 70, az 71, az 72, az 73, az 74, az 75, az 76, az 77, az 78, az 79, az 80, az 81, az 82, az 83, az 84, az 85, az 86, az 87, az 88, az 89, az 90, az 91, az 92, az 93, az 94, az 95, az 96, az 97, az 98, az 99, az 100, az 101, az 102, az 103, az 104, az 105, az 106, az 107, az 108, az 109, az 110, az 111, az 112, az 113, az 114, az 115, az 116, az 117, az 118, az 119, az 120, az 121, az 122, az 123, az 124, az 125, az 126, az 127, az 128, az 129, az 130, az 131, az 132, az 133, az 134, az 135, az 136, az 137, az 138, az 139, az 140, az 141, az 142, az 143, az 144, az 145, az 146, az 147, az 148, az 149, az 150, az 151, az 152, az 153, az 154, az 155, az 156, .slice (some ⟨1, 0, none⟩) i cd, .int .i64 i, .int .i64 k, az 160, az 161, az 162, az 163, az 164, az 165, az 166, az 167, az 168, az 169, az 170, az 171, az 172, az 173, az 174, az 175, az 176, az 177, az 178, az 179, az 180, az 181, az 182, az 183, az 184, az 185, az 186, az 187, az 188, az 189, az 190, az 191, az 192, az 193] := pat_fill hpat
        clear hpat
        conv => whnf
        refine br_intro (fun h3 => ?_) (fun h3 => ?_)
        ·have h3 : k < i := by simpa using h3
         obtain ⟨x, hx⟩ : ∃ x, x = limb D k := ⟨_, rfl⟩
         obtain ⟨l, hl⟩ : ∃ l, l = limb V (j + k) := ⟨_, rfl⟩
         have hxB : x < 4294967296 := by rw [hx]; exact limb_lt D k
         have hlB : l < 4294967296 := by rw [hl]; exact limb_lt V (j + k)
         obtain ⟨t, ht⟩ : ∃ t, t = l + x + c := ⟨_, rfl⟩
         have hst := back_step (t := t) (i := k) (j := j) he (by rw [← hl, ← hx]; exact ht)
         have htB : t % B < 4294967296 := Nat.mod_lt _ (by decide)
         have htC : t / B ≤ 1 := by show t / 4294967296 ≤ 1; omega
         have hV2 := setLimb_lt hV (show j + k < j + i + 1 by omega) (show t % B < B from htB)
         have e6 : IntKind.i64.wrap (((j : Nat) : Int) + ((k : Nat) : Int)) = ((j + k : Nat) : Int) := by rw [wrapi64 (by omega) (by omega)]; omega
         have e7 : IntKind.i64.wrap (((k : Nat) : Int) + 1) = ((k + 1 : Nat) : Int) := by rw [wrapi64 (by omega) (by omega)]; omega
         conv => whnf
         refine ⟨⟨by omega, by omega⟩, ?_⟩
         simp only [toNat_cast, rowAdd_eq, Nat.zero_add]
         conv => whnf
         refine ⟨by show k < nl D; omega, ?_⟩
         conv => whnf
         simp only [e6]
         refine ⟨⟨by omega, by omega⟩, ?_⟩
         simp only [toNat_cast, rowAdd_eq, Nat.zero_add]
         conv => whnf
         refine ⟨by show j + k < m; omega, ?_⟩
         conv => whnf
         rw [← hl, ← hx]
         refine ⟨(l, x, c), rfl, ⟨hlB, hxB, hc⟩, ?_⟩
         simp only [add32S, ← ht, e6]
         conv => whnf
         refine ⟨⟨by omega, by omega⟩, ?_⟩
         simp only [toNat_cast, rowAdd_eq, Nat.zero_add]
         conv => whnf
         refine ⟨by show j + k < m; omega, ?_⟩
         conv => whnf
         simp only [e7]
         rw [show t % 4294967296 = t % B from rfl, limbRow_set htB]
         refine .inl ⟨_, ?_, k + 1, t / B, setLimb V (j + k) (t % B), (.keep (.keep (.keep (.skip (.skip (.skip (.keep (.keep (.skip (.keep (.skip (.skip (.skip (.skip (.skip (.keep (.s8 (.s8 (.s8 (.s8 (.s8 (.s8 (.s8 (.s8 (.s8 (.s8 (.s8 (.s8 (.s8 (.s8 (.s8 (.s8 (.s8 (.skip (.skip (.skip (.skip (.skip (.keep (.keep (.keep (.s8 (.s8 (.s8 (.s8 (.skip (.skip (.nil)))))))))))))))))))))))))))))))))))))))))))))))), rfl, rfl, ?_⟩
         ·omega
         ·exact ⟨⟨by omega, htC⟩, hV2, hst⟩
        ·have h3 : k = i := by
          have h3 : ¬ k < i := by simpa using h3
          omega
         subst h3
         have hDlt : D < B ^ k := by rw [hn2]; exact lt_nl D
         have hfin := back_last (V := V) (R := X % (D * B ^ j)) (k := j + k) hV (Nat.lt_of_lt_of_le (Nat.mod_lt _ hE) (by rw [Nat.add_comm, Nat.pow_add]; exact Nat.mul_le_mul_right _ (Nat.le_of_lt hDlt))) hc (by
          rw [he, Nat.mod_eq_of_lt hDlt]; exact hr2)
         have hq3 : qt - 1 = X / (D * B ^ j) := by rw [hr1]; rfl
         have ep : IntKind.u64.wrap ((qt : Int) - 1) = ((qt - 1 : Nat) : Int) := by
          have : 1 ≤ qt := by rw [hr1]; exact Nat.le_add_left _ _
          have := hT.1
          rw [wrapu64 (by omega) (by omega)]; omega
         have hqm2 : (qt - 1) % B = qt - 1 := Nat.mod_eq_of_lt (by have := hT.1; show qt - 1 < 4294967296; omega)
         conv => whnf
         simp only [e1]
         refine ⟨⟨by omega, by omega⟩, ?_⟩
         simp only [toNat_cast, rowAdd_eq, Nat.zero_add]
         conv => whnf
         refine ⟨by show j + k < m; omega, ?_⟩
         conv => whnf
         rw [show IntKind.u32.wrap (((limb V (j + k) : Nat) : Int) + (c : Int)) = (((limb V (j + k) + c) % B : Nat) : Int) from u32_mod (limb V (j + k) + c)]
         refine ⟨⟨by omega, by omega⟩, ?_⟩
         simp only [toNat_cast, rowAdd_eq, Nat.zero_add]
         conv => whnf
         refine ⟨by show j + k < m; omega, ?_⟩
         conv => whnf
         simp only [ep, u32_mod, hqm2]
         rw [limbRow_set (Nat.mod_lt _ (by decide)), hfin]
         exact wres_digit (i := ⟨X, m, cx, D, cd, j⟩) rfl hq3 rfl
      skip
      skip
     ·rw [show (((((q - 1) / B : Nat) : Int) == 0) : Bool) = false by show decide ((((q - 1) / 4294967296 : Nat) : Int) = 0) = false; exact decide_eq_false (by omega)]
      conv => whnf
      refine .inr ⟨[0, 1], [0, 1, 2, 6, 7, 9, 10], ?_⟩
      conv => whnf
      intro _
      conv => whnf
      refine ⟨_, ?_, q - 1, r + d1, (.keep (.keep (.keep (.skip (.skip (.skip (.keep (.keep (.skip (.keep (.keep (.s8 (.s8 (.s8 (.s8 (.s8 (.s8 (.s8 (.s8 (.s8 (.s8 (.s8 (.s8 (.s8 (.s8 (.s8 (.s8 (.s8 (.s8 (.s8 (.s8 (.s8 (.s8 (.skip (.skip (.skip (.skip (.skip (.skip (.skip (.nil))))))))))))))))))))))))))))))))))))))))), rfl, rfl, ?_⟩
      ·omega
      ·exact ⟨he2, by omega, by omega⟩
   ·rw [show decide ((qd : Int) > (rw0 : Int)) = false from decide_eq_false (by omega)]
    conv => whnf
    obtain ⟨qt, hqt⟩ : ∃ qt, qt = q := ⟨_, rfl⟩
    have hT : qt < 4294967296 ∧ Q ≤ qt ∧ qt ≤ Q + 1 := by
     have h3 := hend (.inl (by rw [← hqd]; show qd ≤ r * 4294967296 + w0; omega))
     exact ⟨by omega, by omega, by omega⟩
    rw [← hqt]
    clear hvq hqd hrw0 hqB hend hrB he hr hq1 hq2 hqt
    conv => whnf
    refine .inl ⟨fun mm tz hz => ∃ (i : Nat) (c : Nat) (b : Nat) (Z : Nat), Pat [some (.slice (some ⟨0, 0, none⟩) m cx), some (.slice (some ⟨1, 0, none⟩) n2 cd), some (.int .i64 j), none, none, none, some (.int .u32 0), some (.int .i64 n2), none, some (.int .u64 qt), none, some (.int .u64 c), some (.int .u32 b), none, none, none, none, none, none, none, none, none, none, none, none, none, none, none, none, none, none, none, none, none, none, none, none, none, none, none, none, none, none, none, none, none, none, none, none, none, none, none, none, none, none, none, none, none, none, none, none, none, none, none, none, none, none, none, none, none, none, none, none, none, none, none, none, none, none, none, none, none, none, none, none, none, none, none, none, none, none, none, none, none, none, none, none, none, none, none, none, some (.slice (some ⟨1, 0, none⟩) n2 cd), some (.int .i64 n2), some (.int .i64 i), none, none, none, none, none, none, none, none, none, none, none, none, none, none, none, none, none, none, none, none, none, none, none, none, none, none, none, none, none, none, none, none, none, none, none, none, none, none, none, none, none, none, none, none, none, none, none, none, none, none, none, none, none, none, none, none, none, none, none, none, none, none, none, none, none, none, none, none, none, none, none, none, none, none, none, none, none, none, none, none, none, none, none, none, none, none, none, none, none, none] tz ∧ hz = [some (.flat true m 1 (limbRow Z)), some (newB D)] ∧ n2 - i = mm ∧ ((i ≤ n2 ∧ c < 4294967296 ∧ b ≤ 1) ∧ Z < B ^ (j + n2 + 1) ∧ Z + qt * (D % B ^ i) * B ^ j = X + (b + c) * B ^ (j + i)), .inr ⟨[0, 1], [0, 1, 2, 6, 7, 9, 11, 12, 101, 102, 103], ?_⟩, ?_⟩
    ·conv => whnf
     intro _
     conv => whnf
     refine ⟨_, 0, 0, 0, X, (.keep (.keep (.keep (.skip (.skip (.skip (.keep (.keep (.skip (.keep (.skip (.keep (.keep (.s8 (.s8 (.s8 (.s8 (.s8 (.s8 (.s8 (.s8 (.s8 (.s8 (.s8 (.keep (.keep (.keep (.s8 (.s8 (.s8 (.s8 (.s8 (.s8 (.s8 (.s8 (.s8 (.s8 (.s8 (.skip (.skip (.nil))))))))))))))))))))))))))))))))))))))))), rfl, rfl, ?_⟩
     exact ⟨⟨Nat.zero_le _, by decide, by decide⟩, F.fX, by simp [Nat.mod_one]⟩
    rintro mm tms _ ⟨i, c, b, Z, hpat, rfl, rfl, ⟨⟨hi, hc, hb⟩, hZ, he⟩⟩
    obtain ⟨az, rfl⟩ : ∃ az : Nat → Value, tms = [.slice (some ⟨0, 0, none⟩) m cx, .slice (some ⟨1, 0, none⟩) n2 cd, .int .i64 j, az 3, az 4, az 5, .int .u32 0, .int .i64 n2, az 8, .int .u64 qt, az 10, .int .u64 c, .int .u32 b, az 13, az 14, az 15, az 16, az 17, az 18, az 19, az 20, az 21, az 22, az 23, az 24, az 25, az 26, az 27, az 28, az 29, az 30, az 31, az 32, az 33, az 34, az 35, az 36, az 37, az 38, az 39, az 40, az 41, az 42, az 43, az 44, az 45, az 46, az 47, az 48, az 49, az 50, az 51, az 52, az 53, az 54, az 55, az 56, az 57, az 58, az 59, az 60, az 61, az 62, az 63, az 64, az 65, az 66, az 67, az 68, az 69, az 70, az 71, az 72, az 73, az 74, az 75, az 76, az 77, az 78, az 79, az 80, az 81, az 82, az 83, az 84, az 85, az 86, az 87, az 88, az 89, az 90, az 91, az 92, az 93, az 94, az 95, az 96, az 97, az 98, az 99, az 100, .slice (some ⟨1, 0, none⟩) n2 cd, .int .i64 n2, .int .i64 i, az 104, az 105, az 106, az 107, az 108, az 109, az 110, az 111, az 112, az 113, az 114, az 115, az 116, az 117, az 118, az 119, az 120, az 121, az 122, az 123, az 124, az 125, az 126, az 127, az 128, az 129, az 130, az 131, az 132, az 133, az 134, az 135, az 136, az 137, az 138, az 139, az 140, az 141, az 142, az 143, az 144, az 145, az 146, az 147, az 148, az 149, az 150, az 151, az 152, az 153, az 154, az 155, az 156, az 157, az 158, az 159, az 160, az 161, az 162, az 163, az 164, az 165, az 166, az 167, az 168, az 169, az 170, az 171, az 172, az 173, az 174, az 175, az 176, az 177, az 178, az 179, az 180, az 181, az 182, az 183, az 184, az 185, az 186, az 187, az 188, az 189, az 190, az 191, az 192, az 193] := pat_fill hpat
    clear hpat
    conv => whnf
    refine br_intro (fun h1 => ?_) (fun h1 => ?_)
    ·have h1 : i < n2 := by simpa using h1
     conv => whnf
     refine ⟨⟨by omega, by omega⟩, ?_⟩
     simp only [toNat_cast, rowAdd_eq, Nat.zero_add]
     conv => whnf
     refine ⟨by show i < nl D; omega, ?_⟩
     conv => whnf
     obtain ⟨x, hx⟩ : ∃ x, x = limb D i := ⟨_, rfl⟩
     obtain ⟨l, hl⟩ : ∃ l, l = limb Z (j + i) := ⟨_, rfl⟩
     obtain ⟨t, ht⟩ : ∃ t, t = c + qt * limb D i := ⟨_, rfl⟩
     have hxB : x < B := by rw [hx]; exact limb_lt D i
     have hlB : l < 4294967296 := by rw [hl]; exact limb_lt Z (j + i)
     obtain ⟨hv, htC⟩ := muladd64 (t := t) hc hT.1 hxB (by rw [hx]; exact ht)
     have htm : t % B < 4294967296 := Nat.mod_lt _ (by decide)
     obtain ⟨d, hd⟩ : ∃ d, d = (l + 2 * 4294967296 - t % B - b) % 4294967296 := ⟨_, rfl⟩
     obtain ⟨b', hb'⟩ : ∃ b', b' = if l < t % B + b then 1 else 0 := ⟨_, rfl⟩
     have hdB : d < 4294967296 := by rw [hd]; exact Nat.mod_lt _ (by decide)
     have hst := away_step (i := i) (j := j) (d := d) (b' := b') he ht (by
      rw [← hl, hb', hB, ← hB]
      clear he hZ ht hv
      obtain ⟨u, hu⟩ : ∃ u, u = t % B := ⟨_, rfl⟩
      rw [← hu] at hd htm ⊢
      split <;> omega)
     have hZ2 := setLimb_lt hZ (show j + i < j + n2 + 1 by omega) (show d < B from hdB)
     have hb2 : b' ≤ 1 := by rw [hb']; split <;> omega
     have e6 : IntKind.i64.wrap (((j : Nat) : Int) + ((i : Nat) : Int)) = ((j + i : Nat) : Int) := by rw [wrapi64 (by omega) (by omega)]; omega
     have e7 : IntKind.i64.wrap (((i : Nat) : Int) + 1) = ((i + 1 : Nat) : Int) := by rw [wrapi64 (by omega) (by omega)]; omega
     rw [← hx]
     simp only [hl64 _ hxB, hv, e6]
     refine ⟨⟨by omega, by omega⟩, ?_⟩
     simp only [toNat_cast, rowAdd_eq, Nat.zero_add]
     conv => whnf
     refine ⟨by show j + i < m; omega, ?_⟩
     conv => whnf
     rw [← hl]
     simp only [u32_mod]
     refine ⟨(l, t % B, b), rfl, ⟨hlB, htm, hb⟩, ?_⟩
     simp only [sub32S, ← hd, ← hb', e6]
     conv => whnf
     refine ⟨⟨by omega, by omega⟩, ?_⟩
     simp only [toNat_cast, rowAdd_eq, Nat.zero_add]
     conv => whnf
     refine ⟨by show j + i < m; omega, ?_⟩
     conv => whnf
     simp only [shr_u64_32, div_B, e7]
     rw [limbRow_set hdB]
     refine .inl ⟨_, ?_, i + 1, t / B, b', setLimb Z (j + i) d, (.keep (.keep (.keep (.skip (.skip (.skip (.keep (.keep (.skip (.keep (.skip (.keep (.keep (.s8 (.s8 (.s8 (.s8 (.s8 (.s8 (.s8 (.s8 (.s8 (.s8 (.s8 (.keep (.keep (.keep (.s8 (.s8 (.s8 (.s8 (.s8 (.s8 (.s8 (.s8 (.s8 (.s8 (.s8 (.skip (.skip (.nil))))))))))))))))))))))))))))))))))))))))), rfl, rfl, ?_⟩
     ·omega
     ·exact ⟨⟨by omega, htC, hb2⟩, hZ2, hst⟩
    ·have h1 : i = n2 := by
      have h1 : ¬ i < n2 := by simpa using h1
      omega
     subst h1
     obtain ⟨l, hl⟩ : ∃ l, l = limb Z (j + i) := ⟨_, rfl⟩
     have hlB : l < 4294967296 := by rw [hl]; exact limb_lt Z (j + i)
     obtain ⟨d, hd⟩ : ∃ d, d = (l + 2 * 4294967296 - c - b) % 4294967296 := ⟨_, rfl⟩
     obtain ⟨b', hb'⟩ : ∃ b', b' = if l < c + b then 1 else 0 := ⟨_, rfl⟩
     have hdB : d < 4294967296 := by rw [hd]; exact Nat.mod_lt _ (by decide)
     have hst := away_last (j := j) (d := d) (b' := b') (by rw [hn2]; exact lt_nl D) hc he (by
      rw [← hl, hb', hB, ← hB]
      clear he hZ
      split <;> omega)
     have hZ2 := setLimb_lt hZ (show j + i < j + i + 1 by omega) (show d < B from hdB)
     have hcm : c % B = c := Nat.mod_eq_of_lt hc
     have hb2 : b' ≤ 1 := by rw [hb']; split <;> omega
     have hqm : qt % B = qt := Nat.mod_eq_of_lt hT.1
     have hE : 0 < D * B ^ j := Nat.mul_pos F.fD0 (Bpos j)
     have hQ2 : Q = X / (D * B ^ j) := by rw [F.fQ, Nat.div_div_eq_div_mul, Nat.mul_comm]
     conv => whnf
     simp only [e1]
     refine ⟨⟨by omega, by omega⟩, ?_⟩
     simp only [toNat_cast, rowAdd_eq, Nat.zero_add]
     conv => whnf
     refine ⟨by show j + i < m; omega, ?_⟩
     conv => whnf
     rw [← hl]
     simp only [u32_mod, hcm]
     refine ⟨(l, c, b), rfl, ⟨hlB, hc, hb⟩, ?_⟩
     simp only [sub32S, ← hd, ← hb', e1]
     conv => whnf
     refine ⟨⟨by omega, by omega⟩, ?_⟩
     simp only [toNat_cast, rowAdd_eq, Nat.zero_add]
     conv => whnf
     refine ⟨by show j + i < m; omega, ?_⟩
     conv => whnf
     rw [limbRow_set hdB]
     refine br_intro (fun h2 => ?_) (fun h2 => ?_)
     ·have h2 : b' = 0 := by
       have := of_decide_eq_true h2
       omega
      clear hb'
      subst h2
      rw [Nat.zero_mul, Nat.add_zero] at hst
      obtain ⟨hr1, hr2⟩ := right_guess hE hst (by rw [← hQ2]; exact hT.2.1)
      conv => whnf
      simp only [u32_mod, hqm]
      exact wres_digit (i := ⟨X, m, cx, D, cd, j⟩) hr2 hr1 rfl
     ·have h2 : b' = 1 := by
       have := of_decide_eq_false h2
       omega
      clear hb'
      subst h2
      rw [Nat.one_mul] at hst
      obtain ⟨hr1, hr2⟩ := large_guess hE hst hZ2 (by rw [← hQ2]; exact hT.2.2)
      obtain ⟨Y, hY⟩ : ∃ Y, Y = setLimb Z (j + i) d := ⟨_, rfl⟩
      rw [← hY] at hr2 hZ2 ⊢
      clear hst he hZ hY hc hb hl hlB hd hdB hcm
      conv => whnf
      refine .inl ⟨fun mm tz hz => ∃ (k : Nat) (c : Nat) (V : Nat), Pat [some (.slice (some ⟨0, 0, none⟩) m cx), some (.slice (some ⟨1, 0, none⟩) i cd), some (.int .i64 j), none, none, none, some (.int .u32 0), some (.int .i64 i), none, some (.int .u64 qt), none, none, none, none, none, some (.int .u32 c), none, none, none, none, none, none, none, none, none, none, none, none, none, none, none, none, none, none, none, none, none, none, none, none, none, none, none, none, none, none, none, none, none, none, none, none, none, none, none, none, none, none, none, none, none, none, none, none, none, none, none, none, none, none, none, none, none, none, none, none, none, none, none, none, none, none, none, none, none, none, none, none, none, none, none, none, none, none, none, none, none, none, none, none, none, none, none, none, none, none, none, none, none, none, none, none, none, none, none, none, none, none, none, none, none, none, none, none, none, none, none, none, none, none, none, none, none, none, none, none, none, none, none, none, none, none, none, none, none, none, none, none, none, none, none, none, none, none, none, none, none, some (.slice (some ⟨1, 0, none⟩) i cd), some (.int .i64 i), some (.int .i64 k), none, none, none, none, none, none, none, none, none, none, none, none, none, none, none, none, none, none, none, none, none, none, none, none, none, none, none, none, none, none, none, none, none, none] tz ∧ hz = [some (.flat true m 1 (limbRow V)), some (newB D)] ∧ i - k = mm ∧ ((k ≤ i ∧ c ≤ 1) ∧ V < B ^ (j + i + 1) ∧ V + c * B ^ (j + k) = Y + D % B ^ k * B ^ j), .inr ⟨[0, 1], [0, 1, 2, 6, 7, 9, 15, 157, 158, 159], ?_⟩, ?_⟩
      ·conv => whnf
       intro _
       conv => whnf
       refine ⟨_, 0, 0, Y, (.keep (.keep (.keep (.skip (.skip (.skip (.keep (.keep (.skip (.keep (.skip (.skip (.skip (.skip (.skip (.keep (.s8 (.s8 (.s8 (.s8 (.s8 (.s8 (.s8 (.s8 (.s8 (.s8 (.s8 (.s8 (.s8 (.s8 (.s8 (.s8 (.s8 (.skip (.skip (.skip (.skip (.skip (.keep (.keep (.keep (.s8 (.s8 (.s8 (.s8 (.skip (.skip (.nil)))))))))))))))))))))))))))))))))))))))))))))))), rfl, rfl, ?_⟩
       exact ⟨⟨Nat.zero_le _, by decide⟩, hZ2, by simp [Nat.mod_one]⟩
      rintro mm tms _ ⟨k, c, V, hpat, rfl, rfl, ⟨⟨hk, hc⟩, hV, he⟩⟩
      obtain ⟨az, rfl⟩ : ∃ az : Nat → Value, tms = [.slice (some ⟨0, 0, none⟩) m cx, .slice (some ⟨1, 0, none⟩) i cd, .int .i64 j, az 3, az 4, az 5, .int .u32 0, .int .i64 i, az 8, .int .u64 qt, az 10, az 11, az 12, az 13, az 14, .int .u32 c, az 16, az 17, az 18, az 19, az 20, az 21, az 22, az 23, az 24, az 25, az 26, az 27, az 28, az 29, az 30, az 31, az 32, az 33, az 34, az 35, az 36, az 37, az 38, az 39, az 40, az 41, az 42, az 43, az 44, az 45, az 46, az 47, az 48, az 49, az 50, az 51, az 52, az 53, az 54, az 55, az 56, az 57, az 58, az 59, az 60, az 61, az 62, az 63, az 64, az 65, az 66, az 67, az 68, az 69, az 70, az 71, az 72, az 73, az 74, az 75, az 76, az 77, az 78, az 79, az 80, az 81, az 82, az 83, az 84, az 85, az 86, az 87, az 88, az 89, az 90, az 91, az 92, az 93, az 94, az 95, az 96, az 97, az 98, az 99, az 100, az 101, az 102, az 103, az 104, az 105, az 106, az 107, az 108, az 109, az 110, az 111, az 112, az 113, az 114, az 115, az 116, az 117, az 118, az 119, az 120, az 121, az 122, az 123, az 124, az 125, az 126, az 127, az 128, az 129, az 130, az 131, az 132, az 133, az 134, az 135, az 136, az 137, az 138, az 139, az 140, az 141, az 142, az 143, az 144, az 145, az 146, az 147, az 148, az 149, az 150, az 151, az 152, az 153, az 154, az 155, az 156, .slice (some ⟨1, 0, none⟩) i cd, .int .i64 i, .int .i64 k, az 160, az 161, az 162, az 163, az 164, az 165, az 166, az 167, az 168, az 169, az 170, az 171, az 172, az 173, az 174, az 175, az 176, az 177, az 178, az 179, az 180, az 181, az 182, az 183, az 184, az 185, az 186, az 187, az 188, az 189, az 190, az 191, az 192, az 193] := pat_fill hpat
      clear hpat
      conv => whnf
      refine br_intro (fun h3 => ?_) (fun h3 => ?_)
      ·have h3 : k < i := by simpa using h3
       obtain ⟨x, hx⟩ : ∃ x, x = limb D k := ⟨_, rfl⟩
       obtain ⟨l, hl⟩ : ∃ l, l = limb V (j + k) := ⟨_, rfl⟩
       have hxB : x < 4294967296 := by rw [hx]; exact limb_lt D k
       have hlB : l < 4294967296 := by rw [hl]; exact limb_lt V (j + k)
       obtain ⟨t, ht⟩ : ∃ t, t = l + x + c := ⟨_, rfl⟩
       have hst := back_step (t := t) (i := k) (j := j) he (by rw [← hl, ← hx]; exact ht)
       have htB : t % B < 4294967296 := Nat.mod_lt _ (by decide)
       have htC : t / B ≤ 1 := by show t / 4294967296 ≤ 1; omega
       have hV2 := setLimb_lt hV (show j + k < j + i + 1 by omega) (show t % B < B from htB)
       have e6 : IntKind.i64.wrap (((j : Nat) : Int) + ((k : Nat) : Int)) = ((j + k : Nat) : Int) := by rw [wrapi64 (by omega) (by omega)]; omega
       have e7 : IntKind.i64.wrap (((k : Nat) : Int) + 1) = ((k + 1 : Nat) : Int) := by rw [wrapi64 (by omega) (by omega)]; omega
       conv => whnf
       refine ⟨⟨by omega, by omega⟩, ?_⟩
       simp only [toNat_cast, rowAdd_eq, Nat.zero_add]
       conv => whnf
       refine ⟨by show k < nl D; omega, ?_⟩
       conv => whnf
       simp only [e6]
       refine ⟨⟨by omega, by omega⟩, ?_⟩
       simp only [toNat_cast, rowAdd_eq, Nat.zero_add]
       conv => whnf
       refine ⟨by show j + k < m; omega, ?_⟩
       conv => whnf
       rw [← hl, ← hx]
       refine ⟨(l, x, c), rfl, ⟨hlB, hxB, hc⟩, ?_⟩
       simp only [add32S, ← ht, e6]
       conv => whnf
       refine ⟨⟨by omega, by omega⟩, ?_⟩
       simp only [toNat_cast, rowAdd_eq, Nat.zero_add]
       conv => whnf
       refine ⟨by show j + k < m; omega, ?_⟩
       conv => whnf
       simp only [e7]
       rw [show t % 4294967296 = t % B from rfl, limbRow_set htB]
       refine .inl ⟨_, ?_, k + 1, t / B, setLimb V (j + k) (t % B), (.keep (.keep (.keep (.skip (.skip (.skip (.keep (.keep (.skip (.keep (.skip (.skip (.skip (.skip (.skip (.keep (.s8 (.s8 (.s8 (.s8 (.s8 (.s8 (.s8 (.s8 (.s8 (.s8 (.s8 (.s8 (.s8 (.s8 (.s8 (.s8 (.s8 (.skip (.skip (.skip (.skip (.skip (.keep (.keep (.keep (.s8 (.s8 (.s8 (.s8 (.skip (.skip (.nil)))))))))))))))))))))))))))))))))))))))))))))))), rfl, rfl, ?_⟩
       ·omega
       ·exact ⟨⟨by omega, htC⟩, hV2, hst⟩
      ·have h3 : k = i := by
        have h3 : ¬ k < i := by simpa using h3
        omega
       subst h3
       have hDlt : D < B ^ k := by rw [hn2]; exact lt_nl D
       have hfin := back_last (V := V) (R := X % (D * B ^ j)) (k := j + k) hV (Nat.lt_of_lt_of_le (Nat.mod_lt _ hE) (by rw [Nat.add_comm, Nat.pow_add]; exact Nat.mul_le_mul_right _ (Nat.le_of_lt hDlt))) hc (by
        rw [he, Nat.mod_eq_of_lt hDlt]; exact hr2)
       have hq3 : qt - 1 = X / (D * B ^ j) := by rw [hr1]; rfl
       have ep : IntKind.u64.wrap ((qt : Int) - 1) = ((qt - 1 : Nat) : Int) := by
        have : 1 ≤ qt := by rw [hr1]; exact Nat.le_add_left _ _
        have := hT.1
        rw [wrapu64 (by omega) (by omega)]; omega
       have hqm2 : (qt - 1) % B = qt - 1 := Nat.mod_eq_of_lt (by have := hT.1; show qt - 1 < 4294967296; omega)
       conv => whnf
       simp only [e1]
       refine ⟨⟨by omega, by omega⟩, ?_⟩
       simp only [toNat_cast, rowAdd_eq, Nat.zero_add]
       conv => whnf
       refine ⟨by show j + k < m; omega, ?_⟩
       conv => whnf
       rw [show IntKind.u32.wrap (((limb V (j + k) : Nat) : Int) + (c : Int)) = (((limb V (j + k) + c) % B : Nat) : Int) from u32_mod (limb V (j + k) + c)]
       refine ⟨⟨by omega, by omega⟩, ?_⟩
       simp only [toNat_cast, rowAdd_eq, Nat.zero_add]
       conv => whnf
       refine ⟨by show j + k < m; omega, ?_⟩
       conv => whnf
       simp only [ep, u32_mod, hqm2]
       rw [limbRow_set (Nat.mod_lt _ (by decide)), hfin]
       exact wres_digit (i := ⟨X, m, cx, D, cd, j⟩) rfl hq3 rfl
    skip
    skip
  ·rw [show (((((r / B : Nat) : Int) == 0) : Bool)) = false by show decide (((r / 4294967296 : Nat) : Int) = 0) = false; exact decide_eq_false (by omega)]
   conv => whnf
   obtain ⟨qt, hqt⟩ : ∃ qt, qt = q := ⟨_, rfl⟩
   have hT : qt < 4294967296 ∧ Q ≤ qt ∧ qt ≤ Q + 1 := ⟨by omega, by omega, by have := hend (.inr hrB); omega⟩
   rw [← hqt]
   clear hqB hend hrB he hr hq1 hq2 hqt
   conv => whnf
   refine .inl ⟨fun mm tz hz => ∃ (i : Nat) (c : Nat) (b : Nat) (Z : Nat), Pat [some (.slice (some ⟨0, 0, none⟩) m cx), some (.slice (some ⟨1, 0, none⟩) n2 cd), some (.int .i64 j), none, none, none, some (.int .u32 0), some (.int .i64 n2), none, some (.int .u64 qt), none, some (.int .u64 c), some (.int .u32 b), none, none, none, none, none, none, none, none, none, none, none, none, none, none, none, none, none, none, none, none, none, none, none, none, none, none, none, none, none, none, none, none, none, none, none, none, none, none, none, none, none, none, none, none, none, none, none, none, none, none, none, none, none, none, none, none, none, none, none, none, none, none, none, none, none, none, none, none, none, none, none, none, none, none, none, none, none, none, none, none, none, none, none, none, none, none, none, none, some (.slice (some ⟨1, 0, none⟩) n2 cd), some (.int .i64 n2), some (.int .i64 i), none, none, none, none, none, none, none, none, none, none, none, none, none, none, none, none, none, none, none, none, none, none, none, none, none, none, none, none, none, none, none, none, none, none, none, none, none, none, none, none, none, none, none, none, none, none, none, none, none, none, none, none, none, none, none, none, none, none, none, none, none, none, none, none, none, none, none, none, none, none, none, none, none, none, none, none, none, none, none, none, none, none, none, none, none, none, none, none, none, none] tz ∧ hz = [some (.flat true m 1 (limbRow Z)), some (newB D)] ∧ n2 - i = mm ∧ ((i ≤ n2 ∧ c < 4294967296 ∧ b ≤ 1) ∧ Z < B ^ (j + n2 + 1) ∧ Z + qt * (D % B ^ i) * B ^ j = X + (b + c) * B ^ (j + i)), .inr ⟨[0, 1], [0, 1, 2, 6, 7, 9, 11, 12, 101, 102, 103], ?_⟩, ?_⟩
   ·conv => whnf
    intro _
    conv => whnf
    refine ⟨_, 0, 0, 0, X, (.keep (.keep (.keep (.skip (.skip (.skip (.keep (.keep (.skip (.keep (.skip (.keep (.keep (.s8 (.s8 (.s8 (.s8 (.s8 (.s8 (.s8 (.s8 (.s8 (.s8 (.s8 (.keep (.keep (.keep (.s8 (.s8 (.s8 (.s8 (.s8 (.s8 (.s8 (.s8 (.s8 (.s8 (.s8 (.skip (.skip (.nil))))))))))))))))))))))))))))))))))))))))), rfl, rfl, ?_⟩
    exact ⟨⟨Nat.zero_le _, by decide, by decide⟩, F.fX, by simp [Nat.mod_one]⟩
   rintro mm tms _ ⟨i, c, b, Z, hpat, rfl, rfl, ⟨⟨hi, hc, hb⟩, hZ, he⟩⟩
   obtain ⟨az, rfl⟩ : ∃ az : Nat → Value, tms = [.slice (some ⟨0, 0, none⟩) m cx, .slice (some ⟨1, 0, none⟩) n2 cd, .int .i64 j, az 3, az 4, az 5, .int .u32 0, .int .i64 n2, az 8, .int .u64 qt, az 10, .int .u64 c, .int .u32 b, az 13, az 14, az 15, az 16, az 17, az 18, az 19, az 20, az 21, az 22, az 23, az 24, az 25, az 26, az 27, az 28, az 29, az 30, az 31, az 32, az 33, az 34, az 35, az 36, az 37, az 38, az 39, az 40, az 41, az 42, az 43, az 44, az 45, az 46, az 47, az 48, az 49, az 50, az 51, az 52, az 53, az 54, az 55, az 56, az 57, az 58, az 59, az 60, az 61, az 62, az 63, az 64, az 65, az 66, az 67, az 68, az 69, az 70, az 71, az 72, az 73, az 74, az 75, az 76, az 77, az 78, az 79, az 80, az 81, az 82, az 83, az 84, az 85, az 86, az 87, az 88, az 89, az 90, az 91, az 92, az 93, az 94, az 95, az 96, az 97, az 98, az 99, az 100, .slice (some ⟨1, 0, none⟩) n2 cd, .int .i64 n2, .int .i64 i, az 104, az 105, az 106, az 107, az 108, az 109, az 110, az 111, az 112, az 113, az 114, az 115, az 116, az 117, az 118, az 119, az 120, az 121, az 122, az 123, az 124, az 125, az 126, az 127, az 128, az 129, az 130, az 131, az 132, az 133, az 134, az 135, az 136, az 137, az 138, az 139, az 140, az 141, az 142, az 143, az 144, az 145, az 146, az 147, az 148, az 149, az 150, az 151, az 152, az 153, az 154, az 155, az 156, az 157, az 158, az 159, az 160, az 161, az 162, az 163, az 164, az 165, az 166, az 167, az 168, az 169, az 170, az 171, az 172, az 173, az 174, az 175, az 176, az 177, az 178, az 179, az 180, az 181, az 182, az 183, az 184, az 185, az 186, az 187, az 188, az 189, az 190, az 191, az 192, az 193] := pat_fill hpat
   clear hpat
   conv => whnf
   refine br_intro (fun h1 => ?_) (fun h1 => ?_)
   ·have h1 : i < n2 := by simpa using h1
    conv => whnf
    refine ⟨⟨by omega, by omega⟩, ?_⟩
    simp only [toNat_cast, rowAdd_eq, Nat.zero_add]
    conv => whnf
    refine ⟨by show i < nl D; omega, ?_⟩
    conv => whnf
    obtain ⟨x, hx⟩ : ∃ x, x = limb D i := ⟨_, rfl⟩
    obtain ⟨l, hl⟩ : ∃ l, l = limb Z (j + i) := ⟨_, rfl⟩
    obtain ⟨t, ht⟩ : ∃ t, t = c + qt * limb D i := ⟨_, rfl⟩
    have hxB : x < B := by rw [hx]; exact limb_lt D i
    have hlB : l < 4294967296 := by rw [hl]; exact limb_lt Z (j + i)
    obtain ⟨hv, htC⟩ := muladd64 (t := t) hc hT.1 hxB (by rw [hx]; exact ht)
    have htm : t % B < 4294967296 := Nat.mod_lt _ (by decide)
    obtain ⟨d, hd⟩ : ∃ d, d = (l + 2 * 4294967296 - t % B - b) % 4294967296 := ⟨_, rfl⟩
    obtain ⟨b', hb'⟩ : ∃ b', b' = if l < t % B + b then 1 else 0 := ⟨_, rfl⟩
    have hdB : d < 4294967296 := by rw [hd]; exact Nat.mod_lt _ (by decide)
    have hst := away_step (i := i) (j := j) (d := d) (b' := b') he ht (by
     rw [← hl, hb', hB, ← hB]
     clear he hZ ht hv
     obtain ⟨u, hu⟩ : ∃ u, u = t % B := ⟨_, rfl⟩
     rw [← hu] at hd htm ⊢
     split <;> omega)
    have hZ2 := setLimb_lt hZ (show j + i < j + n2 + 1 by omega) (show d < B from hdB)
    have hb2 : b' ≤ 1 := by rw [hb']; split <;> omega
    have e6 : IntKind.i64.wrap (((j : Nat) : Int) + ((i : Nat) : Int)) = ((j + i : Nat) : Int) := by rw [wrapi64 (by omega) (by omega)]; omega
    have e7 : IntKind.i64.wrap (((i : Nat) : Int) + 1) = ((i + 1 : Nat) : Int) := by rw [wrapi64 (by omega) (by omega)]; omega
    rw [← hx]
    simp only [hl64 _ hxB, hv, e6]
    refine ⟨⟨by omega, by omega⟩, ?_⟩
    simp only [toNat_cast, rowAdd_eq, Nat.zero_add]
    conv => whnf
    refine ⟨by show j + i < m; omega, ?_⟩
    conv => whnf
    rw [← hl]
    simp only [u32_mod]
    refine ⟨(l, t % B, b), rfl, ⟨hlB, htm, hb⟩, ?_⟩
    simp only [sub32S, ← hd, ← hb', e6]
    conv => whnf
    refine ⟨⟨by omega, by omega⟩, ?_⟩
    simp only [toNat_cast, rowAdd_eq, Nat.zero_add]
    conv => whnf
    refine ⟨by show j + i < m; omega, ?_⟩
    conv => whnf
    simp only [shr_u64_32, div_B, e7]
    rw [limbRow_set hdB]
    refine .inl ⟨_, ?_, i + 1, t / B, b', setLimb Z (j + i) d, (.keep (.keep (.keep (.skip (.skip (.skip (.keep (.keep (.skip (.keep (.skip (.keep (.keep (.s8 (.s8 (.s8 (.s8 (.s8 (.s8 (.s8 (.s8 (.s8 (.s8 (.s8 (.keep (.keep (.keep (.s8 (.s8 (.s8 (.s8 (.s8 (.s8 (.s8 (.s8 (.s8 (.s8 (.s8 (.skip (.skip (.nil))))))))))))))))))))))))))))))))))))))))), rfl, rfl, ?_⟩
    ·omega
    ·exact ⟨⟨by omega, htC, hb2⟩, hZ2, hst⟩
   ·have h1 : i = n2 := by
     have h1 : ¬ i < n2 := by simpa using h1
     omega
    subst h1
    obtain ⟨l, hl⟩ : ∃ l, l = limb Z (j + i) := ⟨_, rfl⟩
    have hlB : l < 4294967296 := by rw [hl]; exact limb_lt Z (j + i)
    obtain ⟨d, hd⟩ : ∃ d, d = (l + 2 * 4294967296 - c - b) % 4294967296 := ⟨_, rfl⟩
    obtain ⟨b', hb'⟩ : ∃ b', b' = if l < c + b then 1 else 0 := ⟨_, rfl⟩
    have hdB : d < 4294967296 := by rw [hd]; exact Nat.mod_lt _ (by decide)
    have hst := away_last (j := j) (d := d) (b' := b') (by rw [hn2]; exact lt_nl D) hc he (by
     rw [← hl, hb', hB, ← hB]
     clear he hZ
     split <;> omega)
    have hZ2 := setLimb_lt hZ (show j + i < j + i + 1 by omega) (show d < B from hdB)
    have hcm : c % B = c := Nat.mod_eq_of_lt hc
    have hb2 : b' ≤ 1 := by rw [hb']; split <;> omega
    have hqm : qt % B = qt := Nat.mod_eq_of_lt hT.1
    have hE : 0 < D * B ^ j := Nat.mul_pos F.fD0 (Bpos j)
    have hQ2 : Q = X / (D * B ^ j) := by rw [F.fQ, Nat.div_div_eq_div_mul, Nat.mul_comm]
    conv => whnf
    simp only [e1]
    refine ⟨⟨by omega, by omega⟩, ?_⟩
    simp only [toNat_cast, rowAdd_eq, Nat.zero_add]
    conv => whnf
    refine ⟨by show j + i < m; omega, ?_⟩
    conv => whnf
    rw [← hl]
    simp only [u32_mod, hcm]
    refine ⟨(l, c, b), rfl, ⟨hlB, hc, hb⟩, ?_⟩
    simp only [sub32S, ← hd, ← hb', e1]
    conv => whnf
    refine ⟨⟨by omega, by omega⟩, ?_⟩
    simp only [toNat_cast, rowAdd_eq, Nat.zero_add]
    conv => whnf
    refine ⟨by show j + i < m; omega, ?_⟩
    conv => whnf
    rw [limbRow_set hdB]
    refine br_intro (fun h2 => ?_) (fun h2 => ?_)
    ·have h2 : b' = 0 := by
      have := of_decide_eq_true h2
      omega
     clear hb'
     subst h2
     rw [Nat.zero_mul, Nat.add_zero] at hst
     obtain ⟨hr1, hr2⟩ := right_guess hE hst (by rw [← hQ2]; exact hT.2.1)
     conv => whnf
     simp only [u32_mod, hqm]
     exact wres_digit (i := ⟨X, m, cx, D, cd, j⟩) hr2 hr1 rfl
    ·have h2 : b' = 1 := by
      have := of_decide_eq_false h2
      omega
     clear hb'
     subst h2
     rw [Nat.one_mul] at hst
     obtain ⟨hr1, hr2⟩ := large_guess hE hst hZ2 (by rw [← hQ2]; exact hT.2.2)
     obtain ⟨Y, hY⟩ : ∃ Y, Y = setLimb Z (j + i) d := ⟨_, rfl⟩
     rw [← hY] at hr2 hZ2 ⊢
     clear hst he hZ hY hc hb hl hlB hd hdB hcm
     conv => whnf
     refine .inl ⟨fun mm tz hz => ∃ (k : Nat) (c : Nat) (V : Nat), Pat [some (.slice (some ⟨0, 0, none⟩) m cx), some (.slice (some ⟨1, 0, none⟩) i cd), some (.int .i64 j), none, none, none, some (.int .u32 0), some (.int .i64 i), none, some (.int .u64 qt), none, none, none, none, none, some (.int .u32 c), none, none, none, none, none, none, none, none, none, none, none, none, none, none, none, none, none, none, none, none, none, none, none, none, none, none, none, none, none, none, none, none, none, none, none, none, none, none, none, none, none, none, none, none, none, none, none, none, none, none, none, none, none, none, none, none, none, none, none, none, none, none, none, none, none, none, none, none, none, none, none, none, none, none, none, none, none, none, none, none, none, none, none, none, none, none, none, none, none, none, none, none, none, none, none, none, none, none, none, none, none, none, none, none, none, none, none, none, none, none, none, none, none, none, none, none, none, none, none, none, none, none, none, none, none, none, none, none, none, none, none, none, none, none, none, none, none, none, none, none, none, some (.slice (some ⟨1, 0, none⟩) i cd), some (.int .i64 i), some (.int .i64 k), none, none, none, none, none, none, none, none, none, none, none, none, none, none, none, none, none, none, none, none, none, none, none, none, none, none, none, none, none, none, none, none, none, none] tz ∧ hz = [some (.flat true m 1 (limbRow V)), some (newB D)] ∧ i - k = mm ∧ ((k ≤ i ∧ c ≤ 1) ∧ V < B ^ (j + i + 1) ∧ V + c * B ^ (j + k) = Y + D % B ^ k * B ^ j), .inr ⟨[0, 1], [0, 1, 2, 6, 7, 9, 15, 157, 158, 159], ?_⟩, ?_⟩
     ·conv => whnf
      intro _
      conv => whnf
      refine ⟨_, 0, 0, Y, (.keep (.keep (.keep (.skip (.skip (.skip (.keep (.keep (.skip (.keep (.skip (.skip (.skip (.skip (.skip (.keep (.s8 (.s8 (.s8 (.s8 (.s8 (.s8 (.s8 (.s8 (.s8 (.s8 (.s8 (.s8 (.s8 (.s8 (.s8 (.s8 (.s8 (.skip (.skip (.skip (.skip (.skip (.keep (.keep (.keep (.s8 (.s8 (.s8 (.s8 (.skip (.skip (.nil)))))))))))))))))))))))))))))))))))))))))))))))), rfl, rfl, ?_⟩
      exact ⟨⟨Nat.zero_le _, by decide⟩, hZ2, by simp [Nat.mod_one]⟩
     rintro mm tms _ ⟨k, c, V, hpat, rfl, rfl, ⟨⟨hk, hc⟩, hV, he⟩⟩
     obtain ⟨az, rfl⟩ : ∃ az : Nat → Value, tms = [.slice (some ⟨0, 0, none⟩) m cx, .slice (some ⟨1, 0, none⟩) i cd, .int .i64 j, az 3, az 4, az 5, .int .u32 0, .int .i64 i, az 8, .int .u64 qt, az 10, az 11, az 12, az 13, az 14, .int .u32 c, az 16, az 17, az 18, az 19, az 20, az 21, az 22, az 23, az 24, az 25, az 26, az 27, az 28, az 29, az 30, az 31, az 32, az 33, az 34, az 35, az 36, az 37, az 38, az 39, az 40, az 41, az 42, az 43, az 44, az 45, az 46, az 47, az 48, az 49, az 50, az 51, az 52, az 53, az 54, az 55, az 56, az 57, az 58, az 59, az 60, az 61, az 62, az 63, az 64, az 65, az 66, az 67, az 68, az 69, az 70, az 71, az 72, az 73, az 74, az 75, az 76, az 77, az 78, az 79, az 80, az 81, az 82, az 83, az 84, az 85, az 86, az 87, az 88, az 89, az 90, az 91, az 92, az 93, az 94, az 95, az 96, az 97, az 98, az 99, az 100, az 101, az 102, az 103, az 104, az 105, az 106, az 107, az 108, az 109, az 110, az 111, az 112, az 113, az 114, az 115, az 116, az 117, az 118, az 119, az 120, az 121, az 122, az 123, az 124, az 125, az 126, az 127, az 128, az 129, az 130, az 131, az 132, az 133, az 134, az 135, az 136, az 137, az 138, az 139, az 140, az 141, az 142, az 143, az 144, az 145, az 146, az 147, az 148, az 149, az 150, az 151, az 152, az 153, az 154, az 155, az 156, .slice (some ⟨1, 0, none⟩) i cd, .int .i64 i, .int .i64 k, az 160, az 161, az 162, az 163, az 164, az 165, az 166, az 167, az 168, az 169, az 170, az 171, az 172, az 173, az 174, az 175, az 176, az 177, az 178, az 179, az 180, az 181, az 182, az 183, az 184, az 185, az 186, az 187, az 188, az 189, az 190, az 191, az 192, az 193] := pat_fill hpat
     clear hpat
     conv => whnf
     refine br_intro (fun h3 => ?_) (fun h3 => ?_)
     ·have h3 : k < i := by simpa using h3
      obtain ⟨x, hx⟩ : ∃ x, x = limb D k := ⟨_, rfl⟩
      obtain ⟨l, hl⟩ : ∃ l, l = limb V (j + k) := ⟨_, rfl⟩
      have hxB : x < 4294967296 := by rw [hx]; exact limb_lt D k
      have hlB : l < 4294967296 := by rw [hl]; exact limb_lt V (j + k)
      obtain ⟨t, ht⟩ : ∃ t, t = l + x + c := ⟨_, rfl⟩
      have hst := back_step (t := t) (i := k) (j := j) he (by rw [← hl, ← hx]; exact ht)
      have htB : t % B < 4294967296 := Nat.mod_lt _ (by decide)
      have htC : t / B ≤ 1 := by show t / 4294967296 ≤ 1; omega
      have hV2 := setLimb_lt hV (show j + k < j + i + 1 by omega) (show t % B < B from htB)
      have e6 : IntKind.i64.wrap (((j : Nat) : Int) + ((k : Nat) : Int)) = ((j + k : Nat) : Int) := by rw [wrapi64 (by omega) (by omega)]; omega
      have e7 : IntKind.i64.wrap (((k : Nat) : Int) + 1) = ((k + 1 : Nat) : Int) := by rw [wrapi64 (by omega) (by omega)]; omega
      conv => whnf
      refine ⟨⟨by omega, by omega⟩, ?_⟩
      simp only [toNat_cast, rowAdd_eq, Nat.zero_add]
      conv => whnf
      refine ⟨by show k < nl D; omega, ?_⟩
      conv => whnf
      simp only [e6]
      refine ⟨⟨by omega, by omega⟩, ?_⟩
      simp only [toNat_cast, rowAdd_eq, Nat.zero_add]
      conv => whnf
      refine ⟨by show j + k < m; omega, ?_⟩
      conv => whnf
      rw [← hl, ← hx]
      refine ⟨(l, x, c), rfl, ⟨hlB, hxB, hc⟩, ?_⟩
      simp only [add32S, ← ht, e6]
      conv => whnf
      refine ⟨⟨by omega, by omega⟩, ?_⟩
      simp only [toNat_cast, rowAdd_eq, Nat.zero_add]
      conv => whnf
      refine ⟨by show j + k < m; omega, ?_⟩
      conv => whnf
      simp only [e7]
      rw [show t % 4294967296 = t % B from rfl, limbRow_set htB]
      refine .inl ⟨_, ?_, k + 1, t / B, setLimb V (j + k) (t % B), (.keep (.keep (.keep (.skip (.skip (.skip (.keep (.keep (.skip (.keep (.skip (.skip (.skip (.skip (.skip (.keep (.s8 (.s8 (.s8 (.s8 (.s8 (.s8 (.s8 (.s8 (.s8 (.s8 (.s8 (.s8 (.s8 (.s8 (.s8 (.s8 (.s8 (.skip (.skip (.skip (.skip (.skip (.keep (.keep (.keep (.s8 (.s8 (.s8 (.s8 (.skip (.skip (.nil)))))))))))))))))))))))))))))))))))))))))))))))), rfl, rfl, ?_⟩
      ·omega
      ·exact ⟨⟨by omega, htC⟩, hV2, hst⟩
     ·have h3 : k = i := by
       have h3 : ¬ k < i := by simpa using h3
       omega
      subst h3
      have hDlt : D < B ^ k := by rw [hn2]; exact lt_nl D
      have hfin := back_last (V := V) (R := X % (D * B ^ j)) (k := j + k) hV (Nat.lt_of_lt_of_le (Nat.mod_lt _ hE) (by rw [Nat.add_comm, Nat.pow_add]; exact Nat.mul_le_mul_right _ (Nat.le_of_lt hDlt))) hc (by
       rw [he, Nat.mod_eq_of_lt hDlt]; exact hr2)
      have hq3 : qt - 1 = X / (D * B ^ j) := by rw [hr1]; rfl
      have ep : IntKind.u64.wrap ((qt : Int) - 1) = ((qt - 1 : Nat) : Int) := by
       have : 1 ≤ qt := by rw [hr1]; exact Nat.le_add_left _ _
       have := hT.1
       rw [wrapu64 (by omega) (by omega)]; omega
      have hqm2 : (qt - 1) % B = qt - 1 := Nat.mod_eq_of_lt (by have := hT.1; show qt - 1 < 4294967296; omega)
      conv => whnf
      simp only [e1]
      refine ⟨⟨by omega, by omega⟩, ?_⟩
      simp only [toNat_cast, rowAdd_eq, Nat.zero_add]
      conv => whnf
      refine ⟨by show j + k < m; omega, ?_⟩
      conv => whnf
      rw [show IntKind.u32.wrap (((limb V (j + k) : Nat) : Int) + (c : Int)) = (((limb V (j + k) + c) % B : Nat) : Int) from u32_mod (limb V (j + k) + c)]
      refine ⟨⟨by omega, by omega⟩, ?_⟩
      simp only [toNat_cast, rowAdd_eq, Nat.zero_add]
      conv => whnf
      refine ⟨by show j + k < m; omega, ?_⟩
      conv => whnf
      simp only [ep, u32_mod, hqm2]
      rw [limbRow_set (Nat.mod_lt _ (by decide)), hfin]
      exact wres_digit (i := ⟨X, m, cx, D, cd, j⟩) rfl hq3 rfl
   skip
   skip
 ·have hlt : Q < q := by have := F.fB; omega
  rw [show decide (((q / B : Nat) : Int) > 0) = true from decide_eq_true (by show (((q / 4294967296 : Nat) : Int) > 0); omega)]
  conv => whnf
  have ep : IntKind.u64.wrap ((q : Int) - 1) = ((q - 1 : Nat) : Int) := by rw [wrapu64 (by omega) (by omega)]; omega
  have he2 : (q - 1) * d1 + (r + d1) = top := by
   have h1 : (q - 1) * d1 + d1 = q * d1 := by
    conv => rhs; rw [show q = (q - 1) + 1 by omega, Nat.add_mul, Nat.one_mul]
   omega
  have hr2 : r + d1 < 18446744073709551616 := Nat.lt_of_le_of_lt (Nat.le_trans (Nat.le_add_left _ _) (Nat.le_of_eq he2)) htopB
  have er : IntKind.u64.wrap ((r : Int) + (d1 : Int)) = ((r + d1 : Nat) : Int) := by rw [wrapu64 (by omega) (by omega)]; omega
  simp only [ep, e4]
  refine ⟨⟨by omega, by omega⟩, ?_⟩
  simp only [toNat_cast, rowAdd_eq, Nat.zero_add]
  conv => whnf
  refine ⟨by show n1 < nl D; omega, ?_⟩
  conv => whnf
  simp only [hl64 _ hlD1]
  rw [← hd1, er]
  simp only [shr_u64_32, div_B]
  rcases Nat.lt_or_ge (r + d1) 4294967296 with hrB | hrB
  ·rw [show decide ((((r + d1) / B : Nat) : Int) > 0) = false from decide_eq_false (by show ¬ ((((r + d1) / 4294967296 : Nat) : Int) > 0); omega)]
   conv => whnf
   refine .inr ⟨[0, 1], [0, 1, 2, 6, 7, 9, 10], ?_⟩
   conv => whnf
   intro _
   conv => whnf
   refine ⟨_, ?_, q - 1, r + d1, (.keep (.keep (.keep (.skip (.skip (.skip (.keep (.keep (.skip (.keep (.keep (.s8 (.s8 (.s8 (.s8 (.s8 (.s8 (.s8 (.s8 (.s8 (.s8 (.s8 (.s8 (.s8 (.s8 (.s8 (.s8 (.s8 (.s8 (.s8 (.s8 (.s8 (.s8 (.skip (.skip (.skip (.skip (.skip (.skip (.skip (.nil))))))))))))))))))))))))))))))))))))))))), rfl, rfl, ?_⟩
   ·omega
   ·exact ⟨he2, by omega, by omega⟩
  ·rw [show decide ((((r + d1) / B : Nat) : Int) > 0) = true from decide_eq_true (by show ((((r + d1) / 4294967296 : Nat) : Int) > 0); omega)]
   conv => whnf
   simp only [shr_u64_32, div_B]
   rcases Nat.lt_or_ge (q - 1) 4294967296 with hqB2 | hqB2
   ·rw [show (((((q - 1) / B : Nat) : Int) == 0) : Bool) = true by show decide ((((q - 1) / 4294967296 : Nat) : Int) = 0) = true; exact decide_eq_true (by omega)]
    conv => whnf
    obtain ⟨qt, hqt⟩ : ∃ qt, qt = q - 1 := ⟨_, rfl⟩
    have hT : qt < 4294967296 ∧ Q ≤ qt ∧ qt ≤ Q + 1 := by
     have h3 : q - 1 ≤ X / B ^ j / D + 1 := est_end (Bpos n) F.fW F.fD he2 hqB2 F.fP hd0B (.inl hrB)
     rw [← F.fQ] at h3
     omega
    rw [← hqt]
    clear hqB hqB2 hlt ep he2 hr2 er hrB he hr hq1 hq2 hqt
    conv => whnf
    refine .inl ⟨fun mm tz hz => ∃ (i : Nat) (c : Nat) (b : Nat) (Z : Nat), Pat [some (.slice (some ⟨0, 0, none⟩) m cx), some (.slice (some ⟨1, 0, none⟩) n2 cd), some (.int .i64 j), none, none, none, some (.int .u32 0), some (.int .i64 n2), none, some (.int .u64 qt), none, some (.int .u64 c), some (.int .u32 b), none, none, none, none, none, none, none, none, none, none, none, none, none, none, none, none, none, none, none, none, none, none, none, none, none, none, none, none, none, none, none, none, none, none, none, none, none, none, none, none, none, none, none, none, none, none, none, none, none, none, none, none, none, none, none, none, none, none, none, none, none, none, none, none, none, none, none, none, none, none, none, none, none, none, none, none, none, none, none, none, none, none, none, none, none, none, none, none, some (.slice (some ⟨1, 0, none⟩) n2 cd), some (.int .i64 n2), some (.int .i64 i), none, none, none, none, none, none, none, none, none, none, none, none, none, none, none, none, none, none, none, none, none, none, none, none, none, none, none, none, none, none, none, none, none, none, none, none, none, none, none, none, none, none, none, none, none, none, none, none, none, none, none, none, none, none, none, none, none, none, none, none, none, none, none, none, none, none, none, none, none, none, none, none, none, none, none, none, none, none, none, none, none, none, none, none, none, none, none, none, none, none] tz ∧ hz = [some (.flat true m 1 (limbRow Z)), some (newB D)] ∧ n2 - i = mm ∧ ((i ≤ n2 ∧ c < 4294967296 ∧ b ≤ 1) ∧ Z < B ^ (j + n2 + 1) ∧ Z + qt * (D % B ^ i) * B ^ j = X + (b + c) * B ^ (j + i)), .inr ⟨[0, 1], [0, 1, 2, 6, 7, 9, 11, 12, 101, 102, 103], ?_⟩, ?_⟩
    ·conv => whnf
     intro _
     conv => whnf
     refine ⟨_, 0, 0, 0, X, (.keep (.keep (.keep (.skip (.skip (.skip (.keep (.keep (.skip (.keep (.skip (.keep (.keep (.s8 (.s8 (.s8 (.s8 (.s8 (.s8 (.s8 (.s8 (.s8 (.s8 (.s8 (.keep (.keep (.keep (.s8 (.s8 (.s8 (.s8 (.s8 (.s8 (.s8 (.s8 (.s8 (.s8 (.s8 (.skip (.skip (.nil))))))))))))))))))))))))))))))))))))))))), rfl, rfl, ?_⟩
     exact ⟨⟨Nat.zero_le _, by decide, by decide⟩, F.fX, by simp [Nat.mod_one]⟩
    rintro mm tms _ ⟨i, c, b, Z, hpat, rfl, rfl, ⟨⟨hi, hc, hb⟩, hZ, he⟩⟩
    obtain ⟨az, rfl⟩ : ∃ az : Nat → Value, tms = [.slice (some ⟨0, 0, none⟩) m cx, .slice (some ⟨1, 0, none⟩) n2 cd, .int .i64 j, az 3, az 4, az 5, .int .u32 0, .int .i64 n2, az 8, .int .u64 qt, az 10, .int .u64 c, .int .u32 b, az 13, az 14, az 15, az 16, az 17, az 18, az 19, az 20, az 21, az 22, az 23, az 24, az 25, az 26, az 27, az 28, az 29, az 30, az 31, az 32, az 33, az 34, az 35, az 36, az 37, az 38, az 39, az 40, az 41, az 42, az 43, az 44, az 45, az 46, az 47, az 48, az 49, az 50, az 51, az 52, az 53, az 54, az 55, az 56, az 57, az 58, az 59, az 60, az 61, az 62, az 63, az 64, az 65, az 66, az 67, az 68, az 69, az 70, az 71, az 72, az 73, az 74, az 75, az 76, az 77, az 78, az 79, az 80, az 81, az 82, az 83, az 84, az 85, az 86, az 87, az 88, az 89, az 90, az 91, az 92, az 93, az 94, az 95, az 96, az 97, az 98, az 99, az 100, .slice (some ⟨1, 0, none⟩) n2 cd, .int .i64 n2, .int .i64 i, az 104, az 105, az 106, az 107, az 108, az 109, az 110, az 111, az 112, az 113, az 114, az 115, az 116, az 117, az 118, az 119, az 120, az 121, az 122, az 123, az 124, az 125, az 126, az 127, az 128, az 129, az 130, az 131, az 132, az 133, az 134, az 135, az 136, az 137, az 138, az 139, az 140, az 141, az 142, az 143, az 144, az 145, az 146, az 147, az 148, az 149, az 150, az 151, az 152, az 153, az 154, az 155, az 156, az 157, az 158, az 159, az 160, az 161, az 162, az 163, az 164, az 165, az 166, az 167, az 168, az 169, az 170, az 171, az 172, az 173, az 174, az 175, az 176, az 177, az 178, az 179, az 180, az 181, az 182, az 183, az 184, az 185, az 186, az 187, az 188, az 189, az 190, az 191, az 192, az 193] := pat_fill hpat
    clear hpat
    conv => whnf
    refine br_intro (fun h1 => ?_) (fun h1 => ?_)
    ·have h1 : i < n2 := by simpa using h1
     conv => whnf
     refine ⟨⟨by omega, by omega⟩, ?_⟩
     simp only [toNat_cast, rowAdd_eq, Nat.zero_add]
     conv => whnf
     refine ⟨by show i < nl D; omega, ?_⟩
     conv => whnf
     obtain ⟨x, hx⟩ : ∃ x, x = limb D i := ⟨_, rfl⟩
     obtain ⟨l, hl⟩ : ∃ l, l = limb Z (j + i) := ⟨_, rfl⟩
     obtain ⟨t, ht⟩ : ∃ t, t = c + qt * limb D i := ⟨_, rfl⟩
     have hxB : x < B := by rw [hx]; exact limb_lt D i
     have hlB : l < 4294967296 := by rw [hl]; exact limb_lt Z (j + i)
     obtain ⟨hv, htC⟩ := muladd64 (t := t) hc hT.1 hxB (by rw [hx]; exact ht)
     have htm : t % B < 4294967296 := Nat.mod_lt _ (by decide)
     obtain ⟨d, hd⟩ : ∃ d, d = (l + 2 * 4294967296 - t % B - b) % 4294967296 := ⟨_, rfl⟩
     obtain ⟨b', hb'⟩ : ∃ b', b' = if l < t % B + b then 1 else 0 := ⟨_, rfl⟩
     have hdB : d < 4294967296 := by rw [hd]; exact Nat.mod_lt _ (by decide)
     have hst := away_step (i := i) (j := j) (d := d) (b' := b') he ht (by
      rw [← hl, hb', hB, ← hB]
      clear he hZ ht hv
      obtain ⟨u, hu⟩ : ∃ u, u = t % B := ⟨_, rfl⟩
      rw [← hu] at hd htm ⊢
      split <;> omega)
     have hZ2 := setLimb_lt hZ (show j + i < j + n2 + 1 by omega) (show d < B from hdB)
     have hb2 : b' ≤ 1 := by rw [hb']; split <;> omega
     have e6 : IntKind.i64.wrap (((j : Nat) : Int) + ((i : Nat) : Int)) = ((j + i : Nat) : Int) := by rw [wrapi64 (by omega) (by omega)]; omega
     have e7 : IntKind.i64.wrap (((i : Nat) : Int) + 1) = ((i + 1 : Nat) : Int) := by rw [wrapi64 (by omega) (by omega)]; omega
     rw [← hx]
     simp only [hl64 _ hxB, hv, e6]
     refine ⟨⟨by omega, by omega⟩, ?_⟩
     simp only [toNat_cast, rowAdd_eq, Nat.zero_add]
     conv => whnf
     refine ⟨by show j + i < m; omega, ?_⟩
     conv => whnf
     rw [← hl]
     simp only [u32_mod]
     refine ⟨(l, t % B, b), rfl, ⟨hlB, htm, hb⟩, ?_⟩
     simp only [sub32S, ← hd, ← hb', e6]
     conv => whnf
     refine ⟨⟨by omega, by omega⟩, ?_⟩
     simp only [toNat_cast, rowAdd_eq, Nat.zero_add]
     conv => whnf
     refine ⟨by show j + i < m; omega, ?_⟩
     conv => whnf
     simp only [shr_u64_32, div_B, e7]
     rw [limbRow_set hdB]
     refine .inl ⟨_, ?_, i + 1, t / B, b', setLimb Z (j + i) d, (.keep (.keep (.keep (.skip (.skip (.skip (.keep (.keep (.skip (.keep (.skip (.keep (.keep (.s8 (.s8 (.s8 (.s8 (.s8 (.s8 (.s8 (.s8 (.s8 (.s8 (.s8 (.keep (.keep (.keep (.s8 (.s8 (.s8 (.s8 (.s8 (.s8 (.s8 (.s8 (.s8 (.s8 (.s8 (.skip (.skip (.nil))))))))))))))))))))))))))))))))))))))))), rfl, rfl, ?_⟩
     ·omega
     ·exact ⟨⟨by omega, htC, hb2⟩, hZ2, hst⟩
    ·have h1 : i = n2 := by
      have h1 : ¬ i < n2 := by simpa using h1
      omega
     subst h1
     obtain ⟨l, hl⟩ : ∃ l, l = limb Z (j + i) := ⟨_, rfl⟩
     have hlB : l < 4294967296 := by rw [hl]; exact limb_lt Z (j + i)
     obtain ⟨d, hd⟩ : ∃ d, d = (l + 2 * 4294967296 - c - b) % 4294967296 := ⟨_, rfl⟩
     obtain ⟨b', hb'⟩ : ∃ b', b' = if l < c + b then 1 else 0 := ⟨_, rfl⟩
     have hdB : d < 4294967296 := by rw [hd]; exact Nat.mod_lt _ (by decide)
     have hst := away_last (j := j) (d := d) (b' := b') (by rw [hn2]; exact lt_nl D) hc he (by
      rw [← hl, hb', hB, ← hB]
      clear he hZ
      split <;> omega)
     have hZ2 := setLimb_lt hZ (show j + i < j + i + 1 by omega) (show d < B from hdB)
     have hcm : c % B = c := Nat.mod_eq_of_lt hc
     have hb2 : b' ≤ 1 := by rw [hb']; split <;> omega
     have hqm : qt % B = qt := Nat.mod_eq_of_lt hT.1
     have hE : 0 < D * B ^ j := Nat.mul_pos F.fD0 (Bpos j)
     have hQ2 : Q = X / (D * B ^ j) := by rw [F.fQ, Nat.div_div_eq_div_mul, Nat.mul_comm]
     conv => whnf
     simp only [e1]
     refine ⟨⟨by omega, by omega⟩, ?_⟩
     simp only [toNat_cast, rowAdd_eq, Nat.zero_add]
     conv => whnf
     refine ⟨by show j + i < m; omega, ?_⟩
     conv => whnf
     rw [← hl]
     simp only [u32_mod, hcm]
     refine ⟨(l, c, b), rfl, ⟨hlB, hc, hb⟩, ?_⟩
     simp only [sub32S, ← hd, ← hb', e1]
     conv => whnf
     refine ⟨⟨by omega, by omega⟩, ?_⟩
     simp only [toNat_cast, rowAdd_eq, Nat.zero_add]
     conv => whnf
     refine ⟨by show j + i < m; omega, ?_⟩
     conv => whnf
     rw [limbRow_set hdB]
     refine br_intro (fun h2 => ?_) (fun h2 => ?_)
     ·have h2 : b' = 0 := by
       have := of_decide_eq_true h2
       omega
      clear hb'
      subst h2
      rw [Nat.zero_mul, Nat.add_zero] at hst
      obtain ⟨hr1, hr2⟩ := right_guess hE hst (by rw [← hQ2]; exact hT.2.1)
      conv => whnf
      simp only [u32_mod, hqm]
      exact wres_digit (i := ⟨X, m, cx, D, cd, j⟩) hr2 hr1 rfl
     ·have h2 : b' = 1 := by
       have := of_decide_eq_false h2
       omega
      clear hb'
      subst h2
      rw [Nat.one_mul] at hst
      obtain ⟨hr1, hr2⟩ := large_guess hE hst hZ2 (by rw [← hQ2]; exact hT.2.2)
      obtain ⟨Y, hY⟩ : ∃ Y, Y = setLimb Z (j + i) d := ⟨_, rfl⟩
      rw [← hY] at hr2 hZ2 ⊢
      clear hst he hZ hY hc hb hl hlB hd hdB hcm
      conv => whnf
      refine .inl ⟨fun mm tz hz => ∃ (k : Nat) (c : Nat) (V : Nat), Pat [some (.slice (some ⟨0, 0, none⟩) m cx), some (.slice (some ⟨1, 0, none⟩) i cd), some (.int .i64 j), none, none, none, some (.int .u32 0), some (.int .i64 i), none, some (.int .u64 qt), none, none, none, none, none, some (.int .u32 c), none, none, none, none, none, none, none, none, none, none, none, none, none, none, none, none, none, none, none, none, none, none, none, none, none, none, none, none, none, none, none, none, none, none, none, none, none, none, none, none, none, none, none, none, none, none, none, none, none, none, none, none, none, none, none, none, none, none, none, none, none, none, none, none, none, none, none, none, none, none, none, none, none, none, none, none, none, none, none, none, none, none, none, none, none, none, none, none, none, none, none, none, none, none, none, none, none, none, none, none, none, none, none, none, none, none, none, none, none, none, none, none, none, none, none, none, none, none, none, none, none, none, none, none, none, none, none, none, none, none, none, none, none, none, none, none, none, none, none, none, none, some (.slice (some ⟨1, 0, none⟩) i cd), some (.int .i64 i), some (.int .i64 k), none, none, none, none, none, none, none, none, none, none, none, none, none, none, none, none, none, none, none, none, none, none, none, none, none, none, none, none, none, none, none, none, none, none] tz ∧ hz = [some (.flat true m 1 (limbRow V)), some (newB D)] ∧ i - k = mm ∧ ((k ≤ i ∧ c ≤ 1) ∧ V < B ^ (j + i + 1) ∧ V + c * B ^ (j + k) = Y + D % B ^ k * B ^ j), .inr ⟨[0, 1], [0, 1, 2, 6, 7, 9, 15, 157, 158, 159], ?_⟩, ?_⟩
      ·conv => whnf
       intro _
       conv => whnf
       refine ⟨_, 0, 0, Y, (.keep (.keep (.keep (.skip (.skip (.skip (.keep (.keep (.skip (.keep (.skip (.skip (.skip (.skip (.skip (.keep (.s8 (.s8 (.s8 (.s8 (.s8 (.s8 (.s8 (.s8 (.s8 (.s8 (.s8 (.s8 (.s8 (.s8 (.s8 (.s8 (.s8 (.skip (.skip (.skip (.skip (.skip (.keep (.keep (.keep (.s8 (.s8 (.s8 (.s8 (.skip (.skip (.nil)))))))))))))))))))))))))))))))))))))))))))))))), rfl, rfl, ?_⟩
       exact ⟨⟨Nat.zero_le _, by decide⟩, hZ2, by simp [Nat.mod_one]⟩
      rintro mm tms _ ⟨k, c, V, hpat, rfl, rfl, ⟨⟨hk, hc⟩, hV, he⟩⟩
      obtain ⟨az, rfl⟩ : ∃ az : Nat → Value, tms = [.slice (some ⟨0, 0, none⟩) m cx, .slice (some ⟨1, 0, none⟩) i cd, .int .i64 j, az 3, az 4, az 5, .int .u32 0, .int .i64 i, az 8, .int .u64 qt, az 10, az 11, az 12, az 13, az 14, .int .u32 c, az 16, az 17, az 18, az 19, az 20, az 21, az 22, az 23, az 24, az 25, az 26, az 27, az 28, az 29, az 30, az 31, az 32, az 33, az 34, az 35, az 36, az 37, az 38, az 39, az 40, az 41, az 42, az 43, az 44, az 45, az 46, az 47, az 48, az 49, az 50, az 51, az 52, az 53, az 54, az 55, az 56, az 57, az 58, az 59, az 60, az 61, az 62, az 63, az 64, az 65, az 66, az 67, az 68, az 69, az 70, az 71, az 72, az 73, az 74, az 75, az 76, az 77, az 78, az 79, az 80, az 81, az 82, az 83, az 84, az 85, az 86, az 87, az 88, az 89, az 90, az 91, az 92, az 93, az 94, az 95, az 96, az 97, az 98, az 99, az 100, az 101, az 102, az 103, az 104, az 105, az 106, az 107, az 108, az 109, az 110, az 111, az 112, az 113, az 114, az 115, az 116, az 117, az 118, az 119, az 120, az 121, az 122, az 123, az 124, az 125, az 126, az 127, az 128, az 129, az 130, az 131, az 132, az 133, az 134, az 135, az 136, az 137, az 138, az 139, az 140, az 141, az 142, az 143, az 144, az 145, az 146, az 147, az 148, az 149, az 150, az 151, az 152, az 153, az 154, az 155, az 156, .slice (some ⟨1, 0, none⟩) i cd, .int .i64 i, .int .i64 k, az 160, az 161, az 162, az 163, az 164, az 165, az 166, az 167, az 168, az 169, az 170, az 171, az 172, az 173, az 174, az 175, az 176, az 177, az 178, az 179, az 180, az 181, az 182, az 183, az 184, az 185, az 186, az 187, az 188, az 189, az 190, az 191, az 192, az 193] := pat_fill hpat
      clear hpat
      conv => whnf
      refine br_intro (fun h3 => ?_) (fun h3 => ?_)
      ·have h3 : k < i := by simpa using h3
       obtain ⟨x, hx⟩ : ∃ x, x = limb D k := ⟨_, rfl⟩
       obtain ⟨l, hl⟩ : ∃ l, l = limb V (j + k) := ⟨_, rfl⟩
       have hxB : x < 4294967296 := by rw [hx]; exact limb_lt D k
       have hlB : l < 4294967296 := by rw [hl]; exact limb_lt V (j + k)
       obtain ⟨t, ht⟩ : ∃ t, t = l + x + c := ⟨_, rfl⟩
       have hst := back_step (t := t) (i := k) (j := j) he (by rw [← hl, ← hx]; exact ht)
       have htB : t % B < 4294967296 := Nat.mod_lt _ (by decide)
       have htC : t / B ≤ 1 := by show t / 4294967296 ≤ 1; omega
       have hV2 := setLimb_lt hV (show j + k < j + i + 1 by omega) (show t % B < B from htB)
       have e6 : IntKind.i64.wrap (((j : Nat) : Int) + ((k : Nat) : Int)) = ((j + k : Nat) : Int) := by rw [wrapi64 (by omega) (by omega)]; omega
       have e7 : IntKind.i64.wrap (((k : Nat) : Int) + 1) = ((k + 1 : Nat) : Int) := by rw [wrapi64 (by omega) (by omega)]; omega
       conv => whnf
       refine ⟨⟨by omega, by omega⟩, ?_⟩
       simp only [toNat_cast, rowAdd_eq, Nat.zero_add]
       conv => whnf
       refine ⟨by show k < nl D; omega, ?_⟩
       conv => whnf
       simp only [e6]
       refine ⟨⟨by omega, by omega⟩, ?_⟩
       simp only [toNat_cast, rowAdd_eq, Nat.zero_add]
       conv => whnf
       refine ⟨by show j + k < m; omega, ?_⟩
       conv => whnf
       rw [← hl, ← hx]
       refine ⟨(l, x, c), rfl, ⟨hlB, hxB, hc⟩, ?_⟩
       simp only [add32S, ← ht, e6]
       conv => whnf
       refine ⟨⟨by omega, by omega⟩, ?_⟩
       simp only [toNat_cast, rowAdd_eq, Nat.zero_add]
       conv => whnf
       refine ⟨by show j + k < m; omega, ?_⟩
       conv => whnf
       simp only [e7]
       rw [show t % 4294967296 = t % B from rfl, limbRow_set htB]
       refine .inl ⟨_, ?_, k + 1, t / B, setLimb V (j + k) (t % B), (.keep (.keep (.keep (.skip (.skip (.skip (.keep (.keep (.skip (.keep (.skip (.skip (.skip (.skip (.skip (.keep (.s8 (.s8 (.s8 (.s8 (.s8 (.s8 (.s8 (.s8 (.s8 (.s8 (.s8 (.s8 (.s8 (.s8 (.s8 (.s8 (.s8 (.skip (.skip (.skip (.skip (.skip (.keep (.keep (.keep (.s8 (.s8 (.s8 (.s8 (.skip (.skip (.nil)))))))))))))))))))))))))))))))))))))))))))))))), rfl, rfl, ?_⟩
       ·omega
       ·exact ⟨⟨by omega, htC⟩, hV2, hst⟩
      ·have h3 : k = i := by
        have h3 : ¬ k < i := by simpa using h3
        omega
       subst h3
       have hDlt : D < B ^ k := by rw [hn2]; exact lt_nl D
       have hfin := back_last (V := V) (R := X % (D * B ^ j)) (k := j + k) hV (Nat.lt_of_lt_of_le (Nat.mod_lt _ hE) (by rw [Nat.add_comm, Nat.pow_add]; exact Nat.mul_le_mul_right _ (Nat.le_of_lt hDlt))) hc (by
        rw [he, Nat.mod_eq_of_lt hDlt]; exact hr2)
       have hq3 : qt - 1 = X / (D * B ^ j) := by rw [hr1]; rfl
       have ep : IntKind.u64.wrap ((qt : Int) - 1) = ((qt - 1 : Nat) : Int) := by
        have : 1 ≤ qt := by rw [hr1]; exact Nat.le_add_left _ _
        have := hT.1
        rw [wrapu64 (by omega) (by omega)]; omega
       have hqm2 : (qt - 1) % B = qt - 1 := Nat.mod_eq_of_lt (by have := hT.1; show qt - 1 < 4294967296; omega)
       conv => whnf
       simp only [e1]
       refine ⟨⟨by omega, by omega⟩, ?_⟩
       simp only [toNat_cast, rowAdd_eq, Nat.zero_add]
       conv => whnf
       refine ⟨by show j + k < m; omega, ?_⟩
       conv => whnf
       rw [show IntKind.u32.wrap (((limb V (j + k) : Nat) : Int) + (c : Int)) = (((limb V (j + k) + c) % B : Nat) : Int) from u32_mod (limb V (j + k) + c)]
       refine ⟨⟨by omega, by omega⟩, ?_⟩
       simp only [toNat_cast, rowAdd_eq, Nat.zero_add]
       conv => whnf
       refine ⟨by show j + k < m; omega, ?_⟩
       conv => whnf
       simp only [ep, u32_mod, hqm2]
       rw [limbRow_set (Nat.mod_lt _ (by decide)), hfin]
       exact wres_digit (i := ⟨X, m, cx, D, cd, j⟩) rfl hq3 rfl
    skip
    skip
   ·rw [show (((((q - 1) / B : Nat) : Int) == 0) : Bool) = false by show decide ((((q - 1) / 4294967296 : Nat) : Int) = 0) = false; exact decide_eq_false (by omega)]
    conv => whnf
    refine .inr ⟨[0, 1], [0, 1, 2, 6, 7, 9, 10], ?_⟩
    conv => whnf
    intro _
    conv => whnf
    refine ⟨_, ?_, q - 1, r + d1, (.keep (.keep (.keep (.skip (.skip (.skip (.keep (.keep (.skip (.keep (.keep (.s8 (.s8 (.s8 (.s8 (.s8 (.s8 (.s8 (.s8 (.s8 (.s8 (.s8 (.s8 (.s8 (.s8 (.s8 (.s8 (.s8 (.s8 (.s8 (.s8 (.s8 (.s8 (.skip (.skip (.skip (.skip (.skip (.skip (.skip (.nil))))))))))))))))))))))))))))))))))))))))), rfl, rfl, ?_⟩
    ·omega
    ·exact ⟨he2, by omega, by omega⟩
end Go.Proofs.YtppeponndkfbkaaGreat
/- Contracts of bigint: division. -/
set_option maxRecDepth 20000
set_option maxHeartbeats 4000000
namespace Go.Proofs.YtppeponndkfbkaaGreat
open Go Go.Ae
def EhW : FuncId → Option FT := fun g => match g with
 | 168 => some (wFT digitS)
 | _ => none
def Eh : Env := { tt := tt, eqs := [], Ψ := EhW, Φ := fun g => match g with
 | 145 => some (.q trimS)
 | 125 => some (.q compareS)
 | 165 => some (.q shortS)
 | 167 => some (.q shiftS)
 | 169 => some (.q unshiftS)
 | 166 => some (.p lz32S)
 | _ => none }
theorem Ehok : EnvOk Tryz.prog Eh := ⟨tt_ok, fun t h => by simp [Eh] at h, (fun g S h => by
 simp only [Eh] at h
 split at h
 ·cases h; exact trim_ok
 ·cases h; exact compare_ok
 ·cases h; exact short_ok
 ·cases h; exact shift_ok
 ·cases h; exact unshift_ok
 ·cases h; exact lz32_ok
 ·cases h), (fun g F h => by
 simp only [Eh, EhW] at h
 split at h
 ·cases h; exact digit_ok
 ·cases h)⟩
theorem divide_ok : FTOk Tryz.prog 147 (wFT divideS) := by
 refine wft_of Ehok Dok Tryz.func147 (enters_of Tryz.func147 (by kernel_rfl) rfl) ?_
 intro ⟨A, ca, D, cd⟩ hp
 have hp : (nl A ≤ 137438953472 ∧ nl D ≤ 137438953472) ∧ D ≠ 0 := hp
 conv => whnf
 refine ⟨(A, ca, D, cd), [0, 1], rfl, hp.1, ?_⟩
 conv => whnf
 refine ⟨BlkLe.flat_flat (fun h => h) (fun r hr => rfl), ?_⟩
 conv => whnf
 refine ⟨BlkLe.flat_flat (fun h => h) (fun r hr => rfl), ?_⟩
 conv => whnf
 refine ⟨_, rfl, ?_⟩
 conv => whnf
 refine br_intro (fun h0 => ?_) (fun h0 => ?_)
 ·have h0 : A < D := by
   have h0 : cmpN A D < 0 := of_decide_eq_true h0
   rcases Nat.lt_or_ge A D with h | h
   ·exact h
   ·rw [cmpN, if_neg (by omega)] at h0
    split at h0 <;> omega
  conv => whnf
  exact wres_div1 h0
 ·have h0 : D ≤ A := by
   have h0 : ¬ cmpN A D < 0 := of_decide_eq_false h0
   rcases Nat.lt_or_ge A D with h | h
   ·rw [cmpN, if_pos h] at h0
    omega
   ·exact h
  have hDp : 0 < D := Nat.pos_of_ne_zero hp.2
  conv => whnf
  refine br_intro (fun h1 => ?_) (fun h1 => ?_)
  ·have h1 : nl D = 1 := by
    have h1 : ((nl D : Nat) : Int) = 1 := by simpa using h1
    omega
   obtain ⟨hl0, hlB, hl1⟩ := nl_one h1
   conv => whnf
   refine ⟨⟨by omega, by show ((0 : Nat) : Int) < ((nl D : Nat) : Int); omega⟩, ?_⟩
   simp only [toNat_0, rowAdd_eq, Nat.zero_add]
   conv => whnf
   refine ⟨by show 0 < nl D; omega, ?_⟩
   conv => whnf
   rw [hl0]
   refine ⟨(A, ca, D), [0], rfl, ⟨hp.1.1, hl1, hlB⟩, ?_⟩
   conv => whnf
   refine ⟨BlkLe.flat_flat (fun h => h) (fun r hr => rfl), ?_⟩
   conv => whnf
   refine ⟨_, rfl, ?_⟩
   conv => whnf
   refine ⟨some (1, A % D, 1), [3], rfl, ⟨by rw [Nat.pow_one]; exact Nat.lt_trans (Nat.mod_lt _ hl1) hlB, by decide⟩, ?_⟩
   conv => whnf
   have hmB : A % D < 4294967296 := Nat.lt_trans (Nat.mod_lt _ hl1) hlB
   refine ⟨ble_expl1 hmB (Nat.le_refl _), ?_⟩
   conv => whnf
   refine ⟨_, rfl, ?_⟩
   conv => whnf
   refine wres_div2 (q := 2) (r := 3) h0 (by decide) (by decide) (by decide) rfl rfl rfl rfl ⟨(fun h => by cases h), rfl, nl_mono (Nat.div_le_self _ _), fun _ _ => rfl, fun r hr v hv => allS_spec (l := limbRow (A / D) r) rfl v hv⟩ ?_
   exact ble_expl1 hmB (nl_le (n := 1) (by rw [Nat.pow_one]; exact hmB))
  ·have h1 : nl D ≠ 1 := by
    intro e
    have e2 : ((nl D : Nat) : Int) = 1 := by rw [e]; rfl
    simp [e2] at h1
   have hnD := nl_mono h0
   have h2 : 2 ≤ nl D := by have := nl_pos hp.2; omega
   obtain ⟨n, hn⟩ : ∃ n, n = nl D - 1 := ⟨_, rfl⟩
   obtain ⟨s, hs⟩ : ∃ s, s = 32 - blen (limb D n) := ⟨_, rfl⟩
   obtain ⟨f1, f2, f3, f4, f5⟩ := norm_facts (D := D) (n := n) (s := s) (by omega) hs
   obtain ⟨E, hE⟩ : ∃ E, E = D * 2 ^ s := ⟨_, rfl⟩
   have hEp : 0 < E := by rw [hE]; exact Nat.mul_pos hDp (Nat.pow_pos (by decide))
   rw [← hE] at f3 f4 f5
   have hEn : nl E = nl D := by omega
   have e1 : IntKind.i64.wrap (((nl D : Nat) : Int) - 1) = ((n : Nat) : Int) := by rw [wrapi64 (by omega) (by omega)]; omega
   conv => whnf
   simp only [e1]
   refine ⟨⟨by omega, by show ((n : Nat) : Int) < ((nl D : Nat) : Int); omega⟩, ?_⟩
   simp only [toNat_cast, rowAdd_eq, Nat.zero_add]
   conv => whnf
   refine ⟨by show n < nl D; omega, ?_⟩
   conv => whnf
   refine ⟨limb D n, rfl, limb_lt D n, ?_⟩
   simp only [lz32S, ← hs]
   conv => whnf
   refine ⟨(A, ca, s), [0], rfl, ⟨hp.1.1, f1⟩, ?_⟩
   conv => whnf
   refine ⟨BlkLe.flat_flat (fun h => h) (fun r hr => rfl), ?_⟩
   conv => whnf
   refine ⟨_, rfl, ?_⟩
   conv => whnf
   refine ⟨(D, cd, s), [1], rfl, ⟨hp.1.2, f1⟩, ?_⟩
   conv => whnf
   refine ⟨BlkLe.flat_flat (fun h => h) (fun r hr => rfl), ?_⟩
   conv => whnf
   refine ⟨_, rfl, ?_⟩
   conv => whnf
   rw [show (A, ca, s).1 * 2 ^ (A, ca, s).2.2 = A * 2 ^ s from rfl, show (D, cd, s).1 * 2 ^ (D, cd, s).2.2 = E from hE.symm]
   have hElt : E < B ^ (nl D + 1) := Nat.lt_of_lt_of_le (lt_nl E) (Nat.pow_le_pow_right (by decide) (by omega))
   refine ⟨some (nl D + 1, E, nl D + 1), [3], rfl, ⟨hElt, by omega⟩, ?_⟩
   conv => whnf
   refine ⟨⟨(fun h => by cases h), rfl, Nat.le_refl _, fun _ _ => rfl, fun r hr v hv => allS_spec (l := limbRow E r) rfl v hv⟩, ?_⟩
   conv => whnf
   refine ⟨_, rfl, ?_⟩
   conv => whnf
   obtain ⟨k, hk⟩ : ∃ k, k = nl A + 1 - nl D := ⟨_, rfl⟩
   have e2 : IntKind.i64.wrap (((nl A + 1 : Nat) : Int) - ((nl E : Nat) : Int)) = ((k : Nat) : Int) := by rw [wrapi64 (by omega) (by omega)]; omega
   simp only [e2]
   refine ⟨⟨by omega, by omega, by show ((k : Nat) : Int) * ((4 : Nat) : Int) ≤ _; omega⟩, ?_⟩
   simp only [toNat_cast, limbRow_zero]
   conv => whnf
   refine .inl ⟨fun mm tz hz => ∃ (i : Nat) (U : Nat) (Q : Nat), Pat [none, none, none, none, none, none, none, none, some (.int .i64 s), some (.slice (some ⟨2, 0, none⟩) (nl A + 1) (nl A + 1)), some (.slice (some ⟨3, 0, none⟩) (nl E) (nl D + 1)), some (.slice (some ⟨4, 0, none⟩) k k), some (.int .i64 (IntKind.i64.wrap ((i : Int) - 1))), none, none, none, none, none, none, none, none, none, none, none, none, none, none, none, none, none, none, none, none, none, none, none, none, none, none, none, none, none, none, none, none, none, none, none, none, none, none, none, none, none, none, none, none, none, none, none, none, none, none, none, none, none, none, none, none, none, none, none, none] tz ∧ hz = [some (.flat false (nl A) 1 (limbRow A)), some (.flat false (nl D) 1 (limbRow D)), some (.flat true (nl A + 1) 1 (limbRow U)), some (.flat true (nl D + 1) 1 (limbRow E)), some (.flat true k 1 (limbRow Q))] ∧ i = mm ∧ (i ≤ k ∧ Q * E + U = A * 2 ^ s ∧ U < E * B ^ i ∧ Q % B ^ i = 0), .inl ⟨_, k, A * 2 ^ s, 0, (.s8 (.keep (.keep (.keep (.keep (.keep (.s8 (.s8 (.s8 (.s8 (.s8 (.s8 (.s8 (.skip (.skip (.skip (.skip (.nil)))))))))))))))))), rfl, rfl, ?_⟩, ?_⟩
   ·exact ⟨Nat.le_refl _, by rw [Nat.zero_mul, Nat.zero_add], div_start f1 f5 (by omega) (by omega), Nat.zero_mod _⟩
   rintro mm tms _ ⟨i, U, Q, hpat, rfl, rfl, ⟨hi, hQU, hU, hQm⟩⟩
   obtain ⟨az, rfl⟩ : ∃ az : Nat → Value, tms = [az 0, az 1, az 2, az 3, az 4, az 5, az 6, az 7, .int .i64 s, .slice (some ⟨2, 0, none⟩) (nl A + 1) (nl A + 1), .slice (some ⟨3, 0, none⟩) (nl E) (nl D + 1), .slice (some ⟨4, 0, none⟩) k k, .int .i64 (IntKind.i64.wrap ((i : Int) - 1)), az 13, az 14, az 15, az 16, az 17, az 18, az 19, az 20, az 21, az 22, az 23, az 24, az 25, az 26, az 27, az 28, az 29, az 30, az 31, az 32, az 33, az 34, az 35, az 36, az 37, az 38, az 39, az 40, az 41, az 42, az 43, az 44, az 45, az 46, az 47, az 48, az 49, az 50, az 51, az 52, az 53, az 54, az 55, az 56, az 57, az 58, az 59, az 60, az 61, az 62, az 63, az 64, az 65, az 66, az 67, az 68, az 69, az 70, az 71, az 72] := pat_fill hpat
   clear hpat
   conv => whnf
   refine br_intro (fun h3 => ?_) (fun h3 => ?_)
   ·have h3 : 0 < i := by
     rcases Nat.eq_zero_or_pos i with h | h
     ·subst h; revert h3; decide
     ·exact h
    obtain ⟨i, rfl⟩ : ∃ i', i = i' + 1 := ⟨i - 1, by omega⟩
    have ei : IntKind.i64.wrap (((i + 1 : Nat) : Int) - 1) = ((i : Nat) : Int) := by rw [wrapi64 (by omega) (by omega)]; omega
    simp only [ei]
    obtain ⟨g1, g2, g3, g4⟩ := div_digit hEp hQU hU hQm
    conv => whnf
    refine ⟨⟨U, nl A + 1, nl A + 1, E, nl D + 1, i⟩, [2, 3], rfl, ⟨by show nl A + 1 ≤ _; omega, by show 2 ≤ nl E; omega, by show 2147483648 ≤ limb E (nl E - 1); rw [show nl E - 1 = n by omega]; exact f4, by show i + nl E < nl A + 1; omega, hU⟩, by decide, ?_⟩
    conv => whnf
    refine ⟨BlkLe.flat_flat (fun h => h) (fun r hr => rfl), ?_⟩
    conv => whnf
    refine ⟨⟨(fun h => by cases h), rfl, by show nl E ≤ nl D + 1; omega, fun _ _ => rfl, fun r hr v hv => allS_spec (l := limbRow E r) rfl v hv⟩, ?_⟩
    conv => whnf
    refine ⟨_, rfl, ?_⟩
    conv => whnf
    refine ⟨⟨by omega, by omega⟩, ?_⟩
    simp only [toNat_cast, rowAdd_eq, Nat.zero_add]
    conv => whnf
    refine ⟨by show i < k; omega, ?_⟩
    conv => whnf
    rw [limbRow_set g1]
    refine .inl ⟨_, ?_, i, U % (E * B ^ i), setLimb Q i (U / (E * B ^ i)), (.s8 (.keep (.keep (.keep (.keep (.keep (.s8 (.s8 (.s8 (.s8 (.s8 (.s8 (.s8 (.skip (.skip (.skip (.skip (.nil)))))))))))))))))), rfl, rfl, ?_⟩
    ·omega
    ·exact ⟨by omega, g2, g3, g4⟩
   ·have h3 : i = 0 := by
     rcases Nat.eq_zero_or_pos i with h | h
     ·exact h
     ·have e : IntKind.i64.wrap ((i : Int) - 1) = ((i - 1 : Nat) : Int) := by rw [wrapi64 (by omega) (by omega)]; omega
      rw [e] at h3
      exact absurd h3 (by simp)
    subst h3
    rw [Nat.pow_zero, Nat.mul_one] at hU
    rw [hE] at hQU hU
    obtain ⟨g1, g2, g3⟩ := div_done hDp hQU hU
    have hUn : nl U ≤ nl E := nl_mono (by rw [hE]; exact Nat.le_of_lt hU)
    have hUA : U < B ^ (nl A + 1) := Nat.lt_of_lt_of_le (lt_nl U) (Nat.pow_le_pow_right (by decide) (by omega))
    have hQk : Q < B ^ k := by
     rw [g1]
     refine (Nat.div_lt_iff_lt_mul hDp).2 ?_
     refine Nat.lt_of_lt_of_le (lt_nl A) ?_
     have h5 : B ^ n ≤ D := by rw [show n = nl D - 1 from hn]; exact pow_le_of_nl hp.2
     rw [show nl A = k + n by omega, Nat.pow_add]
     exact Nat.mul_le_mul_left _ h5
    have hQn := nl_le hQk
    have hRn : nl (A % D) ≤ nl U := by rw [← g3]; exact nl_mono (Nat.div_le_self _ _)
    conv => whnf
    refine ⟨some (k, Q, k), [4], rfl, ⟨hQk, by omega⟩, ?_⟩
    conv => whnf
    refine ⟨⟨(fun h => by cases h), rfl, Nat.le_refl _, fun _ _ => rfl, fun r hr v hv => allS_spec (l := limbRow Q r) rfl v hv⟩, ?_⟩
    conv => whnf
    refine ⟨_, rfl, ?_⟩
    conv => whnf
    refine ⟨some (nl A + 1, U, nl A + 1), [2], rfl, ⟨hUA, by omega⟩, ?_⟩
    conv => whnf
    refine ⟨⟨(fun h => by cases h), rfl, Nat.le_refl _, fun _ _ => rfl, fun r hr v hv => allS_spec (l := limbRow U r) rfl v hv⟩, ?_⟩
    conv => whnf
    refine ⟨_, rfl, ?_⟩
    conv => whnf
    refine ⟨(U, nl A + 1, s), [2], rfl, ⟨by show nl U ≤ _; omega, f1⟩, ?_⟩
    conv => whnf
    refine ⟨⟨(fun h => by cases h), rfl, by show nl U ≤ nl A + 1; omega, fun _ _ => rfl, fun r hr v hv => allS_spec (l := limbRow U r) rfl v hv⟩, ?_⟩
    conv => whnf
    refine ⟨_, rfl, ?_⟩
    conv => whnf
    show wRes divideS (A, ca, D, cd) (.tuple ⟨[.slice (some ⟨4, 0, none⟩) (nl Q) k, .slice (some ⟨5, 0, none⟩) (nl (U / 2 ^ s)) capU]⟩) _
    rw [g3]
    clear g2 hQU hUA
    subst g1
    refine wres_div2 (q := 4) (r := 5) h0 (by decide) (by decide) (by decide) rfl rfl rfl rfl ⟨(fun h => by cases h), rfl, hQn, fun _ _ => rfl, fun r hr v hv => allS_spec (l := limbRow (A / D) r) rfl v hv⟩ ⟨(fun h => by cases h), rfl, hRn, fun r _ => by rw [← g3]; rfl, fun r hr v hv => allS_spec (l := limbRow (A % D) r) rfl v hv⟩
end Go.Proofs.YtppeponndkfbkaaGreat
