import Derived.Test.YtppeponndkfbkaaGreatQE
set_option linter.unusedVariables false
set_option linter.unusedSimpArgs false
/- Contracts of bigint: machine integers, products, signs. -/
set_option maxRecDepth 20000
set_option maxHeartbeats 1000000
namespace Go.Proofs.YtppeponndkfbkaaGreat
open Go Go.Ae
theorem little_ok : Snd Tryz.prog 157 littleS := by
 refine snd_of Eaok Dok Tryz.func157 (enters_of Tryz.func157 (by kernel_rfl) rfl) (fun _ => rfl) (fun _ => rfl) ?_
 intro ⟨b, s⟩ hp
 have hp : s.size ≤ 549755813888 := hp
 conv => whnf
 refine br_intro (fun h1 => ?_) (fun h1 => ?_)
 ·have h1 : ¬ s.size ≤ 7 := by
   have h1 := of_decide_eq_true h1
   have h1 : ((s.size : Nat) : Int) > 7 := h1
   omega
  conv => whnf
  simp only [littleS, h1, if_false, decide_false]
 ·have h1 : s.size ≤ 7 := by
   have h1 := of_decide_eq_false h1
   have h1 : ¬ ((s.size : Nat) : Int) > 7 := h1
   omega
  have h1' := h1
  conv => whnf
  refine .inl ⟨fun mm tz hz => ∃ (i : Nat) (N : Nat), Pat [none, some (.pointer (some ⟨0, 0, none⟩)), some (.int .i64 0), some (.bool false), some (.int .i64 N), none, none, none, none, none, none, none, some (.int .i64 s.size), some (.int .i64 i), none, none, none, none, none, none, none, none, none, none, none, none, none, none, none, none] tz ∧ hz = [some (.expl true 2 [[.bool b, .string s]])] ∧ s.size - i = mm ∧ (i ≤ s.size ∧ N = bnat s / C ^ (s.size - i)), .inl ⟨_, 0, 0, (.skip (.keep (.keep (.keep (.keep (.skip (.skip (.skip (.skip (.skip (.skip (.skip (.keep (.keep (.s8 (.s8 (.nil))))))))))))))))), rfl, rfl, ?_⟩, ?_⟩
  ·exact ⟨Nat.zero_le _, by rw [Nat.sub_zero, Nat.div_eq_of_lt (bnat_lt s)]⟩
  rintro mm tms _ ⟨i, N, hpat, rfl, rfl, ⟨hi, hN⟩⟩
  obtain ⟨az, rfl⟩ : ∃ az : Nat → Value, tms = [az 0, .pointer (some ⟨0, 0, none⟩), .int .i64 0, .bool false, .int .i64 N, az 5, az 6, az 7, az 8, az 9, az 10, az 11, .int .i64 s.size, .int .i64 i, az 14, az 15, az 16, az 17, az 18, az 19, az 20, az 21, az 22, az 23, az 24, az 25, az 26, az 27, az 28, az 29] := pat_fill hpat
  clear hpat
  have hlt := pre_lt s hi
  rw [← hN] at hlt
  have hlC := hlt
  have hlt := Nat.lt_of_lt_of_le hlt (pow7 (show i ≤ 7 by omega))
  conv => whnf
  refine br_intro (fun h2 => ?_) (fun h2 => ?_)
  ·have h2 : i < s.size := by simpa using h2
   have hst := pre_step h2
   rw [← hN] at hst
   have hb : byteAt s i < 256 := byteAt_lt s i
   have eN : ((N : Nat) : Int) * 256 + ((byteAt s i : Nat) : Int) = ((N * 256 + byteAt s i : Nat) : Int) := by omega
   conv => whnf
   refine ⟨⟨by omega, by omega⟩, ?_⟩
   try simp (disch := omega) only [wrapi64, wrapu64, wrapu32, wrapu8, shr_u64_32, shr_u64_31, shl_u64_32, shl_i64_8, shr_i64_8, shr_u32_8, shr_u32_16, shr_u32_24, or_word', or_byte', toNat_cast, rowAdd_eq, Nat.zero_add, capSub_zero, toNat_0, toNat_1, Nat.sub_zero, sub1c, add1c, subc, addc, tdiv4, tmod4, cast_mul8, mul8c]
   conv => whnf
   have e3 : IntKind.i64.wrap (((i : Nat) : Int) + 1) = ((i + 1 : Nat) : Int) := by rw [wrapi64 (by omega) (by omega)]; rfl
   have hl6 := Nat.lt_of_lt_of_le hlC (pow6 (show i ≤ 6 by omega))
   rw [byte_in (by omega) hb, e3]
   refine .inl ⟨_, ?_, i + 1, N * 256 + byteAt s i, (.skip (.keep (.keep (.keep (.keep (.skip (.skip (.skip (.skip (.skip (.skip (.skip (.keep (.keep (.s8 (.s8 (.nil))))))))))))))))), rfl, rfl, ?_⟩
   ·omega
   ·exact ⟨by omega, hst.symm⟩
  ·have h2 : i = s.size := by
    have h2 : ¬ i < s.size := by simpa using h2
    omega
   subst h2
   rw [Nat.sub_self, Nat.pow_zero, Nat.div_one] at hN
   subst hN
   cases b with
   | true =>
    conv => whnf
    try simp (disch := omega) only [wrapi64, wrapu64, wrapu32, wrapu8, shr_u64_32, shr_u64_31, shl_u64_32, shl_i64_8, shr_i64_8, shr_u32_8, shr_u32_16, shr_u32_24, or_word', or_byte', toNat_cast, rowAdd_eq, Nat.zero_add, capSub_zero, toNat_0, toNat_1, Nat.sub_zero, sub1c, add1c, subc, addc, tdiv4, tmod4, cast_mul8, mul8c]
    have e : IV.z (true, s) = -(bnat s : Int) := rfl
    simp only [littleS, e, h1', if_true, decide_true, Int.zero_sub]
   | false =>
    conv => whnf
    have e : IV.z (false, s) = (bnat s : Int) := rfl
    simp only [littleS, e, h1', if_true, decide_true]
def Ei : Env := { tt := tt, eqs := [], Φ := fun g => match g with
 | 116 => some (.q packS)
 | 124 => some (.q loadS)
 | 140 => some (.q timesS)
 | 125 => some (.q compareS)
 | 157 => some (.p littleS)
 | _ => none }
theorem Eiok : EnvOk Tryz.prog Ei := ⟨tt_ok, fun t h => by simp [Ei] at h, (fun g S h => by
 simp only [Ei] at h
 split at h
 ·cases h; exact pack_ok
 ·cases h; exact load_ok
 ·cases h; exact times_ok
 ·cases h; exact compare_ok
 ·cases h; exact little_ok
 ·cases h), fun g F h => by simp [Ei] at h⟩
theorem of_ok : Snd Tryz.prog 81 ofS := by
 refine snd_of Eiok Dok Tryz.func81 (enters_of Tryz.func81 (by kernel_rfl) rfl) (fun _ => rfl) (fun _ => rfl) ?_
 intro (n : Int) hp
 have hp : -9223372036854775808 ≤ n ∧ n < 9223372036854775808 := hp
 conv => whnf
 obtain ⟨N, hN⟩ : ∃ N : Nat, N = n.natAbs := ⟨_, rfl⟩
 have hNB : N < 18446744073709551616 := by omega
 have hl := limb_u64 hNB
 refine br_intro (fun h1 => ?_) (fun h1 => ?_)
 ·have h1 : n < 0 := of_decide_eq_true h1
  have e1 : IntKind.u64.wrap (0 - IntKind.u64.wrap n) = (N : Int) := by
   rw [wrapu64', wrapu64']; omega
  conv => whnf
  simp only [e1]
  refine ⟨(decide (n < 0), some (2, N, 2)), [1], rfl, ⟨nl_u64 hNB, by decide⟩, ?_⟩
  conv => whnf
  refine ⟨two_rows hNB, ?_⟩
  conv => whnf
  refine ⟨_, rfl, ?_⟩
  conv => whnf
  show encS (decide (n < 0)) N = encI n
  rw [encS_eq]
  congr 1
  simp only [valI, h1, decide_true, decide_false, if_true, Bool.false_eq_true, if_false]
  omega
 ·have h1 : ¬ n < 0 := of_decide_eq_false h1
  have e1 : IntKind.u64.wrap n = (N : Int) := by
   rw [wrapu64']; omega
  conv => whnf
  simp only [e1]
  refine ⟨(decide (n < 0), some (2, N, 2)), [1], rfl, ⟨nl_u64 hNB, by decide⟩, ?_⟩
  conv => whnf
  refine ⟨two_rows hNB, ?_⟩
  conv => whnf
  refine ⟨_, rfl, ?_⟩
  conv => whnf
  show encS (decide (n < 0)) N = encI n
  rw [encS_eq]
  congr 1
  simp only [valI, h1, decide_true, decide_false, if_true, Bool.false_eq_true, if_false]
  omega
theorem mul_ok : Snd Tryz.prog 98 mulS := by
 refine snd_of Eiok Dok Tryz.func98 (enters_of Tryz.func98 (by kernel_rfl) rfl) (fun _ => rfl) (fun _ => rfl) ?_
 intro ⟨⟨b, s⟩, ⟨c, t⟩⟩ hp
 have hp : s.size ≤ 549755813888 ∧ t.size ≤ 549755813888 := hp
 conv => whnf
 refine .inl ⟨12, [[], [0], [], [2], [0, 1, 2, 3], [], [5], [5, 6], [], [8], [5, 6, 7, 8, 9], [5, 6, 7, 8, 9, 10], [0, 1, 2, 3, 4, 5, 6, 7, 8, 9, 10, 11], [0, 1, 2, 3, 4, 5, 6, 7, 8, 9, 10, 11, 12]], by kernel_rfl, ?_⟩
 conv => whnf
 refine ⟨s, [], rfl, by show s.size ≤ 1099511627776; omega, ?_⟩
 conv => whnf
 refine ⟨_, rfl, ?_⟩
 conv => whnf
 refine ⟨t, [], rfl, by show t.size ≤ 1099511627776; omega, ?_⟩
 conv => whnf
 refine ⟨_, rfl, ?_⟩
 conv => whnf
 refine ⟨(bnat s, capU, bnat t, capU), [10, 13], rfl, ⟨IV.nl (i := (b, s)) hp.1, IV.nl (i := (c, t)) hp.2⟩, ?_⟩
 conv => whnf
 refine ⟨BlkLe.flat_flat (fun h => h) (fun r hr => rfl), ?_⟩
 conv => whnf
 refine ⟨BlkLe.flat_flat (fun h => h) (fun r hr => rfl), ?_⟩
 conv => whnf
 refine ⟨_, rfl, ?_⟩
 conv => whnf
 have hAn := IV.nl (i := (b, s)) hp.1
 have hDn := IV.nl (i := (c, t)) hp.2
 have hAn : nl (bnat s) ≤ 137438953472 := hAn
 have hDn : nl (bnat t) ≤ 137438953472 := hDn
 have hmul := nl_mul_le (bnat s) (bnat t)
 refine ⟨(b != c, some (nl (bnat s * bnat t), bnat s * bnat t, capU)), [14], rfl, ⟨lt_nl _, by omega⟩, ?_⟩
 conv => whnf
 refine ⟨BlkLe.flat_flat (fun h => h) (fun r hr => rfl), ?_⟩
 conv => whnf
 refine ⟨_, rfl, ?_⟩
 conv => whnf
 show encS (b != c) (bnat s * bnat t) = _
 rw [encS_eq, valI_mul]
 rfl
end Go.Proofs.YtppeponndkfbkaaGreat
/- Contracts of bigint: sum, difference, comparison. -/
set_option maxRecDepth 20000
set_option maxHeartbeats 1000000
namespace Go.Proofs.YtppeponndkfbkaaGreat
open Go Go.Ae
theorem neg_ok : Snd Tryz.prog 139 negS := by
 refine snd_of Eiok Dok Tryz.func139 (enters_of Tryz.func139 (by kernel_rfl) rfl) (fun _ => rfl) (fun _ => rfl) ?_
 intro ⟨b, s⟩ hp
 have hp : s.size ≤ 549755813888 := hp
 have hAn : nl (bnat s) ≤ 137438953472 := IV.nl (i := (b, s)) hp
 conv => whnf
 refine .inl ⟨6, [[], [0], [0, 1], [], [3], [3, 4], [0, 1, 2, 3, 4, 5], [0, 1, 2, 3, 4, 5, 6]], by kernel_rfl, ?_⟩
 conv => whnf
 refine ⟨s, [], rfl, by show s.size ≤ 1099511627776; omega, ?_⟩
 conv => whnf
 refine ⟨_, rfl, ?_⟩
 conv => whnf
 refine ⟨(!b, some (nl (bnat s), bnat s, capU)), [7], rfl, ⟨lt_nl _, by omega⟩, ?_⟩
 conv => whnf
 refine ⟨BlkLe.flat_flat (fun h => h) (fun r hr => rfl), ?_⟩
 conv => whnf
 refine ⟨_, rfl, ?_⟩
 conv => whnf
 show encS (!b) (bnat s) = _
 rw [encS_eq, valI_neg]
 rfl
def Ej : Env := { tt := tt, eqs := [], Φ := fun g => match g with
 | 116 => some (.q packS)
 | 124 => some (.q loadS)
 | 158 => some (.q plusS)
 | 159 => some (.q minusS)
 | 125 => some (.q compareS)
 | 157 => some (.p littleS)
 | 81 => some (.p ofS)
 | _ => none }
theorem Ejok : EnvOk Tryz.prog Ej := ⟨tt_ok, fun t h => by simp [Ej] at h, (fun g S h => by
 simp only [Ej] at h
 split at h
 ·cases h; exact pack_ok
 ·cases h; exact load_ok
 ·cases h; exact plus_ok
 ·cases h; exact minus_ok
 ·cases h; exact compare_ok
 ·cases h; exact little_ok
 ·cases h; exact of_ok
 ·cases h), fun g F h => by simp [Ej] at h⟩
theorem add_ok : Snd Tryz.prog 132 addS := by
 refine snd_of Ejok Dok Tryz.func132 (enters_of Tryz.func132 (by kernel_rfl) rfl) (fun _ => rfl) (fun _ => rfl) ?_
 intro ⟨⟨b, s⟩, ⟨c, t⟩⟩ hp
 have hp : s.size ≤ 549755813888 ∧ t.size ≤ 549755813888 := hp
 have hAn : nl (bnat s) ≤ 137438953472 := IV.nl (i := (b, s)) hp.1
 have hDn : nl (bnat t) ≤ 137438953472 := IV.nl (i := (c, t)) hp.2
 conv => whnf
 refine ⟨(b, s), rfl, hp.1, ?_⟩
 conv => whnf
 refine br_intro (fun h1 => ?_) (fun h1 => ?_)
 ·have h1 : s.size ≤ 7 := of_decide_eq_true h1
  conv => whnf
  refine ⟨(c, t), rfl, hp.2, ?_⟩
  conv => whnf
  refine br_intro (fun h2 => ?_) (fun h2 => ?_)
  ·have h2 : t.size ≤ 7 := of_decide_eq_true h2
   conv => whnf
   have z1 := small_z (i := (b, s)) h1
   have z2 := small_z (i := (c, t)) h2
   have ew : IntKind.i64.wrap ((if (b, s).snd.size ≤ 7 then IV.z (b, s) else 0) + if (c, t).snd.size ≤ 7 then IV.z (c, t) else 0) = IV.z (b, s) + IV.z (c, t) := by
    rw [if_pos h1, if_pos h2]
    exact wrapi64 (by omega) (by omega)
   rw [ew]
   refine ⟨IV.z (b, s) + IV.z (c, t), rfl, ⟨by omega, by omega⟩, ?_⟩
   conv => whnf
   rfl
  ·conv => whnf
   refine .inl ⟨5, [[], [0], [0, 1], [], [3], [0, 1, 2, 3, 4], [0, 1, 2, 3, 4, 5], [0, 1, 2, 3, 4, 5, 6]], by kernel_rfl, ?_⟩
   conv => whnf
   refine ⟨s, [], rfl, by show s.size ≤ 1099511627776; omega, ?_⟩
   conv => whnf
   refine ⟨_, rfl, ?_⟩
   conv => whnf
   refine ⟨t, [], rfl, by show t.size ≤ 1099511627776; omega, ?_⟩
   conv => whnf
   refine ⟨_, rfl, ?_⟩
   conv => whnf
   refine br_intro (fun h5 => ?_) (fun h5 => ?_)
   ·have h5 : b = c := eq_of_beq h5
    conv => whnf
    refine .inl ⟨5, [[], [0], [], [], [2, 3], [0, 1, 2, 3, 4], [0, 1, 2, 3, 4, 5]], by kernel_rfl, ?_⟩
    conv => whnf
    refine ⟨(bnat s, capU, bnat t, capU), [5, 8], rfl, ⟨hAn, hDn⟩, ?_⟩
    conv => whnf
    refine ⟨BlkLe.flat_flat (fun h => h) (fun r hr => rfl), ?_⟩
    conv => whnf
    refine ⟨BlkLe.flat_flat (fun h => h) (fun r hr => rfl), ?_⟩
    conv => whnf
    refine ⟨_, rfl, ?_⟩
    conv => whnf
    have hal := nl_add_le (bnat s) (bnat t)
    refine ⟨(b, some (nl (bnat s + bnat t), bnat s + bnat t, capU)), [13], rfl, ⟨lt_nl _, by omega⟩, ?_⟩
    conv => whnf
    refine ⟨BlkLe.flat_flat (fun h => h) (fun r hr => rfl), ?_⟩
    conv => whnf
    refine ⟨_, rfl, ?_⟩
    conv => whnf
    show encS b (bnat s + bnat t) = encI (IV.z (b, s) + IV.z (c, t))
    rw [encS_eq, valI_same, h5]
    rfl
   ·have h5 : b ≠ c := by
     intro e
     subst e
     cases b <;> cases h5
    conv => whnf
    refine ⟨(bnat s, capU, bnat t, capU), [5, 8], rfl, ⟨hAn, hDn⟩, ?_⟩
    conv => whnf
    refine ⟨BlkLe.flat_flat (fun h => h) (fun r hr => rfl), ?_⟩
    conv => whnf
    refine ⟨BlkLe.flat_flat (fun h => h) (fun r hr => rfl), ?_⟩
    conv => whnf
    refine ⟨_, rfl, ?_⟩
    conv => whnf
    refine br_intro (fun h6 => ?_) (fun h6 => ?_)
    ·have h6 : bnat s ≤ bnat t := by
      have h6 : cmpN (bnat s) (bnat t) < 0 := of_decide_eq_true h6
      unfold cmpN at h6
      split at h6
      ·omega
      ·split at h6 <;> omega
     have hml := nl_mono (Nat.sub_le (bnat t) (bnat s))
     conv => whnf
     refine .inl ⟨5, [[], [0], [], [], [2, 3], [0, 1, 2, 3, 4], [0, 1, 2, 3, 4, 5]], by kernel_rfl, ?_⟩
     conv => whnf
     refine ⟨(bnat t, capU, bnat s, capU), [8, 5], rfl, ⟨⟨hDn, hAn⟩, h6⟩, ?_⟩
     conv => whnf
     refine ⟨BlkLe.flat_flat (fun h => h) (fun r hr => rfl), ?_⟩
     conv => whnf
     refine ⟨BlkLe.flat_flat (fun h => h) (fun r hr => rfl), ?_⟩
     conv => whnf
     refine ⟨_, rfl, ?_⟩
     conv => whnf
     refine ⟨(c, some (nl (bnat t - bnat s), bnat t - bnat s, capU)), [13], rfl, ⟨lt_nl _, by omega⟩, ?_⟩
     conv => whnf
     refine ⟨BlkLe.flat_flat (fun h => h) (fun r hr => rfl), ?_⟩
     conv => whnf
     refine ⟨_, rfl, ?_⟩
     conv => whnf
     show encS c (bnat t - bnat s) = encI (IV.z (b, s) + IV.z (c, t))
     rw [encS_eq, valI_diff (Ne.symm h5) h6, Int.add_comm]
     rfl
    ·have h6 : bnat t ≤ bnat s := by
      have h6 : ¬ cmpN (bnat s) (bnat t) < 0 := of_decide_eq_false h6
      unfold cmpN at h6
      split at h6
      ·omega
      ·split at h6 <;> omega
     have hml := nl_mono (Nat.sub_le (bnat s) (bnat t))
     conv => whnf
     refine .inl ⟨5, [[], [0], [], [], [2, 3], [0, 1, 2, 3, 4], [0, 1, 2, 3, 4, 5]], by kernel_rfl, ?_⟩
     conv => whnf
     refine ⟨(bnat s, capU, bnat t, capU), [5, 8], rfl, ⟨⟨hAn, hDn⟩, h6⟩, ?_⟩
     conv => whnf
     refine ⟨BlkLe.flat_flat (fun h => h) (fun r hr => rfl), ?_⟩
     conv => whnf
     refine ⟨BlkLe.flat_flat (fun h => h) (fun r hr => rfl), ?_⟩
     conv => whnf
     refine ⟨_, rfl, ?_⟩
     conv => whnf
     refine ⟨(b, some (nl (bnat s - bnat t), bnat s - bnat t, capU)), [13], rfl, ⟨lt_nl _, by omega⟩, ?_⟩
     conv => whnf
     refine ⟨BlkLe.flat_flat (fun h => h) (fun r hr => rfl), ?_⟩
     conv => whnf
     refine ⟨_, rfl, ?_⟩
     conv => whnf
     show encS b (bnat s - bnat t) = encI (IV.z (b, s) + IV.z (c, t))
     rw [encS_eq, valI_diff h5 h6]
     rfl
 ·conv => whnf
  refine .inl ⟨5, [[], [0], [0, 1], [], [3], [0, 1, 2, 3, 4], [0, 1, 2, 3, 4, 5], [0, 1, 2, 3, 4, 5, 6]], by kernel_rfl, ?_⟩
  conv => whnf
  refine ⟨s, [], rfl, by show s.size ≤ 1099511627776; omega, ?_⟩
  conv => whnf
  refine ⟨_, rfl, ?_⟩
  conv => whnf
  refine ⟨t, [], rfl, by show t.size ≤ 1099511627776; omega, ?_⟩
  conv => whnf
  refine ⟨_, rfl, ?_⟩
  conv => whnf
  refine br_intro (fun h5 => ?_) (fun h5 => ?_)
  ·have h5 : b = c := eq_of_beq h5
   conv => whnf
   refine .inl ⟨5, [[], [0], [], [], [2, 3], [0, 1, 2, 3, 4], [0, 1, 2, 3, 4, 5]], by kernel_rfl, ?_⟩
   conv => whnf
   refine ⟨(bnat s, capU, bnat t, capU), [5, 8], rfl, ⟨hAn, hDn⟩, ?_⟩
   conv => whnf
   refine ⟨BlkLe.flat_flat (fun h => h) (fun r hr => rfl), ?_⟩
   conv => whnf
   refine ⟨BlkLe.flat_flat (fun h => h) (fun r hr => rfl), ?_⟩
   conv => whnf
   refine ⟨_, rfl, ?_⟩
   conv => whnf
   have hal := nl_add_le (bnat s) (bnat t)
   refine ⟨(b, some (nl (bnat s + bnat t), bnat s + bnat t, capU)), [13], rfl, ⟨lt_nl _, by omega⟩, ?_⟩
   conv => whnf
   refine ⟨BlkLe.flat_flat (fun h => h) (fun r hr => rfl), ?_⟩
   conv => whnf
   refine ⟨_, rfl, ?_⟩
   conv => whnf
   show encS b (bnat s + bnat t) = encI (IV.z (b, s) + IV.z (c, t))
   rw [encS_eq, valI_same, h5]
   rfl
  ·have h5 : b ≠ c := by
    intro e
    subst e
    cases b <;> cases h5
   conv => whnf
   refine ⟨(bnat s, capU, bnat t, capU), [5, 8], rfl, ⟨hAn, hDn⟩, ?_⟩
   conv => whnf
   refine ⟨BlkLe.flat_flat (fun h => h) (fun r hr => rfl), ?_⟩
   conv => whnf
   refine ⟨BlkLe.flat_flat (fun h => h) (fun r hr => rfl), ?_⟩
   conv => whnf
   refine ⟨_, rfl, ?_⟩
   conv => whnf
   refine br_intro (fun h6 => ?_) (fun h6 => ?_)
   ·have h6 : bnat s ≤ bnat t := by
     have h6 : cmpN (bnat s) (bnat t) < 0 := of_decide_eq_true h6
     unfold cmpN at h6
     split at h6
     ·omega
     ·split at h6 <;> omega
    have hml := nl_mono (Nat.sub_le (bnat t) (bnat s))
    conv => whnf
    refine .inl ⟨5, [[], [0], [], [], [2, 3], [0, 1, 2, 3, 4], [0, 1, 2, 3, 4, 5]], by kernel_rfl, ?_⟩
    conv => whnf
    refine ⟨(bnat t, capU, bnat s, capU), [8, 5], rfl, ⟨⟨hDn, hAn⟩, h6⟩, ?_⟩
    conv => whnf
    refine ⟨BlkLe.flat_flat (fun h => h) (fun r hr => rfl), ?_⟩
    conv => whnf
    refine ⟨BlkLe.flat_flat (fun h => h) (fun r hr => rfl), ?_⟩
    conv => whnf
    refine ⟨_, rfl, ?_⟩
    conv => whnf
    refine ⟨(c, some (nl (bnat t - bnat s), bnat t - bnat s, capU)), [13], rfl, ⟨lt_nl _, by omega⟩, ?_⟩
    conv => whnf
    refine ⟨BlkLe.flat_flat (fun h => h) (fun r hr => rfl), ?_⟩
    conv => whnf
    refine ⟨_, rfl, ?_⟩
    conv => whnf
    show encS c (bnat t - bnat s) = encI (IV.z (b, s) + IV.z (c, t))
    rw [encS_eq, valI_diff (Ne.symm h5) h6, Int.add_comm]
    rfl
   ·have h6 : bnat t ≤ bnat s := by
     have h6 : ¬ cmpN (bnat s) (bnat t) < 0 := of_decide_eq_false h6
     unfold cmpN at h6
     split at h6
     ·omega
     ·split at h6 <;> omega
    have hml := nl_mono (Nat.sub_le (bnat s) (bnat t))
    conv => whnf
    refine .inl ⟨5, [[], [0], [], [], [2, 3], [0, 1, 2, 3, 4], [0, 1, 2, 3, 4, 5]], by kernel_rfl, ?_⟩
    conv => whnf
    refine ⟨(bnat s, capU, bnat t, capU), [5, 8], rfl, ⟨⟨hAn, hDn⟩, h6⟩, ?_⟩
    conv => whnf
    refine ⟨BlkLe.flat_flat (fun h => h) (fun r hr => rfl), ?_⟩
    conv => whnf
    refine ⟨BlkLe.flat_flat (fun h => h) (fun r hr => rfl), ?_⟩
    conv => whnf
    refine ⟨_, rfl, ?_⟩
    conv => whnf
    refine ⟨(b, some (nl (bnat s - bnat t), bnat s - bnat t, capU)), [13], rfl, ⟨lt_nl _, by omega⟩, ?_⟩
    conv => whnf
    refine ⟨BlkLe.flat_flat (fun h => h) (fun r hr => rfl), ?_⟩
    conv => whnf
    refine ⟨_, rfl, ?_⟩
    conv => whnf
    show encS b (bnat s - bnat t) = encI (IV.z (b, s) + IV.z (c, t))
    rw [encS_eq, valI_diff h5 h6]
    rfl
def Ek : Env := { tt := tt, eqs := [], Φ := fun g => match g with
 | 132 => some (.p addS)
 | _ => none }
theorem Ekok : EnvOk Tryz.prog Ek := ⟨tt_ok, fun t h => by simp [Ek] at h, (fun g S h => by
 simp only [Ek] at h
 split at h
 ·cases h; exact add_ok
 ·cases h), fun g F h => by simp [Ek] at h⟩
theorem sub_ok : Snd Tryz.prog 148 subS := by
 refine snd_of Ekok Dok Tryz.func148 (enters_of Tryz.func148 (by kernel_rfl) rfl) (fun _ => rfl) (fun _ => rfl) ?_
 intro ⟨⟨b, s⟩, ⟨c, t⟩⟩ hp
 have hp : s.size ≤ 549755813888 ∧ t.size ≤ 549755813888 := hp
 conv => whnf
 refine ⟨((b, s), (!c, t)), rfl, hp, ?_⟩
 conv => whnf
 show encI (IV.z (b, s) + valI (!c) (bnat t)) = encI (IV.z (b, s) - IV.z (c, t))
 rw [valI_neg]
 rfl
theorem cmp_ok : Snd Tryz.prog 88 cmpS := by
 refine snd_of Ejok Dok Tryz.func88 (enters_of Tryz.func88 (by kernel_rfl) rfl) (fun _ => rfl) (fun _ => rfl) ?_
 intro ⟨⟨b, s⟩, ⟨c, t⟩⟩ hp
 have hp : s.size ≤ 549755813888 ∧ t.size ≤ 549755813888 := hp
 have hAn : nl (bnat s) ≤ 137438953472 := IV.nl (i := (b, s)) hp.1
 have hDn : nl (bnat t) ≤ 137438953472 := IV.nl (i := (c, t)) hp.2
 conv => whnf
 refine .inl ⟨5, [[], [0], [0, 1], [], [3], [0, 1, 2, 3, 4], [0, 1, 2, 3, 4, 5], [0, 1, 2, 3, 4, 5, 6]], by kernel_rfl, ?_⟩
 conv => whnf
 refine ⟨s, [], rfl, by show s.size ≤ 1099511627776; omega, ?_⟩
 conv => whnf
 refine ⟨_, rfl, ?_⟩
 conv => whnf
 refine ⟨t, [], rfl, by show t.size ≤ 1099511627776; omega, ?_⟩
 conv => whnf
 refine ⟨_, rfl, ?_⟩
 conv => whnf
 have fin : ∀ (z : Int), z = cmpZ (IV.z (b, s)) (IV.z (c, t)) → Value.int .i64 z = cmpS.val ((b, s), (c, t)) := fun z h => by rw [h]; rfl
 cases b with
 | false =>
  conv => whnf
  cases c with
  | false =>
   conv => whnf
   refine ⟨(bnat s, capU, bnat t, capU), [4, 7], rfl, ⟨hAn, hDn⟩, ?_⟩
   conv => whnf
   refine ⟨BlkLe.flat_flat (fun h => h) (fun r hr => rfl), ?_⟩
   conv => whnf
   refine ⟨BlkLe.flat_flat (fun h => h) (fun r hr => rfl), ?_⟩
   conv => whnf
   refine ⟨_, rfl, ?_⟩
   conv => whnf
   exact fin _ (cmpZ_pos _ _).symm
  | true =>
   conv => whnf
   rcases Nat.eq_zero_or_pos (bnat t) with h1 | h1
   ·rw [dnl_zero h1]
    conv => whnf
    refine ⟨(bnat s, capU, bnat t, capU), [4, 7], rfl, ⟨hAn, hDn⟩, ?_⟩
    conv => whnf
    refine ⟨BlkLe.flat_flat (fun h => h) (fun r hr => rfl), ?_⟩
    conv => whnf
    refine ⟨BlkLe.flat_flat (fun h => h) (fun r hr => rfl), ?_⟩
    conv => whnf
    refine ⟨_, rfl, ?_⟩
    conv => whnf
    refine fin _ ?_
    show cmpN (bnat s) (bnat t) = cmpZ ((bnat s : Nat) : Int) (-((bnat t : Nat) : Int))
    rw [h1]
    exact (cmpZ_pos _ 0).symm
   ·rw [dnl_pos h1]
    conv => whnf
    exact fin _ (cmpZ_gt (show -((bnat t : Nat) : Int) < ((bnat s : Nat) : Int) by omega)).symm
 | true =>
  conv => whnf
  rcases Nat.eq_zero_or_pos (bnat s) with h2 | h2
  ·try rw [dnl_zero h2]
   cases c with
   | false =>
    conv => whnf
    try rw [dnl_zero h2]
    conv => whnf
    refine ⟨(bnat s, capU, bnat t, capU), [4, 7], rfl, ⟨hAn, hDn⟩, ?_⟩
    conv => whnf
    refine ⟨BlkLe.flat_flat (fun h => h) (fun r hr => rfl), ?_⟩
    conv => whnf
    refine ⟨BlkLe.flat_flat (fun h => h) (fun r hr => rfl), ?_⟩
    conv => whnf
    refine ⟨_, rfl, ?_⟩
    conv => whnf
    refine fin _ ?_
    show cmpN (bnat s) (bnat t) = cmpZ (-((bnat s : Nat) : Int)) ((bnat t : Nat) : Int)
    rw [h2]
    exact (cmpZ_pos 0 _).symm
   | true =>
    conv => whnf
    try rw [dnl_zero h2]
    conv => whnf
    rcases Nat.eq_zero_or_pos (bnat t) with h1 | h1
    ·rw [dnl_zero h1]
     conv => whnf
     refine ⟨(bnat s, capU, bnat t, capU), [4, 7], rfl, ⟨hAn, hDn⟩, ?_⟩
     conv => whnf
     refine ⟨BlkLe.flat_flat (fun h => h) (fun r hr => rfl), ?_⟩
     conv => whnf
     refine ⟨BlkLe.flat_flat (fun h => h) (fun r hr => rfl), ?_⟩
     conv => whnf
     refine ⟨_, rfl, ?_⟩
     conv => whnf
     refine fin _ ?_
     show cmpN (bnat s) (bnat t) = cmpZ (-((bnat s : Nat) : Int)) (-((bnat t : Nat) : Int))
     rw [h1, h2]
     rfl
    ·rw [dnl_pos h1]
     conv => whnf
     exact fin _ (cmpZ_gt (show -((bnat t : Nat) : Int) < -((bnat s : Nat) : Int) by omega)).symm
  ·try rw [dnl_pos h2]
   cases c with
   | false =>
    conv => whnf
    try rw [dnl_pos h2]
    conv => whnf
    exact fin _ (cmpZ_lt (show -((bnat s : Nat) : Int) < ((bnat t : Nat) : Int) by omega)).symm
   | true =>
    conv => whnf
    try rw [dnl_pos h2]
    conv => whnf
    rcases Nat.eq_zero_or_pos (bnat t) with h1 | h1
    ·rw [dnl_zero h1]
     conv => whnf
     exact fin _ (cmpZ_lt (show -((bnat s : Nat) : Int) < -((bnat t : Nat) : Int) by omega)).symm
    ·rw [dnl_pos h1]
     conv => whnf
     refine ⟨(bnat t, capU, bnat s, capU), [7, 4], rfl, ⟨hDn, hAn⟩, ?_⟩
     conv => whnf
     refine ⟨BlkLe.flat_flat (fun h => h) (fun r hr => rfl), ?_⟩
     conv => whnf
     refine ⟨BlkLe.flat_flat (fun h => h) (fun r hr => rfl), ?_⟩
     conv => whnf
     refine ⟨_, rfl, ?_⟩
     conv => whnf
     exact fin _ (cmpZ_neg _ _).symm
end Go.Proofs.YtppeponndkfbkaaGreat
/- Contracts of bigint: greatest divisor, division. -/
set_option maxRecDepth 20000
set_option maxHeartbeats 1000000
namespace Go.Proofs.YtppeponndkfbkaaGreat
open Go Go.Ae
def ElW : FuncId → Option FT := fun g => match g with
 | 147 => some (wFT divideS)
 | _ => none
def El : Env := { tt := tt, eqs := [], Ψ := ElW, Φ := fun g => match g with
 | 116 => some (.q packS)
 | 124 => some (.q loadS)
 | 81 => some (.p ofS)
 | 132 => some (.p addS)
 | 148 => some (.p subS)
 | _ => none }
theorem Elok : EnvOk Tryz.prog El := ⟨tt_ok, fun t h => by simp [El] at h, (fun g S h => by
 simp only [El] at h
 split at h
 ·cases h; exact pack_ok
 ·cases h; exact load_ok
 ·cases h; exact of_ok
 ·cases h; exact add_ok
 ·cases h; exact sub_ok
 ·cases h), (fun g F h => by
 simp only [El, ElW] at h
 split at h
 ·cases h; exact divide_ok
 ·cases h)⟩
theorem gcd_ok : Snd Tryz.prog 118 gcdS := by
 refine snd_of Elok Dok Tryz.func118 (enters_of Tryz.func118 (by kernel_rfl) rfl) (fun _ => rfl) (fun _ => rfl) ?_
 intro ⟨⟨b, s⟩, ⟨c, t⟩⟩ hp
 have hp : s.size ≤ 549755813888 ∧ t.size ≤ 549755813888 := hp
 have hAn : nl (bnat s) ≤ 137438953472 := IV.nl (i := (b, s)) hp.1
 have hDn : nl (bnat t) ≤ 137438953472 := IV.nl (i := (c, t)) hp.2
 conv => whnf
 refine .inl ⟨5, [[], [0], [0, 1], [], [3], [0, 1, 2, 3, 4], [0, 1, 2, 3, 4, 5], [0, 1, 2, 3, 4, 5, 6]], by kernel_rfl, ?_⟩
 conv => whnf
 refine ⟨s, [], rfl, by show s.size ≤ 1099511627776; omega, ?_⟩
 conv => whnf
 refine ⟨_, rfl, ?_⟩
 conv => whnf
 refine ⟨t, [], rfl, by show t.size ≤ 1099511627776; omega, ?_⟩
 conv => whnf
 refine ⟨_, rfl, ?_⟩
 conv => whnf
 refine .inl ⟨fun mm tz hz => ∃ (A : Nat) (D : Nat) (ca : Nat) (cd : Nat), Pat [none, none, none, none, some (.pointer (some ⟨0, 0, none⟩)), some (.slice (some ⟨1, 0, none⟩) (nl A) ca), some (.slice (some ⟨2, 0, none⟩) (nl D) cd), none, none, none, none, none, none, none, none, none, none, none, none, none, none, none, none, none, none, none, none, none] tz ∧ hz = [some (.expl true 2 [[.bool false, .string ⟨#[]⟩]]), some (newB A), some (newB D)] ∧ D = mm ∧ ((nl A ≤ 137438953472 ∧ nl D ≤ 137438953472) ∧ Nat.gcd A D = Nat.gcd (bnat s) (bnat t)), .inr ⟨[2, 5, 8], [4, 5, 6], ?_⟩, ?_⟩
 ·conv => whnf
  intro _
  conv => whnf
  refine ⟨_, bnat s, bnat t, capU, capU, (.skip (.skip (.skip (.skip (.keep (.keep (.keep (.s8 (.s8 (.skip (.skip (.skip (.skip (.skip (.nil))))))))))))))), rfl, rfl, ?_⟩
  exact ⟨⟨hAn, hDn⟩, rfl⟩
 rintro mm tms _ ⟨A, D, ca, cd, hpat, rfl, rfl, ⟨hnl, hg⟩⟩
 obtain ⟨az, rfl⟩ : ∃ az : Nat → Value, tms = [az 0, az 1, az 2, az 3, .pointer (some ⟨0, 0, none⟩), .slice (some ⟨1, 0, none⟩) (nl A) ca, .slice (some ⟨2, 0, none⟩) (nl D) cd, az 7, az 8, az 9, az 10, az 11, az 12, az 13, az 14, az 15, az 16, az 17, az 18, az 19, az 20, az 21, az 22, az 23, az 24, az 25, az 26, az 27] := pat_fill hpat
 clear hpat
 conv => whnf
 refine br_intro (fun h1 => ?_) (fun h1 => ?_)
 ·have h1 := nl_pos' (of_decide_eq_true h1)
  conv => whnf
  refine ⟨(A, ca, D, cd), [1, 2], rfl, ⟨hnl, by show D ≠ 0; omega⟩, by decide, ?_⟩
  rcases Nat.lt_or_ge A D with h2 | h2
  ·have ev : divideS.val (A, ca, D, cd) = .tuple ⟨[.slice none 0 0, one A ca]⟩ := if_pos h2
   have en : divideS.new (A, ca, D, cd) = [] := if_pos h2
   rw [ev, en]
   conv => whnf
   refine ⟨BlkLe.flat_flat (fun h => h) (fun r hr => rfl), ?_⟩
   conv => whnf
   refine ⟨BlkLe.flat_flat (fun h => h) (fun r hr => rfl), ?_⟩
   conv => whnf
   refine ⟨_, rfl, ?_⟩
   conv => whnf
   refine .inr ⟨[0, 2, 1], [4, 5, 6], ?_⟩
   conv => whnf
   intro _
   conv => whnf
   refine ⟨_, ?_, D, A, cd, ca, (.skip (.skip (.skip (.skip (.keep (.keep (.keep (.s8 (.s8 (.skip (.skip (.skip (.skip (.skip (.nil))))))))))))))), rfl, rfl, ?_⟩
   ·omega
   ·exact ⟨⟨hnl.2, hnl.1⟩, by rw [Nat.gcd_comm]; exact hg⟩
  ·have ev : divideS.val (A, ca, D, cd) = .tuple ⟨[newN 2 (A / D), newN 3 (A % D)]⟩ := if_neg (Nat.not_lt.2 h2)
   have en : divideS.new (A, ca, D, cd) = [newB (A / D), newB (A % D)] := if_neg (Nat.not_lt.2 h2)
   rw [ev, en]
   conv => whnf
   refine ⟨BlkLe.flat_flat (fun h => h) (fun r hr => rfl), ?_⟩
   conv => whnf
   refine ⟨BlkLe.flat_flat (fun h => h) (fun r hr => rfl), ?_⟩
   conv => whnf
   refine ⟨_, rfl, ?_⟩
   conv => whnf
   have hm := Nat.mod_lt A h1
   have hml := nl_mono (Nat.le_of_lt hm)
   refine .inr ⟨[0, 2, 4], [4, 5, 6], ?_⟩
   conv => whnf
   intro _
   conv => whnf
   refine ⟨_, ?_, D, A % D, cd, capU, (.skip (.skip (.skip (.skip (.keep (.keep (.keep (.s8 (.s8 (.skip (.skip (.skip (.skip (.skip (.nil))))))))))))))), rfl, rfl, ?_⟩
   ·omega
   ·exact ⟨⟨hnl.2, by omega⟩, by rw [Nat.gcd_comm, ← Nat.gcd_rec, Nat.gcd_comm]; exact hg⟩
 ·have h1 := nl_not_pos (of_decide_eq_false h1)
  subst h1
  rw [Nat.gcd_zero_right] at hg
  conv => whnf
  refine ⟨(false, some (nl A, A, ca)), [1], rfl, ⟨lt_nl _, by omega⟩, ?_⟩
  conv => whnf
  refine ⟨BlkLe.flat_flat (fun h => h) (fun r hr => rfl), ?_⟩
  conv => whnf
  refine ⟨_, rfl, ?_⟩
  conv => whnf
  show encS false A = encI ((Int.gcd (IV.z (b, s)) (IV.z (c, t)) : Nat) : Int)
  rw [encS_eq, hg]
  unfold Int.gcd IV.z
  rw [valI_abs, valI_abs]
  rfl
theorem div_ok : Snd Tryz.prog 119 divS := by
 refine snd_of Elok Dok Tryz.func119 (enters_of Tryz.func119 (by kernel_rfl) rfl) (fun _ => rfl) (fun _ => rfl) ?_
 intro ⟨⟨b, s⟩, ⟨c, t⟩⟩ hp
 have hp : s.size ≤ 549755813888 ∧ t.size ≤ 549755813888 := hp
 have hAn : nl (bnat s) ≤ 137438953472 := IV.nl (i := (b, s)) hp.1
 have hDn : nl (bnat t) ≤ 137438953472 := IV.nl (i := (c, t)) hp.2
 conv => whnf
 refine ⟨t, [], rfl, by show t.size ≤ 1099511627776; omega, ?_⟩
 conv => whnf
 refine ⟨_, rfl, ?_⟩
 conv => whnf
 refine br_intro (fun h1 => ?_) (fun h1 => ?_)
 ·have h1 : bnat t = 0 := by
   have h1 : ((nl (bnat t) : Nat) : Int) = 0 := by simpa using h1
   exact nl_eq_zero (by omega)
  have hz : IV.z (c, t) = 0 := valI_zero.2 h1
  conv => whnf
  have e : Int.fdiv (IV.z (b, s)) 0 = 0 := Int.fdiv_zero _
  simp only [divS, hz, e, if_true, encI_zero]
  rfl
 ·have h1 : bnat t ≠ 0 := by
   intro e
   rw [e, nl_zero] at h1
   cases h1
  conv => whnf
  refine ⟨s, [], rfl, by show s.size ≤ 1099511627776; omega, ?_⟩
  conv => whnf
  refine ⟨_, rfl, ?_⟩
  conv => whnf
  refine ⟨(bnat s, capU, bnat t, capU), [5, 4], rfl, ⟨⟨hAn, hDn⟩, h1⟩, by decide, ?_⟩
  have hDp : 0 < bnat t := Nat.pos_of_ne_zero h1
  rcases Nat.lt_or_ge (bnat s) (bnat t) with h2 | h2
  ·rw [show divideS.val (bnat s, capU, bnat t, capU) = .tuple ⟨[.slice none 0 0, one (bnat s) capU]⟩ from if_pos h2, show divideS.new (bnat s, capU, bnat t, capU) = [] from if_pos h2]
   have hQ : 0 = bnat s / bnat t := (Nat.div_eq_of_lt h2).symm
   have hR : bnat s = bnat s % bnat t := (Nat.mod_eq_of_lt h2).symm
   conv => whnf
   refine ⟨BlkLe.flat_flat (fun h => h) (fun r hr => rfl), ?_⟩
   conv => whnf
   refine ⟨BlkLe.flat_flat (fun h => h) (fun r hr => rfl), ?_⟩
   conv => whnf
   refine ⟨_, rfl, ?_⟩
   conv => whnf
   refine .inl ⟨13, [[], [0], [], [2], [0, 1, 2, 3], [], [0, 1, 2, 3, 4, 5], [], [7], [], [0, 1, 2, 3, 4, 5, 6, 7, 8, 9], [], [], [0, 1, 2, 3, 4, 5, 6, 7, 8, 9, 10, 11, 12], [0, 1, 2, 3, 4, 5, 6, 7, 8, 9, 10, 11, 12, 13]], by kernel_rfl, ?_⟩
   conv => whnf
   refine ⟨(b != c, none), [], rfl, trivial, ?_⟩
   conv => whnf
   skip
   conv => whnf
   obtain ⟨qs, hqs⟩ : ∃ qs, qs = nb (0) := ⟨_, rfl⟩
   obtain ⟨qb, hqb⟩ : ∃ qb : Bool, qb = ((b != c) && (0) != 0) := ⟨_, rfl⟩
   obtain ⟨rs, hrs⟩ : ∃ rs, rs = nb (bnat s) := ⟨_, rfl⟩
   obtain ⟨rb, hrb⟩ : ∃ rb : Bool, rb = (b && (bnat s) != 0) := ⟨_, rfl⟩
   refine ⟨.agg ⟨[.bool qb, .string qs]⟩, by rw [hqs, hqb]; rfl, ?_⟩
   conv => whnf
   refine ⟨(b, some (nl (bnat s), bnat s, capU)), [5], rfl, ⟨lt_nl _, by omega⟩, ?_⟩
   conv => whnf
   refine ⟨BlkLe.flat_flat (fun h => h) (fun r hr => rfl), ?_⟩
   conv => whnf
   refine ⟨.agg ⟨[.bool rb, .string rs]⟩, by rw [hrs, hrb]; rfl, ?_⟩
   conv => whnf
   have eQ : Value.agg ⟨[.bool qb, .string qs]⟩ = encI (valI (b != c) (bnat s / bnat t)) := by rw [hqs, hqb, ← hQ]; exact encS_eq _ _
   have eR : Value.agg ⟨[.bool rb, .string rs]⟩ = encI (valI b (bnat s % bnat t)) := by rw [hrs, hrb, ← hR]; exact encS_eq _ _
   have fin : ∀ (q r : Value), q = encI (Int.fdiv (IV.z (b, s)) (IV.z (c, t))) → r = encI (Int.fmod (IV.z (b, s)) (IV.z (c, t))) → Value.tuple ⟨[q, r, .int .i64 0]⟩ = divS.val ((b, s), (c, t)) := fun q r hq hr => by
    have hz : IV.z (c, t) ≠ 0 := fun e => h1 (valI_zero.1 e)
    simp only [divS, if_neg hz]
    rw [hq, hr]
   rcases Nat.eq_zero_or_pos (bnat s) with h3 | h3
   ·rw [show (!rs.toList == (⟨#[]⟩ : ByteArray).toList) = false by rw [hrs]; exact mag_zero h3]
    conv => whnf
    refine .inr (.inl ⟨(.br 0 (.br 1 (.br 2 (.br 3 (.br 4 .leaf .leaf) .leaf) .leaf) (.br 2 (.br 1 (.br 3 (.br 4 .leaf .leaf) .leaf) .leaf) .leaf)) (.br 1 (.br 0 (.br 2 (.br 3 (.br 4 .leaf .leaf) .leaf) .leaf) .leaf) .leaf)), by kernel_rfl, ?_⟩)
    have f1 := div_floor (b := b) (c := c) hDp (.inl (show bnat s % bnat t = 0 by rw [← hR]; exact h3))
    repeat' ((conv => whnf); first | exact True.intro | refine And.intro ?_ ?_)
    all_goals conv => whnf
    all_goals exact fin _ _ (eQ.trans (congrArg encI f1.1.symm)) (eR.trans (congrArg encI f1.2.symm))
   ·rw [show (!rs.toList == (⟨#[]⟩ : ByteArray).toList) = true by rw [hrs]; exact mag_pos (Nat.ne_of_gt h3)]
    conv => whnf
    refine br_intro (fun h4 => ?_) (fun h4 => ?_)
    ·conv => whnf
     refine .inl ⟨5, [[], [], [0, 1], [], [], [0, 1, 2, 3, 4], [0, 1, 2, 3, 4, 5], [0, 1, 2, 3, 4, 5, 6]], by kernel_rfl, ?_⟩
     conv => whnf
     have h4 : b ≠ c := by
      intro e
      subst e
      cases b <;> cases h4
     have f1 := div_floor' (b := b) (c := c) hDp (show bnat s % bnat t ≠ 0 by rw [← hR]; exact Nat.ne_of_gt h3) h4
     have hqz : IV.z (qb, qs) = valI (b != c) (bnat s / bnat t) := by rw [hqs, hqb, ← hQ]; exact encS_z _ _
     have hrz : IV.z (rb, rs) = valI b (bnat s % bnat t) := by rw [hrs, hrb, ← hR]; exact encS_z _ _
     have sq : qs.size ≤ s.size := by rw [hqs, hQ]; exact nb_size_le (Nat.div_le_self _ _)
     have sr : rs.size ≤ s.size := by rw [hrs, hR]; exact nb_size_le (Nat.mod_le _ _)
     have s1 := nb_one
     refine ⟨(1 : Int), rfl, ⟨by decide, by decide⟩, ?_⟩
     obtain ⟨v1, hv1⟩ : ∃ v1, v1 = nb 1 := ⟨_, rfl⟩
     rw [show ofS.val (1 : Int) = .agg ⟨[.bool false, .string v1]⟩ by rw [hv1]; rfl]
     rw [← hv1] at s1
     conv => whnf
     refine ⟨((qb, qs), (false, v1)), rfl, ⟨by show qs.size ≤ _; omega, by show v1.size ≤ _; omega⟩, ?_⟩
     obtain ⟨q2, hq2⟩ : ∃ q2, q2 = nb (IV.z (qb, qs) - IV.z (false, v1)).natAbs := ⟨_, rfl⟩
     obtain ⟨b2, hb2⟩ : ∃ b2 : Bool, b2 = decide (IV.z (qb, qs) - IV.z (false, v1) < 0) := ⟨_, rfl⟩
     rw [show subS.val ((qb, qs), (false, v1)) = .agg ⟨[.bool b2, .string q2]⟩ by rw [hq2, hb2]; rfl]
     conv => whnf
     refine ⟨((rb, rs), (c, t)), rfl, ⟨by show rs.size ≤ _; omega, hp.2⟩, ?_⟩
     obtain ⟨q3, hq3⟩ : ∃ q3, q3 = nb (IV.z (rb, rs) + IV.z (c, t)).natAbs := ⟨_, rfl⟩
     obtain ⟨b3, hb3⟩ : ∃ b3 : Bool, b3 = decide (IV.z (rb, rs) + IV.z (c, t) < 0) := ⟨_, rfl⟩
     rw [show addS.val ((rb, rs), (c, t)) = .agg ⟨[.bool b3, .string q3]⟩ by rw [hq3, hb3]; rfl]
     have e2 : Value.agg ⟨[.bool b2, .string q2]⟩ = encI (valI (b != c) (bnat s / bnat t) - 1) := by
      have : IV.z (false, v1) = 1 := by rw [hv1]; show valI false (bnat (nb 1)) = 1; rw [bnat_nb]; rfl
      rw [hq2, hb2, hqz, this]; rfl
     have e3 : Value.agg ⟨[.bool b3, .string q3]⟩ = encI (valI b (bnat s % bnat t) + valI c (bnat t)) := by
      rw [hq3, hb3, hrz]; rfl
     conv => whnf
     refine .inr (.inl ⟨(.br 0 (.br 1 (.br 2 (.br 3 (.br 4 .leaf .leaf) .leaf) .leaf) (.br 2 (.br 1 (.br 3 (.br 4 .leaf .leaf) .leaf) .leaf) .leaf)) (.br 1 (.br 0 (.br 2 (.br 3 (.br 4 .leaf .leaf) .leaf) .leaf) .leaf) .leaf)), by kernel_rfl, ?_⟩)
     repeat' ((conv => whnf); first | exact True.intro | refine And.intro ?_ ?_)
     all_goals conv => whnf
     all_goals exact fin _ _ (e2.trans (congrArg encI f1.1.symm)) (e3.trans (congrArg encI f1.2.symm))
    ·conv => whnf
     refine .inr (.inl ⟨(.br 0 (.br 1 (.br 2 (.br 3 (.br 4 .leaf .leaf) .leaf) .leaf) (.br 2 (.br 1 (.br 3 (.br 4 .leaf .leaf) .leaf) .leaf) .leaf)) (.br 1 (.br 0 (.br 2 (.br 3 (.br 4 .leaf .leaf) .leaf) .leaf) .leaf) .leaf)), by kernel_rfl, ?_⟩)
     have h4 : b = c := by
      cases b <;> cases c <;> first | rfl | cases h4
     have f1 := div_floor (b := b) (c := c) (A := bnat s) hDp (.inr h4)
     repeat' ((conv => whnf); first | exact True.intro | refine And.intro ?_ ?_)
     all_goals conv => whnf
     all_goals exact fin _ _ (eQ.trans (congrArg encI f1.1.symm)) (eR.trans (congrArg encI f1.2.symm))
  ·rw [show divideS.val (bnat s, capU, bnat t, capU) = .tuple ⟨[newN 2 (bnat s / bnat t), newN 3 (bnat s % bnat t)]⟩ from if_neg (Nat.not_lt.2 h2), show divideS.new (bnat s, capU, bnat t, capU) = [newB (bnat s / bnat t), newB (bnat s % bnat t)] from if_neg (Nat.not_lt.2 h2)]
   have hQ : bnat s / bnat t = bnat s / bnat t := rfl
   have hR : bnat s % bnat t = bnat s % bnat t := rfl
   conv => whnf
   refine ⟨BlkLe.flat_flat (fun h => h) (fun r hr => rfl), ?_⟩
   conv => whnf
   refine ⟨BlkLe.flat_flat (fun h => h) (fun r hr => rfl), ?_⟩
   conv => whnf
   refine ⟨_, rfl, ?_⟩
   conv => whnf
   refine .inl ⟨13, [[], [0], [], [2], [0, 1, 2, 3], [], [0, 1, 2, 3, 4, 5], [], [7], [], [0, 1, 2, 3, 4, 5, 6, 7, 8, 9], [], [], [0, 1, 2, 3, 4, 5, 6, 7, 8, 9, 10, 11, 12], [0, 1, 2, 3, 4, 5, 6, 7, 8, 9, 10, 11, 12, 13]], by kernel_rfl, ?_⟩
   conv => whnf
   refine ⟨(b != c, some (nl (bnat s / bnat t), bnat s / bnat t, capU)), [6], rfl, ⟨lt_nl _, by have := nl_mono (Nat.div_le_self (bnat s) (bnat t)); omega⟩, ?_⟩
   conv => whnf
   refine ⟨BlkLe.flat_flat (fun h => h) (fun r hr => rfl), ?_⟩
   conv => whnf
   obtain ⟨qs, hqs⟩ : ∃ qs, qs = nb (bnat s / bnat t) := ⟨_, rfl⟩
   obtain ⟨qb, hqb⟩ : ∃ qb : Bool, qb = ((b != c) && (bnat s / bnat t) != 0) := ⟨_, rfl⟩
   obtain ⟨rs, hrs⟩ : ∃ rs, rs = nb (bnat s % bnat t) := ⟨_, rfl⟩
   obtain ⟨rb, hrb⟩ : ∃ rb : Bool, rb = (b && (bnat s % bnat t) != 0) := ⟨_, rfl⟩
   refine ⟨.agg ⟨[.bool qb, .string qs]⟩, by rw [hqs, hqb]; rfl, ?_⟩
   conv => whnf
   refine ⟨(b, some (nl (bnat s % bnat t), bnat s % bnat t, capU)), [7], rfl, ⟨lt_nl _, by have := nl_mono (Nat.mod_le (bnat s) (bnat t)); omega⟩, ?_⟩
   conv => whnf
   refine ⟨BlkLe.flat_flat (fun h => h) (fun r hr => rfl), ?_⟩
   conv => whnf
   refine ⟨.agg ⟨[.bool rb, .string rs]⟩, by rw [hrs, hrb]; rfl, ?_⟩
   conv => whnf
   have eQ : Value.agg ⟨[.bool qb, .string qs]⟩ = encI (valI (b != c) (bnat s / bnat t)) := by rw [hqs, hqb, ← hQ]; exact encS_eq _ _
   have eR : Value.agg ⟨[.bool rb, .string rs]⟩ = encI (valI b (bnat s % bnat t)) := by rw [hrs, hrb, ← hR]; exact encS_eq _ _
   have fin : ∀ (q r : Value), q = encI (Int.fdiv (IV.z (b, s)) (IV.z (c, t))) → r = encI (Int.fmod (IV.z (b, s)) (IV.z (c, t))) → Value.tuple ⟨[q, r, .int .i64 0]⟩ = divS.val ((b, s), (c, t)) := fun q r hq hr => by
    have hz : IV.z (c, t) ≠ 0 := fun e => h1 (valI_zero.1 e)
    simp only [divS, if_neg hz]
    rw [hq, hr]
   rcases Nat.eq_zero_or_pos (bnat s % bnat t) with h3 | h3
   ·rw [show (!rs.toList == (⟨#[]⟩ : ByteArray).toList) = false by rw [hrs]; exact mag_zero h3]
    conv => whnf
    refine .inr (.inl ⟨(.br 0 (.br 1 (.br 2 (.br 3 (.br 4 .leaf .leaf) .leaf) .leaf) (.br 2 (.br 1 (.br 3 (.br 4 .leaf .leaf) .leaf) .leaf) .leaf)) (.br 1 (.br 0 (.br 2 (.br 3 (.br 4 .leaf .leaf) .leaf) .leaf) .leaf) .leaf)), by kernel_rfl, ?_⟩)
    have f1 := div_floor (b := b) (c := c) hDp (.inl (show bnat s % bnat t = 0 by rw [← hR]; exact h3))
    repeat' ((conv => whnf); first | exact True.intro | refine And.intro ?_ ?_)
    all_goals conv => whnf
    all_goals exact fin _ _ (eQ.trans (congrArg encI f1.1.symm)) (eR.trans (congrArg encI f1.2.symm))
   ·rw [show (!rs.toList == (⟨#[]⟩ : ByteArray).toList) = true by rw [hrs]; exact mag_pos (Nat.ne_of_gt h3)]
    conv => whnf
    refine br_intro (fun h4 => ?_) (fun h4 => ?_)
    ·conv => whnf
     refine .inl ⟨5, [[], [], [0, 1], [], [], [0, 1, 2, 3, 4], [0, 1, 2, 3, 4, 5], [0, 1, 2, 3, 4, 5, 6]], by kernel_rfl, ?_⟩
     conv => whnf
     have h4 : b ≠ c := by
      intro e
      subst e
      cases b <;> cases h4
     have f1 := div_floor' (b := b) (c := c) hDp (show bnat s % bnat t ≠ 0 by rw [← hR]; exact Nat.ne_of_gt h3) h4
     have hqz : IV.z (qb, qs) = valI (b != c) (bnat s / bnat t) := by rw [hqs, hqb, ← hQ]; exact encS_z _ _
     have hrz : IV.z (rb, rs) = valI b (bnat s % bnat t) := by rw [hrs, hrb, ← hR]; exact encS_z _ _
     have sq : qs.size ≤ s.size := by rw [hqs, hQ]; exact nb_size_le (Nat.div_le_self _ _)
     have sr : rs.size ≤ s.size := by rw [hrs, hR]; exact nb_size_le (Nat.mod_le _ _)
     have s1 := nb_one
     refine ⟨(1 : Int), rfl, ⟨by decide, by decide⟩, ?_⟩
     obtain ⟨v1, hv1⟩ : ∃ v1, v1 = nb 1 := ⟨_, rfl⟩
     rw [show ofS.val (1 : Int) = .agg ⟨[.bool false, .string v1]⟩ by rw [hv1]; rfl]
     rw [← hv1] at s1
     conv => whnf
     refine ⟨((qb, qs), (false, v1)), rfl, ⟨by show qs.size ≤ _; omega, by show v1.size ≤ _; omega⟩, ?_⟩
     obtain ⟨q2, hq2⟩ : ∃ q2, q2 = nb (IV.z (qb, qs) - IV.z (false, v1)).natAbs := ⟨_, rfl⟩
     obtain ⟨b2, hb2⟩ : ∃ b2 : Bool, b2 = decide (IV.z (qb, qs) - IV.z (false, v1) < 0) := ⟨_, rfl⟩
     rw [show subS.val ((qb, qs), (false, v1)) = .agg ⟨[.bool b2, .string q2]⟩ by rw [hq2, hb2]; rfl]
     conv => whnf
     refine ⟨((rb, rs), (c, t)), rfl, ⟨by show rs.size ≤ _; omega, hp.2⟩, ?_⟩
     obtain ⟨q3, hq3⟩ : ∃ q3, q3 = nb (IV.z (rb, rs) + IV.z (c, t)).natAbs := ⟨_, rfl⟩
     obtain ⟨b3, hb3⟩ : ∃ b3 : Bool, b3 = decide (IV.z (rb, rs) + IV.z (c, t) < 0) := ⟨_, rfl⟩
     rw [show addS.val ((rb, rs), (c, t)) = .agg ⟨[.bool b3, .string q3]⟩ by rw [hq3, hb3]; rfl]
     have e2 : Value.agg ⟨[.bool b2, .string q2]⟩ = encI (valI (b != c) (bnat s / bnat t) - 1) := by
      have : IV.z (false, v1) = 1 := by rw [hv1]; show valI false (bnat (nb 1)) = 1; rw [bnat_nb]; rfl
      rw [hq2, hb2, hqz, this]; rfl
     have e3 : Value.agg ⟨[.bool b3, .string q3]⟩ = encI (valI b (bnat s % bnat t) + valI c (bnat t)) := by
      rw [hq3, hb3, hrz]; rfl
     conv => whnf
     refine .inr (.inl ⟨(.br 0 (.br 1 (.br 2 (.br 3 (.br 4 .leaf .leaf) .leaf) .leaf) (.br 2 (.br 1 (.br 3 (.br 4 .leaf .leaf) .leaf) .leaf) .leaf)) (.br 1 (.br 0 (.br 2 (.br 3 (.br 4 .leaf .leaf) .leaf) .leaf) .leaf) .leaf)), by kernel_rfl, ?_⟩)
     repeat' ((conv => whnf); first | exact True.intro | refine And.intro ?_ ?_)
     all_goals conv => whnf
     all_goals exact fin _ _ (e2.trans (congrArg encI f1.1.symm)) (e3.trans (congrArg encI f1.2.symm))
    ·conv => whnf
     refine .inr (.inl ⟨(.br 0 (.br 1 (.br 2 (.br 3 (.br 4 .leaf .leaf) .leaf) .leaf) (.br 2 (.br 1 (.br 3 (.br 4 .leaf .leaf) .leaf) .leaf) .leaf)) (.br 1 (.br 0 (.br 2 (.br 3 (.br 4 .leaf .leaf) .leaf) .leaf) .leaf) .leaf)), by kernel_rfl, ?_⟩)
     have h4 : b = c := by
      cases b <;> cases c <;> first | rfl | cases h4
     have f1 := div_floor (b := b) (c := c) (A := bnat s) hDp (.inr h4)
     repeat' ((conv => whnf); first | exact True.intro | refine And.intro ?_ ?_)
     all_goals conv => whnf
     all_goals exact fin _ _ (eQ.trans (congrArg encI f1.1.symm)) (eR.trans (congrArg encI f1.2.symm))
end Go.Proofs.YtppeponndkfbkaaGreat
/- Contracts of the reference integers: canonical digits, small numbers, comparison. -/
set_option maxRecDepth 20000
set_option maxHeartbeats 1000000
namespace Go.Proofs.YtppeponndkfbkaaGreat
open Go Go.Ae
theorem rtrim_ok : Snd Tryz.prog 160 stripS := by
 refine snd_of E0ok Dok Tryz.func160 (enters_of Tryz.func160 (by kernel_rfl) rfl) (fun _ => rfl) (fun _ => rfl) ?_
 intro (s : ByteArray) (hs : s.size ≤ 1099511627776)
 simp only [stripS]
 conv => whnf
 refine .inl ⟨fun mm tz hz => ∃ (u : ByteArray), Pat [some (.string u), none, none, none, none, none, none, none, none, none, none, none, none, none] tz ∧ hz = [] ∧ u.size = mm ∧ (bnat u = bnat s ∧ u.size ≤ s.size), .inl ⟨_, s, (.keep (.s8 (.skip (.skip (.skip (.skip (.skip (.nil)))))))), rfl, rfl, ?_⟩, ?_⟩
 ·exact ⟨rfl, Nat.le_refl _⟩
 rintro mm tms _ ⟨u, hpat, rfl, rfl, ⟨hu, hle⟩⟩
 obtain ⟨az, rfl⟩ : ∃ az : Nat → Value, tms = [.string u, az 1, az 2, az 3, az 4, az 5, az 6, az 7, az 8, az 9, az 10, az 11, az 12, az 13] := pat_fill hpat
 clear hpat
 conv => whnf
 rcases Nat.eq_zero_or_pos u.size with h1 | h1
 ·rw [show decide (((u.size : Nat) : Int) > 0) = false from decide_eq_false (by omega)]
  conv => whnf
  rw [← hu, ← eq_nb' (.inl h1)]
 ·rw [show decide (((u.size : Nat) : Int) > 0) = true from decide_eq_true (by omega)]
  conv => whnf
  refine ⟨⟨by omega, by omega⟩, ?_⟩
  conv => whnf
  refine br_intro (fun h2 => ?_) (fun h2 => ?_)
  ·have h2 : byteAt u 0 = 0 := by
    have h2 : ((byteAt u 0 : Nat) : Int) = 0 := by simpa using h2
    omega
   obtain ⟨d1, d2⟩ := drop_zero (by omega) h2
   conv => whnf
   refine ⟨⟨by decide, by show (1 : Int) ≤ ((u.size : Nat) : Int); omega, Int.le_refl _⟩, ?_⟩
   conv => whnf
   refine .inl ⟨_, ?_, u.extract 1 u.size, (.keep (.s8 (.skip (.skip (.skip (.skip (.skip (.nil)))))))), rfl, rfl, ?_⟩
   ·rw [d2]; omega
   ·exact ⟨by rw [d1, hu], by rw [d2]; omega⟩
  ·have h2 : byteAt u 0 ≠ 0 := by
    intro h
    have e : byteAt u (Int.toNat 0) = byteAt u 0 := rfl
    rw [e, h] at h2
    simp at h2
   conv => whnf
   rw [← hu, ← eq_nb' (.inr h2)]
def Era : Env := { tt := tt, eqs := [], Φ := fun g => match g with
 | 160 => some (.p stripS)
 | _ => none }
theorem Eraok : EnvOk Tryz.prog Era := ⟨tt_ok, fun t h => by simp [Era] at h, (fun g S h => by
 simp only [Era] at h
 split at h
 ·cases h; exact rtrim_ok
 ·cases h), fun g F h => by simp [Era] at h⟩
theorem rcanon_ok : Snd Tryz.prog 149 canonS := by
 refine snd_of Eraok Dok Tryz.func149 (enters_of Tryz.func149 (by kernel_rfl) rfl) (fun _ => rfl) (fun _ => rfl) ?_
 intro ⟨b, s⟩ hp
 have hp : s.size ≤ 549755813888 := hp
 obtain ⟨m, hm⟩ : ∃ m, m = nb (bnat s) := ⟨_, rfl⟩
 have ecan : stripS.val s = .string m := by rw [hm]; rfl
 have fin : Value.agg ⟨[.bool (b && bnat s != 0), .string m]⟩ = encI (IV.z (b, s)) := by rw [hm]; exact encS_eq b (bnat s)
 conv => whnf
 rcases Nat.eq_zero_or_pos s.size with h1 | h1
 ·rw [show decide ((((b, s).snd.size : Nat) : Int) > 0) = false from decide_eq_false (by show ¬ (((s.size : Nat) : Int) > 0); omega)]
  conv => whnf
  refine ⟨s, rfl, by show s.size ≤ 1099511627776; omega, ?_⟩
  rw [ecan]
  cases b with
  | false =>
   conv => whnf
   exact fin
  | true =>
   conv => whnf
   refine Eq.trans ?_ fin
   rw [hm]
   show Value.agg ⟨[.bool (!(nb (bnat s)).toList == (⟨#[]⟩ : ByteArray).toList), .string (nb (bnat s))]⟩ = _
   rw [mag_bool, Bool.true_and]
 ·rw [show decide ((((b, s).snd.size : Nat) : Int) > 0) = true from decide_eq_true (by show (((s.size : Nat) : Int) > 0); omega)]
  conv => whnf
  refine ⟨⟨by decide, by show (0 : Int) < ((s.size : Nat) : Int); omega⟩, ?_⟩
  conv => whnf
  refine br_intro (fun h2 => ?_) (fun h2 => ?_)
  ·have h2 : byteAt s 0 ≠ 0 := by
    intro h
    have e : byteAt (b, s).snd (Int.toNat 0) = byteAt s 0 := rfl
    rw [e, h] at h2
    simp at h2
   conv => whnf
   exact enc_canon h1 h2
  ·conv => whnf
   refine ⟨s, rfl, by show s.size ≤ 1099511627776; omega, ?_⟩
   rw [ecan]
   cases b with
   | false =>
    conv => whnf
    exact fin
   | true =>
    conv => whnf
    refine Eq.trans ?_ fin
    rw [hm]
    show Value.agg ⟨[.bool (!(nb (bnat s)).toList == (⟨#[]⟩ : ByteArray).toList), .string (nb (bnat s))]⟩ = _
    rw [mag_bool, Bool.true_and]
theorem rsmall_ok : Snd Tryz.prog 162 smallS := by
 refine snd_of Eraok Dok Tryz.func162 (enters_of Tryz.func162 (by kernel_rfl) rfl) (fun _ => rfl) (fun _ => rfl) ?_
 intro (s : ByteArray) (hp : s.size ≤ 7)
 conv => whnf
 refine .inl ⟨fun mm tz hz => ∃ (i : Nat) (N : Nat), Pat [some (.string s), none, none, some (.int .i64 N), some (.int .i64 i), none, none, none, none, none, none, none, none, none, none, none, none, none, none] tz ∧ hz = [] ∧ s.size - i = mm ∧ (i ≤ s.size ∧ N = bnat s / C ^ (s.size - i)), .inl ⟨_, 0, 0, (.keep (.skip (.skip (.keep (.keep (.s8 (.skip (.skip (.skip (.skip (.skip (.skip (.nil))))))))))))), rfl, rfl, ?_⟩, ?_⟩
 ·exact ⟨Nat.zero_le _, by rw [Nat.sub_zero, Nat.div_eq_of_lt (bnat_lt s)]⟩
 rintro mm tms _ ⟨i, N, hpat, rfl, rfl, ⟨hi, hN⟩⟩
 obtain ⟨az, rfl⟩ : ∃ az : Nat → Value, tms = [.string s, az 1, az 2, .int .i64 N, .int .i64 i, az 5, az 6, az 7, az 8, az 9, az 10, az 11, az 12, az 13, az 14, az 15, az 16, az 17, az 18] := pat_fill hpat
 clear hpat
 have hlC := pre_lt s hi
 rw [← hN] at hlC
 have hlt := Nat.lt_of_lt_of_le hlC (pow7 (show i ≤ 7 by omega))
 conv => whnf
 refine br_intro (fun h2 => ?_) (fun h2 => ?_)
 ·have h2 : i < s.size := by simpa using h2
  have hst := pre_step h2
  rw [← hN] at hst
  have hb : byteAt s i < 256 := byteAt_lt s i
  have e3 : IntKind.i64.wrap (((i : Nat) : Int) + 1) = ((i + 1 : Nat) : Int) := by rw [wrapi64 (by omega) (by omega)]; rfl
  have hl6 := Nat.lt_of_lt_of_le hlC (pow6 (show i ≤ 6 by omega))
  conv => whnf
  refine ⟨⟨by omega, by omega⟩, ?_⟩
  simp only [toNat_cast]
  conv => whnf
  rw [byte_raw (by omega) hb, e3]
  refine .inl ⟨_, ?_, i + 1, N * 256 + byteAt s i, (.keep (.skip (.skip (.keep (.keep (.s8 (.skip (.skip (.skip (.skip (.skip (.skip (.nil))))))))))))), rfl, rfl, ?_⟩
  ·omega
  ·exact ⟨by omega, hst.symm⟩
 ·have h2 : i = s.size := by
   have h2 : ¬ i < s.size := by simpa using h2
   omega
  subst h2
  rw [Nat.sub_self, Nat.pow_zero, Nat.div_one] at hN
  subst hN
  conv => whnf
  rfl
def Erb : Env := { tt := tt, eqs := [], Φ := fun g => match g with
 | 162 => some (.p smallS)
 | _ => none }
theorem Erbok : EnvOk Tryz.prog Erb := ⟨tt_ok, fun t h => by simp [Erb] at h, (fun g S h => by
 simp only [Erb] at h
 split at h
 ·cases h; exact rsmall_ok
 ·cases h), fun g F h => by simp [Erb] at h⟩
theorem rvalue_ok : Snd Tryz.prog 151 valueS := by
 refine snd_of Erbok Dok Tryz.func151 (enters_of Tryz.func151 (by kernel_rfl) rfl) (fun _ => rfl) (fun _ => rfl) ?_
 intro ⟨b, s⟩ hp
 have hp : s.size ≤ 7 := hp
 have hlt := Nat.lt_of_lt_of_le (bnat_lt s) (pow7 hp)
 cases b with
 | true =>
  conv => whnf
  refine ⟨s, rfl, hp, ?_⟩
  conv => whnf
  rw [wrapi64 (by omega) (by omega)]
  show Value.int .i64 (0 - (bnat s : Int)) = .int .i64 (-(bnat s : Int))
  rw [Int.zero_sub]
 | false =>
  conv => whnf
  refine ⟨s, rfl, hp, ?_⟩
  conv => whnf
  rfl
theorem rmag_ok : Snd Tryz.prog 136 magS := by
 refine snd_of E0ok Dok Tryz.func136 (enters_of Tryz.func136 (by kernel_rfl) rfl) (fun _ => rfl) (fun _ => rfl) ?_
 intro (n : Nat) (hp : n < 9223372036854775808)
 conv => whnf
 refine br_intro (fun h1 => ?_) (fun h1 => ?_)
 ·have h1 : n < 256 := by
   have := of_decide_eq_true h1
   omega
  conv => whnf
  refine br_intro (fun h2 => ?_) (fun h2 => ?_)
  ·have h2 : n = 0 := by
    have h2 : ((n : Nat) : Int) = 0 := by simpa using h2
    omega
   subst h2
   conv => whnf
   show Value.string ⟨#[]⟩ = .string (nb 0)
   rw [nb_zero]
  ·have h2 : n ≠ 0 := by
    intro e
    subst e
    simp at h2
   conv => whnf
   rw [u8_mod]
   refine ⟨⟨Nat.le_refl _, fun r hr => by
    have h0 : r = 0 := by
     have hr : r < 1 := hr
     omega
    subst h0
    exact ⟨_, rfl⟩⟩, ?_⟩
   have e := bytesOf_from (g := fun r => [[Value.int .u8 ((n % C : Nat) : Int)]].getD r []) (i := 0) (m := 1) (X := n) (fun r hr => by
    have : r = 0 := by omega
    subst this
    show [Value.int .u8 ((n % C : Nat) : Int)] = [Value.int .u8 ((n / C ^ 0 % C : Nat) : Int)]
    rw [Nat.pow_zero, Nat.div_one])
   conv => whnf
   show _ = Value.string (nb n)
   rw [nb_be (N := n) (n := 1) h1 (.inr (by show 1 ≤ n; omega)), ← e]
   rfl
 ·have h1 : 256 ≤ n := by
   have := of_decide_eq_false h1
   omega
  conv => whnf
  refine .inl ⟨fun mm tz hz => ∃ (i : Nat) (m : Nat) (g : Nat → List Value), Pat [some (.int .i64 m), none, none, some (.pointer (some ⟨0, 0, none⟩)), some (.int .i64 i), none, none, none, none, none, none, none, none, none, none, none, none, none, none, none, none, none, none, none, none, none] tz ∧ hz = [some (.flat true 8 1 g)] ∧ m = mm ∧ ((i ≤ 8 ∧ m = n / C ^ (8 - i)) ∧ (i = 8 ∨ C ^ (8 - i - 1) ≤ n) ∧ (∀ r, i ≤ r → r < 8 → g r = [.int .u8 ((n / C ^ (7 - r) % C : Nat) : Int)]) ∧ (∀ r, r < 8 → ∃ x : Int, g r = [.int .u8 x])), .inl ⟨_, 8, n, _, (.keep (.skip (.skip (.keep (.keep (.s8 (.s8 (.skip (.skip (.skip (.skip (.skip (.nil))))))))))))), rfl, rfl, ?_⟩, ?_⟩
  ·exact ⟨⟨Nat.le_refl _, by simp⟩, .inl rfl, fun r h1 h2 => absurd h1 (by omega), fun r hr => ⟨0, rfl⟩⟩
  rintro mm tms _ ⟨i, m, g, hpat, rfl, rfl, ⟨⟨hi, hm⟩, ho, hg, hall⟩⟩
  obtain ⟨az, rfl⟩ : ∃ az : Nat → Value, tms = [.int .i64 m, az 1, az 2, .pointer (some ⟨0, 0, none⟩), .int .i64 i, az 5, az 6, az 7, az 8, az 9, az 10, az 11, az 12, az 13, az 14, az 15, az 16, az 17, az 18, az 19, az 20, az 21, az 22, az 23, az 24, az 25] := pat_fill hpat
  clear hpat
  conv => whnf
  refine br_intro (fun h2 => ?_) (fun h2 => ?_)
  ·have h2 : 0 < m := by
    have := of_decide_eq_true h2
    omega
   have hi0 : 0 < i := by
    rcases Nat.eq_zero_or_pos i with h | h
    ·subst h
     rw [hm] at h2
     rw [mag8 hp] at h2
     exact absurd h2 (by decide)
    ·exact h
   obtain ⟨i, rfl⟩ : ∃ i', i = i' + 1 := ⟨i - 1, by omega⟩
   have ei : IntKind.i64.wrap (((i + 1 : Nat) : Int) - 1) = ((i : Nat) : Int) := by rw [wrapi64 (by omega) (by omega)]; omega
   have hm2 : m / 256 = n / C ^ (8 - i) := by
    rw [hm, div_pow_succ, show 8 - (i + 1) + 1 = 8 - i by omega]
   have hlow : C ^ (8 - (i + 1)) ≤ n := by
    rcases Nat.lt_or_ge n (C ^ (8 - (i + 1))) with h | h
    ·rw [hm, Nat.div_eq_of_lt h] at h2
     exact absurd h2 (by decide)
    ·exact h
   conv => whnf
   simp only [ei]
   refine ⟨⟨by omega, by omega⟩, ?_⟩
   simp only [toNat_cast, rowAdd_eq, Nat.zero_add]
   conv => whnf
   refine ⟨by show i < 8; omega, ?_⟩
   conv => whnf
   obtain ⟨x, hx⟩ := hall i (by omega)
   rw [hx]
   conv => whnf
   rw [u8_mod, shr_i64_8, show ((m : Nat) : Int) / 256 = ((m / 256 : Nat) : Int) from rfl]
   refine .inl ⟨_, ?_, i, m / 256, _, (.keep (.skip (.skip (.keep (.keep (.s8 (.s8 (.skip (.skip (.skip (.skip (.skip (.nil))))))))))))), rfl, rfl, ?_⟩
   ·omega
   ·refine ⟨⟨by omega, hm2⟩, .inr (by rw [show 8 - i - 1 = 8 - (i + 1) by omega]; exact hlow), fun r hr1 hr2 => ?_, fun r hr => ?_⟩
    rotate_left
    ·by_cases he : r = i
     ·exact ⟨_, if_pos he⟩
     ·rw [if_neg he]; exact hall r hr
    by_cases he : r = i
    ·subst he
     rw [if_pos rfl, hm, show 7 - r = 8 - (r + 1) by omega]
    ·rw [if_neg he]
     exact hg r (by omega) hr2
  ·have h2 : m = 0 := by
    have := of_decide_eq_false h2
    omega
   have hlt : n < C ^ (8 - i) := by
    rw [h2] at hm
    have h3 := Nat.mod_lt n (Cpos (8 - i))
    have h4 := Nat.mod_add_div n (C ^ (8 - i))
    rw [← hm, Nat.mul_zero, Nat.add_zero] at h4
    rw [← h4]; exact h3
   obtain ⟨k, hk⟩ : ∃ k, 8 - i = k + 1 := ⟨8 - i - 1, by
    rcases Nat.eq_zero_or_pos (8 - i) with h | h
    ·rw [h, Nat.pow_zero] at hlt; omega
    ·omega⟩
   rw [hk] at hlt
   have ho : C ^ k ≤ n := by
    rcases ho with h | h
    ·omega
    ·rw [show 8 - i - 1 = k by omega] at h; exact h
   have e := bytesOf_from (g := g) (i := i) (m := k + 1) (X := n) (fun r hr => by
    rw [hg (i + r) (by omega) (by omega), show 7 - (i + r) = k + 1 - 1 - r by omega])
   conv => whnf
   refine ⟨⟨by omega, by omega, Int.le_refl _, Nat.le_refl _, rfl⟩, ?_⟩
   simp only [toNat_cast, rowAdd_eq, Nat.zero_add, hk]
   conv => whnf
   refine ⟨⟨by show i + (k + 1) ≤ 8; omega, fun r hr => hall (i + r) (by omega)⟩, ?_⟩
   conv => whnf
   show Value.string ⟨⟨bytesOf g i (k + 1)⟩⟩ = Value.string (nb n)
   rw [e, nb_be hlt (.inr ho)]
theorem rcmpMag_ok : Snd Tryz.prog 150 cmpMagS := by
 refine snd_of E0ok Dok Tryz.func150 (enters_of Tryz.func150 (by kernel_rfl) rfl) (fun _ => rfl) (fun _ => rfl) ?_
 intro ⟨A, D⟩ hp
 have hp : nby A ≤ 1099511627776 ∧ nby D ≤ 1099511627776 := hp
 simp only [cmpMagS]
 obtain ⟨a, ha⟩ : ∃ a, a = nb A := ⟨_, rfl⟩
 obtain ⟨d, hd⟩ : ∃ d, d = nb D := ⟨_, rfl⟩
 rw [← ha, ← hd]
 have l1 : a.size = d.size → Op.bytesLess a.toList d.toList = decide (A < D) := fun h => by rw [ha, hd] at h ⊢; exact cmpN_less h
 have l2 : (a.toList == d.toList) = decide (A = D) := by rw [ha, hd]; exact cmpN_same
 have l3 : a.size < d.size → A < D := fun h => by rw [ha, hd] at h; exact cmpN_size h
 have l4 : d.size < a.size → D < A := fun h => by rw [ha, hd] at h; exact cmpN_size h
 conv => whnf
 refine br_intro (fun h1 => ?_) (fun h1 => ?_)
 ·have h1 : a.size ≠ d.size := by
   intro e
   rw [e] at h1
   simp at h1
  conv => whnf
  refine br_intro (fun h2 => ?_) (fun h2 => ?_)
  ·have h2 := l3 (by have := of_decide_eq_true h2; omega)
   conv => whnf
   rw [cmpN, if_pos h2]
  ·have h2 := l4 (by have := of_decide_eq_false h2; omega)
   conv => whnf
   rw [cmpN, if_neg (by omega), if_pos h2]
 ·have h1 : a.size = d.size := by
   have h1 : ((a.size : Nat) : Int) = ((d.size : Nat) : Int) := by simpa using h1
   omega
  conv => whnf
  rw [l1 h1]
  refine br_intro (fun h2 => ?_) (fun h2 => ?_)
  ·have h2 := of_decide_eq_true h2
   conv => whnf
   rw [cmpN, if_pos h2]
  ·have h2 := of_decide_eq_false h2
   conv => whnf
   rw [l1 h1, l2]
   refine br_intro (fun h3 => ?_) (fun h3 => ?_)
   ·have h3 : D < A := by
     simp [h2] at h3
     omega
    conv => whnf
    rw [cmpN, if_neg h2, if_pos h3]
   ·have h3 : A = D := by
     simpa [h2] using h3
    conv => whnf
    subst h3
    rw [cmpN, if_neg h2, if_neg h2]
end Go.Proofs.YtppeponndkfbkaaGreat
/- Contracts of the reference integers: machine integers, signs, comparison. -/
set_option maxRecDepth 20000
set_option maxHeartbeats 1000000
namespace Go.Proofs.YtppeponndkfbkaaGreat
open Go Go.Ae
def Erc : Env := { tt := tt, eqs := [], Φ := fun g => match g with
 | 160 => some (.p stripS)
 | 136 => some (.p magS)
 | 149 => some (.p canonS)
 | 150 => some (.p cmpMagS)
 | _ => none }
theorem Ercok : EnvOk Tryz.prog Erc := ⟨tt_ok, fun t h => by simp [Erc] at h, (fun g S h => by
 simp only [Erc] at h
 split at h
 ·cases h; exact rtrim_ok
 ·cases h; exact rmag_ok
 ·cases h; exact rcanon_ok
 ·cases h; exact rcmpMag_ok
 ·cases h), fun g F h => by simp [Erc] at h⟩
theorem rof_ok : Snd Tryz.prog 93 ofS := by
 refine snd_of Ercok Dok Tryz.func93 (enters_of Tryz.func93 (by kernel_rfl) rfl) (fun _ => rfl) (fun _ => rfl) ?_
 intro (n : Int) hp
 have hp : -9223372036854775808 ≤ n ∧ n < 9223372036854775808 := hp
 obtain ⟨k, hk⟩ : ∃ k : Nat, k = n.natAbs := ⟨_, rfl⟩
 obtain ⟨v, hv⟩ : ∃ v, v = nb k := ⟨_, rfl⟩
 have ev : magS.val k = .string v := by rw [hv]; rfl
 conv => whnf
 refine br_intro (fun h1 => ?_) (fun h1 => ?_)
 ·have h1 : n = (k : Int) := by have := of_decide_eq_true h1; omega
  conv => whnf
  refine ⟨k, by rw [h1]; rfl, by show k < 9223372036854775808; omega, ?_⟩
  rw [ev]
  conv => whnf
  show Value.agg ⟨[.bool false, .string v]⟩ = encI n
  rw [hv, h1]
  have := encS_eq false k
  exact this
 ·have h1 : n < 0 := by have := of_decide_eq_false h1; omega
  conv => whnf
  refine br_intro (fun h2 => ?_) (fun h2 => ?_)
  ·have h2 : n = -9223372036854775808 := by
    have h2 : n = IntKind.i64.wrap (0 - n) := by simpa using h2
    rw [wrap_neg h1 hp.1] at h2
    split at h2 <;> omega
   subst h2
   conv => whnf
   exact encI_min.symm
  ·have h2 : IntKind.i64.wrap (0 - n) = (k : Int) := by
    have h3 := wrap_neg h1 hp.1
    split at h3
    ·rename_i e
     rw [h3] at h2
     simp at h2
    ·omega
   conv => whnf
   rw [h2]
   refine ⟨k, rfl, by
    show k < 9223372036854775808
    have h3 := wrap_neg h1 hp.1
    split at h3 <;> omega, ?_⟩
   rw [ev]
   conv => whnf
   show Value.agg ⟨[.bool true, .string v]⟩ = encI n
   rw [hv, hk, encI_of_neg h1]
theorem rneg_ok : Snd Tryz.prog 133 negS := by
 refine snd_of Ercok Dok Tryz.func133 (enters_of Tryz.func133 (by kernel_rfl) rfl) (fun _ => rfl) (fun _ => rfl) ?_
 intro ⟨b, s⟩ hp
 have hp : s.size ≤ 549755813888 := hp
 conv => whnf
 refine ⟨(b, s), rfl, hp, ?_⟩
 obtain ⟨z, hz⟩ : ∃ z, z = IV.z (b, s) := ⟨_, rfl⟩
 obtain ⟨m, hm⟩ : ∃ m, m = nb z.natAbs := ⟨_, rfl⟩
 have fin : ∀ x : Value, x = encI (-z) → x = negS.val (b, s) := fun x h => by rw [h, hz]; rfl
 rcases Int.lt_or_le z 0 with h | h
 ·rw [show canonS.val (b, s) = .agg ⟨[.bool true, .string m]⟩ by show encI (IV.z (b, s)) = _; rw [← hz, encI_of_neg h, hm]]
  conv => whnf
  refine fin _ ?_
  rw [encI_of_pos (by omega), Int.natAbs_neg, hm]
  rfl
 ·rw [show canonS.val (b, s) = .agg ⟨[.bool false, .string m]⟩ by show encI (IV.z (b, s)) = _; rw [← hz, encI_of_pos h, hm]]
  conv => whnf
  refine fin _ ?_
  rcases Int.lt_or_eq_of_le h with h | h
  ·rw [encI_of_neg (by omega), Int.natAbs_neg, ← hm]
   show Value.agg ⟨[.bool (!m.toList == (⟨#[]⟩ : ByteArray).toList), .string m]⟩ = _
   rw [hm, mag_pos (by omega)]
  ·rw [encI_of_pos (by omega), Int.natAbs_neg, ← hm]
   show Value.agg ⟨[.bool (!m.toList == (⟨#[]⟩ : ByteArray).toList), .string m]⟩ = _
   rw [hm, mag_zero (by omega)]
theorem rcmp_ok : Snd Tryz.prog 121 cmpS := by
 refine snd_of Ercok Dok Tryz.func121 (enters_of Tryz.func121 (by kernel_rfl) rfl) (fun _ => rfl) (fun _ => rfl) ?_
 intro ⟨⟨b, s⟩, ⟨c, t⟩⟩ hp
 have hp : s.size ≤ 549755813888 ∧ t.size ≤ 549755813888 := hp
 obtain ⟨x, hx⟩ : ∃ x, x = IV.z (b, s) := ⟨_, rfl⟩
 obtain ⟨y, hy⟩ : ∃ y, y = IV.z (c, t) := ⟨_, rfl⟩
 obtain ⟨m, hm⟩ : ∃ m, m = nb x.natAbs := ⟨_, rfl⟩
 obtain ⟨k, hk⟩ : ∃ k, k = nb y.natAbs := ⟨_, rfl⟩
 have hxn : nby x.natAbs ≤ 549755813888 := by rw [hx]; exact IV.nby (i := (b, s)) hp.1
 have hyn : nby y.natAbs ≤ 549755813888 := by rw [hy]; exact IV.nby (i := (c, t)) hp.2
 have fin : ∀ z : Int, z = cmpZ x y → Value.int .i64 z = cmpS.val ((b, s), (c, t)) := fun z h => by rw [h, hx, hy]; rfl
 rcases Int.lt_or_le x 0 with h1 | h1
 ·have e1 : canonS.val (b, s) = .agg ⟨[.bool true, .string m]⟩ := by show encI (IV.z (b, s)) = _; rw [← hx, encI_of_neg h1, hm]
  rcases Int.lt_or_le y 0 with h2 | h2
  ·have e2 : canonS.val (c, t) = .agg ⟨[.bool true, .string k]⟩ := by show encI (IV.z (c, t)) = _; rw [← hy, encI_of_neg h2, hk]
   conv => whnf
   refine .inl ⟨3, [[], [0], [], [0, 1, 2], [0, 1, 2, 3], [0, 1, 2, 3, 4]], by kernel_rfl, ?_⟩
   conv => whnf
   refine ⟨(b, s), rfl, hp.1, ?_⟩
   rw [e1]
   conv => whnf
   refine ⟨(c, t), rfl, hp.2, ?_⟩
   rw [e2]
   conv => whnf
   first
    | exact fin _ (cmpZ_gt (by omega)).symm
    | (refine ⟨(y.natAbs, x.natAbs), by rw [hm, hk]; rfl, ⟨by show nby y.natAbs ≤ _; omega, by show nby x.natAbs ≤ _; omega⟩, ?_⟩
       conv => whnf
       exact fin _ (cmpZ_mm h1 h2).symm)
  ·have e2 : canonS.val (c, t) = .agg ⟨[.bool false, .string k]⟩ := by show encI (IV.z (c, t)) = _; rw [← hy, encI_of_pos h2, hk]
   conv => whnf
   refine .inl ⟨3, [[], [0], [], [0, 1, 2], [0, 1, 2, 3], [0, 1, 2, 3, 4]], by kernel_rfl, ?_⟩
   conv => whnf
   refine ⟨(b, s), rfl, hp.1, ?_⟩
   rw [e1]
   conv => whnf
   refine ⟨(c, t), rfl, hp.2, ?_⟩
   rw [e2]
   conv => whnf
   first
    | exact fin _ (cmpZ_lt (by omega)).symm
    | (refine ⟨(x.natAbs, y.natAbs), by rw [hm, hk]; rfl, ⟨by show nby x.natAbs ≤ _; omega, by show nby y.natAbs ≤ _; omega⟩, ?_⟩
       conv => whnf
       exact fin _ (cmpZ_nn h1 h2).symm)
 ·have e1 : canonS.val (b, s) = .agg ⟨[.bool false, .string m]⟩ := by show encI (IV.z (b, s)) = _; rw [← hx, encI_of_pos h1, hm]
  rcases Int.lt_or_le y 0 with h2 | h2
  ·have e2 : canonS.val (c, t) = .agg ⟨[.bool true, .string k]⟩ := by show encI (IV.z (c, t)) = _; rw [← hy, encI_of_neg h2, hk]
   conv => whnf
   refine .inl ⟨3, [[], [0], [], [0, 1, 2], [0, 1, 2, 3], [0, 1, 2, 3, 4]], by kernel_rfl, ?_⟩
   conv => whnf
   refine ⟨(b, s), rfl, hp.1, ?_⟩
   rw [e1]
   conv => whnf
   refine ⟨(c, t), rfl, hp.2, ?_⟩
   rw [e2]
   conv => whnf
   first
    | exact fin _ (cmpZ_gt (by omega)).symm
    | (refine ⟨(y.natAbs, x.natAbs), by rw [hm, hk]; rfl, ⟨by show nby y.natAbs ≤ _; omega, by show nby x.natAbs ≤ _; omega⟩, ?_⟩
       conv => whnf
       exact fin _ (cmpZ_mm h1 h2).symm)
  ·have e2 : canonS.val (c, t) = .agg ⟨[.bool false, .string k]⟩ := by show encI (IV.z (c, t)) = _; rw [← hy, encI_of_pos h2, hk]
   conv => whnf
   refine .inl ⟨3, [[], [0], [], [0, 1, 2], [0, 1, 2, 3], [0, 1, 2, 3, 4]], by kernel_rfl, ?_⟩
   conv => whnf
   refine ⟨(b, s), rfl, hp.1, ?_⟩
   rw [e1]
   conv => whnf
   refine ⟨(c, t), rfl, hp.2, ?_⟩
   rw [e2]
   conv => whnf
   first
    | exact fin _ (cmpZ_lt (by omega)).symm
    | (refine ⟨(x.natAbs, y.natAbs), by rw [hm, hk]; rfl, ⟨by show nby x.natAbs ≤ _; omega, by show nby y.natAbs ≤ _; omega⟩, ?_⟩
       conv => whnf
       exact fin _ (cmpZ_nn h1 h2).symm)
end Go.Proofs.YtppeponndkfbkaaGreat
/- Contracts of the reference integers: digit arithmetic. -/
set_option maxRecDepth 20000
set_option maxHeartbeats 1000000
namespace Go.Proofs.YtppeponndkfbkaaGreat
open Go Go.Ae
theorem raddMag_ok : Snd Tryz.prog 153 addMagS := by
 refine snd_of Eraok Dok Tryz.func153 (enters_of Tryz.func153 (by kernel_rfl) rfl) (fun _ => rfl) (fun _ => rfl) ?_
 intro ⟨s, t⟩ hp
 have hp : s.size ≤ 549755813896 ∧ t.size ≤ 549755813896 := hp
 obtain ⟨m, hm⟩ : ∃ m : Nat, m = max s.size t.size := ⟨_, rfl⟩
 obtain ⟨n, hn⟩ : ∃ n : Nat, n = m + 1 := ⟨_, rfl⟩
 have em : (if ((t.size : Nat) : Int) > ((s.size : Nat) : Int) then ((t.size : Nat) : Int) else ((s.size : Nat) : Int)) = (m : Int) := by split <;> omega
 have e1 : IntKind.i64.wrap (((m : Nat) : Int) + 1) = ((n : Nat) : Int) := by rw [wrapi64 (by omega) (by omega)]; omega
 conv => whnf
 rw [show (if (((s, t).snd.size : Nat) : Int) > (((s, t).fst.size : Nat) : Int) then (((s, t).snd.size : Nat) : Int) else (((s, t).fst.size : Nat) : Int)) = (m : Int) from em, e1]
 refine ⟨⟨by omega, Int.le_refl _, by show ((n : Nat) : Int) * ((1 : Nat) : Int) ≤ _; omega⟩, ?_⟩
 simp only [toNat_cast]
 conv => whnf
 refine .inl ⟨fun mm tz hz => ∃ (j : Nat) (Y : Nat) (c : Nat) (g : Nat → List Value), Pat [some (.string s), some (.string t), none, none, none, some (.int .i64 (n : Nat)), some (.slice (some ⟨0, 0, none⟩) n n), some (.int .i64 c), some (.int .i64 ((j + 1 : Nat) : Int)), none, none, none, none, none, none, none, none, none, none, none, none, none, none, none, none, none, none, none, none, none, none, none, none, none, none, none, none, none, none, none, none, none, none, none, none, none, none, none, none, none, none, none, none, none, none, none, none, none, none, none] tz ∧ hz = [some (.flat true n 1 g)] ∧ n - j = mm ∧ ((j ≤ n ∧ c ≤ 1) ∧ AddInv (bnat s) (bnat t) j Y c ∧ LastRows g n j Y), .inl ⟨_, 0, 0, 0, _, (.keep (.keep (.skip (.skip (.skip (.keep (.keep (.keep (.keep (.s8 (.s8 (.s8 (.s8 (.s8 (.s8 (.skip (.skip (.skip (.nil))))))))))))))))))), rfl, rfl, ?_⟩, ?_⟩
 ·exact ⟨⟨Nat.zero_le _, by decide⟩, addInv_start _ _, lastRows_start _⟩
 rintro mm tms _ ⟨j, Y, c, g, hpat, rfl, rfl, ⟨⟨hj, hc⟩, hY, hg⟩⟩
 obtain ⟨az, rfl⟩ : ∃ az : Nat → Value, tms = [.string s, .string t, az 2, az 3, az 4, .int .i64 (n : Nat), .slice (some ⟨0, 0, none⟩) n n, .int .i64 c, .int .i64 ((j + 1 : Nat) : Int), az 9, az 10, az 11, az 12, az 13, az 14, az 15, az 16, az 17, az 18, az 19, az 20, az 21, az 22, az 23, az 24, az 25, az 26, az 27, az 28, az 29, az 30, az 31, az 32, az 33, az 34, az 35, az 36, az 37, az 38, az 39, az 40, az 41, az 42, az 43, az 44, az 45, az 46, az 47, az 48, az 49, az 50, az 51, az 52, az 53, az 54, az 55, az 56, az 57, az 58, az 59] := pat_fill hpat
 clear hpat
 conv => whnf
 refine br_intro (fun h1 => ?_) (fun h1 => ?_)
 ·have h1 : j < n := by
   have := of_decide_eq_true h1
   omega
  obtain ⟨u, hu⟩ : ∃ u, u = c + dig (bnat s) j := ⟨_, rfl⟩
  obtain ⟨t', ht⟩ : ∃ t', t' = u + dig (bnat t) j := ⟨_, rfl⟩
  obtain ⟨da, hda⟩ : ∃ da, da = dig (bnat s) j := ⟨_, rfl⟩
  obtain ⟨dd, hdd⟩ : ∃ dd, dd = dig (bnat t) j := ⟨_, rfl⟩
  have b1 : dig (bnat s) j < 256 := dig_lt _ _
  have b2 : dig (bnat t) j < 256 := dig_lt _ _
  obtain ⟨Y', hst, hrow⟩ := addInv_step (t := t') hY hg h1 (by rw [ht, hu])
  obtain ⟨q, hq⟩ : ∃ q, q = n - (j + 1) := ⟨_, rfl⟩
  rw [← hq] at hrow
  obtain ⟨x, hx⟩ := hg.1 q (by omega)
  rw [← hda] at hu b1
  rw [← hdd] at ht b2
  have ea : IntKind.i64.wrap ((c : Int) + IntKind.i64.wrap (da : Int)) = (u : Int) := by rw [wrapi64 (x := (da : Int)) (by omega) (by omega), wrapi64 (by omega) (by omega)]; omega
  have ed : IntKind.i64.wrap ((u : Int) + IntKind.i64.wrap (dd : Int)) = (t' : Int) := by rw [wrapi64 (x := (dd : Int)) (by omega) (by omega), wrapi64 (by omega) (by omega)]; omega
  have ej : IntKind.i64.wrap (((n : Nat) : Int) - ((j + 1 : Nat) : Int)) = ((q : Nat) : Int) := by rw [wrapi64 (by omega) (by omega)]; omega
  have e7 : IntKind.i64.wrap (((j + 1 : Nat) : Int) + 1) = ((j + 1 + 1 : Nat) : Int) := by rw [wrapi64 (by omega) (by omega)]; rfl
  have ediv : ((t' : Nat) : Int) / 256 = ((t' / C : Nat) : Int) := rfl
  have htt : t' ≤ 511 := by omega
  obtain ⟨tt, htt2⟩ : ∃ tt, tt = t := ⟨_, rfl⟩
  obtain ⟨t, rfl⟩ : ∃ t'', t'' = t' := ⟨_, rfl⟩
  subst htt2
  conv => whnf
  refine br_intro (fun h2 => ?_) (fun h2 => ?_)
  ·have h2 : j < s.size := by
    have h4 : ((j + 1 : Nat) : Int) ≤ ((s.size : Nat) : Int) := of_decide_eq_true h2
    omega
   have hb := byteAt_dig h2
   have ei : IntKind.i64.wrap (((s.size : Nat) : Int) - ((j + 1 : Nat) : Int)) = ((s.size - (j + 1) : Nat) : Int) := by rw [wrapi64 (by omega) (by omega)]; omega
   conv => whnf
   simp only [ei]
   refine ⟨⟨by omega, by omega⟩, ?_⟩
   simp only [toNat_cast]
   conv => whnf
   rw [hb, ← hda, ea]
   refine br_intro (fun h3 => ?_) (fun h3 => ?_)
   ·have h3 : j < tt.size := by
     have := of_decide_eq_true h3
     have h4 : ((j + 1 : Nat) : Int) ≤ ((tt.size : Nat) : Int) := this
     omega
    have hb := byteAt_dig h3
    have ei : IntKind.i64.wrap (((tt.size : Nat) : Int) - ((j + 1 : Nat) : Int)) = ((tt.size - (j + 1) : Nat) : Int) := by rw [wrapi64 (by omega) (by omega)]; omega
    conv => whnf
    simp only [ei]
    refine ⟨⟨by omega, by omega⟩, ?_⟩
    simp only [toNat_cast]
    conv => whnf
    rw [hb, ← hdd, ed]
    simp only [ej]
    refine ⟨⟨by omega, by omega⟩, ?_⟩
    simp only [toNat_cast, rowAdd_eq, Nat.zero_add]
    conv => whnf
    refine ⟨by show q < n; omega, ?_⟩
    conv => whnf
    rw [hx]
    conv => whnf
    simp only [u8_mod, shr_i64_8, ediv, e7]
    refine .inl ⟨_, ?_, j + 1, Y', t / C, _, (.keep (.keep (.skip (.skip (.skip (.keep (.keep (.keep (.keep (.s8 (.s8 (.s8 (.s8 (.s8 (.s8 (.skip (.skip (.skip (.nil))))))))))))))))))), rfl, rfl, ?_⟩
    ·omega
    ·exact ⟨⟨by omega, by show t / 256 ≤ 1; omega⟩, hst, hrow⟩
   ·have h3 : tt.size ≤ j := by
     have h4 : ¬ ((j + 1 : Nat) : Int) ≤ ((tt.size : Nat) : Int) := of_decide_eq_false h3
     omega
    have h0 := dig_over h3
    rw [hdd, h0, Nat.add_zero] at ht
    conv => whnf
    rw [← ht]
    simp only [ej]
    refine ⟨⟨by omega, by omega⟩, ?_⟩
    simp only [toNat_cast, rowAdd_eq, Nat.zero_add]
    conv => whnf
    refine ⟨by show q < n; omega, ?_⟩
    conv => whnf
    rw [hx]
    conv => whnf
    simp only [u8_mod, shr_i64_8, ediv, e7]
    refine .inl ⟨_, ?_, j + 1, Y', t / C, _, (.keep (.keep (.skip (.skip (.skip (.keep (.keep (.keep (.keep (.s8 (.s8 (.s8 (.s8 (.s8 (.s8 (.skip (.skip (.skip (.nil))))))))))))))))))), rfl, rfl, ?_⟩
    ·omega
    ·exact ⟨⟨by omega, by show t / 256 ≤ 1; omega⟩, hst, hrow⟩
  ·have h2 : s.size ≤ j := by
    have h4 : ¬ ((j + 1 : Nat) : Int) ≤ ((s.size : Nat) : Int) := of_decide_eq_false h2
    omega
   have h0 := dig_over h2
   rw [hda, h0, Nat.add_zero] at hu
   conv => whnf
   rw [← hu]
   refine br_intro (fun h3 => ?_) (fun h3 => ?_)
   ·have h3 : j < tt.size := by
     have := of_decide_eq_true h3
     have h4 : ((j + 1 : Nat) : Int) ≤ ((tt.size : Nat) : Int) := this
     omega
    have hb := byteAt_dig h3
    have ei : IntKind.i64.wrap (((tt.size : Nat) : Int) - ((j + 1 : Nat) : Int)) = ((tt.size - (j + 1) : Nat) : Int) := by rw [wrapi64 (by omega) (by omega)]; omega
    conv => whnf
    simp only [ei]
    refine ⟨⟨by omega, by omega⟩, ?_⟩
    simp only [toNat_cast]
    conv => whnf
    rw [hb, ← hdd, ed]
    simp only [ej]
    refine ⟨⟨by omega, by omega⟩, ?_⟩
    simp only [toNat_cast, rowAdd_eq, Nat.zero_add]
    conv => whnf
    refine ⟨by show q < n; omega, ?_⟩
    conv => whnf
    rw [hx]
    conv => whnf
    simp only [u8_mod, shr_i64_8, ediv, e7]
    refine .inl ⟨_, ?_, j + 1, Y', t / C, _, (.keep (.keep (.skip (.skip (.skip (.keep (.keep (.keep (.keep (.s8 (.s8 (.s8 (.s8 (.s8 (.s8 (.skip (.skip (.skip (.nil))))))))))))))))))), rfl, rfl, ?_⟩
    ·omega
    ·exact ⟨⟨by omega, by show t / 256 ≤ 1; omega⟩, hst, hrow⟩
   ·have h3 : tt.size ≤ j := by
     have h4 : ¬ ((j + 1 : Nat) : Int) ≤ ((tt.size : Nat) : Int) := of_decide_eq_false h3
     omega
    have h0 := dig_over h3
    rw [hdd, h0, Nat.add_zero] at ht
    conv => whnf
    rw [← ht]
    simp only [ej]
    refine ⟨⟨by omega, by omega⟩, ?_⟩
    simp only [toNat_cast, rowAdd_eq, Nat.zero_add]
    conv => whnf
    refine ⟨by show q < n; omega, ?_⟩
    conv => whnf
    rw [hx]
    conv => whnf
    simp only [u8_mod, shr_i64_8, ediv, e7]
    refine .inl ⟨_, ?_, j + 1, Y', t / C, _, (.keep (.keep (.skip (.skip (.skip (.keep (.keep (.keep (.keep (.s8 (.s8 (.s8 (.s8 (.s8 (.s8 (.skip (.skip (.skip (.nil))))))))))))))))))), rfl, rfl, ?_⟩
    ·omega
    ·exact ⟨⟨by omega, by show t / 256 ≤ 1; omega⟩, hst, hrow⟩
 ·have h1 : j = n := by
   have h4 : ¬ ((j + 1 : Nat) : Int) ≤ ((n : Nat) : Int) := of_decide_eq_false h1
   omega
  subst h1
  obtain ⟨v, hv, hvs, hvn⟩ := addInv_end hY hg ⟨by omega, by omega⟩
  subst hn
  conv => whnf
  refine ⟨⟨by show 0 + (m + 1) ≤ m + 1; omega, fun r hr => by show ∃ x, g (0 + r) = _; rw [Nat.zero_add]; exact hg.1 r hr⟩, ?_⟩
  rw [show (Blk.flat true (m + 1) 1 g).row = g from rfl, hv]
  conv => whnf
  refine ⟨v, rfl, by show v.size ≤ _; omega, ?_⟩
  conv => whnf
  show Value.string (nb (bnat v)) = _
  rw [hvn]
  rfl
end Go.Proofs.YtppeponndkfbkaaGreat
/- Contracts of the reference integers: difference of digits. -/
set_option maxRecDepth 20000
set_option maxHeartbeats 1000000
namespace Go.Proofs.YtppeponndkfbkaaGreat
open Go Go.Ae
theorem rsubMag_ok : Snd Tryz.prog 154 subMagS := by
 refine snd_of Eraok Dok Tryz.func154 (enters_of Tryz.func154 (by kernel_rfl) rfl) (fun _ => rfl) (fun _ => rfl) ?_
 intro ⟨s, t⟩ hp
 have hp : (s.size ≤ 549755813896 ∧ t.size ≤ 549755813896) ∧ bnat t ≤ bnat s := hp
 obtain ⟨n, hn⟩ : ∃ n : Nat, n = s.size := ⟨_, rfl⟩
 conv => whnf
 rw [show ((s, t).fst.size : Nat) = n from hn.symm]
 refine ⟨⟨by omega, Int.le_refl _, by show ((n : Nat) : Int) * ((1 : Nat) : Int) ≤ _; omega⟩, ?_⟩
 simp only [toNat_cast]
 conv => whnf
 refine .inl ⟨fun mm tz hz => ∃ (j : Nat) (Y : Nat) (c : Nat) (g : Nat → List Value), Pat [some (.string s), some (.string t), none, none, none, some (.slice (some ⟨0, 0, none⟩) n n), some (.int .i64 c), some (.int .i64 ((j + 1 : Nat) : Int)), none, none, none, none, none, none, none, none, none, none, none, none, none, none, none, none, none, none, none, none, none, none, none, none, none, none, none, none, none, none, none, none, none, none, none, none, none, none, none, none, none, none, none, none, none, none, none] tz ∧ hz = [some (.flat true n 1 g)] ∧ n - j = mm ∧ ((j ≤ n ∧ c ≤ 1) ∧ SubInv (bnat s) (bnat t) j Y c ∧ LastRows g n j Y), .inl ⟨_, 0, 0, 0, _, (.keep (.keep (.skip (.skip (.skip (.keep (.keep (.keep (.s8 (.s8 (.s8 (.s8 (.s8 (.skip (.skip (.skip (.skip (.skip (.skip (.skip (.nil))))))))))))))))))))), rfl, rfl, ?_⟩, ?_⟩
 ·exact ⟨⟨Nat.zero_le _, by decide⟩, subInv_start _ _, lastRows_start _⟩
 rintro mm tms _ ⟨j, Y, c, g, hpat, rfl, rfl, ⟨⟨hj, hc⟩, hY, hg⟩⟩
 obtain ⟨az, rfl⟩ : ∃ az : Nat → Value, tms = [.string s, .string t, az 2, az 3, az 4, .slice (some ⟨0, 0, none⟩) n n, .int .i64 c, .int .i64 ((j + 1 : Nat) : Int), az 8, az 9, az 10, az 11, az 12, az 13, az 14, az 15, az 16, az 17, az 18, az 19, az 20, az 21, az 22, az 23, az 24, az 25, az 26, az 27, az 28, az 29, az 30, az 31, az 32, az 33, az 34, az 35, az 36, az 37, az 38, az 39, az 40, az 41, az 42, az 43, az 44, az 45, az 46, az 47, az 48, az 49, az 50, az 51, az 52, az 53, az 54] := pat_fill hpat
 clear hpat
 conv => whnf
 rw [← hn]
 refine br_intro (fun h1 => ?_) (fun h1 => ?_)
 ·have h1 : j < n := by
   have := of_decide_eq_true h1
   omega
  obtain ⟨da, hda⟩ : ∃ da, da = dig (bnat s) j := ⟨_, rfl⟩
  obtain ⟨dd, hdd⟩ : ∃ dd, dd = dig (bnat t) j := ⟨_, rfl⟩
  have b1 : da < 256 := by rw [hda]; exact dig_lt _ _
  have b2 : dd < 256 := by rw [hdd]; exact dig_lt _ _
  obtain ⟨q, hq⟩ : ∃ q, q = n - (j + 1) := ⟨_, rfl⟩
  obtain ⟨x, hx⟩ := hg.1 q (by omega)
  have ej : IntKind.i64.wrap ((n : Int) - ((j + 1 : Nat) : Int)) = ((q : Nat) : Int) := by rw [wrapi64 (by omega) (by omega)]; omega
  have e7 : IntKind.i64.wrap (((j + 1 : Nat) : Int) + 1) = ((j + 1 + 1 : Nat) : Int) := by rw [wrapi64 (by omega) (by omega)]; rfl
  have hb : byteAt s q = da := by rw [hda, hq, hn]; exact byteAt_dig (by omega)
  have ea : IntKind.i64.wrap (IntKind.i64.wrap (da : Int) - (c : Int)) = (da : Int) - c := by rw [wrapi64 (x := (da : Int)) (by omega) (by omega), wrapi64 (by omega) (by omega)]
  conv => whnf
  rw [← hn, ej]
  refine ⟨⟨by omega, by omega⟩, ?_⟩
  simp only [toNat_cast]
  conv => whnf
  rw [hb, ea]
  refine br_intro (fun h3 => ?_) (fun h3 => ?_)
  ·have h3 : j < t.size := by
    have h4 : ((j + 1 : Nat) : Int) ≤ ((t.size : Nat) : Int) := of_decide_eq_true h3
    omega
   have hb2 := byteAt_dig h3
   rw [← hdd] at hb2
   have ei : IntKind.i64.wrap (((t.size : Nat) : Int) - ((j + 1 : Nat) : Int)) = ((t.size - (j + 1) : Nat) : Int) := by rw [wrapi64 (by omega) (by omega)]; omega
   obtain ⟨w, hw⟩ : ∃ w : Int, w = (da : Int) - c - dd := ⟨_, rfl⟩
   have ed : IntKind.i64.wrap (((da : Int) - c) - IntKind.i64.wrap (dd : Int)) = w := by rw [wrapi64 (x := (dd : Int)) (by omega) (by omega), wrapi64 (by omega) (by omega), hw]
   conv => whnf
   simp only [ei]
   refine ⟨⟨by omega, by omega⟩, ?_⟩
   simp only [toNat_cast]
   conv => whnf
   rw [hb2, ed]
   rcases Int.lt_or_le w 0 with hw | hw
   ·obtain ⟨e, c', he, hc', hs, hcc⟩ : ∃ e c' : Nat, e < 256 ∧ c' ≤ 1 ∧ e + c + dd = da + 256 * c' ∧ (w + 256 = (e : Int) ∧ c' = 1) := ⟨(w + 256).toNat, 1, by omega, by omega, by omega, by omega, rfl⟩
    have ew : IntKind.i64.wrap (w + 256) = (e : Int) := by rw [wrapi64 (by omega) (by omega)]; exact hcc.1
    have e0 := hcc.2
    subst e0
    obtain ⟨Y', hst, hrow⟩ := subInv_step hY hg h1 he (by rw [← hda, ← hdd]; exact hs)
    rw [← hq] at hrow
    refine br_yes ?_ ?_
    ·exact decide_eq_true hw
    conv => whnf
    rw [ew]
    simp only [← hn, ej]
    refine ⟨⟨by omega, by omega⟩, ?_⟩
    simp only [toNat_cast, rowAdd_eq, Nat.zero_add]
    conv => whnf
    refine ⟨by show q < n; omega, ?_⟩
    conv => whnf
    rw [hx]
    conv => whnf
    simp only [u8_of he, e7]
    refine .inl ⟨_, ?_, j + 1, Y', _, _, (.keep (.keep (.skip (.skip (.skip (.keep (.keep (.keep (.s8 (.s8 (.s8 (.s8 (.s8 (.skip (.skip (.skip (.skip (.skip (.skip (.skip (.nil))))))))))))))))))))), rfl, rfl, ?_⟩
    ·omega
    ·exact ⟨⟨by omega, hc'⟩, hst, hrow⟩
   ·obtain ⟨e, c', he, hc', hs, hcc⟩ : ∃ e c' : Nat, e < 256 ∧ c' ≤ 1 ∧ e + c + dd = da + 256 * c' ∧ (w = (e : Int) ∧ c' = 0) := ⟨w.toNat, 0, by omega, by omega, by omega, by omega, rfl⟩
    have ew : w = (e : Int) := hcc.1
    have e0 := hcc.2
    subst e0
    obtain ⟨Y', hst, hrow⟩ := subInv_step hY hg h1 he (by rw [← hda, ← hdd]; exact hs)
    rw [← hq] at hrow
    refine br_intro (fun h => absurd (of_decide_eq_true h) (by omega)) (fun _ => ?_)
    conv => whnf
    rw [ew]
    simp only [← hn, ej]
    refine ⟨⟨by omega, by omega⟩, ?_⟩
    simp only [toNat_cast, rowAdd_eq, Nat.zero_add]
    conv => whnf
    refine ⟨by show q < n; omega, ?_⟩
    conv => whnf
    rw [hx]
    conv => whnf
    simp only [u8_of he, e7]
    refine .inl ⟨_, ?_, j + 1, Y', _, _, (.keep (.keep (.skip (.skip (.skip (.keep (.keep (.keep (.s8 (.s8 (.s8 (.s8 (.s8 (.skip (.skip (.skip (.skip (.skip (.skip (.skip (.nil))))))))))))))))))))), rfl, rfl, ?_⟩
    ·omega
    ·exact ⟨⟨by omega, hc'⟩, hst, hrow⟩
  ·have h3 : t.size ≤ j := by
    have h4 : ¬ ((j + 1 : Nat) : Int) ≤ ((t.size : Nat) : Int) := of_decide_eq_false h3
    omega
   have h0 := dig_over h3
   obtain ⟨w, hw⟩ : ∃ w : Int, w = (da : Int) - c := ⟨_, rfl⟩
   rw [← hdd] at h0
   conv => whnf
   rw [← hw]
   rcases Int.lt_or_le w 0 with hw | hw
   ·obtain ⟨e, c', he, hc', hs, hcc⟩ : ∃ e c' : Nat, e < 256 ∧ c' ≤ 1 ∧ e + c + dd = da + 256 * c' ∧ (w + 256 = (e : Int) ∧ c' = 1) := ⟨(w + 256).toNat, 1, by omega, by omega, by omega, by omega, rfl⟩
    have ew : IntKind.i64.wrap (w + 256) = (e : Int) := by rw [wrapi64 (by omega) (by omega)]; exact hcc.1
    have e0 := hcc.2
    subst e0
    obtain ⟨Y', hst, hrow⟩ := subInv_step hY hg h1 he (by rw [← hda, ← hdd]; exact hs)
    rw [← hq] at hrow
    refine br_yes ?_ ?_
    ·exact decide_eq_true hw
    conv => whnf
    rw [ew]
    simp only [← hn, ej]
    refine ⟨⟨by omega, by omega⟩, ?_⟩
    simp only [toNat_cast, rowAdd_eq, Nat.zero_add]
    conv => whnf
    refine ⟨by show q < n; omega, ?_⟩
    conv => whnf
    rw [hx]
    conv => whnf
    simp only [u8_of he, e7]
    refine .inl ⟨_, ?_, j + 1, Y', _, _, (.keep (.keep (.skip (.skip (.skip (.keep (.keep (.keep (.s8 (.s8 (.s8 (.s8 (.s8 (.skip (.skip (.skip (.skip (.skip (.skip (.skip (.nil))))))))))))))))))))), rfl, rfl, ?_⟩
    ·omega
    ·exact ⟨⟨by omega, hc'⟩, hst, hrow⟩
   ·obtain ⟨e, c', he, hc', hs, hcc⟩ : ∃ e c' : Nat, e < 256 ∧ c' ≤ 1 ∧ e + c + dd = da + 256 * c' ∧ (w = (e : Int) ∧ c' = 0) := ⟨w.toNat, 0, by omega, by omega, by omega, by omega, rfl⟩
    have ew : w = (e : Int) := hcc.1
    have e0 := hcc.2
    subst e0
    obtain ⟨Y', hst, hrow⟩ := subInv_step hY hg h1 he (by rw [← hda, ← hdd]; exact hs)
    rw [← hq] at hrow
    refine br_intro (fun h => absurd (of_decide_eq_true h) (by omega)) (fun _ => ?_)
    conv => whnf
    rw [ew]
    simp only [← hn, ej]
    refine ⟨⟨by omega, by omega⟩, ?_⟩
    simp only [toNat_cast, rowAdd_eq, Nat.zero_add]
    conv => whnf
    refine ⟨by show q < n; omega, ?_⟩
    conv => whnf
    rw [hx]
    conv => whnf
    simp only [u8_of he, e7]
    refine .inl ⟨_, ?_, j + 1, Y', _, _, (.keep (.keep (.skip (.skip (.skip (.keep (.keep (.keep (.s8 (.s8 (.s8 (.s8 (.s8 (.skip (.skip (.skip (.skip (.skip (.skip (.skip (.nil))))))))))))))))))))), rfl, rfl, ?_⟩
    ·omega
    ·exact ⟨⟨by omega, hc'⟩, hst, hrow⟩
 ·have h1 : j = n := by
   have h4 : ¬ ((j + 1 : Nat) : Int) ≤ ((n : Nat) : Int) := of_decide_eq_false h1
   omega
  subst h1
  obtain ⟨v, hv, hvs, hvn⟩ := subInv_end (g := g) (by rw [← hn]; exact hY) hp.2 (by rw [← hn]; exact hg)
  rw [← hn] at hv hvs
  conv => whnf
  rcases Nat.eq_zero_or_pos j with h0 | h0
  ·subst h0
   conv => whnf
   have e0 : v = ⟨#[]⟩ := hv.symm
   subst e0
   refine ⟨⟨#[]⟩, rfl, Nat.zero_le _, ?_⟩
   conv => whnf
   show Value.string (nb (bnat ⟨#[]⟩)) = _
   rw [hvn]
   rfl
  ·obtain ⟨k, rfl⟩ : ∃ k, j = k + 1 := ⟨j - 1, by omega⟩
   conv => whnf
   refine ⟨⟨by show 0 + (k + 1) ≤ k + 1; omega, fun r hr => by show ∃ x, g (0 + r) = _; rw [Nat.zero_add]; exact hg.1 r hr⟩, ?_⟩
   rw [show (Blk.flat true (k + 1) 1 g).row = g from rfl, hv]
   conv => whnf
   refine ⟨v, rfl, by show v.size ≤ _; omega, ?_⟩
   conv => whnf
   show Value.string (nb (bnat v)) = _
   rw [hvn]
   rfl
end Go.Proofs.YtppeponndkfbkaaGreat
/- Contracts of the reference integers: product of digits. -/
set_option maxRecDepth 20000
set_option maxHeartbeats 1000000
namespace Go.Proofs.YtppeponndkfbkaaGreat
open Go Go.Ae
theorem rmulMag_ok : Snd Tryz.prog 152 mulMagS := by
 refine snd_of Eraok Dok Tryz.func152 (enters_of Tryz.func152 (by kernel_rfl) rfl) (fun _ => rfl) (fun _ => rfl) ?_
 intro ⟨s, t⟩ hp
 have hp : s.size ≤ 549755813888 ∧ t.size ≤ 549755813888 := hp
 obtain ⟨a, ha⟩ : ∃ n : Nat, n = s.size := ⟨_, rfl⟩
 obtain ⟨b, hb⟩ : ∃ n : Nat, n = t.size := ⟨_, rfl⟩
 obtain ⟨n, hn⟩ : ∃ n : Nat, n = a + b := ⟨_, rfl⟩
 have e1 : IntKind.i64.wrap (((a : Nat) : Int) + ((b : Nat) : Int)) = ((n : Nat) : Int) := by rw [wrapi64 (by omega) (by omega)]; omega
 conv => whnf
 rw [show ((s, t).fst.size : Nat) = a from ha.symm, show ((s, t).snd.size : Nat) = b from hb.symm, e1]
 refine ⟨⟨by omega, Int.le_refl _, by show ((n : Nat) : Int) * ((8 : Nat) : Int) ≤ _; omega⟩, ?_⟩
 simp only [toNat_cast]
 conv => whnf
 rw [show ((s, t).fst.size : Nat) = a from ha.symm]
 refine .inl ⟨fun mm tz hz => ∃ (u : Nat) (p : Nat) (Z : Nat) (g : Nat → List Value), Pat [some (.string s), some (.string t), none, none, none, some (.slice (some ⟨0, 0, none⟩) n n), some (.int .i64 (IntKind.i64.wrap (((u : Nat) : Int) - 1))), none, none, none, none, none, none, none, none, none, none, none, none, none, none, none, none, none, none, none, none, none, none, none, none, none, none, none, none, none, none, none, none, none, none, none, none, none, none, none, none, none, none, none, none, none, none, none, none, none, none, none, none, none, none, none, none, none, none, none, none, none, none, none, none, none, none, none, none, none, none, none, none, none, none, none, none, none, none, none, none] tz ∧ hz = [some (.flat true n 1 g)] ∧ u = mm ∧ ((u + p = a) ∧ MulRow (bnat s) (bnat t) p b Z ∧ RowsI g n Z), .inr ⟨[0], [0, 1, 5, 6], ?_⟩, ?_⟩
 ·conv => whnf
  intro _
  conv => whnf
  refine ⟨_, a, 0, 0, _, (.keep (.keep (.skip (.skip (.skip (.keep (.keep (.s8 (.s8 (.s8 (.s8 (.s8 (.s8 (.s8 (.s8 (.s8 (.s8 (.nil)))))))))))))))))), rfl, rfl, ?_⟩
  exact ⟨by omega, mulRow_start _ _ _, rowsI_start _⟩
 rintro mm tms _ ⟨u, p, Z, g, hpat, rfl, rfl, ⟨hu, hY, hg⟩⟩
 obtain ⟨az, rfl⟩ : ∃ az : Nat → Value, tms = [.string s, .string t, az 2, az 3, az 4, .slice (some ⟨0, 0, none⟩) n n, .int .i64 (IntKind.i64.wrap (((u : Nat) : Int) - 1)), az 7, az 8, az 9, az 10, az 11, az 12, az 13, az 14, az 15, az 16, az 17, az 18, az 19, az 20, az 21, az 22, az 23, az 24, az 25, az 26, az 27, az 28, az 29, az 30, az 31, az 32, az 33, az 34, az 35, az 36, az 37, az 38, az 39, az 40, az 41, az 42, az 43, az 44, az 45, az 46, az 47, az 48, az 49, az 50, az 51, az 52, az 53, az 54, az 55, az 56, az 57, az 58, az 59, az 60, az 61, az 62, az 63, az 64, az 65, az 66, az 67, az 68, az 69, az 70, az 71, az 72, az 73, az 74, az 75, az 76, az 77, az 78, az 79, az 80, az 81, az 82, az 83, az 84, az 85, az 86] := pat_fill hpat
 clear hpat
 conv => whnf
 refine br_intro (fun h1 => ?_) (fun h1 => ?_)
 ·obtain ⟨i, rfl⟩ : ∃ i, u = i + 1 := by
   rcases Nat.eq_zero_or_pos u with h | h
   ·subst h; exact absurd h1 (by decide)
   ·exact ⟨u - 1, by omega⟩
  have ei : IntKind.i64.wrap (((i + 1 : Nat) : Int) - 1) = (i : Int) := by rw [wrapi64 (by omega) (by omega)]; omega
  rw [ei]
  conv => whnf
  rw [← hb]
  refine .inl ⟨fun mm tz hz => ∃ (v : Nat) (q : Nat) (Z : Nat) (c : Nat) (g : Nat → List Value), Pat [some (.string s), some (.string t), none, none, none, some (.slice (some ⟨0, 0, none⟩) n n), some (.int .i64 i), some (.int .i64 c), some (.int .i64 (IntKind.i64.wrap (((v : Nat) : Int) - 1))), none, none, none, none, none, none, none, none, none, none, none, none, none, none, none, none, none, none, none, none, none, none, none, none, none, none, none, none, none, none, none, none, none, none, none, none, none, none, none, none, none, none, none, none, none, none, none, none, none, none, none, none, none, none, none, none, none, none, none, none, none, none, none, none, none, none, none, none, none, none, none, none, none, none, none, none, none, none] tz ∧ hz = [some (.flat true n 1 g)] ∧ v = mm ∧ ((v + q = b ∧ c < 256) ∧ MulInv (bnat s) (bnat t) p b q Z c ∧ RowsI g n Z), .inr ⟨[0], [0, 1, 5, 6, 7, 8], ?_⟩, ?_⟩
  ·conv => whnf
   intro _
   conv => whnf
   refine ⟨_, b, 0, Z, 0, g, (.keep (.keep (.skip (.skip (.skip (.keep (.keep (.keep (.keep (.s8 (.s8 (.s8 (.s8 (.s8 (.s8 (.s8 (.s8 (.s8 (.skip (.skip (.skip (.skip (.skip (.skip (.nil))))))))))))))))))))))))), rfl, rfl, ?_⟩
   exact ⟨⟨by omega, by decide⟩, mulInv_start hY, hg⟩
  rintro mm tms _ ⟨v, q, Z, c, g, hpat, rfl, rfl, ⟨⟨hv, hc⟩, hI, hg⟩⟩
  obtain ⟨az, rfl⟩ : ∃ az : Nat → Value, tms = [.string s, .string t, az 2, az 3, az 4, .slice (some ⟨0, 0, none⟩) n n, .int .i64 i, .int .i64 c, .int .i64 (IntKind.i64.wrap (((v : Nat) : Int) - 1)), az 9, az 10, az 11, az 12, az 13, az 14, az 15, az 16, az 17, az 18, az 19, az 20, az 21, az 22, az 23, az 24, az 25, az 26, az 27, az 28, az 29, az 30, az 31, az 32, az 33, az 34, az 35, az 36, az 37, az 38, az 39, az 40, az 41, az 42, az 43, az 44, az 45, az 46, az 47, az 48, az 49, az 50, az 51, az 52, az 53, az 54, az 55, az 56, az 57, az 58, az 59, az 60, az 61, az 62, az 63, az 64, az 65, az 66, az 67, az 68, az 69, az 70, az 71, az 72, az 73, az 74, az 75, az 76, az 77, az 78, az 79, az 80, az 81, az 82, az 83, az 84, az 85, az 86] := pat_fill hpat
  clear hpat
  clear hY
  conv => whnf
  refine br_intro (fun h2 => ?_) (fun h2 => ?_)
  ·obtain ⟨k, rfl⟩ : ∃ k, v = k + 1 := by
    rcases Nat.eq_zero_or_pos v with h | h
    ·subst h; exact absurd h2 (by decide)
    ·exact ⟨v - 1, by omega⟩
   have ek : IntKind.i64.wrap (((k + 1 : Nat) : Int) - 1) = (k : Int) := by rw [wrapi64 (by omega) (by omega)]; omega
   rw [ek]
   obtain ⟨x, hx⟩ : ∃ x, x = dig (bnat s) p := ⟨_, rfl⟩
   obtain ⟨y, hy⟩ : ∃ y, y = dig (bnat t) q := ⟨_, rfl⟩
   obtain ⟨z, hz⟩ : ∃ z, z = dig Z (p + q) := ⟨_, rfl⟩
   obtain ⟨w, hw⟩ : ∃ w, w = c + (x * y + z) := ⟨_, rfl⟩
   obtain ⟨r, hr⟩ : ∃ r, r = i + k + 1 := ⟨_, rfl⟩
   have xb : x < 256 := by rw [hx]; exact dig_lt _ _
   have yb : y < 256 := by rw [hy]; exact dig_lt _ _
   have zb : z < 256 := by rw [hz]; exact dig_lt _ _
   have er : r = n - 1 - (p + q) := by omega
   obtain ⟨Z', hst, hrow⟩ := mulInv_step (t := w) hI hg (by omega) (by omega) (by rw [hw, hx, hy, hz])
   rw [← er] at hrow
   have hgr := hg r (by omega)
   rw [show n - 1 - r = p + q by omega, ← hz] at hgr
   have hbx : byteAt s i = x := by
    have := byteAt_dig (s := s) (j := p) (by omega)
    rw [show s.size - (p + 1) = i by omega, ← hx] at this
    exact this
   have hby : byteAt t k = y := by
    have := byteAt_dig (s := t) (j := q) (by omega)
    rw [show t.size - (q + 1) = k by omega, ← hy] at this
    exact this
   have hval := mul_val hc xb yb zb hw
   obtain ⟨hwC, hw6⟩ := mul_row_le hc xb yb zb hw
   have hand := and_255 hw6
   have erw : IntKind.i64.wrap (IntKind.i64.wrap ((i : Int) + (k : Int)) + 1) = (r : Int) := by rw [wrapi64 (x := (i : Int) + (k : Int)) (by omega) (by omega), wrapi64 (by omega) (by omega)]; omega
   conv => whnf
   refine .inl ⟨18, [[], [], [], [], [2, 3], [2, 3, 4], [1, 2, 3, 4, 5], [1, 2, 3, 4, 5, 6], [], [], [8, 9], [8, 9, 10], [], [], [12, 13], [12, 13, 14], [8, 9, 10, 11, 12, 13, 14, 15], [1, 2, 3, 4, 5, 6, 7, 8, 9, 10, 11, 12, 13, 14, 15, 16], [0, 1, 2, 3, 4, 5, 6, 7, 8, 9, 10, 11, 12, 13, 14, 15, 16, 17], [0, 1, 2, 3, 4, 5, 6, 7, 8, 9, 10, 11, 12, 13, 14, 15, 16, 17, 18]], by kernel_rfl, ?_⟩
   conv => whnf
   simp only [erw, toNat_cast]
   refine ⟨⟨by omega, by omega⟩, ?_⟩
   simp only [toNat_cast, rowAdd_eq, Nat.zero_add]
   conv => whnf
   refine ⟨by show r < n; omega, ?_⟩
   conv => whnf
   rw [hgr]
   conv => whnf
   refine ⟨⟨by omega, by omega⟩, ?_⟩
   simp only [toNat_cast]
   conv => whnf
   rw [hbx]
   refine ⟨⟨by omega, by omega⟩, ?_⟩
   simp only [toNat_cast]
   conv => whnf
   rw [hby]
   simp only [hval, erw]
   refine ⟨⟨by omega, by omega⟩, ?_⟩
   simp only [toNat_cast, rowAdd_eq, Nat.zero_add]
   conv => whnf
   refine ⟨by show r < n; omega, ?_⟩
   conv => whnf
   rw [hgr]
   conv => whnf
   have hwm : w % C < 256 := Nat.mod_lt _ (by decide)
   have ewm : IntKind.i64.wrap ((w % C : Nat) : Int) = ((w % C : Nat) : Int) := by
    obtain ⟨k, hk⟩ : ∃ k, k = w % C := ⟨_, rfl⟩
    rw [← hk] at hwm ⊢
    exact wrapi64 (by omega) (by omega)
   simp only [shr_i64_8, hand, ewm]
   rw [show ((w : Nat) : Int) / 256 = ((w / C : Nat) : Int) from rfl]
   refine .inr ⟨[0], [0, 1, 5, 6, 7, 8], ?_⟩
   conv => whnf
   intro _
   conv => whnf
   refine ⟨_, ?_, k, q + 1, Z', w / C, _, (.keep (.keep (.skip (.skip (.skip (.keep (.keep (.keep (.keep (.s8 (.s8 (.s8 (.s8 (.s8 (.s8 (.s8 (.s8 (.s8 (.skip (.skip (.skip (.skip (.skip (.skip (.nil))))))))))))))))))))))))), rfl, rfl, ?_⟩
   ·omega
   ·exact ⟨⟨by omega, hwC⟩, hst, hrow⟩
  ·have h2 : v = 0 := by
    have := of_decide_eq_false h2
    rcases Nat.eq_zero_or_pos v with h | h
    ·exact h
    ·rw [wrapi64 (by omega) (by omega)] at this
     omega
   subst h2
   have hq : q = b := by omega
   subst hq
   obtain ⟨h0, Z', hst, hrow⟩ := mulInv_end (n := n) hI (by rw [hb]; exact bnat_lt t) hg (by omega) hc
   have er : i = n - 1 - (p + q) := by omega
   have hgr := hg i (by omega)
   rw [show n - 1 - i = p + q by omega, h0] at hgr
   rw [← er] at hrow
   have ec : IntKind.i64.wrap (((0 : Nat) : Int) + (c : Int)) = (c : Int) := by rw [wrapi64 (by omega) (by omega)]; omega
   conv => whnf
   refine ⟨⟨by omega, by omega⟩, ?_⟩
   simp only [toNat_cast, rowAdd_eq, Nat.zero_add]
   conv => whnf
   refine ⟨by show i < n; omega, ?_⟩
   conv => whnf
   rw [hgr]
   conv => whnf
   refine ⟨⟨by omega, by omega⟩, ?_⟩
   simp only [toNat_cast, rowAdd_eq, Nat.zero_add]
   conv => whnf
   refine ⟨by show i < n; omega, ?_⟩
   conv => whnf
   rw [hgr]
   conv => whnf
   simp only [ec]
   skip
   refine .inr ⟨[0], [0, 1, 5, 6], ?_⟩
   conv => whnf
   intro _
   conv => whnf
   refine ⟨_, ?_, i, p + 1, Z', _, (.keep (.keep (.skip (.skip (.skip (.keep (.keep (.s8 (.s8 (.s8 (.s8 (.s8 (.s8 (.s8 (.s8 (.s8 (.s8 (.nil)))))))))))))))))), rfl, rfl, ?_⟩
   ·omega
   ·exact ⟨by omega, hst, hrow⟩
 ·have h1 : u = 0 := by
   have := of_decide_eq_false h1
   rcases Nat.eq_zero_or_pos u with h | h
   ·exact h
   ·rw [wrapi64 (by omega) (by omega)] at this
    omega
  subst h1
  have hp2 : p = a := by omega
  subst hp2
  have hZ : Z = bnat s * bnat t := mulRow_end hY (by rw [ha]; exact bnat_lt s)
  have hZlt : Z < C ^ n := by rw [hZ, hn, ha, hb]; exact prod_ltC
  clear hY
  conv => whnf
  refine ⟨⟨by omega, Int.le_refl _, by show ((n : Nat) : Int) * ((1 : Nat) : Int) ≤ _; omega⟩, ?_⟩
  simp only [toNat_cast]
  conv => whnf
  refine .inl ⟨fun mm tz hz => ∃ (i : Nat) (e : Nat → List Value), Pat [none, none, none, none, none, some (.slice (some ⟨0, 0, none⟩) n n), none, none, none, some (.slice (some ⟨1, 0, none⟩) n n), some (.int .i64 i), none, none, none, none, none, none, none, none, none, none, none, none, none, none, none, none, none, none, none, none, none, none, none, none, none, none, none, none, none, none, none, none, none, none, none, none, none, none, none, none, none, none, none, none, none, none, none, none, none, none, none, none, none, none, none, none, none, none, none, none, none, none, none, none, none, none, none, none, none, none, none, none, none, none, none, none] tz ∧ hz = [some (.flat true n 1 g), some (.flat true n 1 e)] ∧ n - i = mm ∧ (i ≤ n ∧ ByteRows e n i Z), .inl ⟨_, 0, _, (.skip (.skip (.skip (.skip (.skip (.keep (.skip (.skip (.skip (.keep (.keep (.s8 (.s8 (.s8 (.s8 (.s8 (.s8 (.s8 (.s8 (.s8 (.skip (.skip (.skip (.skip (.nil))))))))))))))))))))))))), rfl, rfl, ?_⟩, ?_⟩
  ·exact ⟨Nat.zero_le _, byteRows_start _ _⟩
  rintro mm tms _ ⟨i, e, hpat, rfl, rfl, ⟨hi, he⟩⟩
  obtain ⟨az, rfl⟩ : ∃ az : Nat → Value, tms = [az 0, az 1, az 2, az 3, az 4, .slice (some ⟨0, 0, none⟩) n n, az 6, az 7, az 8, .slice (some ⟨1, 0, none⟩) n n, .int .i64 i, az 11, az 12, az 13, az 14, az 15, az 16, az 17, az 18, az 19, az 20, az 21, az 22, az 23, az 24, az 25, az 26, az 27, az 28, az 29, az 30, az 31, az 32, az 33, az 34, az 35, az 36, az 37, az 38, az 39, az 40, az 41, az 42, az 43, az 44, az 45, az 46, az 47, az 48, az 49, az 50, az 51, az 52, az 53, az 54, az 55, az 56, az 57, az 58, az 59, az 60, az 61, az 62, az 63, az 64, az 65, az 66, az 67, az 68, az 69, az 70, az 71, az 72, az 73, az 74, az 75, az 76, az 77, az 78, az 79, az 80, az 81, az 82, az 83, az 84, az 85, az 86] := pat_fill hpat
  clear hpat
  conv => whnf
  refine br_intro (fun h2 => ?_) (fun h2 => ?_)
  ·have h2 : i < n := by
    have := of_decide_eq_true h2
    omega
   obtain ⟨z, hz⟩ : ∃ z, z = dig Z (n - 1 - i) := ⟨_, rfl⟩
   have zb : z < 256 := by rw [hz]; exact dig_lt _ _
   have hgr := hg i h2
   rw [← hz] at hgr
   have hst := byteRows_step he h2
   rw [← hz] at hst
   obtain ⟨x, hx⟩ := he.1 i h2
   have e7 : IntKind.i64.wrap ((i : Int) + 1) = ((i + 1 : Nat) : Int) := by rw [wrapi64 (by omega) (by omega)]; rfl
   conv => whnf
   refine ⟨⟨by omega, by omega⟩, ?_⟩
   simp only [toNat_cast, rowAdd_eq, Nat.zero_add]
   conv => whnf
   refine ⟨by show i < n; omega, ?_⟩
   conv => whnf
   rw [hgr]
   conv => whnf
   refine ⟨⟨by omega, by omega⟩, ?_⟩
   simp only [toNat_cast, rowAdd_eq, Nat.zero_add]
   conv => whnf
   refine ⟨by show i < n; omega, ?_⟩
   conv => whnf
   rw [hx]
   conv => whnf
   simp only [u8_of zb, e7]
   refine .inl ⟨_, ?_, i + 1, _, (.skip (.skip (.skip (.skip (.skip (.keep (.skip (.skip (.skip (.keep (.keep (.s8 (.s8 (.s8 (.s8 (.s8 (.s8 (.s8 (.s8 (.s8 (.skip (.skip (.skip (.skip (.nil))))))))))))))))))))))))), rfl, rfl, ?_⟩
   ·omega
   ·exact ⟨by omega, hst⟩
  ·have h2 : i = n := by
    have := of_decide_eq_false h2
    omega
   subst h2
   obtain ⟨v, hv, hvs, hvn⟩ := byteRows_end he hZlt
   conv => whnf
   rcases Nat.eq_zero_or_pos i with h0 | h0
   ·subst h0
    conv => whnf
    have e0 : v = ⟨#[]⟩ := hv.symm
    subst e0
    refine ⟨⟨#[]⟩, rfl, Nat.zero_le _, ?_⟩
    conv => whnf
    show Value.string (nb (bnat ⟨#[]⟩)) = _
    rw [hvn, hZ]
    rfl
   ·obtain ⟨k, rfl⟩ : ∃ k, i = k + 1 := ⟨i - 1, by omega⟩
    conv => whnf
    refine ⟨⟨by show 0 + (k + 1) ≤ k + 1; omega, fun r hr => by show ∃ x, e (0 + r) = _; rw [Nat.zero_add]; exact he.1 r hr⟩, ?_⟩
    rw [show (Blk.flat true (k + 1) 1 e).row = e from rfl, hv]
    conv => whnf
    refine ⟨v, rfl, by show v.size ≤ _; omega, ?_⟩
    conv => whnf
    show Value.string (nb (bnat v)) = _
    rw [hvn, hZ]
    rfl
end Go.Proofs.YtppeponndkfbkaaGreat
/- Contracts of the reference integers: quotient of digits. -/
set_option maxRecDepth 20000
set_option maxHeartbeats 1000000
namespace Go.Proofs.YtppeponndkfbkaaGreat
open Go Go.Ae
def Erf : Env := { tt := tt, eqs := [], Φ := fun g => match g with
 | 160 => some (.p stripS)
 | 153 => some (.p addMagS)
 | 154 => some (.p subMagS)
 | 150 => some (.p cmpMagS)
 | _ => none }
theorem Erfok : EnvOk Tryz.prog Erf := ⟨tt_ok, fun t h => by simp [Erf] at h, (fun g S h => by
 simp only [Erf] at h
 split at h
 ·cases h; exact rtrim_ok
 ·cases h; exact raddMag_ok
 ·cases h; exact rsubMag_ok
 ·cases h; exact rcmpMag_ok
 ·cases h), fun g F h => by simp [Erf] at h⟩
theorem rdivMag_ok : Snd Tryz.prog 161 divMagS := by
 refine snd_of Erfok Dok Tryz.func161 (enters_of Tryz.func161 (by kernel_rfl) rfl) (fun _ => rfl) (fun _ => rfl) ?_
 intro ⟨s, D⟩ hp
 have hp : s.size ≤ 549755813888 ∧ nby D ≤ 549755813888 ∧ D ≠ 0 := hp
 obtain ⟨n, hn⟩ : ∃ n : Nat, n = s.size := ⟨_, rfl⟩
 obtain ⟨b, hb⟩ : ∃ b, b = nb D := ⟨_, rfl⟩
 have ht := timesRows_start D
 rw [← hb] at ht
 conv => whnf
 rw [show nb (s, D).snd = b from hb.symm]
 refine ⟨⟨by decide, by decide⟩, ?_⟩
 conv => whnf
 refine ⟨by decide, ?_⟩
 conv => whnf
 refine .inl ⟨fun mm tz hz => ∃ (i : Nat) (g : Nat → List Value), Pat [some (.string s), none, none, none, none, none, some (.pointer (some ⟨0, 0, none⟩)), some (.int .i64 ((i + 1 : Nat) : Int)), none, none, none, none, none, none, none, none, none, none, none, none, none, none, none, none, none, none, none, none, none, none, none, none, none, none, none, none, none, none, none, none, none, none, none, none, none, none, none, none, none, none, none, none, none, none, none, none, none, none, none, none, none, none, none, none, none, none, none, none, none, none, none, none, none, none, none, none] tz ∧ hz = [some (.flat true 8 1 g)] ∧ 7 - i = mm ∧ (i ≤ 7 ∧ TimesRows g (i + 1) D), .inr ⟨[0], [0, 6, 7], ?_⟩, ?_⟩
 ·conv => whnf
  intro _
  conv => whnf
  refine ⟨_, 0, _, (.keep (.skip (.skip (.skip (.skip (.skip (.keep (.keep (.s8 (.s8 (.s8 (.s8 (.s8 (.s8 (.s8 (.s8 (.skip (.skip (.skip (.skip (.nil))))))))))))))))))))), rfl, rfl, ?_⟩
  exact ⟨by decide, ht⟩
 rintro mm tms _ ⟨i, g, hpat, rfl, rfl, ⟨hi, ht⟩⟩
 obtain ⟨az, rfl⟩ : ∃ az : Nat → Value, tms = [.string s, az 1, az 2, az 3, az 4, az 5, .pointer (some ⟨0, 0, none⟩), .int .i64 ((i + 1 : Nat) : Int), az 8, az 9, az 10, az 11, az 12, az 13, az 14, az 15, az 16, az 17, az 18, az 19, az 20, az 21, az 22, az 23, az 24, az 25, az 26, az 27, az 28, az 29, az 30, az 31, az 32, az 33, az 34, az 35, az 36, az 37, az 38, az 39, az 40, az 41, az 42, az 43, az 44, az 45, az 46, az 47, az 48, az 49, az 50, az 51, az 52, az 53, az 54, az 55, az 56, az 57, az 58, az 59, az 60, az 61, az 62, az 63, az 64, az 65, az 66, az 67, az 68, az 69, az 70, az 71, az 72, az 73, az 74, az 75] := pat_fill hpat
 clear hpat
 conv => whnf
 refine br_intro (fun h1 => ?_) (fun h1 => ?_)
 ·have h1 : i + 1 < 8 := by
   have := of_decide_eq_true h1
   omega
  obtain ⟨x, hx⟩ : ∃ x, x = nb (2 ^ i * D) := ⟨_, rfl⟩
  have hgi := ht.2 i (by omega)
  rw [← hx] at hgi
  have hxs : x.size ≤ 549755813889 := by
   rw [hx, nb_size]; exact Nat.le_trans (nby_times (by omega)) (by omega)
  have hxn : bnat x = 2 ^ i * D := by rw [hx, bnat_nb]
  obtain ⟨v, hv⟩ : ∃ v, v = nb (bnat x + bnat x) := ⟨_, rfl⟩
  have hst := timesRows_step (v := v) ht h1 (by rw [hv, hxn])
  obtain ⟨y, hy⟩ := ht.1 (i + 1) (by omega)
  have ei : IntKind.i64.wrap (((i + 1 : Nat) : Int) - 1) = (i : Int) := by rw [wrapi64 (by omega) (by omega)]; omega
  obtain ⟨j, hj⟩ : ∃ j, j = i + 1 := ⟨_, rfl⟩
  rw [← hj] at hy hst ei
  rw [← hj]
  have e7 : IntKind.i64.wrap ((j : Int) + 1) = ((j + 1 : Nat) : Int) := by rw [wrapi64 (by omega) (by omega)]; rfl
  conv => whnf
  refine .inl ⟨10, [[], [], [1], [1, 2], [1, 2, 3], [], [5], [5, 6], [5, 6, 7], [1, 2, 3, 4, 5, 6, 7, 8], [0, 1, 2, 3, 4, 5, 6, 7, 8, 9], [0, 1, 2, 3, 4, 5, 6, 7, 8, 9, 10]], by kernel_rfl, ?_⟩
  conv => whnf
  rw [ei]
  refine ⟨⟨by omega, by omega⟩, ?_⟩
  simp only [toNat_cast, rowAdd_eq, Nat.zero_add]
  conv => whnf
  refine ⟨by show i < 8; omega, ?_⟩
  conv => whnf
  rw [hgi]
  conv => whnf
  rw [ei]
  refine ⟨⟨by omega, by omega⟩, ?_⟩
  simp only [toNat_cast, rowAdd_eq, Nat.zero_add]
  conv => whnf
  refine ⟨by show i < 8; omega, ?_⟩
  conv => whnf
  rw [hgi]
  conv => whnf
  refine ⟨(x, x), rfl, ⟨by show x.size ≤ _; omega, by show x.size ≤ _; omega⟩, ?_⟩
  rw [show addMagS.val (x, x) = .string v from by rw [hv]; rfl]
  conv => whnf
  refine ⟨⟨by omega, by omega⟩, ?_⟩
  simp only [toNat_cast, rowAdd_eq, Nat.zero_add]
  conv => whnf
  refine ⟨by show j < 8; omega, ?_⟩
  conv => whnf
  rw [hy]
  conv => whnf
  simp only [e7]
  refine .inr ⟨[0], [0, 6, 7], ?_⟩
  conv => whnf
  intro _
  conv => whnf
  refine ⟨_, ?_, j, _, (.keep (.skip (.skip (.skip (.skip (.skip (.keep (.keep (.s8 (.s8 (.s8 (.s8 (.s8 (.s8 (.s8 (.s8 (.skip (.skip (.skip (.skip (.nil))))))))))))))))))))), rfl, rfl, ?_⟩
  ·omega
  ·exact ⟨by omega, hst⟩
 ·have h1 : i = 7 := by
   have := of_decide_eq_false h1
   omega
  subst h1
  conv => whnf
  rw [← hn]
  refine ⟨⟨by omega, Int.le_refl _, by show ((n : Nat) : Int) * ((1 : Nat) : Int) ≤ _; omega⟩, ?_⟩
  simp only [toNat_cast]
  conv => whnf
  rw [← nb_zero]
  refine .inl ⟨fun mm tz hz => ∃ (i : Nat) (Q : Nat) (R : Nat) (e : Nat → List Value), Pat [some (.string s), none, none, none, none, none, some (.pointer (some ⟨0, 0, none⟩)), none, some (.slice (some ⟨1, 0, none⟩) n n), some (.string (nb R)), some (.int .i64 i), none, none, none, none, none, none, none, none, none, none, none, none, none, none, none, none, none, none, none, none, none, none, none, none, none, none, none, none, none, none, none, none, none, none, none, none, none, none, none, none, none, none, none, none, none, none, none, none, none, none, none, none, none, none, none, none, none, none, none, none, none, none, none, none, none] tz ∧ hz = [some (.flat true 8 1 g), some (.flat true n 1 e)] ∧ n - i = mm ∧ (i ≤ n ∧ DivInv s D i Q R ∧ QRows e n i Q), .inr ⟨[0, 1], [0, 6, 8, 9, 10], ?_⟩, ?_⟩
  ·conv => whnf
   intro _
   conv => whnf
   refine ⟨_, 0, 0, 0, _, (.keep (.skip (.skip (.skip (.skip (.skip (.keep (.skip (.keep (.keep (.keep (.s8 (.s8 (.s8 (.s8 (.s8 (.s8 (.s8 (.s8 (.skip (.nil))))))))))))))))))))), rfl, rfl, ?_⟩
   exact ⟨Nat.zero_le _, divInv_start _ hp.2.2, qRows_start _⟩
  rintro mm tms _ ⟨i, Q, R, e, hpat, rfl, rfl, ⟨hi, hI, he⟩⟩
  obtain ⟨az, rfl⟩ : ∃ az : Nat → Value, tms = [.string s, az 1, az 2, az 3, az 4, az 5, .pointer (some ⟨0, 0, none⟩), az 7, .slice (some ⟨1, 0, none⟩) n n, .string (nb R), .int .i64 i, az 11, az 12, az 13, az 14, az 15, az 16, az 17, az 18, az 19, az 20, az 21, az 22, az 23, az 24, az 25, az 26, az 27, az 28, az 29, az 30, az 31, az 32, az 33, az 34, az 35, az 36, az 37, az 38, az 39, az 40, az 41, az 42, az 43, az 44, az 45, az 46, az 47, az 48, az 49, az 50, az 51, az 52, az 53, az 54, az 55, az 56, az 57, az 58, az 59, az 60, az 61, az 62, az 63, az 64, az 65, az 66, az 67, az 68, az 69, az 70, az 71, az 72, az 73, az 74, az 75] := pat_fill hpat
  clear hpat
  obtain ⟨x, hx⟩ : ∃ x, x = nb R := ⟨_, rfl⟩
  have hxs : x.size ≤ 549755813888 := by
   rw [hx, nb_size]; exact Nat.le_trans (nby_mono (Nat.le_of_lt hI.lt)) hp.2.1
  rw [← hx]
  conv => whnf
  rw [← hn]
  refine br_intro (fun h2 => ?_) (fun h2 => ?_)
  ·have h2 : i < n := by
    have := of_decide_eq_true h2
    omega
   have e7 : IntKind.i64.wrap ((i : Int) + 1) = ((i + 1 : Nat) : Int) := by rw [wrapi64 (by omega) (by omega)]; rfl
   obtain ⟨y, hy⟩ : ∃ y, y = s.extract i (i + 1) := ⟨_, rfl⟩
   obtain ⟨hy1, hy2⟩ := trim_byte R (s := s) (i := i) (by omega)
   obtain ⟨R', hR'⟩ : ∃ R', R' = R * 256 + byteAt s i := ⟨_, rfl⟩
   have hS := divStep_start hI (by omega)
   rw [← hR'] at hy1 hS
   rw [← hy, ← hx] at hy1 hy2
   have hnx : nby R ≤ 549755813888 := by rw [← nb_size, ← hx]; exact hxs
   have hys : y.size = 1 := by
    have : (x ++ y).size = x.size + y.size := ByteArray.size_append
    have hxR : x.size = nby R := by rw [hx, nb_size]
    omega
   conv => whnf
   rw [e7]
   refine ⟨⟨by omega, by omega, by omega⟩, ?_⟩
   simp only [toNat_cast]
   conv => whnf
   rw [← hy]
   refine ⟨by omega, ?_⟩
   conv => whnf
   refine ⟨x ++ y, rfl, by show (x ++ y).size ≤ _; omega, ?_⟩
   rw [show stripS.val (x ++ y) = .string (nb R') from by rw [← hy1]; rfl]
   conv => whnf
   have hRs : nby R' ≤ 549755813889 := Nat.le_trans (nby_mono (Nat.le_of_lt hS.lt)) (Nat.le_trans (nby_times (Nat.le_refl _)) (by omega))
   refine .inl ⟨fun mm tz hz => ∃ (k : Nat) (d : Nat) (R : Nat), Pat [some (.string s), none, none, none, none, none, some (.pointer (some ⟨0, 0, none⟩)), none, some (.slice (some ⟨1, 0, none⟩) n n), some (.string (nb R)), some (.int .i64 i), some (.int .i64 d), some (.int .i64 (IntKind.i64.wrap ((k : Int) - 1))), none, none, none, none, none, none, none, none, none, none, none, none, none, none, none, none, none, none, none, none, none, none, none, none, none, none, none, none, none, none, none, none, none, none, none, none, none, none, none, none, none, none, none, none, none, none, none, none, none, none, none, none, none, none, none, none, none, none, none, none, none, none, none] tz ∧ hz = [some (.flat true 8 1 g), some (.flat true n 1 e)] ∧ k = mm ∧ (k ≤ 8 ∧ DivStep D R' k d R), .inr ⟨[0, 1], [0, 6, 8, 9, 10, 11, 12], ?_⟩, ?_⟩
   ·conv => whnf
    intro _
    conv => whnf
    refine ⟨_, 8, 0, R', (.keep (.skip (.skip (.skip (.skip (.skip (.keep (.skip (.keep (.keep (.keep (.keep (.keep (.s8 (.s8 (.s8 (.s8 (.s8 (.s8 (.s8 (.skip (.skip (.skip (.skip (.skip (.skip (.skip (.nil)))))))))))))))))))))))))))), rfl, rfl, ?_⟩
    exact ⟨Nat.le_refl _, hS⟩
   rintro mm tms _ ⟨k, d, R, hpat, rfl, rfl, ⟨hk, hS⟩⟩
   obtain ⟨az, rfl⟩ : ∃ az : Nat → Value, tms = [.string s, az 1, az 2, az 3, az 4, az 5, .pointer (some ⟨0, 0, none⟩), az 7, .slice (some ⟨1, 0, none⟩) n n, .string (nb R), .int .i64 i, .int .i64 d, .int .i64 (IntKind.i64.wrap ((k : Int) - 1)), az 13, az 14, az 15, az 16, az 17, az 18, az 19, az 20, az 21, az 22, az 23, az 24, az 25, az 26, az 27, az 28, az 29, az 30, az 31, az 32, az 33, az 34, az 35, az 36, az 37, az 38, az 39, az 40, az 41, az 42, az 43, az 44, az 45, az 46, az 47, az 48, az 49, az 50, az 51, az 52, az 53, az 54, az 55, az 56, az 57, az 58, az 59, az 60, az 61, az 62, az 63, az 64, az 65, az 66, az 67, az 68, az 69, az 70, az 71, az 72, az 73, az 74, az 75] := pat_fill hpat
   clear hpat
   obtain ⟨x, hx⟩ : ∃ x, x = nb R := ⟨_, rfl⟩
   have hxs : x.size ≤ 549755813889 := by
    rw [hx, nb_size]
    exact Nat.le_trans (nby_mono (by have := hS.eq; omega)) hRs
   rw [← hx]
   conv => whnf
   refine br_intro (fun h3 => ?_) (fun h3 => ?_)
   ·obtain ⟨j, rfl⟩ : ∃ j, k = j + 1 := by
     rcases Nat.eq_zero_or_pos k with h | h
     ·subst h; exact absurd h3 (by decide)
     ·exact ⟨k - 1, by omega⟩
    have ek : IntKind.i64.wrap (((j + 1 : Nat) : Int) - 1) = (j : Int) := by rw [wrapi64 (by omega) (by omega)]; omega
    rw [ek]
    obtain ⟨T, hT⟩ : ∃ T, T = 2 ^ j * D := ⟨_, rfl⟩
    obtain ⟨y, hy⟩ : ∃ y, y = nb T := ⟨_, rfl⟩
    have hys : y.size ≤ 549755813889 := by
     rw [hy, hT, nb_size]; exact Nat.le_trans (nby_times (by omega)) (by omega)
    have hgj := ht.2 j (by omega)
    rw [← hT, ← hy] at hgj
    obtain ⟨p, hp2⟩ : ∃ p, p = 2 ^ j := ⟨_, rfl⟩
    have hsh := shl1 (k := j) (by omega)
    rw [← hp2] at hsh
    have hpl : d + p ≤ 256 := by
     have := hS.d
     rw [hp2]
     rw [Nat.pow_succ] at this
     omega
    have ed : IntKind.i64.wrap ((d : Int) + (p : Int)) = ((d + p : Nat) : Int) := by rw [wrapi64 (by omega) (by omega)]; omega
    conv => whnf
    refine ⟨⟨by omega, by omega⟩, ?_⟩
    simp only [toNat_cast, rowAdd_eq, Nat.zero_add]
    conv => whnf
    refine ⟨by show j < 8; omega, ?_⟩
    conv => whnf
    rw [hgj]
    conv => whnf
    refine ⟨(R, T), by rw [hx, hy]; rfl, ⟨by rw [← nb_size, ← hx]; omega, by show nby T ≤ _; rw [← nb_size, ← hy]; omega⟩, ?_⟩
    obtain ⟨c, hc⟩ : ∃ c, c = cmpN R T := ⟨_, rfl⟩
    rw [show cmpMagS.val (R, T) = .int .i64 c from by rw [hc]; rfl]
    conv => whnf
    refine br_intro (fun h4 => ?_) (fun h4 => ?_)
    ·have h4 : T ≤ R := by
      have := of_decide_eq_true h4
      rw [hc] at this
      unfold cmpN at this
      split at this
      ·omega
      ·omega
     have hst := divStep_yes hS (by rw [← hT]; exact h4)
     rw [← hT, ← hp2] at hst
     conv => whnf
     refine ⟨⟨by omega, by omega⟩, ?_⟩
     simp only [toNat_cast, rowAdd_eq, Nat.zero_add]
     conv => whnf
     refine ⟨by show j < 8; omega, ?_⟩
     conv => whnf
     rw [hgj]
     conv => whnf
     refine ⟨(x, y), rfl, ⟨⟨by show x.size ≤ _; omega, by show y.size ≤ _; omega⟩, by show bnat y ≤ bnat x; rw [hx, hy, bnat_nb, bnat_nb]; exact h4⟩, ?_⟩
     rw [show subMagS.val (x, y) = .string (nb (R - T)) from by show Value.string (nb (bnat x - bnat y)) = _; rw [hx, hy, bnat_nb, bnat_nb]]
     conv => whnf
     simp only [hsh, ed]
     refine .inr ⟨[0, 1], [0, 6, 8, 9, 10, 11, 12], ?_⟩
     conv => whnf
     intro _
     conv => whnf
     refine ⟨_, ?_, j, d + p, R - T, (.keep (.skip (.skip (.skip (.skip (.skip (.keep (.skip (.keep (.keep (.keep (.keep (.keep (.s8 (.s8 (.s8 (.s8 (.s8 (.s8 (.s8 (.skip (.skip (.skip (.skip (.skip (.skip (.skip (.nil)))))))))))))))))))))))))))), rfl, rfl, ?_⟩
     ·omega
     ·exact ⟨by omega, hst⟩
    ·have h4 : R < T := by
      have := of_decide_eq_false h4
      rw [hc] at this
      unfold cmpN at this
      split at this
      ·assumption
      ·split at this <;> omega
     have hst := divStep_no hS (by rw [← hT]; exact h4)
     conv => whnf
     rw [hx]
     refine .inr ⟨[0, 1], [0, 6, 8, 9, 10, 11, 12], ?_⟩
     conv => whnf
     intro _
     conv => whnf
     refine ⟨_, ?_, j, d, R, (.keep (.skip (.skip (.skip (.skip (.skip (.keep (.skip (.keep (.keep (.keep (.keep (.keep (.s8 (.s8 (.s8 (.s8 (.s8 (.s8 (.s8 (.skip (.skip (.skip (.skip (.skip (.skip (.skip (.nil)))))))))))))))))))))))))))), rfl, rfl, ?_⟩
     ·omega
     ·exact ⟨by omega, hst⟩
   ·have h3 : k = 0 := by
     have := of_decide_eq_false h3
     rcases Nat.eq_zero_or_pos k with h | h
     ·exact h
     ·rw [wrapi64 (by omega) (by omega)] at this
      omega
    subst h3
    have hd : d < 256 := by have := hS.d; omega
    have hst := divInv_step hI (by omega) (by rw [← hR']; exact hS)
    have hrow := qRows_step he h2 hd
    obtain ⟨y, hy⟩ := he.1 i h2
    conv => whnf
    refine ⟨⟨by omega, by omega⟩, ?_⟩
    simp only [toNat_cast, rowAdd_eq, Nat.zero_add]
    conv => whnf
    refine ⟨by show i < n; omega, ?_⟩
    conv => whnf
    rw [hy]
    conv => whnf
    simp only [u8_of hd, e7]
    rw [hx]
    skip
    refine .inr ⟨[0, 1], [0, 6, 8, 9, 10], ?_⟩
    conv => whnf
    intro _
    conv => whnf
    refine ⟨_, ?_, i + 1, Q * 256 + d, R, _, (.keep (.skip (.skip (.skip (.skip (.skip (.keep (.skip (.keep (.keep (.keep (.s8 (.s8 (.s8 (.s8 (.s8 (.s8 (.s8 (.s8 (.skip (.nil))))))))))))))))))))), rfl, rfl, ?_⟩
    ·omega
    ·exact ⟨by omega, hst, hrow⟩
  ·have h2 : i = n := by
    have := of_decide_eq_false h2
    omega
   subst h2
   obtain ⟨hQ, hR⟩ := divInv_end (by rw [← hn]; exact hI)
   obtain ⟨v, hv, hvs, hvn⟩ := qRows_end he hI.q
   conv => whnf
   have fin : Value.tuple ⟨[.string (nb Q), .string x]⟩ = divMagS.val (s, D) := by rw [hx, hQ, hR]; rfl
   rcases Nat.eq_zero_or_pos i with h0 | h0
   ·subst h0
    conv => whnf
    have e0 : v = ⟨#[]⟩ := hv.symm
    subst e0
    refine ⟨⟨#[]⟩, rfl, Nat.zero_le _, ?_⟩
    rw [show stripS.val ⟨#[]⟩ = .string (nb Q) from by show Value.string (nb (bnat ⟨#[]⟩)) = _; rw [hvn]]
    conv => whnf
    exact fin
   ·obtain ⟨k, rfl⟩ : ∃ k, i = k + 1 := ⟨i - 1, by omega⟩
    conv => whnf
    refine ⟨⟨by show 0 + (k + 1) ≤ k + 1; omega, fun r hr => by show ∃ x, e (0 + r) = _; rw [Nat.zero_add]; exact he.1 r hr⟩, ?_⟩
    rw [show (Blk.flat true (k + 1) 1 e).row = e from rfl, hv]
    conv => whnf
    refine ⟨v, rfl, by show v.size ≤ _; omega, ?_⟩
    rw [show stripS.val v = .string (nb Q) from by show Value.string (nb (bnat v)) = _; rw [hvn]]
    conv => whnf
    exact fin
end Go.Proofs.YtppeponndkfbkaaGreat
