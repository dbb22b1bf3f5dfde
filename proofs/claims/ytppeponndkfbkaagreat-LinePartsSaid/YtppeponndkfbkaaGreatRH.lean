import Derived.Test.YtppeponndkfbkaaGreatRG
set_option linter.unusedVariables false
set_option linter.unusedSimpArgs false
/- Contracts of bigint: machine integers, products, signs. -/
set_option maxRecDepth 20000
set_option maxHeartbeats 1000000
namespace Go.Proofs.YtppeponndkfbkaaGreat
open Go Go.Ae
theorem little_ok : Snd Tryz.prog 157 littleS := by
 refine snd_of Eaok Dok Tryz.func157 (enters_of Tryz.func157 (by kernel_rfl) rfl) (fun _ => rfl) (fun _ => rfl) ?_
 intro ⟨b, s⟩ hp
 have hp : s.size ≤ 549755813888 := hp
 conv => whnf
 refine br_intro (fun h1 => ?_) (fun h1 => ?_)
 ·have h1 : ¬ s.size ≤ 7 := by
   have h1 := of_decide_eq_true h1
   have h1 : ((s.size : Nat) : Int) > 7 := h1
   omega
  conv => whnf
  simp only [littleS, h1, if_false, decide_false]
 ·have h1 : s.size ≤ 7 := by
   have h1 := of_decide_eq_false h1
   have h1 : ¬ ((s.size : Nat) : Int) > 7 := h1
   omega
  have h1' := h1
  conv => whnf
  refine .inl ⟨fun mm tz hz => ∃ (i : Nat) (N : Nat), Pat [none, some (.pointer (some ⟨0, 0, none⟩)), some (.int .i64 0), some (.bool false), some (.int .i64 N), none, none, none, none, none, none, none, some (.int .i64 s.size), some (.int .i64 i), none, none, none, none, none, none, none, none, none, none, none, none, none, none, none, none] tz ∧ hz = [some (.expl true 2 [[.bool b, .string s]])] ∧ s.size - i = mm ∧ (i ≤ s.size ∧ N = bnat s / C ^ (s.size - i)), .inl ⟨_, 0, 0, (.skip (.keep (.keep (.keep (.keep (.skip (.skip (.skip (.skip (.skip (.skip (.skip (.keep (.keep (.s8 (.s8 (.nil))))))))))))))))), rfl, rfl, ?_⟩, ?_⟩
  ·exact ⟨Nat.zero_le _, by rw [Nat.sub_zero, Nat.div_eq_of_lt (bnat_lt s)]⟩
  rintro mm tms _ ⟨i, N, hpat, rfl, rfl, ⟨hi, hN⟩⟩
  obtain ⟨az, rfl⟩ : ∃ az : Nat → Value, tms = [az 0, .pointer (some ⟨0, 0, none⟩), .int .i64 0, .bool false, .int .i64 N, az 5, az 6, az 7, az 8, az 9, az 10, az 11, .int .i64 s.size, .int .i64 i, az 14, az 15, az 16, az 17, az 18, az 19, az 20, az 21, az 22, az 23, az 24, az 25, az 26, az 27, az 28, az 29] := pat_fill hpat
  clear hpat
  have hlt := pre_lt s hi
  rw [← hN] at hlt
  have hlC := hlt
  have hlt := Nat.lt_of_lt_of_le hlt (pow7 (show i ≤ 7 by omega))
  conv => whnf
  refine br_intro (fun h2 => ?_) (fun h2 => ?_)
  ·have h2 : i < s.size := by simpa using h2
   have hst := pre_step h2
   rw [← hN] at hst
   have hb : byteAt s i < 256 := byteAt_lt s i
   have eN : ((N : Nat) : Int) * 256 + ((byteAt s i : Nat) : Int) = ((N * 256 + byteAt s i : Nat) : Int) := by omega
   conv => whnf
   refine ⟨⟨by omega, by omega⟩, ?_⟩
   try simp (disch := omega) only [wrapi64, wrapu64, wrapu32, wrapu8, shr_u64_32, shr_u64_31, shl_u64_32, shl_i64_8, shr_i64_8, shr_u32_8, shr_u32_16, shr_u32_24, or_word', or_byte', toNat_cast, rowAdd_eq, Nat.zero_add, capSub_zero, toNat_0, toNat_1, Nat.sub_zero, sub1c, add1c, subc, addc, tdiv4, tmod4, cast_mul8, mul8c]
   conv => whnf
   have e3 : IntKind.i64.wrap (((i : Nat) : Int) + 1) = ((i + 1 : Nat) : Int) := by rw [wrapi64 (by omega) (by omega)]; rfl
   have hl6 := Nat.lt_of_lt_of_le hlC (pow6 (show i ≤ 6 by omega))
   rw [byte_in (by omega) hb, e3]
   refine .inl ⟨_, ?_, i + 1, N * 256 + byteAt s i, (.skip (.keep (.keep (.keep (.keep (.skip (.skip (.skip (.skip (.skip (.skip (.skip (.keep (.keep (.s8 (.s8 (.nil))))))))))))))))), rfl, rfl, ?_⟩
   ·omega
   ·exact ⟨by omega, hst.symm⟩
  ·have h2 : i = s.size := by
    have h2 : ¬ i < s.size := by simpa using h2
    omega
   subst h2
   rw [Nat.sub_self, Nat.pow_zero, Nat.div_one] at hN
   subst hN
   cases b with
   | true =>
    conv => whnf
    try simp (disch := omega) only [wrapi64, wrapu64, wrapu32, wrapu8, shr_u64_32, shr_u64_31, shl_u64_32, shl_i64_8, shr_i64_8, shr_u32_8, shr_u32_16, shr_u32_24, or_word', or_byte', toNat_cast, rowAdd_eq, Nat.zero_add, capSub_zero, toNat_0, toNat_1, Nat.sub_zero, sub1c, add1c, subc, addc, tdiv4, tmod4, cast_mul8, mul8c]
    have e : IV.z (true, s) = -(bnat s : Int) := rfl
    simp only [littleS, e, h1', if_true, decide_true, Int.zero_sub]
   | false =>
    conv => whnf
    have e : IV.z (false, s) = (bnat s : Int) := rfl
    simp only [littleS, e, h1', if_true, decide_true]
def Ei : Env := { tt := tt, eqs := [], Φ := fun g => match g with
 | 116 => some (.q packS)
 | 124 => some (.q loadS)
 | 140 => some (.q timesS)
 | 125 => some (.q compareS)
 | 157 => some (.p littleS)
 | _ => none }
theorem Eiok : EnvOk Tryz.prog Ei := ⟨tt_ok, fun t h => by simp [Ei] at h, (fun g S h => by
 simp only [Ei] at h
 split at h
 ·cases h; exact pack_ok
 ·cases h; exact load_ok
 ·cases h; exact times_ok
 ·cases h; exact compare_ok
 ·cases h; exact little_ok
 ·cases h), fun g F h => by simp [Ei] at h⟩
theorem of_ok : Snd Tryz.prog 81 ofS := by
 refine snd_of Eiok Dok Tryz.func81 (enters_of Tryz.func81 (by kernel_rfl) rfl) (fun _ => rfl) (fun _ => rfl) ?_
 intro (n : Int) hp
 have hp : -9223372036854775808 ≤ n ∧ n < 9223372036854775808 := hp
 conv => whnf
 obtain ⟨N, hN⟩ : ∃ N : Nat, N = n.natAbs := ⟨_, rfl⟩
 have hNB : N < 18446744073709551616 := by omega
 have hl := limb_u64 hNB
 refine br_intro (fun h1 => ?_) (fun h1 => ?_)
 ·have h1 : n < 0 := of_decide_eq_true h1
  have e1 : IntKind.u64.wrap (0 - IntKind.u64.wrap n) = (N : Int) := by
   rw [wrapu64', wrapu64']; omega
  conv => whnf
  simp only [e1]
  refine ⟨(decide (n < 0), some (2, N, 2)), [1], rfl, ⟨nl_u64 hNB, by decide⟩, ?_⟩
  conv => whnf
  refine ⟨two_rows hNB, ?_⟩
  conv => whnf
  refine ⟨_, rfl, ?_⟩
  conv => whnf
  show encS (decide (n < 0)) N = encI n
  rw [encS_eq]
  congr 1
  simp only [valI, h1, decide_true, decide_false, if_true, Bool.false_eq_true, if_false]
  omega
 ·have h1 : ¬ n < 0 := of_decide_eq_false h1
  have e1 : IntKind.u64.wrap n = (N : Int) := by
   rw [wrapu64']; omega
  conv => whnf
  simp only [e1]
  refine ⟨(decide (n < 0), some (2, N, 2)), [1], rfl, ⟨nl_u64 hNB, by decide⟩, ?_⟩
  conv => whnf
  refine ⟨two_rows hNB, ?_⟩
  conv => whnf
  refine ⟨_, rfl, ?_⟩
  conv => whnf
  show encS (decide (n < 0)) N = encI n
  rw [encS_eq]
  congr 1
  simp only [valI, h1, decide_true, decide_false, if_true, Bool.false_eq_true, if_false]
  omega
theorem mul_ok : Snd Tryz.prog 98 mulS := by
 refine snd_of Eiok Dok Tryz.func98 (enters_of Tryz.func98 (by kernel_rfl) rfl) (fun _ => rfl) (fun _ => rfl) ?_
 intro ⟨⟨b, s⟩, ⟨c, t⟩⟩ hp
 have hp : s.size ≤ 549755813888 ∧ t.size ≤ 549755813888 := hp
 conv => whnf
 refine .inl ⟨12, [[], [0], [], [2], [0, 1, 2, 3], [], [5], [5, 6], [], [8], [5, 6, 7, 8, 9], [5, 6, 7, 8, 9, 10], [0, 1, 2, 3, 4, 5, 6, 7, 8, 9, 10, 11], [0, 1, 2, 3, 4, 5, 6, 7, 8, 9, 10, 11, 12]], by kernel_rfl, ?_⟩
 conv => whnf
 refine ⟨s, [], rfl, by show s.size ≤ 1099511627776; omega, ?_⟩
 conv => whnf
 refine ⟨_, rfl, ?_⟩
 conv => whnf
 refine ⟨t, [], rfl, by show t.size ≤ 1099511627776; omega, ?_⟩
 conv => whnf
 refine ⟨_, rfl, ?_⟩
 conv => whnf
 refine ⟨(bnat s, capU, bnat t, capU), [10, 13], rfl, ⟨IV.nl (i := (b, s)) hp.1, IV.nl (i := (c, t)) hp.2⟩, ?_⟩
 conv => whnf
 refine ⟨BlkLe.flat_flat (fun h => h) (fun r hr => rfl), ?_⟩
 conv => whnf
 refine ⟨BlkLe.flat_flat (fun h => h) (fun r hr => rfl), ?_⟩
 conv => whnf
 refine ⟨_, rfl, ?_⟩
 conv => whnf
 have hAn := IV.nl (i := (b, s)) hp.1
 have hDn := IV.nl (i := (c, t)) hp.2
 have hAn : nl (bnat s) ≤ 137438953472 := hAn
 have hDn : nl (bnat t) ≤ 137438953472 := hDn
 have hmul := nl_mul_le (bnat s) (bnat t)
 refine ⟨(b != c, some (nl (bnat s * bnat t), bnat s * bnat t, capU)), [14], rfl, ⟨lt_nl _, by omega⟩, ?_⟩
 conv => whnf
 refine ⟨BlkLe.flat_flat (fun h => h) (fun r hr => rfl), ?_⟩
 conv => whnf
 refine ⟨_, rfl, ?_⟩
 conv => whnf
 show encS (b != c) (bnat s * bnat t) = _
 rw [encS_eq, valI_mul]
 rfl
end Go.Proofs.YtppeponndkfbkaaGreat
/- Contracts of bigint: sum, difference, comparison. -/
set_option maxRecDepth 20000
set_option maxHeartbeats 1000000
namespace Go.Proofs.YtppeponndkfbkaaGreat
open Go Go.Ae
theorem neg_ok : Snd Tryz.prog 139 negS := by
 refine snd_of Eiok Dok Tryz.func139 (enters_of Tryz.func139 (by kernel_rfl) rfl) (fun _ => rfl) (fun _ => rfl) ?_
 intro ⟨b, s⟩ hp
 have hp : s.size ≤ 549755813888 := hp
 have hAn : nl (bnat s) ≤ 137438953472 := IV.nl (i := (b, s)) hp
 conv => whnf
 refine .inl ⟨6, [[], [0], [0, 1], [], [3], [3, 4], [0, 1, 2, 3, 4, 5], [0, 1, 2, 3, 4, 5, 6]], by kernel_rfl, ?_⟩
 conv => whnf
 refine ⟨s, [], rfl, by show s.size ≤ 1099511627776; omega, ?_⟩
 conv => whnf
 refine ⟨_, rfl, ?_⟩
 conv => whnf
 refine ⟨(!b, some (nl (bnat s), bnat s, capU)), [7], rfl, ⟨lt_nl _, by omega⟩, ?_⟩
 conv => whnf
 refine ⟨BlkLe.flat_flat (fun h => h) (fun r hr => rfl), ?_⟩
 conv => whnf
 refine ⟨_, rfl, ?_⟩
 conv => whnf
 show encS (!b) (bnat s) = _
 rw [encS_eq, valI_neg]
 rfl
def Ej : Env := { tt := tt, eqs := [], Φ := fun g => match g with
 | 116 => some (.q packS)
 | 124 => some (.q loadS)
 | 158 => some (.q plusS)
 | 159 => some (.q minusS)
 | 125 => some (.q compareS)
 | 157 => some (.p littleS)
 | 81 => some (.p ofS)
 | _ => none }
theorem Ejok : EnvOk Tryz.prog Ej := ⟨tt_ok, fun t h => by simp [Ej] at h, (fun g S h => by
 simp only [Ej] at h
 split at h
 ·cases h; exact pack_ok
 ·cases h; exact load_ok
 ·cases h; exact plus_ok
 ·cases h; exact minus_ok
 ·cases h; exact compare_ok
 ·cases h; exact little_ok
 ·cases h; exact of_ok
 ·cases h), fun g F h => by simp [Ej] at h⟩
theorem add_ok : Snd Tryz.prog 132 addS := by
 refine snd_of Ejok Dok Tryz.func132 (enters_of Tryz.func132 (by kernel_rfl) rfl) (fun _ => rfl) (fun _ => rfl) ?_
 intro ⟨⟨b, s⟩, ⟨c, t⟩⟩ hp
 have hp : s.size ≤ 549755813888 ∧ t.size ≤ 549755813888 := hp
 have hAn : nl (bnat s) ≤ 137438953472 := IV.nl (i := (b, s)) hp.1
 have hDn : nl (bnat t) ≤ 137438953472 := IV.nl (i := (c, t)) hp.2
 conv => whnf
 refine ⟨(b, s), rfl, hp.1, ?_⟩
 conv => whnf
 refine br_intro (fun h1 => ?_) (fun h1 => ?_)
 ·have h1 : s.size ≤ 7 := of_decide_eq_true h1
  conv => whnf
  refine ⟨(c, t), rfl, hp.2, ?_⟩
  conv => whnf
  refine br_intro (fun h2 => ?_) (fun h2 => ?_)
  ·have h2 : t.size ≤ 7 := of_decide_eq_true h2
   conv => whnf
   have z1 := small_z (i := (b, s)) h1
   have z2 := small_z (i := (c, t)) h2
   have ew : IntKind.i64.wrap ((if (b, s).snd.size ≤ 7 then IV.z (b, s) else 0) + if (c, t).snd.size ≤ 7 then IV.z (c, t) else 0) = IV.z (b, s) + IV.z (c, t) := by
    rw [if_pos h1, if_pos h2]
    exact wrapi64 (by omega) (by omega)
   rw [ew]
   refine ⟨IV.z (b, s) + IV.z (c, t), rfl, ⟨by omega, by omega⟩, ?_⟩
   conv => whnf
   rfl
  ·conv => whnf
   refine .inl ⟨5, [[], [0], [0, 1], [], [3], [0, 1, 2, 3, 4], [0, 1, 2, 3, 4, 5], [0, 1, 2, 3, 4, 5, 6]], by kernel_rfl, ?_⟩
   conv => whnf
   refine ⟨s, [], rfl, by show s.size ≤ 1099511627776; omega, ?_⟩
   conv => whnf
   refine ⟨_, rfl, ?_⟩
   conv => whnf
   refine ⟨t, [], rfl, by show t.size ≤ 1099511627776; omega, ?_⟩
   conv => whnf
   refine ⟨_, rfl, ?_⟩
   conv => whnf
   refine br_intro (fun h5 => ?_) (fun h5 => ?_)
   ·have h5 : b = c := eq_of_beq h5
    conv => whnf
    refine .inl ⟨5, [[], [0], [], [], [2, 3], [0, 1, 2, 3, 4], [0, 1, 2, 3, 4, 5]], by kernel_rfl, ?_⟩
    conv => whnf
    refine ⟨(bnat s, capU, bnat t, capU), [5, 8], rfl, ⟨hAn, hDn⟩, ?_⟩
    conv => whnf
    refine ⟨BlkLe.flat_flat (fun h => h) (fun r hr => rfl), ?_⟩
    conv => whnf
    refine ⟨BlkLe.flat_flat (fun h => h) (fun r hr => rfl), ?_⟩
    conv => whnf
    refine ⟨_, rfl, ?_⟩
    conv => whnf
    have hal := nl_add_le (bnat s) (bnat t)
    refine ⟨(b, some (nl (bnat s + bnat t), bnat s + bnat t, capU)), [13], rfl, ⟨lt_nl _, by omega⟩, ?_⟩
    conv => whnf
    refine ⟨BlkLe.flat_flat (fun h => h) (fun r hr => rfl), ?_⟩
    conv => whnf
    refine ⟨_, rfl, ?_⟩
    conv => whnf
    show encS b (bnat s + bnat t) = encI (IV.z (b, s) + IV.z (c, t))
    rw [encS_eq, valI_same, h5]
    rfl
   ·have h5 : b ≠ c := by
     intro e
     subst e
     cases b <;> cases h5
    conv => whnf
    refine ⟨(bnat s, capU, bnat t, capU), [5, 8], rfl, ⟨hAn, hDn⟩, ?_⟩
    conv => whnf
    refine ⟨BlkLe.flat_flat (fun h => h) (fun r hr => rfl), ?_⟩
    conv => whnf
    refine ⟨BlkLe.flat_flat (fun h => h) (fun r hr => rfl), ?_⟩
    conv => whnf
    refine ⟨_, rfl, ?_⟩
    conv => whnf
    refine br_intro (fun h6 => ?_) (fun h6 => ?_)
    ·have h6 : bnat s ≤ bnat t := by
      have h6 : cmpN (bnat s) (bnat t) < 0 := of_decide_eq_true h6
      unfold cmpN at h6
      split at h6
      ·omega
      ·split at h6 <;> omega
     have hml := nl_mono (Nat.sub_le (bnat t) (bnat s))
     conv => whnf
     refine .inl ⟨5, [[], [0], [], [], [2, 3], [0, 1, 2, 3, 4], [0, 1, 2, 3, 4, 5]], by kernel_rfl, ?_⟩
     conv => whnf
     refine ⟨(bnat t, capU, bnat s, capU), [8, 5], rfl, ⟨⟨hDn, hAn⟩, h6⟩, ?_⟩
     conv => whnf
     refine ⟨BlkLe.flat_flat (fun h => h) (fun r hr => rfl), ?_⟩
     conv => whnf
     refine ⟨BlkLe.flat_flat (fun h => h) (fun r hr => rfl), ?_⟩
     conv => whnf
     refine ⟨_, rfl, ?_⟩
     conv => whnf
     refine ⟨(c, some (nl (bnat t - bnat s), bnat t - bnat s, capU)), [13], rfl, ⟨lt_nl _, by omega⟩, ?_⟩
     conv => whnf
     refine ⟨BlkLe.flat_flat (fun h => h) (fun r hr => rfl), ?_⟩
     conv => whnf
     refine ⟨_, rfl, ?_⟩
     conv => whnf
     show encS c (bnat t - bnat s) = encI (IV.z (b, s) + IV.z (c, t))
     rw [encS_eq, valI_diff (Ne.symm h5) h6, Int.add_comm]
     rfl
    ·have h6 : bnat t ≤ bnat s := by
      have h6 : ¬ cmpN (bnat s) (bnat t) < 0 := of_decide_eq_false h6
      unfold cmpN at h6
      split at h6
      ·omega
      ·split at h6 <;> omega
     have hml := nl_mono (Nat.sub_le (bnat s) (bnat t))
     conv => whnf
     refine .inl ⟨5, [[], [0], [], [], [2, 3], [0, 1, 2, 3, 4], [0, 1, 2, 3, 4, 5]], by kernel_rfl, ?_⟩
     conv => whnf
     refine ⟨(bnat s, capU, bnat t, capU), [5, 8], rfl, ⟨⟨hAn, hDn⟩, h6⟩, ?_⟩
     conv => whnf
     refine ⟨BlkLe.flat_flat (fun h => h) (fun r hr => rfl), ?_⟩
     conv => whnf
     refine ⟨BlkLe.flat_flat (fun h => h) (fun r hr => rfl), ?_⟩
     conv => whnf
     refine ⟨_, rfl, ?_⟩
     conv => whnf
     refine ⟨(b, some (nl (bnat s - bnat t), bnat s - bnat t, capU)), [13], rfl, ⟨lt_nl _, by omega⟩, ?_⟩
     conv => whnf
     refine ⟨BlkLe.flat_flat (fun h => h) (fun r hr => rfl), ?_⟩
     conv => whnf
     refine ⟨_, rfl, ?_⟩
     conv => whnf
     show encS b (bnat s - bnat t) = encI (IV.z (b, s) + IV.z (c, t))
     rw [encS_eq, valI_diff h5 h6]
     rfl
 ·conv => whnf
  refine .inl ⟨5, [[], [0], [0, 1], [], [3], [0, 1, 2, 3, 4], [0, 1, 2, 3, 4, 5], [0, 1, 2, 3, 4, 5, 6]], by kernel_rfl, ?_⟩
  conv => whnf
  refine ⟨s, [], rfl, by show s.size ≤ 1099511627776; omega, ?_⟩
  conv => whnf
  refine ⟨_, rfl, ?_⟩
  conv => whnf
  refine ⟨t, [], rfl, by show t.size ≤ 1099511627776; omega, ?_⟩
  conv => whnf
  refine ⟨_, rfl, ?_⟩
  conv => whnf
  refine br_intro (fun h5 => ?_) (fun h5 => ?_)
  ·have h5 : b = c := eq_of_beq h5
   conv => whnf
   refine .inl ⟨5, [[], [0], [], [], [2, 3], [0, 1, 2, 3, 4], [0, 1, 2, 3, 4, 5]], by kernel_rfl, ?_⟩
   conv => whnf
   refine ⟨(bnat s, capU, bnat t, capU), [5, 8], rfl, ⟨hAn, hDn⟩, ?_⟩
   conv => whnf
   refine ⟨BlkLe.flat_flat (fun h => h) (fun r hr => rfl), ?_⟩
   conv => whnf
   refine ⟨BlkLe.flat_flat (fun h => h) (fun r hr => rfl), ?_⟩
   conv => whnf
   refine ⟨_, rfl, ?_⟩
   conv => whnf
   have hal := nl_add_le (bnat s) (bnat t)
   refine ⟨(b, some (nl (bnat s + bnat t), bnat s + bnat t, capU)), [13], rfl, ⟨lt_nl _, by omega⟩, ?_⟩
   conv => whnf
   refine ⟨BlkLe.flat_flat (fun h => h) (fun r hr => rfl), ?_⟩
   conv => whnf
   refine ⟨_, rfl, ?_⟩
   conv => whnf
   show encS b (bnat s + bnat t) = encI (IV.z (b, s) + IV.z (c, t))
   rw [encS_eq, valI_same, h5]
   rfl
  ·have h5 : b ≠ c := by
    intro e
    subst e
    cases b <;> cases h5
   conv => whnf
   refine ⟨(bnat s, capU, bnat t, capU), [5, 8], rfl, ⟨hAn, hDn⟩, ?_⟩
   conv => whnf
   refine ⟨BlkLe.flat_flat (fun h => h) (fun r hr => rfl), ?_⟩
   conv => whnf
   refine ⟨BlkLe.flat_flat (fun h => h) (fun r hr => rfl), ?_⟩
   conv => whnf
   refine ⟨_, rfl, ?_⟩
   conv => whnf
   refine br_intro (fun h6 => ?_) (fun h6 => ?_)
   ·have h6 : bnat s ≤ bnat t := by
     have h6 : cmpN (bnat s) (bnat t) < 0 := of_decide_eq_true h6
     unfold cmpN at h6
     split at h6
     ·omega
     ·split at h6 <;> omega
    have hml := nl_mono (Nat.sub_le (bnat t) (bnat s))
    conv => whnf
    refine .inl ⟨5, [[], [0], [], [], [2, 3], [0, 1, 2, 3, 4], [0, 1, 2, 3, 4, 5]], by kernel_rfl, ?_⟩
    conv => whnf
    refine ⟨(bnat t, capU, bnat s, capU), [8, 5], rfl, ⟨⟨hDn, hAn⟩, h6⟩, ?_⟩
    conv => whnf
    refine ⟨BlkLe.flat_flat (fun h => h) (fun r hr => rfl), ?_⟩
    conv => whnf
    refine ⟨BlkLe.flat_flat (fun h => h) (fun r hr => rfl), ?_⟩
    conv => whnf
    refine ⟨_, rfl, ?_⟩
    conv => whnf
    refine ⟨(c, some (nl (bnat t - bnat s), bnat t - bnat s, capU)), [13], rfl, ⟨lt_nl _, by omega⟩, ?_⟩
    conv => whnf
    refine ⟨BlkLe.flat_flat (fun h => h) (fun r hr => rfl), ?_⟩
    conv => whnf
    refine ⟨_, rfl, ?_⟩
    conv => whnf
    show encS c (bnat t - bnat s) = encI (IV.z (b, s) + IV.z (c, t))
    rw [encS_eq, valI_diff (Ne.symm h5) h6, Int.add_comm]
    rfl
   ·have h6 : bnat t ≤ bnat s := by
     have h6 : ¬ cmpN (bnat s) (bnat t) < 0 := of_decide_eq_false h6
     unfold cmpN at h6
     split at h6
     ·omega
     ·split at h6 <;> omega
    have hml := nl_mono (Nat.sub_le (bnat s) (bnat t))
    conv => whnf
    refine .inl ⟨5, [[], [0], [], [], [2, 3], [0, 1, 2, 3, 4], [0, 1, 2, 3, 4, 5]], by kernel_rfl, ?_⟩
    conv => whnf
    refine ⟨(bnat s, capU, bnat t, capU), [5, 8], rfl, ⟨⟨hAn, hDn⟩, h6⟩, ?_⟩
    conv => whnf
    refine ⟨BlkLe.flat_flat (fun h => h) (fun r hr => rfl), ?_⟩
    conv => whnf
    refine ⟨BlkLe.flat_flat (fun h => h) (fun r hr => rfl), ?_⟩
    conv => whnf
    refine ⟨_, rfl, ?_⟩
    conv => whnf
    refine ⟨(b, some (nl (bnat s - bnat t), bnat s - bnat t, capU)), [13], rfl, ⟨lt_nl _, by omega⟩, ?_⟩
    conv => whnf
    refine ⟨BlkLe.flat_flat (fun h => h) (fun r hr => rfl), ?_⟩
    conv => whnf
    refine ⟨_, rfl, ?_⟩
    conv => whnf
    show encS b (bnat s - bnat t) = encI (IV.z (b, s) + IV.z (c, t))
    rw [encS_eq, valI_diff h5 h6]
    rfl
def Ek : Env := { tt := tt, eqs := [], Φ := fun g => match g with
 | 132 => some (.p addS)
 | _ => none }
theorem Ekok : EnvOk Tryz.prog Ek := ⟨tt_ok, fun t h => by simp [Ek] at h, (fun g S h => by
 simp only [Ek] at h
 split at h
 ·cases h; exact add_ok
 ·cases h), fun g F h => by simp [Ek] at h⟩
theorem sub_ok : Snd Tryz.prog 148 subS := by
 refine snd_of Ekok Dok Tryz.func148 (enters_of Tryz.func148 (by kernel_rfl) rfl) (fun _ => rfl) (fun _ => rfl) ?_
 intro ⟨⟨b, s⟩, ⟨c, t⟩⟩ hp
 have hp : s.size ≤ 549755813888 ∧ t.size ≤ 549755813888 := hp
 conv => whnf
 refine ⟨((b, s), (!c, t)), rfl, hp, ?_⟩
 conv => whnf
 show encI (IV.z (b, s) + valI (!c) (bnat t)) = encI (IV.z (b, s) - IV.z (c, t))
 rw [valI_neg]
 rfl
theorem cmp_ok : Snd Tryz.prog 88 cmpS := by
 refine snd_of Ejok Dok Tryz.func88 (enters_of Tryz.func88 (by kernel_rfl) rfl) (fun _ => rfl) (fun _ => rfl) ?_
 intro ⟨⟨b, s⟩, ⟨c, t⟩⟩ hp
 have hp : s.size ≤ 549755813888 ∧ t.size ≤ 549755813888 := hp
 have hAn : nl (bnat s) ≤ 137438953472 := IV.nl (i := (b, s)) hp.1
 have hDn : nl (bnat t) ≤ 137438953472 := IV.nl (i := (c, t)) hp.2
 conv => whnf
 refine .inl ⟨5, [[], [0], [0, 1], [], [3], [0, 1, 2, 3, 4], [0, 1, 2, 3, 4, 5], [0, 1, 2, 3, 4, 5, 6]], by kernel_rfl, ?_⟩
 conv => whnf
 refine ⟨s, [], rfl, by show s.size ≤ 1099511627776; omega, ?_⟩
 conv => whnf
 refine ⟨_, rfl, ?_⟩
 conv => whnf
 refine ⟨t, [], rfl, by show t.size ≤ 1099511627776; omega, ?_⟩
 conv => whnf
 refine ⟨_, rfl, ?_⟩
 conv => whnf
 have fin : ∀ (z : Int), z = cmpZ (IV.z (b, s)) (IV.z (c, t)) → Value.int .i64 z = cmpS.val ((b, s), (c, t)) := fun z h => by rw [h]; rfl
 cases b with
 | false =>
  conv => whnf
  cases c with
  | false =>
   conv => whnf
   refine ⟨(bnat s, capU, bnat t, capU), [4, 7], rfl, ⟨hAn, hDn⟩, ?_⟩
   conv => whnf
   refine ⟨BlkLe.flat_flat (fun h => h) (fun r hr => rfl), ?_⟩
   conv => whnf
   refine ⟨BlkLe.flat_flat (fun h => h) (fun r hr => rfl), ?_⟩
   conv => whnf
   refine ⟨_, rfl, ?_⟩
   conv => whnf
   exact fin _ (cmpZ_pos _ _).symm
  | true =>
   conv => whnf
   rcases Nat.eq_zero_or_pos (bnat t) with h1 | h1
   ·rw [dnl_zero h1]
    conv => whnf
    refine ⟨(bnat s, capU, bnat t, capU), [4, 7], rfl, ⟨hAn, hDn⟩, ?_⟩
    conv => whnf
    refine ⟨BlkLe.flat_flat (fun h => h) (fun r hr => rfl), ?_⟩
    conv => whnf
    refine ⟨BlkLe.flat_flat (fun h => h) (fun r hr => rfl), ?_⟩
    conv => whnf
    refine ⟨_, rfl, ?_⟩
    conv => whnf
    refine fin _ ?_
    show cmpN (bnat s) (bnat t) = cmpZ ((bnat s : Nat) : Int) (-((bnat t : Nat) : Int))
    rw [h1]
    exact (cmpZ_pos _ 0).symm
   ·rw [dnl_pos h1]
    conv => whnf
    exact fin _ (cmpZ_gt (show -((bnat t : Nat) : Int) < ((bnat s : Nat) : Int) by omega)).symm
 | true =>
  conv => whnf
  rcases Nat.eq_zero_or_pos (bnat s) with h2 | h2
  ·try rw [dnl_zero h2]
   cases c with
   | false =>
    conv => whnf
    try rw [dnl_zero h2]
    conv => whnf
    refine ⟨(bnat s, capU, bnat t, capU), [4, 7], rfl, ⟨hAn, hDn⟩, ?_⟩
    conv => whnf
    refine ⟨BlkLe.flat_flat (fun h => h) (fun r hr => rfl), ?_⟩
    conv => whnf
    refine ⟨BlkLe.flat_flat (fun h => h) (fun r hr => rfl), ?_⟩
    conv => whnf
    refine ⟨_, rfl, ?_⟩
    conv => whnf
    refine fin _ ?_
    show cmpN (bnat s) (bnat t) = cmpZ (-((bnat s : Nat) : Int)) ((bnat t : Nat) : Int)
    rw [h2]
    exact (cmpZ_pos 0 _).symm
   | true =>
    conv => whnf
    try rw [dnl_zero h2]
    conv => whnf
    rcases Nat.eq_zero_or_pos (bnat t) with h1 | h1
    ·rw [dnl_zero h1]
     conv => whnf
     refine ⟨(bnat s, capU, bnat t, capU), [4, 7], rfl, ⟨hAn, hDn⟩, ?_⟩
     conv => whnf
     refine ⟨BlkLe.flat_flat (fun h => h) (fun r hr => rfl), ?_⟩
     conv => whnf
     refine ⟨BlkLe.flat_flat (fun h => h) (fun r hr => rfl), ?_⟩
     conv => whnf
     refine ⟨_, rfl, ?_⟩
     conv => whnf
     refine fin _ ?_
     show cmpN (bnat s) (bnat t) = cmpZ (-((bnat s : Nat) : Int)) (-((bnat t : Nat) : Int))
     rw [h1, h2]
     rfl
    ·rw [dnl_pos h1]
     conv => whnf
     exact fin _ (cmpZ_gt (show -((bnat t : Nat) : Int) < -((bnat s : Nat) : Int) by omega)).symm
  ·try rw [dnl_pos h2]
   cases c with
   | false =>
    conv => whnf
    try rw [dnl_pos h2]
    conv => whnf
    exact fin _ (cmpZ_lt (show -((bnat s : Nat) : Int) < ((bnat t : Nat) : Int) by omega)).symm
   | true =>
    conv => whnf
    try rw [dnl_pos h2]
    conv => whnf
    rcases Nat.eq_zero_or_pos (bnat t) with h1 | h1
    ·rw [dnl_zero h1]
     conv => whnf
     exact fin _ (cmpZ_lt (show -((bnat s : Nat) : Int) < -((bnat t : Nat) : Int) by omega)).symm
    ·rw [dnl_pos h1]
     conv => whnf
     refine ⟨(bnat t, capU, bnat s, capU), [7, 4], rfl, ⟨hDn, hAn⟩, ?_⟩
     conv => whnf
     refine ⟨BlkLe.flat_flat (fun h => h) (fun r hr => rfl), ?_⟩
     conv => whnf
     refine ⟨BlkLe.flat_flat (fun h => h) (fun r hr => rfl), ?_⟩
     conv => whnf
     refine ⟨_, rfl, ?_⟩
     conv => whnf
     exact fin _ (cmpZ_neg _ _).symm
end Go.Proofs.YtppeponndkfbkaaGreat
/- Contracts of bigint: greatest divisor, division. -/
set_option maxRecDepth 20000
set_option maxHeartbeats 1000000
namespace Go.Proofs.YtppeponndkfbkaaGreat
open Go Go.Ae
def ElW : FuncId → Option FT := fun g => match g with
 | 147 => some (wFT divideS)
 | _ => none
def El : Env := { tt := tt, eqs := [], Ψ := ElW, Φ := fun g => match g with
 | 116 => some (.q packS)
 | 124 => some (.q loadS)
 | 81 => some (.p ofS)
 | 132 => some (.p addS)
 | 148 => some (.p subS)
 | _ => none }
theorem Elok : EnvOk Tryz.prog El := ⟨tt_ok, fun t h => by simp [El] at h, (fun g S h => by
 simp only [El] at h
 split at h
 ·cases h; exact pack_ok
 ·cases h; exact load_ok
 ·cases h; exact of_ok
 ·cases h; exact add_ok
 ·cases h; exact sub_ok
 ·cases h), (fun g F h => by
 simp only [El, ElW] at h
 split at h
 ·cases h; exact divide_ok
 ·cases h)⟩
theorem gcd_ok : Snd Tryz.prog 118 gcdS := by
 refine snd_of Elok Dok Tryz.func118 (enters_of Tryz.func118 (by kernel_rfl) rfl) (fun _ => rfl) (fun _ => rfl) ?_
 intro ⟨⟨b, s⟩, ⟨c, t⟩⟩ hp
 have hp : s.size ≤ 549755813888 ∧ t.size ≤ 549755813888 := hp
 have hAn : nl (bnat s) ≤ 137438953472 := IV.nl (i := (b, s)) hp.1
 have hDn : nl (bnat t) ≤ 137438953472 := IV.nl (i := (c, t)) hp.2
 conv => whnf
 refine .inl ⟨5, [[], [0], [0, 1], [], [3], [0, 1, 2, 3, 4], [0, 1, 2, 3, 4, 5], [0, 1, 2, 3, 4, 5, 6]], by kernel_rfl, ?_⟩
 conv => whnf
 refine ⟨s, [], rfl, by show s.size ≤ 1099511627776; omega, ?_⟩
 conv => whnf
 refine ⟨_, rfl, ?_⟩
 conv => whnf
 refine ⟨t, [], rfl, by show t.size ≤ 1099511627776; omega, ?_⟩
 conv => whnf
 refine ⟨_, rfl, ?_⟩
 conv => whnf
 refine .inl ⟨fun mm tz hz => ∃ (A : Nat) (D : Nat) (ca : Nat) (cd : Nat), Pat [none, none, none, none, some (.pointer (some ⟨0, 0, none⟩)), some (.slice (some ⟨1, 0, none⟩) (nl A) ca), some (.slice (some ⟨2, 0, none⟩) (nl D) cd), none, none, none, none, none, none, none, none, none, none, none, none, none, none, none, none, none, none, none, none, none] tz ∧ hz = [some (.expl true 2 [[.bool false, .string ⟨#[]⟩]]), some (newB A), some (newB D)] ∧ D = mm ∧ ((nl A ≤ 137438953472 ∧ nl D ≤ 137438953472) ∧ Nat.gcd A D = Nat.gcd (bnat s) (bnat t)), .inr ⟨[2, 5, 8], [4, 5, 6], ?_⟩, ?_⟩
 ·conv => whnf
  intro _
  conv => whnf
  refine ⟨_, bnat s, bnat t, capU, capU, (.skip (.skip (.skip (.skip (.keep (.keep (.keep (.s8 (.s8 (.skip (.skip (.skip (.skip (.skip (.nil))))))))))))))), rfl, rfl, ?_⟩
  exact ⟨⟨hAn, hDn⟩, rfl⟩
 rintro mm tms _ ⟨A, D, ca, cd, hpat, rfl, rfl, ⟨hnl, hg⟩⟩
 obtain ⟨az, rfl⟩ : ∃ az : Nat → Value, tms = [az 0, az 1, az 2, az 3, .pointer (some ⟨0, 0, none⟩), .slice (some ⟨1, 0, none⟩) (nl A) ca, .slice (some ⟨2, 0, none⟩) (nl D) cd, az 7, az 8, az 9, az 10, az 11, az 12, az 13, az 14, az 15, az 16, az 17, az 18, az 19, az 20, az 21, az 22, az 23, az 24, az 25, az 26, az 27] := pat_fill hpat
 clear hpat
 conv => whnf
 refine br_intro (fun h1 => ?_) (fun h1 => ?_)
 ·have h1 := nl_pos' (of_decide_eq_true h1)
  conv => whnf
  refine ⟨(A, ca, D, cd), [1, 2], rfl, ⟨hnl, by show D ≠ 0; omega⟩, by decide, ?_⟩
  rcases Nat.lt_or_ge A D with h2 | h2
  ·have ev : divideS.val (A, ca, D, cd) = .tuple ⟨[.slice none 0 0, one A ca]⟩ := if_pos h2
   have en : divideS.new (A, ca, D, cd) = [] := if_pos h2
   rw [ev, en]
   conv => whnf
   refine ⟨BlkLe.flat_flat (fun h => h) (fun r hr => rfl), ?_⟩
   conv => whnf
   refine ⟨BlkLe.flat_flat (fun h => h) (fun r hr => rfl), ?_⟩
   conv => whnf
   refine ⟨_, rfl, ?_⟩
   conv => whnf
   refine .inr ⟨[0, 2, 1], [4, 5, 6], ?_⟩
   conv => whnf
   intro _
   conv => whnf
   refine ⟨_, ?_, D, A, cd, ca, (.skip (.skip (.skip (.skip (.keep (.keep (.keep (.s8 (.s8 (.skip (.skip (.skip (.skip (.skip (.nil))))))))))))))), rfl, rfl, ?_⟩
   ·omega
   ·exact ⟨⟨hnl.2, hnl.1⟩, by rw [Nat.gcd_comm]; exact hg⟩
  ·have ev : divideS.val (A, ca, D, cd) = .tuple ⟨[newN 2 (A / D), newN 3 (A % D)]⟩ := if_neg (Nat.not_lt.2 h2)
   have en : divideS.new (A, ca, D, cd) = [newB (A / D), newB (A % D)] := if_neg (Nat.not_lt.2 h2)
   rw [ev, en]
   conv => whnf
   refine ⟨BlkLe.flat_flat (fun h => h) (fun r hr => rfl), ?_⟩
   conv => whnf
   refine ⟨BlkLe.flat_flat (fun h => h) (fun r hr => rfl), ?_⟩
   conv => whnf
   refine ⟨_, rfl, ?_⟩
   conv => whnf
   have hm := Nat.mod_lt A h1
   have hml := nl_mono (Nat.le_of_lt hm)
   refine .inr ⟨[0, 2, 4], [4, 5, 6], ?_⟩
   conv => whnf
   intro _
   conv => whnf
   refine ⟨_, ?_, D, A % D, cd, capU, (.skip (.skip (.skip (.skip (.keep (.keep (.keep (.s8 (.s8 (.skip (.skip (.skip (.skip (.skip (.nil))))))))))))))), rfl, rfl, ?_⟩
   ·omega
   ·exact ⟨⟨hnl.2, by omega⟩, by rw [Nat.gcd_comm, ← Nat.gcd_rec, Nat.gcd_comm]; exact hg⟩
 ·have h1 := nl_not_pos (of_decide_eq_false h1)
  subst h1
  rw [Nat.gcd_zero_right] at hg
  conv => whnf
  refine ⟨(false, some (nl A, A, ca)), [1], rfl, ⟨lt_nl _, by omega⟩, ?_⟩
  conv => whnf
  refine ⟨BlkLe.flat_flat (fun h => h) (fun r hr => rfl), ?_⟩
  conv => whnf
  refine ⟨_, rfl, ?_⟩
  conv => whnf
  show encS false A = encI ((Int.gcd (IV.z (b, s)) (IV.z (c, t)) : Nat) : Int)
  rw [encS_eq, hg]
  unfold Int.gcd IV.z
  rw [valI_abs, valI_abs]
  rfl
theorem div_ok : Snd Tryz.prog 119 divS := by
 refine snd_of Elok Dok Tryz.func119 (enters_of Tryz.func119 (by kernel_rfl) rfl) (fun _ => rfl) (fun _ => rfl) ?_
 intro ⟨⟨b, s⟩, ⟨c, t⟩⟩ hp
 have hp : s.size ≤ 549755813888 ∧ t.size ≤ 549755813888 := hp
 have hAn : nl (bnat s) ≤ 137438953472 := IV.nl (i := (b, s)) hp.1
 have hDn : nl (bnat t) ≤ 137438953472 := IV.nl (i := (c, t)) hp.2
 conv => whnf
 refine ⟨t, [], rfl, by show t.size ≤ 1099511627776; omega, ?_⟩
 conv => whnf
 refine ⟨_, rfl, ?_⟩
 conv => whnf
 refine br_intro (fun h1 => ?_) (fun h1 => ?_)
 ·have h1 : bnat t = 0 := by
   have h1 : ((nl (bnat t) : Nat) : Int) = 0 := by simpa using h1
   exact nl_eq_zero (by omega)
  have hz : IV.z (c, t) = 0 := valI_zero.2 h1
  conv => whnf
  have e : Int.fdiv (IV.z (b, s)) 0 = 0 := Int.fdiv_zero _
  simp only [divS, hz, e, if_true, encI_zero]
  rfl
 ·have h1 : bnat t ≠ 0 := by
   intro e
   rw [e, nl_zero] at h1
   cases h1
  conv => whnf
  refine ⟨s, [], rfl, by show s.size ≤ 1099511627776; omega, ?_⟩
  conv => whnf
  refine ⟨_, rfl, ?_⟩
  conv => whnf
  refine ⟨(bnat s, capU, bnat t, capU), [5, 4], rfl, ⟨⟨hAn, hDn⟩, h1⟩, by decide, ?_⟩
  have hDp : 0 < bnat t := Nat.pos_of_ne_zero h1
  rcases Nat.lt_or_ge (bnat s) (bnat t) with h2 | h2
  ·rw [show divideS.val (bnat s, capU, bnat t, capU) = .tuple ⟨[.slice none 0 0, one (bnat s) capU]⟩ from if_pos h2, show divideS.new (bnat s, capU, bnat t, capU) = [] from if_pos h2]
   have hQ : 0 = bnat s / bnat t := (Nat.div_eq_of_lt h2).symm
   have hR : bnat s = bnat s % bnat t := (Nat.mod_eq_of_lt h2).symm
   conv => whnf
   refine ⟨BlkLe.flat_flat (fun h => h) (fun r hr => rfl), ?_⟩
   conv => whnf
   refine ⟨BlkLe.flat_flat (fun h => h) (fun r hr => rfl), ?_⟩
   conv => whnf
   refine ⟨_, rfl, ?_⟩
   conv => whnf
   refine .inl ⟨13, [[], [0], [], [2], [0, 1, 2, 3], [], [0, 1, 2, 3, 4, 5], [], [7], [], [0, 1, 2, 3, 4, 5, 6, 7, 8, 9], [], [], [0, 1, 2, 3, 4, 5, 6, 7, 8, 9, 10, 11, 12], [0, 1, 2, 3, 4, 5, 6, 7, 8, 9, 10, 11, 12, 13]], by kernel_rfl, ?_⟩
   conv => whnf
   refine ⟨(b != c, none), [], rfl, trivial, ?_⟩
   conv => whnf
   skip
   conv => whnf
   obtain ⟨qs, hqs⟩ : ∃ qs, qs = nb (0) := ⟨_, rfl⟩
   obtain ⟨qb, hqb⟩ : ∃ qb : Bool, qb = ((b != c) && (0) != 0) := ⟨_, rfl⟩
   obtain ⟨rs, hrs⟩ : ∃ rs, rs = nb (bnat s) := ⟨_, rfl⟩
   obtain ⟨rb, hrb⟩ : ∃ rb : Bool, rb = (b && (bnat s) != 0) := ⟨_, rfl⟩
   refine ⟨.agg ⟨[.bool qb, .string qs]⟩, by rw [hqs, hqb]; rfl, ?_⟩
   conv => whnf
   refine ⟨(b, some (nl (bnat s), bnat s, capU)), [5], rfl, ⟨lt_nl _, by omega⟩, ?_⟩
   conv => whnf
   refine ⟨BlkLe.flat_flat (fun h => h) (fun r hr => rfl), ?_⟩
   conv => whnf
   refine ⟨.agg ⟨[.bool rb, .string rs]⟩, by rw [hrs, hrb]; rfl, ?_⟩
   conv => whnf
   have eQ : Value.agg ⟨[.bool qb, .string qs]⟩ = encI (valI (b != c) (bnat s / bnat t)) := by rw [hqs, hqb, ← hQ]; exact encS_eq _ _
   have eR : Value.agg ⟨[.bool rb, .string rs]⟩ = encI (valI b (bnat s % bnat t)) := by rw [hrs, hrb, ← hR]; exact encS_eq _ _
   have fin : ∀ (q r : Value), q = encI (Int.fdiv (IV.z (b, s)) (IV.z (c, t))) → r = encI (Int.fmod (IV.z (b, s)) (IV.z (c, t))) → Value.tuple ⟨[q, r, .int .i64 0]⟩ = divS.val ((b, s), (c, t)) := fun q r hq hr => by
    have hz : IV.z (c, t) ≠ 0 := fun e => h1 (valI_zero.1 e)
    simp only [divS, if_neg hz]
    rw [hq, hr]
   rcases Nat.eq_zero_or_pos (bnat s) with h3 | h3
   ·rw [show (!rs.toList == (⟨#[]⟩ : ByteArray).toList) = false by rw [hrs]; exact mag_zero h3]
    conv => whnf
    refine .inr (.inl ⟨(.br 0 (.br 1 (.br 2 (.br 3 (.br 4 .leaf .leaf) .leaf) .leaf) (.br 2 (.br 1 (.br 3 (.br 4 .leaf .leaf) .leaf) .leaf) .leaf)) (.br 1 (.br 0 (.br 2 (.br 3 (.br 4 .leaf .leaf) .leaf) .leaf) .leaf) .leaf)), by kernel_rfl, ?_⟩)
    have f1 := div_floor (b := b) (c := c) hDp (.inl (show bnat s % bnat t = 0 by rw [← hR]; exact h3))
    repeat' ((conv => whnf); first | exact True.intro | refine And.intro ?_ ?_)
    all_goals conv => whnf
    all_goals exact fin _ _ (eQ.trans (congrArg encI f1.1.symm)) (eR.trans (congrArg encI f1.2.symm))
   ·rw [show (!rs.toList == (⟨#[]⟩ : ByteArray).toList) = true by rw [hrs]; exact mag_pos (Nat.ne_of_gt h3)]
    conv => whnf
    refine br_intro (fun h4 => ?_) (fun h4 => ?_)
    ·conv => whnf
     refine .inl ⟨5, [[], [], [0, 1], [], [], [0, 1, 2, 3, 4], [0, 1, 2, 3, 4, 5], [0, 1, 2, 3, 4, 5, 6]], by kernel_rfl, ?_⟩
     conv => whnf
     have h4 : b ≠ c := by
      intro e
      subst e
      cases b <;> cases h4
     have f1 := div_floor' (b := b) (c := c) hDp (show bnat s % bnat t ≠ 0 by rw [← hR]; exact Nat.ne_of_gt h3) h4
     have hqz : IV.z (qb, qs) = valI (b != c) (bnat s / bnat t) := by rw [hqs, hqb, ← hQ]; exact encS_z _ _
     have hrz : IV.z (rb, rs) = valI b (bnat s % bnat t) := by rw [hrs, hrb, ← hR]; exact encS_z _ _
     have sq : qs.size ≤ s.size := by rw [hqs, hQ]; exact nb_size_le (Nat.div_le_self _ _)
     have sr : rs.size ≤ s.size := by rw [hrs, hR]; exact nb_size_le (Nat.mod_le _ _)
     have s1 := nb_one
     refine ⟨(1 : Int), rfl, ⟨by decide, by decide⟩, ?_⟩
     obtain ⟨v1, hv1⟩ : ∃ v1, v1 = nb 1 := ⟨_, rfl⟩
     rw [show ofS.val (1 : Int) = .agg ⟨[.bool false, .string v1]⟩ by rw [hv1]; rfl]
     rw [← hv1] at s1
     conv => whnf
     refine ⟨((qb, qs), (false, v1)), rfl, ⟨by show qs.size ≤ _; omega, by show v1.size ≤ _; omega⟩, ?_⟩
     obtain ⟨q2, hq2⟩ : ∃ q2, q2 = nb (IV.z (qb, qs) - IV.z (false, v1)).natAbs := ⟨_, rfl⟩
     obtain ⟨b2, hb2⟩ : ∃ b2 : Bool, b2 = decide (IV.z (qb, qs) - IV.z (false, v1) < 0) := ⟨_, rfl⟩
     rw [show subS.val ((qb, qs), (false, v1)) = .agg ⟨[.bool b2, .string q2]⟩ by rw [hq2, hb2]; rfl]
     conv => whnf
     refine ⟨((rb, rs), (c, t)), rfl, ⟨by show rs.size ≤ _; omega, hp.2⟩, ?_⟩
     obtain ⟨q3, hq3⟩ : ∃ q3, q3 = nb (IV.z (rb, rs) + IV.z (c, t)).natAbs := ⟨_, rfl⟩
     obtain ⟨b3, hb3⟩ : ∃ b3 : Bool, b3 = decide (IV.z (rb, rs) + IV.z (c, t) < 0) := ⟨_, rfl⟩
     rw [show addS.val ((rb, rs), (c, t)) = .agg ⟨[.bool b3, .string q3]⟩ by rw [hq3, hb3]; rfl]
     have e2 : Value.agg ⟨[.bool b2, .string q2]⟩ = encI (valI (b != c) (bnat s / bnat t) - 1) := by
      have : IV.z (false, v1) = 1 := by rw [hv1]; show valI false (bnat (nb 1)) = 1; rw [bnat_nb]; rfl
      rw [hq2, hb2, hqz, this]; rfl
     have e3 : Value.agg ⟨[.bool b3, .string q3]⟩ = encI (valI b (bnat s % bnat t) + valI c (bnat t)) := by
      rw [hq3, hb3, hrz]; rfl
     conv => whnf
     refine .inr (.inl ⟨(.br 0 (.br 1 (.br 2 (.br 3 (.br 4 .leaf .leaf) .leaf) .leaf) (.br 2 (.br 1 (.br 3 (.br 4 .leaf .leaf) .leaf) .leaf) .leaf)) (.br 1 (.br 0 (.br 2 (.br 3 (.br 4 .leaf .leaf) .leaf) .leaf) .leaf) .leaf)), by kernel_rfl, ?_⟩)
     repeat' ((conv => whnf); first | exact True.intro | refine And.intro ?_ ?_)
     all_goals conv => whnf
     all_goals exact fin _ _ (e2.trans (congrArg encI f1.1.symm)) (e3.trans (congrArg encI f1.2.symm))
    ·conv => whnf
     refine .inr (.inl ⟨(.br 0 (.br 1 (.br 2 (.br 3 (.br 4 .leaf .leaf) .leaf) .leaf) (.br 2 (.br 1 (.br 3 (.br 4 .leaf .leaf) .leaf) .leaf) .leaf)) (.br 1 (.br 0 (.br 2 (.br 3 (.br 4 .leaf .leaf) .leaf) .leaf) .leaf) .leaf)), by kernel_rfl, ?_⟩)
     have h4 : b = c := by
      cases b <;> cases c <;> first | rfl | cases h4
     have f1 := div_floor (b := b) (c := c) (A := bnat s) hDp (.inr h4)
     repeat' ((conv => whnf); first | exact True.intro | refine And.intro ?_ ?_)
     all_goals conv => whnf
     all_goals exact fin _ _ (eQ.trans (congrArg encI f1.1.symm)) (eR.trans (congrArg encI f1.2.symm))
  ·rw [show divideS.val (bnat s, capU, bnat t, capU) = .tuple ⟨[newN 2 (bnat s / bnat t), newN 3 (bnat s % bnat t)]⟩ from if_neg (Nat.not_lt.2 h2), show divideS.new (bnat s, capU, bnat t, capU) = [newB (bnat s / bnat t), newB (bnat s % bnat t)] from if_neg (Nat.not_lt.2 h2)]
   have hQ : bnat s / bnat t = bnat s / bnat t := rfl
   have hR : bnat s % bnat t = bnat s % bnat t := rfl
   conv => whnf
   refine ⟨BlkLe.flat_flat (fun h => h) (fun r hr => rfl), ?_⟩
   conv => whnf
   refine ⟨BlkLe.flat_flat (fun h => h) (fun r hr => rfl), ?_⟩
   conv => whnf
   refine ⟨_, rfl, ?_⟩
   conv => whnf
   refine .inl ⟨13, [[], [0], [], [2], [0, 1, 2, 3], [], [0, 1, 2, 3, 4, 5], [], [7], [], [0, 1, 2, 3, 4, 5, 6, 7, 8, 9], [], [], [0, 1, 2, 3, 4, 5, 6, 7, 8, 9, 10, 11, 12], [0, 1, 2, 3, 4, 5, 6, 7, 8, 9, 10, 11, 12, 13]], by kernel_rfl, ?_⟩
   conv => whnf
   refine ⟨(b != c, some (nl (bnat s / bnat t), bnat s / bnat t, capU)), [6], rfl, ⟨lt_nl _, by have := nl_mono (Nat.div_le_self (bnat s) (bnat t)); omega⟩, ?_⟩
   conv => whnf
   refine ⟨BlkLe.flat_flat (fun h => h) (fun r hr => rfl), ?_⟩
   conv => whnf
   obtain ⟨qs, hqs⟩ : ∃ qs, qs = nb (bnat s / bnat t) := ⟨_, rfl⟩
   obtain ⟨qb, hqb⟩ : ∃ qb : Bool, qb = ((b != c) && (bnat s / bnat t) != 0) := ⟨_, rfl⟩
   obtain ⟨rs, hrs⟩ : ∃ rs, rs = nb (bnat s % bnat t) := ⟨_, rfl⟩
   obtain ⟨rb, hrb⟩ : ∃ rb : Bool, rb = (b && (bnat s % bnat t) != 0) := ⟨_, rfl⟩
   refine ⟨.agg ⟨[.bool qb, .string qs]⟩, by rw [hqs, hqb]; rfl, ?_⟩
   conv => whnf
   refine ⟨(b, some (nl (bnat s % bnat t), bnat s % bnat t, capU)), [7], rfl, ⟨lt_nl _, by have := nl_mono (Nat.mod_le (bnat s) (bnat t)); omega⟩, ?_⟩
   conv => whnf
   refine ⟨BlkLe.flat_flat (fun h => h) (fun r hr => rfl), ?_⟩
   conv => whnf
   refine ⟨.agg ⟨[.bool rb, .string rs]⟩, by rw [hrs, hrb]; rfl, ?_⟩
   conv => whnf
   have eQ : Value.agg ⟨[.bool qb, .string qs]⟩ = encI (valI (b != c) (bnat s / bnat t)) := by rw [hqs, hqb, ← hQ]; exact encS_eq _ _
   have eR : Value.agg ⟨[.bool rb, .string rs]⟩ = encI (valI b (bnat s % bnat t)) := by rw [hrs, hrb, ← hR]; exact encS_eq _ _
   have fin : ∀ (q r : Value), q = encI (Int.fdiv (IV.z (b, s)) (IV.z (c, t))) → r = encI (Int.fmod (IV.z (b, s)) (IV.z (c, t))) → Value.tuple ⟨[q, r, .int .i64 0]⟩ = divS.val ((b, s), (c, t)) := fun q r hq hr => by
    have hz : IV.z (c, t) ≠ 0 := fun e => h1 (valI_zero.1 e)
    simp only [divS, if_neg hz]
    rw [hq, hr]
   rcases Nat.eq_zero_or_pos (bnat s % bnat t) with h3 | h3
   ·rw [show (!rs.toList == (⟨#[]⟩ : ByteArray).toList) = false by rw [hrs]; exact mag_zero h3]
    conv => whnf
    refine .inr (.inl ⟨(.br 0 (.br 1 (.br 2 (.br 3 (.br 4 .leaf .leaf) .leaf) .leaf) (.br 2 (.br 1 (.br 3 (.br 4 .leaf .leaf) .leaf) .leaf) .leaf)) (.br 1 (.br 0 (.br 2 (.br 3 (.br 4 .leaf .leaf) .leaf) .leaf) .leaf) .leaf)), by kernel_rfl, ?_⟩)
    have f1 := div_floor (b := b) (c := c) hDp (.inl (show bnat s % bnat t = 0 by rw [← hR]; exact h3))
    repeat' ((conv => whnf); first | exact True.intro | refine And.intro ?_ ?_)
    all_goals conv => whnf
    all_goals exact fin _ _ (eQ.trans (congrArg encI f1.1.symm)) (eR.trans (congrArg encI f1.2.symm))
   ·rw [show (!rs.toList == (⟨#[]⟩ : ByteArray).toList) = true by rw [hrs]; exact mag_pos (Nat.ne_of_gt h3)]
    conv => whnf
    refine br_intro (fun h4 => ?_) (fun h4 => ?_)
    ·conv => whnf
     refine .inl ⟨5, [[], [], [0, 1], [], [], [0, 1, 2, 3, 4], [0, 1, 2, 3, 4, 5], [0, 1, 2, 3, 4, 5, 6]], by kernel_rfl, ?_⟩
     conv => whnf
     have h4 : b ≠ c := by
      intro e
      subst e
      cases b <;> cases h4
     have f1 := div_floor' (b := b) (c := c) hDp (show bnat s % bnat t ≠ 0 by rw [← hR]; exact Nat.ne_of_gt h3) h4
     have hqz : IV.z (qb, qs) = valI (b != c) (bnat s / bnat t) := by rw [hqs, hqb, ← hQ]; exact encS_z _ _
     have hrz : IV.z (rb, rs) = valI b (bnat s % bnat t) := by rw [hrs, hrb, ← hR]; exact encS_z _ _
     have sq : qs.size ≤ s.size := by rw [hqs, hQ]; exact nb_size_le (Nat.div_le_self _ _)
     have sr : rs.size ≤ s.size := by rw [hrs, hR]; exact nb_size_le (Nat.mod_le _ _)
     have s1 := nb_one
     refine ⟨(1 : Int), rfl, ⟨by decide, by decide⟩, ?_⟩
     obtain ⟨v1, hv1⟩ : ∃ v1, v1 = nb 1 := ⟨_, rfl⟩
     rw [show ofS.val (1 : Int) = .agg ⟨[.bool false, .string v1]⟩ by rw [hv1]; rfl]
     rw [← hv1] at s1
     conv => whnf
     refine ⟨((qb, qs), (false, v1)), rfl, ⟨by show qs.size ≤ _; omega, by show v1.size ≤ _; omega⟩, ?_⟩
     obtain ⟨q2, hq2⟩ : ∃ q2, q2 = nb (IV.z (qb, qs) - IV.z (false, v1)).natAbs := ⟨_, rfl⟩
     obtain ⟨b2, hb2⟩ : ∃ b2 : Bool, b2 = decide (IV.z (qb, qs) - IV.z (false, v1) < 0) := ⟨_, rfl⟩
     rw [show subS.val ((qb, qs), (false, v1)) = .agg ⟨[.bool b2, .string q2]⟩ by rw [hq2, hb2]; rfl]
     conv => whnf
     refine ⟨((rb, rs), (c, t)), rfl, ⟨by show rs.size ≤ _; omega, hp.2⟩, ?_⟩
     obtain ⟨q3, hq3⟩ : ∃ q3, q3 = nb (IV.z (rb, rs) + IV.z (c, t)).natAbs := ⟨_, rfl⟩
     obtain ⟨b3, hb3⟩ : ∃ b3 : Bool, b3 = decide (IV.z (rb, rs) + IV.z (c, t) < 0) := ⟨_, rfl⟩
     rw [show addS.val ((rb, rs), (c, t)) = .agg ⟨[.bool b3, .string q3]⟩ by rw [hq3, hb3]; rfl]
     have e2 : Value.agg ⟨[.bool b2, .string q2]⟩ = encI (valI (b != c) (bnat s / bnat t) - 1) := by
      have : IV.z (false, v1) = 1 := by rw [hv1]; show valI false (bnat (nb 1)) = 1; rw [bnat_nb]; rfl
      rw [hq2, hb2, hqz, this]; rfl
     have e3 : Value.agg ⟨[.bool b3, .string q3]⟩ = encI (valI b (bnat s % bnat t) + valI c (bnat t)) := by
      rw [hq3, hb3, hrz]; rfl
     conv => whnf
     refine .inr (.inl ⟨(.br 0 (.br 1 (.br 2 (.br 3 (.br 4 .leaf .leaf) .leaf) .leaf) (.br 2 (.br 1 (.br 3 (.br 4 .leaf .leaf) .leaf) .leaf) .leaf)) (.br 1 (.br 0 (.br 2 (.br 3 (.br 4 .leaf .leaf) .leaf) .leaf) .leaf) .leaf)), by kernel_rfl, ?_⟩)
     repeat' ((conv => whnf); first | exact True.intro | refine And.intro ?_ ?_)
     all_goals conv => whnf
     all_goals exact fin _ _ (e2.trans (congrArg encI f1.1.symm)) (e3.trans (congrArg encI f1.2.symm))
    ·conv => whnf
     refine .inr (.inl ⟨(.br 0 (.br 1 (.br 2 (.br 3 (.br 4 .leaf .leaf) .leaf) .leaf) (.br 2 (.br 1 (.br 3 (.br 4 .leaf .leaf) .leaf) .leaf) .leaf)) (.br 1 (.br 0 (.br 2 (.br 3 (.br 4 .leaf .leaf) .leaf) .leaf) .leaf) .leaf)), by kernel_rfl, ?_⟩)
     have h4 : b = c := by
      cases b <;> cases c <;> first | rfl | cases h4
     have f1 := div_floor (b := b) (c := c) (A := bnat s) hDp (.inr h4)
     repeat' ((conv => whnf); first | exact True.intro | refine And.intro ?_ ?_)
     all_goals conv => whnf
     all_goals exact fin _ _ (eQ.trans (congrArg encI f1.1.symm)) (eR.trans (congrArg encI f1.2.symm))
end Go.Proofs.YtppeponndkfbkaaGreat
/- Contracts of the reference integers: canonical digits, small numbers, comparison. -/
set_option maxRecDepth 20000
set_option maxHeartbeats 1000000
namespace Go.Proofs.YtppeponndkfbkaaGreat
open Go Go.Ae
end Go.Proofs.YtppeponndkfbkaaGreat
/- Contracts of the reference integers: machine integers, signs, comparison. -/
set_option maxRecDepth 20000
set_option maxHeartbeats 1000000
namespace Go.Proofs.YtppeponndkfbkaaGreat
open Go Go.Ae
end Go.Proofs.YtppeponndkfbkaaGreat
/- Contracts of the reference integers: digit arithmetic. -/
set_option maxRecDepth 20000
set_option maxHeartbeats 1000000
namespace Go.Proofs.YtppeponndkfbkaaGreat
open Go Go.Ae
end Go.Proofs.YtppeponndkfbkaaGreat
/- Contracts of the reference integers: difference of digits. -/
set_option maxRecDepth 20000
set_option maxHeartbeats 1000000
namespace Go.Proofs.YtppeponndkfbkaaGreat
open Go Go.Ae
end Go.Proofs.YtppeponndkfbkaaGreat
/- Contracts of the reference integers: product of digits. -/
set_option maxRecDepth 20000
set_option maxHeartbeats 1000000
namespace Go.Proofs.YtppeponndkfbkaaGreat
open Go Go.Ae
end Go.Proofs.YtppeponndkfbkaaGreat
/- Contracts of the reference integers: quotient of digits. -/
set_option maxRecDepth 20000
set_option maxHeartbeats 1000000
namespace Go.Proofs.YtppeponndkfbkaaGreat
open Go Go.Ae
end Go.Proofs.YtppeponndkfbkaaGreat
/- Contracts of the reference integers: sum, difference, product. -/
set_option maxRecDepth 20000
set_option maxHeartbeats 1000000
namespace Go.Proofs.YtppeponndkfbkaaGreat
open Go Go.Ae
end Go.Proofs.YtppeponndkfbkaaGreat
/- Contracts of the reference integers: greatest divisor, division. -/
set_option maxRecDepth 20000
set_option maxHeartbeats 1000000
namespace Go.Proofs.YtppeponndkfbkaaGreat
open Go Go.Ae
end Go.Proofs.YtppeponndkfbkaaGreat
/- Contracts of rational: machine integers. -/
set_option maxRecDepth 20000
set_option maxHeartbeats 1000000
namespace Go.Proofs.YtppeponndkfbkaaGreat
open Go Go.Ae
def eqsL : List TypeId := [23, 27, 44, 25]
theorem eqs_ok : ∀ t ∈ eqsL, ∀ ti, tt t = some ti → EqTy Tryz.prog t ti.zero := by
 intro t ht ti h
 simp only [eqsL, List.mem_cons, List.mem_nil_iff, or_false] at ht
 rcases ht with rfl | rfl | rfl | rfl
 all_goals cases h; exact eqTy (by kernel_rfl) (by kernel_rfl)
theorem qdigits_ok : Snd Tryz.prog 164 smallS := by
 refine snd_of E0ok Dok Tryz.func164 (enters_of Tryz.func164 (by kernel_rfl) rfl) (fun _ => rfl) (fun _ => rfl) ?_
 intro (s : ByteArray) hp
 have hp : s.size ≤ 7 := hp
 conv => whnf
 refine .inl ⟨fun mm tz hz => ∃ (i : Nat) (N : Nat), Pat [some (.string s), none, none, some (.int .i64 N), none, none, some (.int .i64 s.size), some (.int .i64 i), none, none, none, none, none, none, none, none, none, none, none] tz ∧ hz = [] ∧ s.size - i = mm ∧ (i ≤ s.size ∧ N = bnat s / C ^ (s.size - i)), .inl ⟨_, 0, 0, (.keep (.skip (.skip (.keep (.skip (.skip (.keep (.keep (.s8 (.skip (.skip (.skip (.nil))))))))))))), rfl, rfl, ?_⟩, ?_⟩
 ·exact ⟨Nat.zero_le _, by rw [Nat.sub_zero, Nat.div_eq_of_lt (bnat_lt s)]⟩
 rintro mm tms _ ⟨i, N, hpat, rfl, rfl, ⟨hi, hN⟩⟩
 obtain ⟨az, rfl⟩ : ∃ az : Nat → Value, tms = [.string s, az 1, az 2, .int .i64 N, az 4, az 5, .int .i64 s.size, .int .i64 i, az 8, az 9, az 10, az 11, az 12, az 13, az 14, az 15, az 16, az 17, az 18] := pat_fill hpat
 clear hpat
 have hlC := pre_lt s hi
 rw [← hN] at hlC
 have hlt := Nat.lt_of_lt_of_le hlC (pow7 (show i ≤ 7 by omega))
 conv => whnf
 refine br_intro (fun h2 => ?_) (fun h2 => ?_)
 ·have h2 : i < s.size := by simpa using h2
  have hst := pre_step h2
  rw [← hN] at hst
  have hb : byteAt s i < 256 := byteAt_lt s i
  have e3 : IntKind.i64.wrap (((i : Nat) : Int) + 1) = ((i + 1 : Nat) : Int) := by rw [wrapi64 (by omega) (by omega)]; rfl
  have hl6 := Nat.lt_of_lt_of_le hlC (pow6 (show i ≤ 6 by omega))
  conv => whnf
  refine ⟨⟨by omega, by omega⟩, ?_⟩
  simp only [toNat_cast]
  conv => whnf
  rw [byte_raw (by omega) hb, e3]
  refine .inl ⟨_, ?_, i + 1, N * 256 + byteAt s i, (.keep (.skip (.skip (.keep (.skip (.skip (.keep (.keep (.s8 (.skip (.skip (.skip (.nil))))))))))))), rfl, rfl, ?_⟩
  ·omega
  ·exact ⟨by omega, hst.symm⟩
 ·have h2 : i = s.size := by
   have h2 : ¬ i < s.size := by simpa using h2
   omega
  subst h2
  rw [Nat.sub_self, Nat.pow_zero, Nat.div_one] at hN
  subst hN
  conv => whnf
  rfl
theorem qnumber_ok : Snd Tryz.prog 137 smallS := by
 refine snd_of E0ok Dok Tryz.func137 (enters_of Tryz.func137 (by kernel_rfl) rfl) (fun _ => rfl) (fun _ => rfl) ?_
 intro (s : ByteArray) hp
 have hp : s.size ≤ 7 := hp
 conv => whnf
 refine .inl ⟨fun mm tz hz => ∃ (i : Nat) (N : Nat), Pat [some (.string s), none, none, some (.int .i64 N), some (.int .i64 i), none, none, none, none, none, none, none, none, none, none, none, none, none, none] tz ∧ hz = [] ∧ s.size - i = mm ∧ (i ≤ s.size ∧ N = bnat s / C ^ (s.size - i)), .inl ⟨_, 0, 0, (.keep (.skip (.skip (.keep (.keep (.s8 (.skip (.skip (.skip (.skip (.skip (.skip (.nil))))))))))))), rfl, rfl, ?_⟩, ?_⟩
 ·exact ⟨Nat.zero_le _, by rw [Nat.sub_zero, Nat.div_eq_of_lt (bnat_lt s)]⟩
 rintro mm tms _ ⟨i, N, hpat, rfl, rfl, ⟨hi, hN⟩⟩
 obtain ⟨az, rfl⟩ : ∃ az : Nat → Value, tms = [.string s, az 1, az 2, .int .i64 N, .int .i64 i, az 5, az 6, az 7, az 8, az 9, az 10, az 11, az 12, az 13, az 14, az 15, az 16, az 17, az 18] := pat_fill hpat
 clear hpat
 have hlC := pre_lt s hi
 rw [← hN] at hlC
 have hlt := Nat.lt_of_lt_of_le hlC (pow7 (show i ≤ 7 by omega))
 conv => whnf
 refine br_intro (fun h2 => ?_) (fun h2 => ?_)
 ·have h2 : i < s.size := by simpa using h2
  have hst := pre_step h2
  rw [← hN] at hst
  have hb : byteAt s i < 256 := byteAt_lt s i
  have e3 : IntKind.i64.wrap (((i : Nat) : Int) + 1) = ((i + 1 : Nat) : Int) := by rw [wrapi64 (by omega) (by omega)]; rfl
  have hl6 := Nat.lt_of_lt_of_le hlC (pow6 (show i ≤ 6 by omega))
  obtain ⟨b, hbb⟩ : ∃ b, b = byteAt s i := ⟨_, rfl⟩
  rw [← hbb] at hb hst
  have ev : IntKind.i64.wrap (IntKind.i64.wrap (256 * (N : Int)) + IntKind.i64.wrap (b : Int)) = ((N * 256 + b : Nat) : Int) := by
   rw [wrapi64 (x := 256 * (N : Int)) (by omega) (by omega), wrapi64 (x := (b : Int)) (by omega) (by omega), wrapi64 (by omega) (by omega)]; omega
  conv => whnf
  refine ⟨⟨by omega, by omega⟩, ?_⟩
  simp only [toNat_cast]
  conv => whnf
  rw [← hbb, ev, e3]
  refine .inl ⟨_, ?_, i + 1, N * 256 + b, (.keep (.skip (.skip (.keep (.keep (.s8 (.skip (.skip (.skip (.skip (.skip (.skip (.nil))))))))))))), rfl, rfl, ?_⟩
  ·omega
  ·exact ⟨by omega, hst.symm⟩
 ·have h2 : i = s.size := by
   have h2 : ¬ i < s.size := by simpa using h2
   omega
  subst h2
  rw [Nat.sub_self, Nat.pow_zero, Nat.div_one] at hN
  subst hN
  conv => whnf
  rfl
def Ema : Env := { tt := tt, eqs := [], Φ := fun g => match g with
 | 164 => some (.p smallS)
 | 137 => some (.p smallS)
 | _ => none }
theorem Emaok : EnvOk Tryz.prog Ema := ⟨tt_ok, fun t h => by simp [Ema] at h, (fun g S h => by
 simp only [Ema] at h
 split at h
 ·cases h; exact qdigits_ok
 ·cases h; exact qnumber_ok
 ·cases h), fun g F h => by simp [Ema] at h⟩
theorem mach_ok : Snd Tryz.prog 141 machS := by
 refine snd_of Emaok Dok Tryz.func141 (enters_of Tryz.func141 (by kernel_rfl) rfl) (fun _ => rfl) (fun _ => rfl) ?_
 intro ⟨b, s, t⟩ _
 have fin0 : ¬ RV.tiny (b, s, t) → Value.tuple ⟨[.int .i64 0, .int .i64 0, .bool false]⟩ = machS.val (b, s, t) := fun h => by
  simp only [machS, if_neg h, decide_eq_false h]
 have fin1 : RV.tiny (b, s, t) → ∀ x y : Int, x = RV.n (b, s, t) → y = (RV.d (b, s, t) : Int) → Value.tuple ⟨[.int .i64 x, .int .i64 y, .bool true]⟩ = machS.val (b, s, t) := fun h x y hx hy => by
  simp only [machS, if_pos h, decide_eq_true h, hx, hy]
 conv => whnf
 by_cases h1 : s.size ≤ 3
 ·rw [show decide (((s.size : Nat) : Int) > 3) = false from decide_eq_false (by omega)]
  conv => whnf
  by_cases h2 : t.size ≤ 3
  ·rw [show decide (((t.size : Nat) : Int) > 3) = false from decide_eq_false (by omega)]
   have ht : RV.tiny (b, s, t) := ⟨h1, h2⟩
   obtain ⟨N, hN⟩ : ∃ N, N = bnat s := ⟨_, rfl⟩
   obtain ⟨D, hD⟩ : ∃ D, D = bnat t := ⟨_, rfl⟩
   have hn := RV.tiny_n ht
   have hd := RV.tiny_d ht
   conv => whnf
   refine .inl ⟨5, [[], [0], [0, 1], [], [3], [0, 1, 2, 3, 4], [0, 1, 2, 3, 4, 5], [0, 1, 2, 3, 4, 5, 6]], by kernel_rfl, ?_⟩
   conv => whnf
   refine ⟨s, rfl, by show s.size ≤ 7; omega, ?_⟩
   rw [show smallS.val s = .int .i64 N from by rw [hN]; rfl]
   conv => whnf
   refine ⟨t, rfl, by show t.size ≤ 7; omega, ?_⟩
   rw [show smallS.val t = .int .i64 D from by rw [hD]; rfl]
   conv => whnf
   have hd2 : (RV.d (b, s, t) : Int) = if D = 0 then 1 else D := by
    show (((if bnat t = 0 then 1 else bnat t) : Nat) : Int) = _
    rw [← hD]
   refine br_intro (fun h3 => ?_) (fun h3 => ?_)
   ·have hn2 : RV.n (b, s, t) = -(N : Int) := by
     have h3 : b = true := h3
     show valI b (bnat s) = _
     rw [h3, ← hN]; rfl
    have en : IntKind.i64.wrap (0 - (N : Int)) = -(N : Int) := by rw [wrapi64 (by omega) (by omega)]; omega
    conv => whnf
    exact fin1 ht _ _ (by rw [hn2]; exact en) (by rw [hd2]; split <;> split <;> omega)
   ·have hn2 : RV.n (b, s, t) = (N : Int) := by
     have h3 : b = false := h3
     show valI b (bnat s) = _
     rw [h3, ← hN]; rfl
    conv => whnf
    exact fin1 ht _ _ (by rw [hn2]) (by rw [hd2]; split <;> split <;> omega)
  ·rw [show decide (((t.size : Nat) : Int) > 3) = true from decide_eq_true (by omega)]
   conv => whnf
   exact fin0 (fun h => h2 h.2)
 ·rw [show decide (((s.size : Nat) : Int) > 3) = true from decide_eq_true (by omega)]
  conv => whnf
  exact fin0 (fun h => h1 h.1)
end Go.Proofs.YtppeponndkfbkaaGreat
/- Contracts of rational: digits, ratios. -/
set_option maxRecDepth 20000
set_option maxHeartbeats 1000000
namespace Go.Proofs.YtppeponndkfbkaaGreat
open Go Go.Ae
theorem text_ok : Snd Tryz.prog 156 textS := by
 refine snd_of E0ok Dok Tryz.func156 (enters_of Tryz.func156 (by kernel_rfl) rfl) (fun _ => rfl) (fun _ => rfl) ?_
 intro (n : Nat) hp
 have hp : n < 72057594037927936 := hp
 conv => whnf
 refine .inl ⟨fun mm tz hz => ∃ (i : Nat) (m : Nat) (g : Nat → List Value), Pat [some (.int .i64 m), none, none, some (.pointer (some ⟨0, 0, none⟩)), some (.int .i64 i), none, none, none, none, none, none, none, none, none, none, none, none, none] tz ∧ hz = [some (.flat true 8 1 g)] ∧ m = mm ∧ ((i ≤ 8 ∧ m = n / C ^ (8 - i)) ∧ (i = 8 ∨ C ^ (8 - i - 1) ≤ n) ∧ (∀ r, i ≤ r → r < 8 → g r = [.int .u8 ((n / C ^ (7 - r) % C : Nat) : Int)]) ∧ (∀ r, r < 8 → ∃ x : Int, g r = [.int .u8 x])), .inl ⟨_, 8, n, _, (.keep (.skip (.skip (.keep (.keep (.s8 (.skip (.skip (.skip (.skip (.skip (.nil)))))))))))), rfl, rfl, ?_⟩, ?_⟩
 ·exact ⟨⟨Nat.le_refl _, by simp⟩, .inl rfl, fun r h1 h2 => absurd h1 (by omega), fun r hr => ⟨0, rfl⟩⟩
 rintro mm tms _ ⟨i, m, g, hpat, rfl, rfl, ⟨⟨hi, hm⟩, ho, hg, hall⟩⟩
 obtain ⟨az, rfl⟩ : ∃ az : Nat → Value, tms = [.int .i64 m, az 1, az 2, .pointer (some ⟨0, 0, none⟩), .int .i64 i, az 5, az 6, az 7, az 8, az 9, az 10, az 11, az 12, az 13, az 14, az 15, az 16, az 17] := pat_fill hpat
 clear hpat
 conv => whnf
 refine br_intro (fun h2 => ?_) (fun h2 => ?_)
 ·have h2 : 0 < m := by
   have := of_decide_eq_true h2
   omega
  have hi0 : 0 < i := by
   rcases Nat.eq_zero_or_pos i with h | h
   ·subst h
    rw [hm] at h2
    rw [mag8 (by omega)] at h2
    exact absurd h2 (by decide)
   ·exact h
  obtain ⟨i, rfl⟩ : ∃ i', i = i' + 1 := ⟨i - 1, by omega⟩
  have ei : IntKind.i64.wrap (((i + 1 : Nat) : Int) - 1) = ((i : Nat) : Int) := by rw [wrapi64 (by omega) (by omega)]; omega
  have hm2 : m / 256 = n / C ^ (8 - i) := by
   rw [hm, div_pow_succ, show 8 - (i + 1) + 1 = 8 - i by omega]
  have hlow : C ^ (8 - (i + 1)) ≤ n := by
   rcases Nat.lt_or_ge n (C ^ (8 - (i + 1))) with h | h
   ·rw [hm, Nat.div_eq_of_lt h] at h2
    exact absurd h2 (by decide)
   ·exact h
  conv => whnf
  simp only [ei]
  refine ⟨⟨by omega, by omega⟩, ?_⟩
  simp only [toNat_cast, rowAdd_eq, Nat.zero_add]
  conv => whnf
  refine ⟨by show i < 8; omega, ?_⟩
  conv => whnf
  obtain ⟨x, hx⟩ := hall i (by omega)
  rw [hx]
  conv => whnf
  rw [u8_mod, shr_i64_8, show ((m : Nat) : Int) / 256 = ((m / 256 : Nat) : Int) from rfl]
  refine .inl ⟨_, ?_, i, m / 256, _, (.keep (.skip (.skip (.keep (.keep (.s8 (.skip (.skip (.skip (.skip (.skip (.nil)))))))))))), rfl, rfl, ?_⟩
  ·omega
  ·refine ⟨⟨by omega, hm2⟩, .inr (by rw [show 8 - i - 1 = 8 - (i + 1) by omega]; exact hlow), fun r hr1 hr2 => ?_, fun r hr => ?_⟩
   rotate_left
   ·by_cases he : r = i
    ·exact ⟨_, if_pos he⟩
    ·rw [if_neg he]; exact hall r hr
   by_cases he : r = i
   ·subst he
    rw [if_pos rfl, hm, show 7 - r = 8 - (r + 1) by omega]
   ·rw [if_neg he]
    exact hg r (by omega) hr2
 ·have h2 : m = 0 := by
   have := of_decide_eq_false h2
   omega
  have hlt : n < C ^ (8 - i) := by
   rw [h2] at hm
   have h3 := Nat.mod_lt n (Cpos (8 - i))
   have h4 := Nat.mod_add_div n (C ^ (8 - i))
   rw [← hm, Nat.mul_zero, Nat.add_zero] at h4
   rw [← h4]; exact h3
  rcases Nat.eq_zero_or_pos (8 - i) with hz | hz
  ·have h0 : n = 0 := by
    rw [hz, Nat.pow_zero] at hlt; omega
   obtain rfl : i = 8 := by omega
   subst h0
   conv => whnf
   refine ⟨⟨by omega, by omega, Int.le_refl _, Nat.le_refl _, rfl⟩, ?_⟩
   conv => whnf
   show Value.string ⟨#[]⟩ = Value.string (nb 0)
   rw [nb_zero]
  ·obtain ⟨k, hk⟩ : ∃ k, 8 - i = k + 1 := ⟨8 - i - 1, by omega⟩
   rw [hk] at hlt
   have ho : C ^ k ≤ n := by
    rcases ho with h | h
    ·omega
    ·rw [show 8 - i - 1 = k by omega] at h; exact h
   have e := bytesOf_from (g := g) (i := i) (m := k + 1) (X := n) (fun r hr => by
    rw [hg (i + r) (by omega) (by omega), show 7 - (i + r) = k + 1 - 1 - r by omega])
   conv => whnf
   refine ⟨⟨by omega, by omega, Int.le_refl _, Nat.le_refl _, rfl⟩, ?_⟩
   simp only [toNat_cast, rowAdd_eq, Nat.zero_add, hk]
   conv => whnf
   refine ⟨⟨by show i + (k + 1) ≤ 8; omega, fun r hr => hall (i + r) (by omega)⟩, ?_⟩
   conv => whnf
   show Value.string ⟨⟨bytesOf g i (k + 1)⟩⟩ = Value.string (nb n)
   rw [e, nb_be hlt (.inr ho)]
theorem rdigits_ok : Snd Tryz.prog 138 textS := by
 refine snd_of E0ok Dok Tryz.func138 (enters_of Tryz.func138 (by kernel_rfl) rfl) (fun _ => rfl) (fun _ => rfl) ?_
 intro (n : Nat) hp
 have hp : n < 72057594037927936 := hp
 conv => whnf
 refine .inl ⟨fun mm tz hz => ∃ (e : Nat) (k : Int) (out : Value) (hp : Heap), Pat [some (.int .i64 n), none, none, some (out), some (.int .i64 k), none, none, none, none, none, none, none, none, none, none, none, none, none, none, none, none, none, none, none, none, none, none, none, none, none] tz ∧ hz = hp ∧ e = mm ∧ ((e ≤ 7 ∧ k = 8 * (e : Int) - 8) ∧ ((out = .slice none 0 0 ∧ hp = [] ∧ n / C ^ e = 0) ∨ (∃ m g, out = .slice (some ⟨0, 0, none⟩) m capU ∧ hp = [some (.flat true m 1 g)] ∧ (1 ≤ m ∧ m ≤ 7 - e) ∧ n / C ^ e < C ^ m ∧ C ^ (m - 1) ≤ n / C ^ e ∧ ∀ r, r < m → g r = [.int .u8 ((n / C ^ e / C ^ (m - 1 - r) % C : Nat) : Int)]))), .inl ⟨_, 7, 48, .slice none 0 0, [], (.keep (.skip (.skip (.keep (.keep (.s8 (.s8 (.s8 (.skip (.nil)))))))))), rfl, rfl, ?_⟩, ?_⟩
 ·exact ⟨⟨Nat.le_refl _, rfl⟩, .inl ⟨rfl, rfl, pow7' hp⟩⟩
 rintro mm tms _ ⟨e, k, out, hp, hpat, rfl, rfl, ⟨⟨he, hk⟩, h⟩⟩
 obtain ⟨az, rfl⟩ : ∃ az : Nat → Value, tms = [.int .i64 n, az 1, az 2, out, .int .i64 k, az 5, az 6, az 7, az 8, az 9, az 10, az 11, az 12, az 13, az 14, az 15, az 16, az 17, az 18, az 19, az 20, az 21, az 22, az 23, az 24, az 25, az 26, az 27, az 28, az 29] := pat_fill hpat
 clear hpat
 rcases h with ⟨rfl, rfl, hz⟩ | ⟨m, g, rfl, rfl, hm, hl1, hl2, hg⟩
 ·conv => whnf
  refine br_intro (fun h1 => ?_) (fun h1 => ?_)
  ·have h1 := of_decide_eq_true h1
   obtain ⟨e, rfl⟩ : ∃ e', e = e' + 1 := ⟨e - 1, by omega⟩
   have hsh := shrk (n := n) k (e := e) (by omega) (by omega)
   obtain ⟨P, hP⟩ : ∃ P, P = n / C ^ e := ⟨_, rfl⟩
   rw [← hP] at hsh
   obtain ⟨D, hD⟩ : ∃ D, D = P % 256 := ⟨_, rfl⟩
   have ed : Int.tmod ((P : Nat) : Int) 256 = ((D : Nat) : Int) := by rw [hD]; rfl
   have hsp := digit_split n e
   rw [hz, ← hP, ← hD] at hsp
   have hk2 : IntKind.i64.wrap (k - 8) = 8 * (e : Int) - 8 := by rw [wrapi64 (by omega) (by omega)]; omega
   conv => whnf
   rw [show decide (0 ≤ k) = true from decide_eq_true (by omega)]
   conv => whnf
   rw [hsh, ed]
   by_cases h2 : 0 < D
   ·rw [show decide (((D : Nat) : Int) > 0) = true from decide_eq_true (by omega)]
    conv => whnf
    rw [show decide (0 ≤ k) = true from decide_eq_true (by omega)]
    conv => whnf
    rw [hsh, u8_of (show P < 256 by omega)]
    refine ⟨by decide, ?_⟩
    conv => whnf
    rw [hk2]
    refine .inr ⟨[1], [0, 3, 4], ?_⟩
    conv => whnf
    intro _
    conv => whnf
    refine ⟨_, ?_, e, 8 * (e : Int) - 8, .slice (some ⟨0, 0, none⟩) 1 capU, [some (.flat true 1 1 _)], (.keep (.skip (.skip (.keep (.keep (.s8 (.s8 (.s8 (.skip (.nil)))))))))), rfl, rfl, ?_⟩
    ·omega
    ·refine ⟨⟨by omega, rfl⟩, .inr ⟨1, _, rfl, rfl, ⟨Nat.le_refl _, by omega⟩, by rw [← hP]; show P < 256; omega, by rw [← hP]; show 1 ≤ P; omega, fun r hr => ?_⟩⟩
     have h0 : r = 0 := by omega
     subst h0
     rw [← hP]
     have : P / C ^ (1 - 1 - 0) % C = P := by
      show P / 1 % 256 = P
      omega
     rw [this]
     rfl
   ·rw [show decide (((D : Nat) : Int) > 0) = false from decide_eq_false (by omega)]
    conv => whnf
    rw [hk2]
    refine .inl ⟨_, ?_, e, 8 * (e : Int) - 8, .slice none 0 0, [], (.keep (.skip (.skip (.keep (.keep (.s8 (.s8 (.s8 (.skip (.nil)))))))))), rfl, rfl, ?_⟩
    ·omega
    ·exact ⟨⟨by omega, rfl⟩, .inl ⟨rfl, rfl, by rw [← hP]; omega⟩⟩
  ·have h1 := of_decide_eq_false h1
   obtain rfl : e = 0 := by omega
   have hn0 : n = 0 := by simpa using hz
   subst hn0
   conv => whnf
   show Value.string ⟨#[]⟩ = Value.string (nb 0)
   rw [nb_zero]
 ·conv => whnf
  refine br_intro (fun h1 => ?_) (fun h1 => ?_)
  ·have h1 := of_decide_eq_true h1
   obtain ⟨e, rfl⟩ : ∃ e', e = e' + 1 := ⟨e - 1, by omega⟩
   have hsh := shrk (n := n) k (e := e) (by omega) (by omega)
   obtain ⟨P, hP⟩ : ∃ P, P = n / C ^ e := ⟨_, rfl⟩
   obtain ⟨Q, hQ⟩ : ∃ Q, Q = n / C ^ (e + 1) := ⟨_, rfl⟩
   rw [← hP] at hsh
   obtain ⟨D, hD⟩ : ∃ D, D = P % 256 := ⟨_, rfl⟩
   have ed : Int.tmod ((P : Nat) : Int) 256 = ((D : Nat) : Int) := by rw [hD]; rfl
   have hDlt : D < 256 := by omega
   have hsp := digit_split n e
   rw [← hP, ← hD, ← hQ] at hsp
   rw [← hQ] at hl1 hl2 hg
   have g1 := push_lt hl1 hDlt
   have g2 := push_ge (d := D) hl2 hm.1
   rw [← hsp] at g1 g2
   have hk2 : IntKind.i64.wrap (k - 8) = 8 * (e : Int) - 8 := by rw [wrapi64 (by omega) (by omega)]; omega
   conv => whnf
   rw [show decide (0 ≤ k) = true from decide_eq_true (by omega)]
   conv => whnf
   rw [hsh, ed]
   by_cases h2 : 0 < D
   ·rw [show decide (((D : Nat) : Int) > 0) = true from decide_eq_true (by omega)]
    conv => whnf
    rw [show decide (0 ≤ k) = true from decide_eq_true (by omega)]
    conv => whnf
    rw [hsh, u8_mod]
    refine ⟨⟨by decide, rfl, ?_⟩, ?_⟩
    ·show (m + 1) * 1 ≤ _
     omega
    conv => whnf
    refine ⟨[0, 4], ?_⟩
    conv => whnf
    intro _
    conv => whnf
    rw [hk2]
    refine .inr ⟨[0], [0, 3, 4], ?_⟩
    conv => whnf
    intro _
    conv => whnf
    refine ⟨_, ?_, e, 8 * (e : Int) - 8, .slice (some ⟨0, 0, none⟩) (m + 1) capU, [some (.flat true (m + 1) 1 _)], (.keep (.skip (.skip (.keep (.keep (.s8 (.s8 (.s8 (.skip (.nil)))))))))), rfl, rfl, ?_⟩
    ·omega
    ·refine ⟨⟨by omega, rfl⟩, .inr ⟨m + 1, _, rfl, rfl, ⟨by omega, by omega⟩, by rw [← hP]; exact g1, by rw [← hP]; exact g2, fun r hr => ?_⟩⟩
     rw [← hP]
     exact push_rows hsp hDlt hg r hr
   ·rw [show decide (((D : Nat) : Int) > 0) = false from decide_eq_false (by omega)]
    conv => whnf
    refine br_yes ?_ ?_
    ·exact decide_eq_true (by omega)
    conv => whnf
    rw [show decide (0 ≤ k) = true from decide_eq_true (by omega)]
    conv => whnf
    rw [hsh, u8_mod]
    refine ⟨⟨by decide, rfl, ?_⟩, ?_⟩
    ·show (m + 1) * 1 ≤ _
     omega
    conv => whnf
    refine ⟨[0, 4], ?_⟩
    conv => whnf
    intro _
    conv => whnf
    rw [hk2]
    refine .inr ⟨[0], [0, 3, 4], ?_⟩
    conv => whnf
    intro _
    conv => whnf
    refine ⟨_, ?_, e, 8 * (e : Int) - 8, .slice (some ⟨0, 0, none⟩) (m + 1) capU, [some (.flat true (m + 1) 1 _)], (.keep (.skip (.skip (.keep (.keep (.s8 (.s8 (.s8 (.skip (.nil)))))))))), rfl, rfl, ?_⟩
    ·omega
    ·refine ⟨⟨by omega, rfl⟩, .inr ⟨m + 1, _, rfl, rfl, ⟨by omega, by omega⟩, by rw [← hP]; exact g1, by rw [← hP]; exact g2, fun r hr => ?_⟩⟩
     rw [← hP]
     exact push_rows hsp hDlt hg r hr
  ·have h1 := of_decide_eq_false h1
   obtain rfl : e = 0 := by omega
   rw [Nat.pow_zero, Nat.div_one] at hl1 hl2 hg
   obtain ⟨m, rfl⟩ : ∃ m', m = m' + 1 := ⟨m - 1, by omega⟩
   have hs := bytesOf_be hg
   conv => whnf
   refine ⟨⟨by show 0 + (m + 1) ≤ m + 1; omega, fun r hr => ⟨_, by show g (0 + r) = _; rw [Nat.zero_add]; exact hg r hr⟩⟩, ?_⟩
   rw [show (Blk.flat true (m + 1) 1 g).row = g from rfl, hs]
   conv => whnf
   show Value.string (be (m + 1) n) = Value.string (nb n)
   rw [nb_be hl1 (.inr (by rw [show m + 1 - 1 = m by omega] at hl2; exact hl2))]
end Go.Proofs.YtppeponndkfbkaaGreat
/- Contracts of rational: ratios of machine integers. -/
set_option maxRecDepth 20000
set_option maxHeartbeats 1000000
namespace Go.Proofs.YtppeponndkfbkaaGreat
open Go Go.Ae
def Emc : Env := { tt := tt, eqs := [], Φ := fun g => match g with
 | 156 => some (.p textS)
 | 138 => some (.p textS)
 | _ => none }
theorem Emcok : EnvOk Tryz.prog Emc := ⟨tt_ok, fun t h => by simp [Emc] at h, (fun g S h => by
 simp only [Emc] at h
 split at h
 ·cases h; exact text_ok
 ·cases h; exact rdigits_ok
 ·cases h), fun g F h => by simp [Emc] at h⟩
theorem ratio_ok : Snd Tryz.prog 128 ratioS := by
 refine snd_of Emcok Dok Tryz.func128 (enters_of Tryz.func128 (by kernel_rfl) rfl) (fun _ => rfl) (fun _ => rfl) ?_
 intro ⟨n, d⟩ hp
 have hp : n.natAbs < 72057594037927936 ∧ d ≠ 0 ∧ d < 72057594037927936 := hp
 obtain ⟨g, hg⟩ : ∃ g, g = Int.gcd n d := ⟨_, rfl⟩
 obtain ⟨hd1, hd2, hg0⟩ := div_self_gcd hp.2.1 hg
 have hgd : g ≤ d := by
  have h3 := Nat.div_le_self d g
  rcases Nat.lt_or_ge d g with h | h
  ·rw [Nat.div_eq_of_lt h] at hd2; omega
  ·exact h
 have fin : ∀ v : Value, v = encQ (mkRat n d) → v = ratioS.val (n, d) := fun v h => h
 conv => whnf
 refine .inl ⟨fun mm tz hz => ∃ (a : Int) (b : Int), Pat [some (.int .i64 n), some (.int .i64 d), none, none, some (.pointer (some ⟨0, 0, none⟩)), some (.int .i64 a), some (.int .i64 b), none, none, none, none, none, none, none, none, none, none, none, none, none, none, none, none, none, none, none, none, none, none, none, none, none, none, none, none, none, none, none, none, none, none, none, none] tz ∧ hz = [some (.expl true 3 [[.bool false, .string ⟨#[]⟩, .string ⟨#[]⟩]])] ∧ b.natAbs = mm ∧ (((-72057594037927936 < a ∧ a < 72057594037927936) ∧ -72057594037927936 < b ∧ b < 72057594037927936) ∧ Int.gcd a b = g), .inr ⟨[0], [0, 1, 4, 5, 6], ?_⟩, ?_⟩
 ·conv => whnf
  intro _
  conv => whnf
  refine ⟨_, n, d, (.keep (.keep (.skip (.skip (.keep (.keep (.keep (.s8 (.s8 (.s8 (.s8 (.skip (.skip (.skip (.skip (.nil)))))))))))))))), rfl, rfl, ?_⟩
  exact ⟨⟨⟨by omega, by omega⟩, by omega, by omega⟩, hg.symm⟩
 rintro mm tms _ ⟨a, b, hpat, rfl, rfl, ⟨hab, he⟩⟩
 obtain ⟨az, rfl⟩ : ∃ az : Nat → Value, tms = [.int .i64 n, .int .i64 d, az 2, az 3, .pointer (some ⟨0, 0, none⟩), .int .i64 a, .int .i64 b, az 7, az 8, az 9, az 10, az 11, az 12, az 13, az 14, az 15, az 16, az 17, az 18, az 19, az 20, az 21, az 22, az 23, az 24, az 25, az 26, az 27, az 28, az 29, az 30, az 31, az 32, az 33, az 34, az 35, az 36, az 37, az 38, az 39, az 40, az 41, az 42] := pat_fill hpat
 clear hpat
 conv => whnf
 refine br_intro (fun h1 => ?_) (fun h1 => ?_)
 ·have h1 : b ≠ 0 := by
   intro e
   subst e
   simp at h1
  have hlt : (Int.tmod a b).natAbs < b.natAbs := by
   rw [Int.natAbs_tmod]; exact Nat.mod_lt _ (by omega)
  obtain ⟨r, hr⟩ : ∃ r, r = Int.tmod a b := ⟨_, rfl⟩
  rw [← hr] at hlt
  conv => whnf
  refine .inl ⟨5, [[], [], [], [1, 2], [0, 1], [0, 1, 2, 3, 4]], by kernel_rfl, ?_⟩
  conv => whnf
  rw [show decide (b ≠ 0) = true from decide_eq_true h1]
  conv => whnf
  rw [← hr]
  refine .inr ⟨[0], [0, 1, 4, 5, 6], ?_⟩
  conv => whnf
  intro _
  conv => whnf
  refine ⟨_, ?_, b, r, (.keep (.keep (.skip (.skip (.keep (.keep (.keep (.s8 (.s8 (.s8 (.s8 (.skip (.skip (.skip (.skip (.nil)))))))))))))))), rfl, rfl, ?_⟩
  ·exact hlt
  ·exact ⟨⟨hab.2, by omega, by omega⟩, by rw [hr, gcd_step]; exact he⟩
 ·have h1 : b = 0 := by simpa using h1
  subst h1
  have he : a.natAbs = g := by rw [← he, Int.gcd_zero_right]
  have em := max_neg a hab.1
  rw [he] at em
  have en := max_neg n (by omega)
  obtain ⟨N, hN⟩ : ∃ N, N = n.natAbs := ⟨_, rfl⟩
  rw [← hN] at en
  conv => whnf
  rw [em]
  by_cases h2 : n = 0
  ·subst h2
   conv => whnf
   exact fin _ (encQ_zero d).symm
  ·refine br_intro (fun h => absurd (by simpa using h) h2) (fun _ => ?_)
   have eq := encQ_mk h2 hp.2.1 hg
   rw [← hN] at eq
   have ed := tdiv_wrap (a := N) (g := g) (by omega)
   have ed2 := tdiv_wrap (a := d) (g := g) hp.2.2
   obtain ⟨x, hx⟩ : ∃ x, x = nb (N / g) := ⟨_, rfl⟩
   obtain ⟨y, hy⟩ : ∃ y, y = nb (d / g) := ⟨_, rfl⟩
   have ex : textS.val (N / g) = .string x := by rw [hx]; rfl
   have ey : textS.val (d / g) = .string y := by rw [hy]; rfl
   rw [← hx] at eq
   conv => whnf
   rw [en, show decide (((g : Nat) : Int) ≠ 0) = true from decide_eq_true (by omega)]
   conv => whnf
   rw [ed]
   refine ⟨N / g, rfl, by show N / g < _; exact Nat.lt_of_le_of_lt (Nat.div_le_self _ _) (by omega), ?_⟩
   rw [ex]
   conv => whnf
   refine br_intro (fun h3 => ?_) (fun h3 => ?_)
   ·have h3 : d ≠ g := by
     intro e
     rw [e] at h3
     simp at h3
    have e4 : denS (d / g) = y := by
     rw [hy]; unfold denS; rw [if_neg (fun h => h3 (hd1.1 h))]
    rw [e4] at eq
    conv => whnf
    rw [show decide (((g : Nat) : Int) ≠ 0) = true from decide_eq_true (by omega)]
    conv => whnf
    rw [ed2]
    refine ⟨d / g, rfl, by show d / g < _; exact Nat.lt_of_le_of_lt (Nat.div_le_self _ _) hp.2.2, ?_⟩
    rw [ey]
    conv => whnf
    exact fin _ eq.symm
   ·have h3 : d = g := by
     have : ((d : Nat) : Int) = g := by simpa using h3
     omega
    have e4 : denS (d / g) = ⟨#[]⟩ := by unfold denS; rw [if_pos (hd1.2 h3)]
    rw [e4] at eq
    conv => whnf
    exact fin _ eq.symm
end Go.Proofs.YtppeponndkfbkaaGreat
/- Contracts of rational: fractions in lowest terms. -/
set_option maxRecDepth 20000
set_option maxHeartbeats 1000000
namespace Go.Proofs.YtppeponndkfbkaaGreat
open Go Go.Ae
def Emd : Env := { tt := tt, eqs := [], Φ := fun g => match g with
 | 81 => some (.p ofS)
 | 88 => some (.p cmpS)
 | _ => none }
theorem Emdok : EnvOk Tryz.prog Emd := ⟨tt_ok, fun t h => by simp [Emd] at h, (fun g S h => by
 simp only [Emd] at h
 split at h
 ·cases h; exact of_ok
 ·cases h; exact cmp_ok
 ·cases h), fun g F h => by simp [Emd] at h⟩
theorem is_ok : Snd Tryz.prog 117 isS := by
 refine snd_of Emdok Dok Tryz.func117 (enters_of Tryz.func117 (by kernel_rfl) rfl) (fun _ => rfl) (fun _ => rfl) ?_
 intro ⟨⟨b, s⟩, n⟩ hp
 have hp : s.size ≤ 549755813888 ∧ -9223372036854775808 ≤ n ∧ n < 9223372036854775808 := hp
 obtain ⟨V, m, hV⟩ := EI.mk' n
 have hm : m.size ≤ 549755813888 := by
  rw [hV.size]
  have := nby_i64 hp.2
  omega
 obtain ⟨q, hq⟩ : ∃ q, q = cmpZ (IV.z (b, s)) n := ⟨_, rfl⟩
 conv => whnf
 refine .inl ⟨3, [[], [], [1], [0, 1, 2], [0, 1, 2, 3], [0, 1, 2, 3, 4]], by kernel_rfl, ?_⟩
 conv => whnf
 refine ⟨n, rfl, ⟨by omega, by omega⟩, ?_⟩
 rw [show ofS.val n = .agg ⟨[.bool V, .string m]⟩ from hV.enc]
 conv => whnf
 refine ⟨((b, s), (V, m)), rfl, ⟨hp.1, hm⟩, ?_⟩
 rw [show cmpS.val ((b, s), (V, m)) = .int .i64 q from by show Value.int .i64 (cmpZ (IV.z (b, s)) (IV.z (V, m))) = _; rw [hV.val, hq]]
 conv => whnf
 show Value.bool (q == 0) = Value.bool (decide (IV.z (b, s) = n))
 congr 1
 rw [hq]
 unfold cmpZ
 split
 ·rw [decide_eq_false (by omega)]; rfl
 ·split
  ·rw [decide_eq_false (by omega)]; rfl
  ·rw [decide_eq_true (by omega)]; rfl
theorem integer_ok : Snd Tryz.prog 120 integerS := by
 refine snd_of E0ok Dok Tryz.func120 (enters_of Tryz.func120 (by kernel_rfl) rfl) (fun _ => rfl) (fun _ => rfl) ?_
 intro ⟨b, s⟩ _
 conv => whnf
 rfl
def Eme : Env := { tt := tt, eqs := [], Φ := fun g => match g with
 | 81 => some (.p ofS)
 | 117 => some (.p isS)
 | 120 => some (.p integerS)
 | _ => none }
theorem Emeok : EnvOk Tryz.prog Eme := ⟨tt_ok, fun t h => by simp [Eme] at h, (fun g S h => by
 simp only [Eme] at h
 split at h
 ·cases h; exact of_ok
 ·cases h; exact is_ok
 ·cases h; exact integer_ok
 ·cases h), fun g F h => by simp [Eme] at h⟩
theorem ofR_ok : Snd Tryz.prog 84 ofRS := by
 refine snd_of Emeok Dok Tryz.func84 (enters_of Tryz.func84 (by kernel_rfl) rfl) (fun _ => rfl) (fun _ => rfl) ?_
 intro ⟨b, s, t⟩ hp
 have hp : t.size ≤ 549755813888 := hp
 conv => whnf
 refine .inl ⟨10, [[], [0], [], [2], [0, 1, 2, 3], [], [5], [0, 1, 2, 3, 4, 5, 6], [0, 1, 2, 3, 4, 5, 6, 7], [], [0, 1, 2, 3, 4, 5, 6, 7, 8, 9]], by kernel_rfl, ?_⟩
 conv => whnf
 refine ⟨(b, s), rfl, trivial, ?_⟩
 conv => whnf
 refine ⟨(false, t), rfl, trivial, ?_⟩
 conv => whnf
 refine ⟨((false, t), 0), rfl, ⟨hp, r0⟩, ?_⟩
 by_cases h : bnat t = 0
 ·rw [show isS.val ((false, t), 0) = .bool true from by
   show Value.bool (decide (((bnat t : Nat) : Int) = 0)) = _
   rw [h]; rfl]
  obtain ⟨v, hv⟩ : ∃ v, v = nb 1 := ⟨_, rfl⟩
  conv => whnf
  refine ⟨(1 : Int), rfl, r1, ?_⟩
  rw [show ofS.val (1 : Int) = .agg ⟨[.bool false, .string v]⟩ from by rw [hv]; rfl]
  conv => whnf
  show Value.agg ⟨[.bool b, .string s, .bool false, .string v]⟩ = fracV (b, s) (false, RV.den (b, s, t))
  unfold RV.den
  rw [if_pos h, ← hv]
  rfl
 ·rw [show isS.val ((false, t), 0) = .bool false from by
   show Value.bool (decide (((bnat t : Nat) : Int) = 0)) = _
   rw [decide_eq_false (by omega)]]
  conv => whnf
  show Value.agg ⟨[.bool b, .string s, .bool false, .string t]⟩ = fracV (b, s) (false, RV.den (b, s, t))
  unfold RV.den
  rw [if_neg h]
  rfl
def Emf : Env := { tt := tt, eqs := [], Φ := fun g => match g with
 | 117 => some (.p isS)
 | 118 => some (.p gcdS)
 | 119 => some (.p divS)
 | _ => none }
theorem Emfok : EnvOk Tryz.prog Emf := ⟨tt_ok, fun t h => by simp [Emf] at h, (fun g S h => by
 simp only [Emf] at h
 split at h
 ·cases h; exact is_ok
 ·cases h; exact gcd_ok
 ·cases h; exact div_ok
 ·cases h), fun g F h => by simp [Emf] at h⟩
theorem number_ok : Snd Tryz.prog 82 numberS := by
 refine snd_of Emfok Dok Tryz.func82 (enters_of Tryz.func82 (by kernel_rfl) rfl) (fun _ => rfl) (fun _ => rfl) ?_
 intro ⟨⟨b, s⟩, ⟨c, t⟩⟩ hp
 have hp : s.size ≤ 549755813888 ∧ t.size ≤ 549755813888 ∧ 0 < IV.z (c, t) := hp
 obtain ⟨x, hx⟩ : ∃ x, x = IV.z (b, s) := ⟨_, rfl⟩
 obtain ⟨d, hd⟩ : ∃ d, d = (IV.z (c, t)).natAbs := ⟨_, rfl⟩
 have hd2 : IV.z (c, t) = ((d : Nat) : Int) := by omega
 have hd0 : d ≠ 0 := by omega
 obtain ⟨q, hq⟩ : ∃ q, q = mkRat x d := ⟨_, rfl⟩
 have fin : ∀ v : Value, v = encQ q → v = numberS.val ((b, s), (c, t)) := fun v h => by rw [h, hq, hx, hd]; rfl
 conv => whnf
 refine ⟨((b, s), 0), rfl, ⟨hp.1, r0⟩, ?_⟩
 rw [show isS.val ((b, s), 0) = .bool (decide (x = 0)) from by rw [hx]; rfl]
 by_cases h1 : x = 0
 ·rw [decide_eq_true h1]
  conv => whnf
  exact fin _ (by rw [hq, h1]; exact (encQ_zero d).symm)
 ·rw [decide_eq_false h1]
  obtain ⟨g, hg⟩ : ∃ g, g = Int.gcd x d := ⟨_, rfl⟩
  obtain ⟨gs, hgs⟩ := EI.nonneg (show 0 ≤ ((g : Nat) : Int) by omega)
  obtain ⟨qb, qs, hn⟩ := EI.mk' q.num
  obtain ⟨es, he⟩ := EI.nonneg (show 0 ≤ ((q.den : Nat) : Int) by omega)
  have hg0 : ((g : Nat) : Int) ≠ 0 := by
   have : 0 < g := by rw [hg]; exact Int.gcd_pos_of_ne_zero_left _ h1
   omega
  have hgle : g ≤ d := by
   have h3 := (div_self_gcd hd0 hg).2.1
   rcases Nat.lt_or_ge d g with h | h
   ·rw [Nat.div_eq_of_lt h] at h3; omega
   ·exact h
  have hds : nby d ≤ 549755813888 := by rw [hd]; exact IV.nby (i := (c, t)) hp.2.1
  have gsz : gs.size ≤ 549755813888 := by
   rw [hgs.size, Int.natAbs_natCast]
   exact Nat.le_trans (nby_mono hgle) hds
  have esz : es.size ≤ 549755813888 := by
   rw [he.size, Int.natAbs_natCast]
   exact Nat.le_trans (nby_mono (by rw [hq]; exact den_le x hd0)) hds
  have hqn : x.fdiv ((g : Nat) : Int) = q.num := by rw [hg, hq]; exact mk_num x hd0
  have hqd : ((d : Nat) : Int).fdiv ((g : Nat) : Int) = ((q.den : Nat) : Int) := by rw [hg, hq]; exact mk_den x hd0
  conv => whnf
  refine ⟨((b, s), (c, t)), rfl, ⟨hp.1, hp.2.1⟩, ?_⟩
  rw [show gcdS.val ((b, s), (c, t)) = .agg ⟨[.bool false, .string gs]⟩ from by
   show encI ((Int.gcd (IV.z (b, s)) (IV.z (c, t)) : Nat) : Int) = _
   rw [← hx, hd2, ← hg, hgs.enc]]
  conv => whnf
  obtain ⟨fb, fs, hf⟩ := EI.mk' (x.fmod ((g : Nat) : Int))
  refine ⟨((b, s), (false, gs)), rfl, ⟨hp.1, gsz⟩, ?_⟩
  rw [show divS.val ((b, s), (false, gs)) = .tuple ⟨[.agg ⟨[.bool qb, .string qs]⟩, .agg ⟨[.bool fb, .string fs]⟩, .int .i64 0]⟩ from by
   simp only [divS, hgs.val, if_neg hg0]
   rw [← hx, hqn, hn.enc, hf.enc]]
  conv => whnf
  obtain ⟨kb, ks, hk⟩ := EI.mk' (((d : Nat) : Int).fmod ((g : Nat) : Int))
  refine ⟨((c, t), (false, gs)), rfl, ⟨hp.2.1, gsz⟩, ?_⟩
  rw [show divS.val ((c, t), (false, gs)) = .tuple ⟨[.agg ⟨[.bool false, .string es]⟩, .agg ⟨[.bool kb, .string ks]⟩, .int .i64 0]⟩ from by
   simp only [divS, hgs.val, if_neg hg0, hd2]
   rw [hqd, he.enc, hk.enc]]
  conv => whnf
  refine ⟨((false, es), 1), rfl, ⟨esz, r1⟩, ?_⟩
  rw [show isS.val ((false, es), 1) = .bool (decide (((q.den : Nat) : Int) = 1)) from by
   show Value.bool (decide (IV.z (false, es) = 1)) = _
   rw [he.val]]
  have enc : ∀ y, denS q.den = y → Value.agg ⟨[.bool qb, .string qs, .string y]⟩ = encQ q := fun y hy => by
   unfold encQ
   rw [← hn.mag, ← hn.sign, hy]
  by_cases h2 : q.den = 1
  ·rw [decide_eq_true (by omega)]
   conv => whnf
   exact fin _ (enc _ (by unfold denS; rw [if_pos h2]))
  ·rw [decide_eq_false (by omega)]
   conv => whnf
   exact fin _ (enc _ (by unfold denS; rw [if_neg h2, he.mag, Int.natAbs_natCast]))
end Go.Proofs.YtppeponndkfbkaaGreat
/- Contracts of rational: what is made of small numbers, and of large ones. -/
set_option maxRecDepth 20000
set_option maxHeartbeats 1000000
namespace Go.Proofs.YtppeponndkfbkaaGreat
open Go Go.Ae
def Emg : Env := { tt := tt, eqs := [], Φ := fun g => match g with
 | 128 => some (.p ratioS)
 | _ => none }
theorem Emgok : EnvOk Tryz.prog Emg := ⟨tt_ok, fun t h => by simp [Emg] at h, (fun g S h => by
 simp only [Emg] at h
 split at h
 ·cases h; exact ratio_ok
 ·cases h), fun g F h => by simp [Emg] at h⟩
theorem add1_ok : Snd Tryz.prog 130 add1S := by
 refine snd_of Emgok Dok Tryz.func130 (enters_of Tryz.func130 (by kernel_rfl) rfl) (fun _ => rfl) (fun _ => rfl) ?_
 intro ⟨⟨n, d⟩, ⟨m, e⟩⟩ hp
 obtain ⟨h1, h2, h3, h4⟩ := I4.bounds hp
 simp only at h1 h2 h3 h4
 obtain ⟨x, hx⟩ : ∃ x, x = n * (e : Int) := ⟨_, rfl⟩
 obtain ⟨y, hy⟩ : ∃ y, y = m * (d : Int) := ⟨_, rfl⟩
 obtain ⟨k, hk⟩ : ∃ k, k = d * e := ⟨_, rfl⟩
 rw [← hx] at h1
 rw [← hy] at h2
 rw [← hk] at h4
 have e1 : IntKind.i64.wrap (IntKind.i64.wrap (n * (e : Int)) + IntKind.i64.wrap (m * (d : Int))) = x + y := by
  rw [← hx, ← hy, wrapi64 (x := x) (by omega) (by omega), wrapi64 (x := y) (by omega) (by omega), wrapi64 (by omega) (by omega)]
 have e2 : IntKind.i64.wrap ((d : Int) * (e : Int)) = (k : Int) := by
  rw [← Int.natCast_mul, ← hk, wrapi64 (by omega) (by omega)]
 conv => whnf
 rw [show IntKind.i64.wrap (IntKind.i64.wrap (((n, d), m, e).fst.fst * (((n, d), m, e).snd.snd : Int)) + IntKind.i64.wrap (((n, d), m, e).snd.fst * (((n, d), m, e).fst.snd : Int))) = x + y from e1]
 rw [show IntKind.i64.wrap ((((n, d), m, e).fst.snd : Int) * (((n, d), m, e).snd.snd : Int)) = (k : Int) from e2]
 refine ⟨(x + y, k), rfl, ⟨by show (x + y).natAbs < _; omega, by show k ≠ 0; omega, by show k < _; omega⟩, ?_⟩
 obtain ⟨v, hv⟩ : ∃ v, v = mkRat (x + y) k := ⟨_, rfl⟩
 rw [show ratioS.val (x + y, k) = (RV.of v).v from by rw [hv]; rfl]
 conv => whnf
 show (RV.of v).v = encQ (mkRat (n * e + m * d) (d * e))
 rw [hv, hx, hy, hk]
 rfl
theorem mul1_ok : Snd Tryz.prog 127 mul1S := by
 refine snd_of Emgok Dok Tryz.func127 (enters_of Tryz.func127 (by kernel_rfl) rfl) (fun _ => rfl) (fun _ => rfl) ?_
 intro ⟨⟨n, d⟩, ⟨m, e⟩⟩ hp
 obtain ⟨h1, h2, h3, h4⟩ := I4.bounds hp
 simp only at h1 h2 h3 h4
 obtain ⟨x, hx⟩ : ∃ x, x = n * m := ⟨_, rfl⟩
 obtain ⟨k, hk⟩ : ∃ k, k = d * e := ⟨_, rfl⟩
 rw [← hx] at h3
 rw [← hk] at h4
 have e1 : IntKind.i64.wrap (n * m) = x := by
  rw [← hx, wrapi64 (x := x) (by omega) (by omega)]
 have e2 : IntKind.i64.wrap ((d : Int) * (e : Int)) = (k : Int) := by
  rw [← Int.natCast_mul, ← hk, wrapi64 (by omega) (by omega)]
 conv => whnf
 rw [show IntKind.i64.wrap (((n, d), m, e).fst.fst * ((n, d), m, e).snd.fst) = x from e1]
 rw [show IntKind.i64.wrap ((((n, d), m, e).fst.snd : Int) * (((n, d), m, e).snd.snd : Int)) = (k : Int) from e2]
 refine ⟨(x, k), rfl, ⟨by show x.natAbs < _; omega, by show k ≠ 0; omega, by show k < _; omega⟩, ?_⟩
 obtain ⟨v, hv⟩ : ∃ v, v = mkRat x k := ⟨_, rfl⟩
 rw [show ratioS.val (x, k) = (RV.of v).v from by rw [hv]; rfl]
 conv => whnf
 show (RV.of v).v = encQ (mkRat (n * m) (d * e))
 rw [hv, hx, hk]
 rfl
theorem cmp1_ok : Snd Tryz.prog 101 cmp1S := by
 refine snd_of E0ok Dok Tryz.func101 (enters_of Tryz.func101 (by kernel_rfl) rfl) (fun _ => rfl) (fun _ => rfl) ?_
 intro ⟨⟨n, d⟩, ⟨m, e⟩⟩ hp
 obtain ⟨h1, h2, h3, h4⟩ := I4.bounds hp
 simp only at h1 h2 h3 h4
 obtain ⟨x, hx⟩ : ∃ x, x = n * (e : Int) := ⟨_, rfl⟩
 obtain ⟨y, hy⟩ : ∃ y, y = m * (d : Int) := ⟨_, rfl⟩
 rw [← hx] at h1
 rw [← hy] at h2
 have e1 : IntKind.i64.wrap (n * (e : Int)) = x := by rw [← hx, wrapi64 (x := x) (by omega) (by omega)]
 have e2 : IntKind.i64.wrap (m * (d : Int)) = y := by rw [← hy, wrapi64 (x := y) (by omega) (by omega)]
 have fin : ∀ z : Int, z = cmpZ x y → Value.int .i64 z = cmp1S.val ((n, d), (m, e)) := fun z h => by rw [h, hx, hy]; rfl
 conv => whnf
 rw [show IntKind.i64.wrap (((n, d), m, e).fst.fst * (((n, d), m, e).snd.snd : Int)) = x from e1, show IntKind.i64.wrap (((n, d), m, e).snd.fst * (((n, d), m, e).fst.snd : Int)) = y from e2]
 refine br_intro (fun h => ?_) (fun h => ?_)
 ·have h := of_decide_eq_true h
  conv => whnf
  exact fin _ (cmpZ_lt h).symm
 ·have h := of_decide_eq_false h
  conv => whnf
  refine br_intro (fun h5 => ?_) (fun h5 => ?_)
  ·have h5 := of_decide_eq_true h5
   conv => whnf
   exact fin _ (cmpZ_gt h5).symm
  ·have h5 := of_decide_eq_false h5
   conv => whnf
   refine fin _ ?_
   unfold cmpZ
   rw [if_neg h, if_neg (show ¬ y < x from h5)]
def Emh : Env := { tt := tt, eqs := [], Φ := fun g => match g with
 | 98 => some (.p mulS)
 | 132 => some (.p addS)
 | 88 => some (.p cmpS)
 | 82 => some (.p numberS)
 | _ => none }
theorem Emhok : EnvOk Tryz.prog Emh := ⟨tt_ok, fun t h => by simp [Emh] at h, (fun g S h => by
 simp only [Emh] at h
 split at h
 ·cases h; exact mul_ok
 ·cases h; exact add_ok
 ·cases h; exact cmp_ok
 ·cases h; exact number_ok
 ·cases h), fun g F h => by simp [Emh] at h⟩
theorem add2_ok : Snd Tryz.prog 131 add2S := by
 refine snd_of Emhok Dok Tryz.func131 (enters_of Tryz.func131 (by kernel_rfl) rfl) (fun _ => rfl) (fun _ => rfl) ?_
 intro ⟨⟨⟨b, s⟩, ⟨c, t⟩⟩, ⟨⟨b', s'⟩, ⟨c', t'⟩⟩⟩ hp
 have hp : ((s.size ≤ 17179869184 ∧ t.size ≤ 17179869184) ∧ 0 < IV.z (c, t)) ∧ (s'.size ≤ 17179869184 ∧ t'.size ≤ 17179869184) ∧ 0 < IV.z (c', t') := hp
 obtain ⟨⟨⟨hs, ht⟩, hd⟩, ⟨hs', ht'⟩, hd'⟩ := hp
 obtain ⟨B1, m1, h1⟩ := EI.mk' (IV.z (b, s) * IV.z (c', t'))
 obtain ⟨B2, m2, h2⟩ := EI.mk' (IV.z (b', s') * IV.z (c, t))
 obtain ⟨B3, m3, h3⟩ := EI.mk' (IV.z (b, s) * IV.z (c', t') + IV.z (b', s') * IV.z (c, t))
 obtain ⟨B4, m4, h4⟩ := EI.mk' (IV.z (c, t) * IV.z (c', t'))
 have z1 := h1.mul_size (nby_z hs) (nby_z ht')
 have z2 := h2.mul_size (nby_z hs') (nby_z ht)
 have z4 := h4.mul_size (nby_z ht) (nby_z ht')
 have z3 : m3.size ≤ 34359738369 := h3.add_size (by rw [← h1.size]; omega) (by rw [← h2.size]; omega)
 have hpos := Int.mul_pos hd hd'
 conv => whnf
 refine .inl ⟨15, [[], [0], [], [2], [0, 1, 2, 3], [], [5], [], [7], [0, 1, 2, 3, 4, 5, 6, 7, 8], [0, 1, 2, 3, 4, 5, 6, 7, 8, 9], [], [11], [], [13], [0, 1, 2, 3, 4, 5, 6, 7, 8, 9, 10, 11, 12, 13, 14], [0, 1, 2, 3, 4, 5, 6, 7, 8, 9, 10, 11, 12, 13, 14, 15], [0, 1, 2, 3, 4, 5, 6, 7, 8, 9, 10, 11, 12, 13, 14, 15, 16], [0, 1, 2, 3, 4, 5, 6, 7, 8, 9, 10, 11, 12, 13, 14, 15, 16, 17]], by kernel_rfl, ?_⟩
 conv => whnf
 refine ⟨((b, s), (c', t')), rfl, ⟨by show s.size ≤ _; omega, by show t'.size ≤ _; omega⟩, ?_⟩
 rw [show mulS.val ((b, s), (c', t')) = .agg ⟨[.bool B1, .string m1]⟩ from h1.enc]
 conv => whnf
 refine ⟨((b', s'), (c, t)), rfl, ⟨by show s'.size ≤ _; omega, by show t.size ≤ _; omega⟩, ?_⟩
 rw [show mulS.val ((b', s'), (c, t)) = .agg ⟨[.bool B2, .string m2]⟩ from h2.enc]
 conv => whnf
 refine ⟨((B1, m1), (B2, m2)), rfl, ⟨by show m1.size ≤ _; omega, by show m2.size ≤ _; omega⟩, ?_⟩
 rw [show addS.val ((B1, m1), (B2, m2)) = .agg ⟨[.bool B3, .string m3]⟩ from by
  show encI (IV.z (B1, m1) + IV.z (B2, m2)) = _
  rw [h1.val, h2.val, h3.enc]]
 conv => whnf
 refine ⟨((c, t), (c', t')), rfl, ⟨by show t.size ≤ _; omega, by show t'.size ≤ _; omega⟩, ?_⟩
 rw [show mulS.val ((c, t), (c', t')) = .agg ⟨[.bool B4, .string m4]⟩ from h4.enc]
 conv => whnf
 refine ⟨((B3, m3), (B4, m4)), rfl, ⟨by show m3.size ≤ _; omega, by show m4.size ≤ _; omega, by show 0 < IV.z (B4, m4); rw [h4.val]; exact hpos⟩, ?_⟩
 obtain ⟨v, hv⟩ : ∃ v, v = mkRat (IV.z (B3, m3)) (IV.z (B4, m4)).natAbs := ⟨_, rfl⟩
 rw [show numberS.val ((B3, m3), (B4, m4)) = (RV.of v).v from by rw [hv]; rfl]
 rw [h3.val, h4.val] at hv
 conv => whnf
 show (RV.of v).v = encQ _
 rw [hv]
 rfl
theorem mul2_ok : Snd Tryz.prog 129 mul2S := by
 refine snd_of Emhok Dok Tryz.func129 (enters_of Tryz.func129 (by kernel_rfl) rfl) (fun _ => rfl) (fun _ => rfl) ?_
 intro ⟨⟨⟨b, s⟩, ⟨c, t⟩⟩, ⟨⟨b', s'⟩, ⟨c', t'⟩⟩⟩ hp
 have hp : ((s.size ≤ 17179869184 ∧ t.size ≤ 17179869184) ∧ 0 < IV.z (c, t)) ∧ (s'.size ≤ 17179869184 ∧ t'.size ≤ 17179869184) ∧ 0 < IV.z (c', t') := hp
 obtain ⟨⟨⟨hs, ht⟩, hd⟩, ⟨hs', ht'⟩, hd'⟩ := hp
 obtain ⟨B3, m3, h3⟩ := EI.mk' (IV.z (b, s) * IV.z (b', s'))
 obtain ⟨B4, m4, h4⟩ := EI.mk' (IV.z (c, t) * IV.z (c', t'))
 have z3 := h3.mul_size (nby_z hs) (nby_z hs')
 have z4 := h4.mul_size (nby_z ht) (nby_z ht')
 have hpos := Int.mul_pos hd hd'
 conv => whnf
 refine .inl ⟨9, [[], [0], [], [2], [0, 1, 2, 3], [], [5], [], [7], [0, 1, 2, 3, 4, 5, 6, 7, 8], [0, 1, 2, 3, 4, 5, 6, 7, 8, 9], [0, 1, 2, 3, 4, 5, 6, 7, 8, 9, 10], [0, 1, 2, 3, 4, 5, 6, 7, 8, 9, 10, 11]], by kernel_rfl, ?_⟩
 conv => whnf
 refine ⟨((b, s), (b', s')), rfl, ⟨by show s.size ≤ _; omega, by show s'.size ≤ _; omega⟩, ?_⟩
 rw [show mulS.val ((b, s), (b', s')) = .agg ⟨[.bool B3, .string m3]⟩ from h3.enc]
 conv => whnf
 refine ⟨((c, t), (c', t')), rfl, ⟨by show t.size ≤ _; omega, by show t'.size ≤ _; omega⟩, ?_⟩
 rw [show mulS.val ((c, t), (c', t')) = .agg ⟨[.bool B4, .string m4]⟩ from h4.enc]
 conv => whnf
 refine ⟨((B3, m3), (B4, m4)), rfl, ⟨by show m3.size ≤ _; omega, by show m4.size ≤ _; omega, by show 0 < IV.z (B4, m4); rw [h4.val]; exact hpos⟩, ?_⟩
 obtain ⟨v, hv⟩ : ∃ v, v = mkRat (IV.z (B3, m3)) (IV.z (B4, m4)).natAbs := ⟨_, rfl⟩
 rw [show numberS.val ((B3, m3), (B4, m4)) = (RV.of v).v from by rw [hv]; rfl]
 rw [h3.val, h4.val] at hv
 conv => whnf
 show (RV.of v).v = encQ _
 rw [hv]
 rfl
theorem cmp2_ok : Snd Tryz.prog 102 cmp2S := by
 refine snd_of Emhok Dok Tryz.func102 (enters_of Tryz.func102 (by kernel_rfl) rfl) (fun _ => rfl) (fun _ => rfl) ?_
 intro ⟨⟨⟨b, s⟩, ⟨c, t⟩⟩, ⟨⟨b', s'⟩, ⟨c', t'⟩⟩⟩ hp
 have hp : ((s.size ≤ 17179869184 ∧ t.size ≤ 17179869184) ∧ 0 < IV.z (c, t)) ∧ (s'.size ≤ 17179869184 ∧ t'.size ≤ 17179869184) ∧ 0 < IV.z (c', t') := hp
 obtain ⟨⟨⟨hs, ht⟩, hd⟩, ⟨hs', ht'⟩, hd'⟩ := hp
 obtain ⟨B1, m1, h1⟩ := EI.mk' (IV.z (b, s) * IV.z (c', t'))
 obtain ⟨B2, m2, h2⟩ := EI.mk' (IV.z (b', s') * IV.z (c, t))
 have z1 := h1.mul_size (nby_z hs) (nby_z ht')
 have z2 := h2.mul_size (nby_z hs') (nby_z ht)
 obtain ⟨q, hq⟩ : ∃ q, q = cmpZ (IV.z (b, s) * IV.z (c', t')) (IV.z (b', s') * IV.z (c, t)) := ⟨_, rfl⟩
 conv => whnf
 refine .inl ⟨9, [[], [0], [], [2], [0, 1, 2, 3], [], [5], [], [7], [0, 1, 2, 3, 4, 5, 6, 7, 8], [0, 1, 2, 3, 4, 5, 6, 7, 8, 9], [0, 1, 2, 3, 4, 5, 6, 7, 8, 9, 10]], by kernel_rfl, ?_⟩
 conv => whnf
 refine ⟨((b, s), (c', t')), rfl, ⟨by show s.size ≤ _; omega, by show t'.size ≤ _; omega⟩, ?_⟩
 rw [show mulS.val ((b, s), (c', t')) = .agg ⟨[.bool B1, .string m1]⟩ from h1.enc]
 conv => whnf
 refine ⟨((b', s'), (c, t)), rfl, ⟨by show s'.size ≤ _; omega, by show t.size ≤ _; omega⟩, ?_⟩
 rw [show mulS.val ((b', s'), (c, t)) = .agg ⟨[.bool B2, .string m2]⟩ from h2.enc]
 conv => whnf
 refine ⟨((B1, m1), (B2, m2)), rfl, ⟨by show m1.size ≤ _; omega, by show m2.size ≤ _; omega⟩, ?_⟩
 rw [show cmpS.val ((B1, m1), (B2, m2)) = .int .i64 q from by
  show Value.int .i64 (cmpZ (IV.z (B1, m1)) (IV.z (B2, m2))) = _
  rw [h1.val, h2.val, hq]]
 conv => whnf
 show Value.int .i64 q = _
 rw [hq]
 rfl
end Go.Proofs.YtppeponndkfbkaaGreat
/- Contracts of rational: the operations. -/
set_option maxRecDepth 20000
set_option maxHeartbeats 1000000
namespace Go.Proofs.YtppeponndkfbkaaGreat
open Go Go.Ae
def Emj : Env := { tt := tt, eqs := [], Φ := fun g => match g with
 | 141 => some (.p machS)
 | 84 => some (.p ofRS)
 | 130 => some (.p add1S)
 | 131 => some (.p add2S)
 | 127 => some (.p mul1S)
 | 129 => some (.p mul2S)
 | 101 => some (.p cmp1S)
 | 102 => some (.p cmp2S)
 | _ => none }
theorem Emjok : EnvOk Tryz.prog Emj := ⟨tt_ok, fun t h => by simp [Emj] at h, (fun g S h => by
 simp only [Emj] at h
 split at h
 ·cases h; exact mach_ok
 ·cases h; exact ofR_ok
 ·cases h; exact add1_ok
 ·cases h; exact add2_ok
 ·cases h; exact mul1_ok
 ·cases h; exact mul2_ok
 ·cases h; exact cmp1_ok
 ·cases h; exact cmp2_ok
 ·cases h), fun g F h => by simp [Emj] at h⟩
theorem bothR_ft : FTOk Tryz.prog 126 (fnK Emj drawT Tryz.f126) := by
 exact ft_of Emjok Dok Tryz.func126 (enters_of Tryz.func126 (by kernel_rfl) rfl)
theorem bothI_ft : FTOk Tryz.prog 100 (fnK Emj drawT Tryz.f100) := by
 exact ft_of Emjok Dok Tryz.func100 (enters_of Tryz.func100 (by kernel_rfl) rfl)
def EmkW : FuncId → Option FT := fun g => match g with
 | 126 => some (fnK Emj drawT Tryz.f126)
 | 100 => some (fnK Emj drawT Tryz.f100)
 | _ => none
def Emk : Env := { tt := tt, eqs := [], Ψ := EmkW, Φ := fun g => match g with
 | _ => none }
theorem Emkok : EnvOk Tryz.prog Emk := ⟨tt_ok, fun t h => by simp [Emk] at h, (fun g S h => by
 change none = some S at h
 cases h), (fun g F h => by
 simp only [Emk, EmkW] at h
 split at h
 ·cases h; exact bothR_ft
 ·cases h; exact bothI_ft
 ·cases h)⟩
theorem qadd_ok : Snd Tryz.prog 91 qaddS := by
 refine snd_of Emkok Dok Tryz.func91 (enters_of Tryz.func91 (by kernel_rfl) rfl) (fun _ => rfl) (fun _ => rfl) ?_
 intro ⟨⟨b, s, t⟩, ⟨c, u, v⟩⟩ hp
 have hp : RV.ok (b, s, t) ∧ RV.ok (c, u, v) := hp
 obtain ⟨w, hw⟩ : ∃ w, w = RV.q (b, s, t) + RV.q (c, u, v) := ⟨_, rfl⟩
 have fin : ∀ x : Value, x = (RV.of w).v → x = qaddS.val ((b, s, t), (c, u, v)) := fun x h => by rw [h, hw]; rfl
 obtain ⟨x, hx⟩ : ∃ x, x = RV.den (b, s, t) := ⟨_, rfl⟩
 obtain ⟨y, hy⟩ : ∃ y, y = RV.den (c, u, v) := ⟨_, rfl⟩
 have ex : ofRS.val (b, s, t) = .agg ⟨[.bool b, .string s, .bool false, .string x]⟩ := by rw [hx]; rfl
 have ey : ofRS.val (c, u, v) = .agg ⟨[.bool c, .string u, .bool false, .string y]⟩ := by rw [hy]; rfl
 have f1 := RV.fracOk hp.1
 have f2 := RV.fracOk hp.2
 have e2 : add2S.val (((b, s), (false, x)), ((c, u), (false, y))) = (RV.of w).v := by rw [hx, hy, hw]; exact add2_q (b, s, t) (c, u, v)
 rw [← hx] at f1
 rw [← hy] at f2
 have e1 := add1_q (b, s, t) (c, u, v)
 have hn := RV.tinyR (i := (b, s, t))
 have hm := RV.tinyR (i := (c, u, v))
 rw [← hw] at e1
 obtain ⟨n, hn2⟩ : ∃ n, n = RV.n (b, s, t) := ⟨_, rfl⟩
 obtain ⟨m, hm2⟩ : ∃ n, n = RV.n (c, u, v) := ⟨_, rfl⟩
 obtain ⟨d, hd2⟩ : ∃ n, n = RV.d (b, s, t) := ⟨_, rfl⟩
 obtain ⟨e, he2⟩ : ∃ n, n = RV.d (c, u, v) := ⟨_, rfl⟩
 rw [← hn2, ← hd2] at hn e1
 rw [← hm2, ← he2] at hm e1
 conv => whnf
 refine ⟨(b, s, t), rfl, trivial, ?_⟩
 by_cases h1 : RV.tiny (b, s, t)
 ·rw [show machS.val (b, s, t) = .tuple ⟨[.int .i64 n, .int .i64 d, .bool true]⟩ from by simp only [machS, if_pos h1, decide_eq_true h1, hn2, hd2]]
  conv => whnf
  refine ⟨(c, u, v), rfl, trivial, ?_⟩
  by_cases h2 : RV.tiny (c, u, v)
  ·rw [show machS.val (c, u, v) = .tuple ⟨[.int .i64 m, .int .i64 e, .bool true]⟩ from by simp only [machS, if_pos h2, decide_eq_true h2, hm2, he2]]
   conv => whnf
   refine ⟨((n, d), (m, e)), rfl, ⟨hn h1, hm h2⟩, ?_⟩
   rw [show add1S.val ((n, d), (m, e)) = (RV.of w).v from e1]
   conv => whnf
   exact fin _ rfl
  ·rw [show machS.val (c, u, v) = .tuple ⟨[.int .i64 0, .int .i64 0, .bool false]⟩ from by simp only [machS, if_neg h2, decide_eq_false h2]]
   conv => whnf
   refine .inl ⟨5, [[], [], [1], [], [1, 2, 3], [0, 1, 2, 3, 4], [0, 1, 2, 3, 4, 5]], by kernel_rfl, ?_⟩
   conv => whnf
   refine ⟨(b, s, t), rfl, by have := hp.1.2; show t.size ≤ _; exact Nat.le_trans this (by decide), ?_⟩
   rw [ex]
   conv => whnf
   refine ⟨(c, u, v), rfl, by have := hp.2.2; show v.size ≤ _; exact Nat.le_trans this (by decide), ?_⟩
   rw [ey]
   conv => whnf
   refine ⟨(((b, s), (false, x)), ((c, u), (false, y))), rfl, ⟨f1, f2⟩, ?_⟩
   rw [show add2S.val (((b, s), (false, x)), ((c, u), (false, y))) = (RV.of w).v from e2]
   conv => whnf
   exact fin _ rfl
 ·rw [show machS.val (b, s, t) = .tuple ⟨[.int .i64 0, .int .i64 0, .bool false]⟩ from by simp only [machS, if_neg h1, decide_eq_false h1]]
  conv => whnf
  obtain ⟨k1, k2, k3, hk⟩ : ∃ (k1 k2 : Int) (k3 : Bool), machS.val (c, u, v) = .tuple ⟨[.int .i64 k1, .int .i64 k2, .bool k3]⟩ := ⟨_, _, _, rfl⟩
  refine ⟨(c, u, v), rfl, trivial, ?_⟩
  rw [hk]
  conv => whnf
  refine .inl ⟨5, [[], [], [1], [], [1, 2, 3], [0, 1, 2, 3, 4], [0, 1, 2, 3, 4, 5]], by kernel_rfl, ?_⟩
  conv => whnf
  refine ⟨(b, s, t), rfl, by have := hp.1.2; show t.size ≤ _; exact Nat.le_trans this (by decide), ?_⟩
  rw [ex]
  conv => whnf
  refine ⟨(c, u, v), rfl, by have := hp.2.2; show v.size ≤ _; exact Nat.le_trans this (by decide), ?_⟩
  rw [ey]
  conv => whnf
  refine ⟨(((b, s), (false, x)), ((c, u), (false, y))), rfl, ⟨f1, f2⟩, ?_⟩
  rw [show add2S.val (((b, s), (false, x)), ((c, u), (false, y))) = (RV.of w).v from e2]
  conv => whnf
  exact fin _ rfl
theorem qmul_ok : Snd Tryz.prog 90 qmulS := by
 refine snd_of Emkok Dok Tryz.func90 (enters_of Tryz.func90 (by kernel_rfl) rfl) (fun _ => rfl) (fun _ => rfl) ?_
 intro ⟨⟨b, s, t⟩, ⟨c, u, v⟩⟩ hp
 have hp : RV.ok (b, s, t) ∧ RV.ok (c, u, v) := hp
 obtain ⟨w, hw⟩ : ∃ w, w = RV.q (b, s, t) * RV.q (c, u, v) := ⟨_, rfl⟩
 have fin : ∀ x : Value, x = (RV.of w).v → x = qmulS.val ((b, s, t), (c, u, v)) := fun x h => by rw [h, hw]; rfl
 obtain ⟨x, hx⟩ : ∃ x, x = RV.den (b, s, t) := ⟨_, rfl⟩
 obtain ⟨y, hy⟩ : ∃ y, y = RV.den (c, u, v) := ⟨_, rfl⟩
 have ex : ofRS.val (b, s, t) = .agg ⟨[.bool b, .string s, .bool false, .string x]⟩ := by rw [hx]; rfl
 have ey : ofRS.val (c, u, v) = .agg ⟨[.bool c, .string u, .bool false, .string y]⟩ := by rw [hy]; rfl
 have f1 := RV.fracOk hp.1
 have f2 := RV.fracOk hp.2
 have e2 : mul2S.val (((b, s), (false, x)), ((c, u), (false, y))) = (RV.of w).v := by rw [hx, hy, hw]; exact mul2_q (b, s, t) (c, u, v)
 rw [← hx] at f1
 rw [← hy] at f2
 have e1 := mul1_q (b, s, t) (c, u, v)
 have hn := RV.tinyR (i := (b, s, t))
 have hm := RV.tinyR (i := (c, u, v))
 rw [← hw] at e1
 obtain ⟨n, hn2⟩ : ∃ n, n = RV.n (b, s, t) := ⟨_, rfl⟩
 obtain ⟨m, hm2⟩ : ∃ n, n = RV.n (c, u, v) := ⟨_, rfl⟩
 obtain ⟨d, hd2⟩ : ∃ n, n = RV.d (b, s, t) := ⟨_, rfl⟩
 obtain ⟨e, he2⟩ : ∃ n, n = RV.d (c, u, v) := ⟨_, rfl⟩
 rw [← hn2, ← hd2] at hn e1
 rw [← hm2, ← he2] at hm e1
 conv => whnf
 refine ⟨(b, s, t), rfl, trivial, ?_⟩
 by_cases h1 : RV.tiny (b, s, t)
 ·rw [show machS.val (b, s, t) = .tuple ⟨[.int .i64 n, .int .i64 d, .bool true]⟩ from by simp only [machS, if_pos h1, decide_eq_true h1, hn2, hd2]]
  conv => whnf
  refine ⟨(c, u, v), rfl, trivial, ?_⟩
  by_cases h2 : RV.tiny (c, u, v)
  ·rw [show machS.val (c, u, v) = .tuple ⟨[.int .i64 m, .int .i64 e, .bool true]⟩ from by simp only [machS, if_pos h2, decide_eq_true h2, hm2, he2]]
   conv => whnf
   refine ⟨((n, d), (m, e)), rfl, ⟨hn h1, hm h2⟩, ?_⟩
   rw [show mul1S.val ((n, d), (m, e)) = (RV.of w).v from e1]
   conv => whnf
   exact fin _ rfl
  ·rw [show machS.val (c, u, v) = .tuple ⟨[.int .i64 0, .int .i64 0, .bool false]⟩ from by simp only [machS, if_neg h2, decide_eq_false h2]]
   conv => whnf
   refine .inl ⟨5, [[], [], [1], [], [1, 2, 3], [0, 1, 2, 3, 4], [0, 1, 2, 3, 4, 5]], by kernel_rfl, ?_⟩
   conv => whnf
   refine ⟨(b, s, t), rfl, by have := hp.1.2; show t.size ≤ _; exact Nat.le_trans this (by decide), ?_⟩
   rw [ex]
   conv => whnf
   refine ⟨(c, u, v), rfl, by have := hp.2.2; show v.size ≤ _; exact Nat.le_trans this (by decide), ?_⟩
   rw [ey]
   conv => whnf
   refine ⟨(((b, s), (false, x)), ((c, u), (false, y))), rfl, ⟨f1, f2⟩, ?_⟩
   rw [show mul2S.val (((b, s), (false, x)), ((c, u), (false, y))) = (RV.of w).v from e2]
   conv => whnf
   exact fin _ rfl
 ·rw [show machS.val (b, s, t) = .tuple ⟨[.int .i64 0, .int .i64 0, .bool false]⟩ from by simp only [machS, if_neg h1, decide_eq_false h1]]
  conv => whnf
  obtain ⟨k1, k2, k3, hk⟩ : ∃ (k1 k2 : Int) (k3 : Bool), machS.val (c, u, v) = .tuple ⟨[.int .i64 k1, .int .i64 k2, .bool k3]⟩ := ⟨_, _, _, rfl⟩
  refine ⟨(c, u, v), rfl, trivial, ?_⟩
  rw [hk]
  conv => whnf
  refine .inl ⟨5, [[], [], [1], [], [1, 2, 3], [0, 1, 2, 3, 4], [0, 1, 2, 3, 4, 5]], by kernel_rfl, ?_⟩
  conv => whnf
  refine ⟨(b, s, t), rfl, by have := hp.1.2; show t.size ≤ _; exact Nat.le_trans this (by decide), ?_⟩
  rw [ex]
  conv => whnf
  refine ⟨(c, u, v), rfl, by have := hp.2.2; show v.size ≤ _; exact Nat.le_trans this (by decide), ?_⟩
  rw [ey]
  conv => whnf
  refine ⟨(((b, s), (false, x)), ((c, u), (false, y))), rfl, ⟨f1, f2⟩, ?_⟩
  rw [show mul2S.val (((b, s), (false, x)), ((c, u), (false, y))) = (RV.of w).v from e2]
  conv => whnf
  exact fin _ rfl
theorem qcmp_ok : Snd Tryz.prog 67 qcmpS := by
 refine snd_of Emkok Dok Tryz.func67 (enters_of Tryz.func67 (by kernel_rfl) rfl) (fun _ => rfl) (fun _ => rfl) ?_
 intro ⟨⟨b, s, t⟩, ⟨c, u, v⟩⟩ hp
 have hp : RV.ok (b, s, t) ∧ RV.ok (c, u, v) := hp
 obtain ⟨w, hw⟩ : ∃ w, w = cmpQ (RV.q (b, s, t)) (RV.q (c, u, v)) := ⟨_, rfl⟩
 have fin : ∀ x : Value, x = .int .i64 w → x = qcmpS.val ((b, s, t), (c, u, v)) := fun x h => by rw [h, hw]; rfl
 obtain ⟨x, hx⟩ : ∃ x, x = RV.den (b, s, t) := ⟨_, rfl⟩
 obtain ⟨y, hy⟩ : ∃ y, y = RV.den (c, u, v) := ⟨_, rfl⟩
 have ex : ofRS.val (b, s, t) = .agg ⟨[.bool b, .string s, .bool false, .string x]⟩ := by rw [hx]; rfl
 have ey : ofRS.val (c, u, v) = .agg ⟨[.bool c, .string u, .bool false, .string y]⟩ := by rw [hy]; rfl
 have f1 := RV.fracOk hp.1
 have f2 := RV.fracOk hp.2
 have e2 : cmp2S.val (((b, s), (false, x)), ((c, u), (false, y))) = .int .i64 w := by rw [hx, hy, hw]; exact cmp2_q (b, s, t) (c, u, v)
 rw [← hx] at f1
 rw [← hy] at f2
 have e1 := cmp1_q (b, s, t) (c, u, v)
 have hn := RV.tinyR (i := (b, s, t))
 have hm := RV.tinyR (i := (c, u, v))
 rw [← hw] at e1
 obtain ⟨n, hn2⟩ : ∃ n, n = RV.n (b, s, t) := ⟨_, rfl⟩
 obtain ⟨m, hm2⟩ : ∃ n, n = RV.n (c, u, v) := ⟨_, rfl⟩
 obtain ⟨d, hd2⟩ : ∃ n, n = RV.d (b, s, t) := ⟨_, rfl⟩
 obtain ⟨e, he2⟩ : ∃ n, n = RV.d (c, u, v) := ⟨_, rfl⟩
 rw [← hn2, ← hd2] at hn e1
 rw [← hm2, ← he2] at hm e1
 conv => whnf
 refine ⟨(b, s, t), rfl, trivial, ?_⟩
 by_cases h1 : RV.tiny (b, s, t)
 ·rw [show machS.val (b, s, t) = .tuple ⟨[.int .i64 n, .int .i64 d, .bool true]⟩ from by simp only [machS, if_pos h1, decide_eq_true h1, hn2, hd2]]
  conv => whnf
  refine ⟨(c, u, v), rfl, trivial, ?_⟩
  by_cases h2 : RV.tiny (c, u, v)
  ·rw [show machS.val (c, u, v) = .tuple ⟨[.int .i64 m, .int .i64 e, .bool true]⟩ from by simp only [machS, if_pos h2, decide_eq_true h2, hm2, he2]]
   conv => whnf
   refine ⟨((n, d), (m, e)), rfl, ⟨hn h1, hm h2⟩, ?_⟩
   rw [show cmp1S.val ((n, d), (m, e)) = .int .i64 w from e1]
   conv => whnf
   exact fin _ rfl
  ·rw [show machS.val (c, u, v) = .tuple ⟨[.int .i64 0, .int .i64 0, .bool false]⟩ from by simp only [machS, if_neg h2, decide_eq_false h2]]
   conv => whnf
   refine .inl ⟨5, [[], [], [1], [], [1, 2, 3], [0, 1, 2, 3, 4], [0, 1, 2, 3, 4, 5]], by kernel_rfl, ?_⟩
   conv => whnf
   refine ⟨(b, s, t), rfl, by have := hp.1.2; show t.size ≤ _; exact Nat.le_trans this (by decide), ?_⟩
   rw [ex]
   conv => whnf
   refine ⟨(c, u, v), rfl, by have := hp.2.2; show v.size ≤ _; exact Nat.le_trans this (by decide), ?_⟩
   rw [ey]
   conv => whnf
   refine ⟨(((b, s), (false, x)), ((c, u), (false, y))), rfl, ⟨f1, f2⟩, ?_⟩
   rw [show cmp2S.val (((b, s), (false, x)), ((c, u), (false, y))) = .int .i64 w from e2]
   conv => whnf
   exact fin _ rfl
 ·rw [show machS.val (b, s, t) = .tuple ⟨[.int .i64 0, .int .i64 0, .bool false]⟩ from by simp only [machS, if_neg h1, decide_eq_false h1]]
  conv => whnf
  obtain ⟨k1, k2, k3, hk⟩ : ∃ (k1 k2 : Int) (k3 : Bool), machS.val (c, u, v) = .tuple ⟨[.int .i64 k1, .int .i64 k2, .bool k3]⟩ := ⟨_, _, _, rfl⟩
  refine ⟨(c, u, v), rfl, trivial, ?_⟩
  rw [hk]
  conv => whnf
  refine .inl ⟨5, [[], [], [1], [], [1, 2, 3], [0, 1, 2, 3, 4], [0, 1, 2, 3, 4, 5]], by kernel_rfl, ?_⟩
  conv => whnf
  refine ⟨(b, s, t), rfl, by have := hp.1.2; show t.size ≤ _; exact Nat.le_trans this (by decide), ?_⟩
  rw [ex]
  conv => whnf
  refine ⟨(c, u, v), rfl, by have := hp.2.2; show v.size ≤ _; exact Nat.le_trans this (by decide), ?_⟩
  rw [ey]
  conv => whnf
  refine ⟨(((b, s), (false, x)), ((c, u), (false, y))), rfl, ⟨f1, f2⟩, ?_⟩
  rw [show cmp2S.val (((b, s), (false, x)), ((c, u), (false, y))) = .int .i64 w from e2]
  conv => whnf
  exact fin _ rfl
end Go.Proofs.YtppeponndkfbkaaGreat
/- Contracts of rational: differences, signs, checks. -/
set_option maxRecDepth 20000
set_option maxHeartbeats 1000000
namespace Go.Proofs.YtppeponndkfbkaaGreat
open Go Go.Ae
def Eml : Env := { tt := tt, eqs := eqsL, Φ := fun g => match g with
 | 91 => some (.p qaddS)
 | 84 => some (.p ofRS)
 | 82 => some (.p numberS)
 | 88 => some (.p cmpS)
 | 81 => some (.p ofS)
 | 139 => some (.p negS)
 | _ => none }
theorem Emlok : EnvOk Tryz.prog Eml := ⟨tt_ok, eqs_ok, (fun g S h => by
 simp only [Eml] at h
 split at h
 ·cases h; exact qadd_ok
 ·cases h; exact ofR_ok
 ·cases h; exact number_ok
 ·cases h; exact cmp_ok
 ·cases h; exact of_ok
 ·cases h; exact neg_ok
 ·cases h), fun g F h => by simp [Eml] at h⟩
theorem qsub_ok : Snd Tryz.prog 52 qsubS := by
 refine snd_of Emlok Dok Tryz.func52 (enters_of Tryz.func52 (by kernel_rfl) rfl) (fun _ => rfl) (fun _ => rfl) ?_
 intro ⟨⟨b, s, t⟩, ⟨c, u, v⟩⟩ hp
 have hp : RV.ok (b, s, t) ∧ RV.ok (c, u, v) := hp
 obtain ⟨w, hw⟩ : ∃ w, w = RV.q (b, s, t) - RV.q (c, u, v) := ⟨_, rfl⟩
 conv => whnf
 refine ⟨((b, s, t), (!c, u, v)), rfl, hp, ?_⟩
 rw [show qaddS.val ((b, s, t), (!c, u, v)) = (RV.of w).v from by
  rw [hw]
  show encQ (RV.q (b, s, t) + RV.q (!c, u, v)) = encQ _
  rw [neg_q', ← Rat.sub_eq_add_neg]]
 conv => whnf
 show (RV.of w).v = encQ _
 rw [hw]
 rfl
theorem qneg_ok : Snd Tryz.prog 43 qnegS := by
 refine snd_of Emlok Dok Tryz.func43 (enters_of Tryz.func43 (by kernel_rfl) rfl) (fun _ => rfl) (fun _ => rfl) ?_
 intro ⟨b, s, t⟩ hp
 have hp : RV.ok (b, s, t) := hp
 obtain ⟨w, hw⟩ : ∃ w, w = -RV.q (b, s, t) := ⟨_, rfl⟩
 obtain ⟨x, hx⟩ : ∃ x, x = RV.den (b, s, t) := ⟨_, rfl⟩
 have f1 := RV.fracOk (i := (!b, s, t)) hp
 have e1 := RV.q_of (!b, s, t)
 rw [show RV.den (!b, s, t) = x from hx.symm] at f1 e1
 conv => whnf
 refine ⟨(!b, s, t), rfl, by have := hp.2; show t.size ≤ _; exact Nat.le_trans this (by decide), ?_⟩
 rw [show ofRS.val (!b, s, t) = .agg ⟨[.bool (!b), .string s, .bool false, .string x]⟩ from by rw [hx]; rfl]
 conv => whnf
 refine ⟨((!b, s), (false, x)), rfl, ⟨Nat.le_trans f1.1.1 (by decide), Nat.le_trans f1.1.2 (by decide), f1.2⟩, ?_⟩
 rw [show numberS.val ((!b, s), (false, x)) = (RV.of w).v from by
  rw [hw, ← neg_q', e1]; rfl]
 conv => whnf
 show (RV.of w).v = encQ _
 rw [hw]
 rfl
theorem qsign_ok : Snd Tryz.prog 47 qsignS := by
 refine snd_of Emlok Dok Tryz.func47 (enters_of Tryz.func47 (by kernel_rfl) rfl) (fun _ => rfl) (fun _ => rfl) ?_
 intro ⟨b, s, t⟩ hp
 have hp : RV.ok (b, s, t) := hp
 obtain ⟨x, hx⟩ : ∃ x, x = RV.den (b, s, t) := ⟨_, rfl⟩
 obtain ⟨w, hw⟩ : ∃ w, w = cmpQ (RV.q (b, s, t)) 0 := ⟨_, rfl⟩
 conv => whnf
 refine ⟨(b, s, t), rfl, by have := hp.2; show t.size ≤ _; exact Nat.le_trans this (by decide), ?_⟩
 rw [show ofRS.val (b, s, t) = .agg ⟨[.bool b, .string s, .bool false, .string x]⟩ from by rw [hx]; rfl]
 conv => whnf
 refine ⟨((b, s), (false, ⟨#[]⟩)), rfl, ⟨by have := hp.1; show s.size ≤ _; exact Nat.le_trans this (by decide), Nat.zero_le _⟩, ?_⟩
 rw [show cmpS.val ((b, s), (false, ⟨#[]⟩)) = .int .i64 w from by rw [hw, sign_q]; rfl]
 conv => whnf
 show Value.int .i64 w = _
 rw [hw]
 rfl
theorem qof_ok : Snd Tryz.prog 40 qofS := by
 refine snd_of Emlok Dok Tryz.func40 (enters_of Tryz.func40 (by kernel_rfl) rfl) (fun _ => rfl) (fun _ => rfl) ?_
 intro (n : Int) hp
 have hp : -9223372036854775808 ≤ n ∧ n < 9223372036854775808 := hp
 obtain ⟨w, hw⟩ : ∃ w : Rat, w = (n : Rat) := ⟨_, rfl⟩
 obtain ⟨B, m, hE⟩ := EI.mk' n
 obtain ⟨k, hF⟩ := EI.nonneg (show 0 ≤ (1 : Int) by decide)
 have hm := hE.size
 have hk := hF.size
 have h8 := nby_i64 hp
 have h1 := nby_i64 r1
 conv => whnf
 refine ⟨n, rfl, hp, ?_⟩
 rw [show ofS.val n = .agg ⟨[.bool B, .string m]⟩ from hE.enc]
 conv => whnf
 refine ⟨(1 : Int), rfl, r1, ?_⟩
 rw [show ofS.val (1 : Int) = .agg ⟨[.bool false, .string k]⟩ from hF.enc]
 conv => whnf
 refine ⟨((B, m), (false, k)), rfl, ⟨by show m.size ≤ _; omega, by show k.size ≤ _; omega, by show 0 < IV.z (false, k); rw [hF.val]; decide⟩, ?_⟩
 rw [show numberS.val ((B, m), (false, k)) = (RV.of w).v from by
  rw [hw, of_q n]
  show encQ (mkRat (IV.z (B, m)) (IV.z (false, k)).natAbs) = _
  rw [hE.val, hF.val]; rfl]
 conv => whnf
 show (RV.of w).v = encQ _
 rw [hw]
 rfl
theorem qnew_ok : Snd Tryz.prog 97 qnewS := by
 refine snd_of Emlok Dok Tryz.func97 (enters_of Tryz.func97 (by kernel_rfl) rfl) (fun _ => rfl) (fun _ => rfl) ?_
 intro ⟨⟨b, s⟩, ⟨c, t⟩⟩ hp
 have hp : s.size ≤ 549755813888 ∧ t.size ≤ 549755813888 := hp
 obtain ⟨x, hx⟩ : ∃ x, x = IV.z (b, s) := ⟨_, rfl⟩
 obtain ⟨y, hy⟩ : ∃ y, y = IV.z (c, t) := ⟨_, rfl⟩
 obtain ⟨w, hw⟩ : ∃ w, w = Rat.divInt x y := ⟨_, rfl⟩
 have ec : cmpS.val ((c, t), (false, ⟨#[]⟩)) = .int .i64 (cmpZ y 0) := by rw [hy]; rfl
 have fin0 : y = 0 → ∀ v, v = encQ 0 → Value.tuple ⟨[v, .int .i64 10]⟩ = qnewS.val ((b, s), (c, t)) := fun h v hv => by
  show _ = quoV (IV.z (b, s)) (IV.z (c, t))
  rw [← hy, hv]; unfold quoV; rw [if_pos h, h, Rat.divInt_zero]
 have fin : y ≠ 0 → ∀ v, v = encQ w → Value.tuple ⟨[v, .int .i64 0]⟩ = qnewS.val ((b, s), (c, t)) := fun h v hv => by
  show _ = quoV (IV.z (b, s)) (IV.z (c, t))
  rw [← hx, ← hy, hv]; unfold quoV; rw [if_neg h, hw]
 conv => whnf
 refine ⟨((c, t), (false, ⟨#[]⟩)), rfl, ⟨hp.2, Nat.zero_le _⟩, ?_⟩
 rw [ec]
 rcases Int.lt_trichotomy y 0 with h | h | h
 ·rw [cmpZ_lt h]
  obtain ⟨B, m, hE⟩ := EI.mk' (-x)
  obtain ⟨k, hF⟩ := EI.nonneg (show 0 ≤ -y by omega)
  have hm : m.size ≤ 549755813888 := by rw [hE.size, Int.natAbs_neg, hx]; exact nby_z hp.1
  have hk : k.size ≤ 549755813888 := by rw [hF.size, Int.natAbs_neg, hy]; exact nby_z hp.2
  conv => whnf
  refine .inl ⟨3, [[], [0], [], [0, 1, 2], [0, 1, 2, 3], [0, 1, 2, 3, 4]], by kernel_rfl, ?_⟩
  conv => whnf
  refine ⟨(b, s), rfl, hp.1, ?_⟩
  rw [show negS.val (b, s) = .agg ⟨[.bool B, .string m]⟩ from by show encI (-IV.z (b, s)) = _; rw [← hx, hE.enc]]
  conv => whnf
  refine ⟨(c, t), rfl, hp.2, ?_⟩
  rw [show negS.val (c, t) = .agg ⟨[.bool false, .string k]⟩ from by show encI (-IV.z (c, t)) = _; rw [← hy, hF.enc]]
  conv => whnf
  refine ⟨((B, m), (false, k)), rfl, ⟨hm, hk, by show 0 < IV.z (false, k); rw [hF.val]; omega⟩, ?_⟩
  rw [show numberS.val ((B, m), (false, k)) = (RV.of w).v from by
   rw [hw, divInt_negs h]
   show encQ (mkRat (IV.z (B, m)) (IV.z (false, k)).natAbs) = _
   rw [hE.val, hF.val]; rfl]
  conv => whnf
  exact fin (by omega) _ rfl
 ·rw [h]
  conv => whnf
  exact fin0 h _ encQ0.symm
 ·rw [cmpZ_gt h]
  conv => whnf
  refine ⟨((b, s), (c, t)), rfl, ⟨hp.1, hp.2, by show 0 < IV.z (c, t); omega⟩, ?_⟩
  rw [show numberS.val ((b, s), (c, t)) = (RV.of w).v from by
   rw [hw, divInt_pos h, hx, hy]; rfl]
  conv => whnf
  exact fin (by omega) _ rfl
end Go.Proofs.YtppeponndkfbkaaGreat
/- Contracts of the reference rationals: parts, lowest terms. -/
set_option maxRecDepth 20000
set_option maxHeartbeats 1000000
namespace Go.Proofs.YtppeponndkfbkaaGreat
open Go Go.Ae
end Go.Proofs.YtppeponndkfbkaaGreat
/- Contracts of the reference rationals: the operations. -/
set_option maxRecDepth 20000
set_option maxHeartbeats 1000000
namespace Go.Proofs.YtppeponndkfbkaaGreat
open Go Go.Ae
end Go.Proofs.YtppeponndkfbkaaGreat
/- Contracts of the reference rationals: sum, product, comparison. -/
set_option maxRecDepth 20000
set_option maxHeartbeats 1000000
namespace Go.Proofs.YtppeponndkfbkaaGreat
open Go Go.Ae
end Go.Proofs.YtppeponndkfbkaaGreat
