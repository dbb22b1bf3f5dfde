import Derived.Test.YtppeponndkfbkaaGreatQF
set_option linter.unusedVariables false
set_option linter.unusedSimpArgs false
/- Contracts of the reference integers: sum, difference, product. -/
set_option maxRecDepth 20000
set_option maxHeartbeats 1000000
namespace Go.Proofs.YtppeponndkfbkaaGreat
open Go Go.Ae
def Erg : Env := { tt := tt, eqs := [], Φ := fun g => match g with
 | 149 => some (.p canonS)
 | 151 => some (.p valueS)
 | 93 => some (.p ofS)
 | 153 => some (.p addMagS)
 | 154 => some (.p subMagS)
 | 150 => some (.p cmpMagS)
 | 152 => some (.p mulMagS)
 | _ => none }
theorem Ergok : EnvOk Tryz.prog Erg := ⟨tt_ok, fun t h => by simp [Erg] at h, (fun g S h => by
 simp only [Erg] at h
 split at h
 ·cases h; exact rcanon_ok
 ·cases h; exact rvalue_ok
 ·cases h; exact rof_ok
 ·cases h; exact raddMag_ok
 ·cases h; exact rsubMag_ok
 ·cases h; exact rcmpMag_ok
 ·cases h; exact rmulMag_ok
 ·cases h), fun g F h => by simp [Erg] at h⟩
theorem radd_ok : Snd Tryz.prog 123 addS := by
 refine snd_of Ergok Dok Tryz.func123 (enters_of Tryz.func123 (by kernel_rfl) rfl) (fun _ => rfl) (fun _ => rfl) ?_
 intro ⟨⟨b, s⟩, ⟨c, t⟩⟩ hp
 have hp : s.size ≤ 549755813888 ∧ t.size ≤ 549755813888 := hp
 obtain ⟨x, hx⟩ : ∃ x, x = IV.z (b, s) := ⟨_, rfl⟩
 obtain ⟨y, hy⟩ : ∃ y, y = IV.z (c, t) := ⟨_, rfl⟩
 have hxn : nby x.natAbs ≤ 549755813888 := by rw [hx]; exact IV.nby (i := (b, s)) hp.1
 have hyn : nby y.natAbs ≤ 549755813888 := by rw [hy]; exact IV.nby (i := (c, t)) hp.2
 obtain ⟨B, m, hE⟩ := EI.mk' x
 obtain ⟨D, k, hF⟩ := EI.mk' y
 have hms := hE.size
 have hks := hF.size
 have ec : canonS.val (b, s) = .agg ⟨[.bool B, .string m]⟩ := by show encI (IV.z (b, s)) = _; rw [← hx, hE.enc]
 have ed : canonS.val (c, t) = .agg ⟨[.bool D, .string k]⟩ := by show encI (IV.z (c, t)) = _; rw [← hy, hF.enc]
 have fin : ∀ v : Value, v = encI (x + y) → v = addS.val ((b, s), (c, t)) := fun v h => by rw [h, hx, hy]; rfl
 conv => whnf
 refine .inl ⟨3, [[], [0], [], [0, 1, 2], [0, 1, 2, 3], [0, 1, 2, 3, 4]], by kernel_rfl, ?_⟩
 conv => whnf
 refine ⟨(b, s), rfl, hp.1, ?_⟩
 rw [ec]
 conv => whnf
 refine ⟨(c, t), rfl, hp.2, ?_⟩
 rw [ed]
 conv => whnf
 by_cases h1 : m.size < 8
 ·rw [show decide (((m.size : Nat) : Int) < 8) = true from decide_eq_true (by omega)]
  conv => whnf
  by_cases h2 : k.size < 8
  ·rw [show decide (((k.size : Nat) : Int) < 8) = true from decide_eq_true (by omega)]
   conv => whnf
   refine .inl ⟨3, [[], [0], [], [0, 1, 2], [0, 1, 2, 3], [0, 1, 2, 3, 4], [0, 1, 2, 3, 4, 5]], by kernel_rfl, ?_⟩
   conv => whnf
   refine ⟨(B, m), rfl, by show m.size ≤ 7; omega, ?_⟩
   rw [show valueS.val (B, m) = .int .i64 x from by show Value.int .i64 (IV.z (B, m)) = _; rw [hE.val]]
   conv => whnf
   refine ⟨(D, k), rfl, by show k.size ≤ 7; omega, ?_⟩
   rw [show valueS.val (D, k) = .int .i64 y from by show Value.int .i64 (IV.z (D, k)) = _; rw [hF.val]]
   conv => whnf
   have z1 := hE.small (by omega)
   have z2 := hF.small (by omega)
   rw [show IntKind.i64.wrap (x + y) = x + y from wrapi64 (by omega) (by omega)]
   refine ⟨x + y, rfl, ⟨by omega, by omega⟩, ?_⟩
   conv => whnf
   exact fin _ rfl
  ·rw [show decide (((k.size : Nat) : Int) < 8) = false from decide_eq_false (by omega)]
   conv => whnf
   refine br_intro (fun h3 => ?_) (fun h3 => ?_)
   ·have h3 : B = D := eq_of_beq h3
    have e := hE.same hF h3
    obtain ⟨v, hv⟩ : ∃ v, v = nb (bnat m + bnat k) := ⟨_, rfl⟩
    rw [← hv] at e
    conv => whnf
    refine .inl ⟨7, [[], [0], [], [2], [], [4], [2, 3, 4, 5], [0, 1, 2, 3, 4, 5, 6], [0, 1, 2, 3, 4, 5, 6, 7]], by kernel_rfl, ?_⟩
    conv => whnf
    refine ⟨(m, k), rfl, ⟨by show m.size ≤ _; omega, by show k.size ≤ _; omega⟩, ?_⟩
    rw [show addMagS.val (m, k) = .string v from by rw [hv]; rfl]
    conv => whnf
    exact fin _ e
   ·have h3 : B ≠ D := by
     intro e
     subst e
     cases B <;> cases h3
    obtain ⟨q, hq⟩ : ∃ q, q = cmpN (bnat m) (bnat k) := ⟨_, rfl⟩
    conv => whnf
    refine ⟨(bnat m, bnat k), by show [Value.string (nb (bnat m)), Value.string (nb (bnat k))] = [Value.string m, Value.string k]; rw [← hE.eta, ← hF.eta], ⟨by show nby (bnat m) ≤ _; exact Nat.le_trans (nby_bnat_le _) (by omega), by show nby (bnat k) ≤ _; exact Nat.le_trans (nby_bnat_le _) (by omega)⟩, ?_⟩
    rw [show cmpMagS.val (bnat m, bnat k) = .int .i64 q from by rw [hq]; rfl]
    conv => whnf
    refine br_intro (fun h4 => ?_) (fun h4 => ?_)
    ·have h4 : bnat k = bnat m := by
      have h4 : q = 0 := by simpa using h4
      rw [hq] at h4
      unfold cmpN at h4
      split at h4
      ·omega
      ·split at h4 <;> omega
     have e := hE.equal hF h3 h4
     conv => whnf
     exact fin _ (by rw [e]; exact encI_zero.symm)
    ·have h4' : bnat k ≠ bnat m := by
      intro h5
      have h6 : q = 0 := by rw [hq, h5]; unfold cmpN; simp
      subst h6
      simp at h4
     conv => whnf
     refine br_intro (fun h5 => ?_) (fun h5 => ?_)
     ·have h5 : bnat k < bnat m := by
       have h5 := of_decide_eq_true h5
       rw [hq] at h5
       unfold cmpN at h5
       split at h5
       ·omega
       ·split at h5 <;> omega
      have e := hE.differ hF h3 h5
      obtain ⟨v, hv⟩ : ∃ v, v = nb (bnat m - bnat k) := ⟨_, rfl⟩
      rw [← hv] at e
      conv => whnf
      refine .inl ⟨7, [[], [0], [], [2], [], [4], [2, 3, 4, 5], [0, 1, 2, 3, 4, 5, 6], [0, 1, 2, 3, 4, 5, 6, 7]], by kernel_rfl, ?_⟩
      conv => whnf
      refine ⟨(m, k), rfl, ⟨⟨by show m.size ≤ _; omega, by show k.size ≤ _; omega⟩, Nat.le_of_lt h5⟩, ?_⟩
      rw [show subMagS.val (m, k) = .string v from by rw [hv]; rfl]
      conv => whnf
      exact fin _ e
     ·have h5 : bnat m < bnat k := by
       have h5 := of_decide_eq_false h5
       rw [hq] at h5
       unfold cmpN at h5
       split at h5
       ·omega
       ·split at h5 <;> omega
      have e := hF.differ hE (Ne.symm h3) h5
      rw [Int.add_comm] at e
      obtain ⟨v, hv⟩ : ∃ v, v = nb (bnat k - bnat m) := ⟨_, rfl⟩
      rw [← hv] at e
      conv => whnf
      refine .inl ⟨7, [[], [0], [], [2], [], [4], [2, 3, 4, 5], [0, 1, 2, 3, 4, 5, 6], [0, 1, 2, 3, 4, 5, 6, 7]], by kernel_rfl, ?_⟩
      conv => whnf
      refine ⟨(k, m), rfl, ⟨⟨by show k.size ≤ _; omega, by show m.size ≤ _; omega⟩, Nat.le_of_lt h5⟩, ?_⟩
      rw [show subMagS.val (k, m) = .string v from by rw [hv]; rfl]
      conv => whnf
      exact fin _ e
 ·rw [show decide (((m.size : Nat) : Int) < 8) = false from decide_eq_false (by omega)]
  conv => whnf
  refine br_intro (fun h3 => ?_) (fun h3 => ?_)
  ·have h3 : B = D := eq_of_beq h3
   have e := hE.same hF h3
   obtain ⟨v, hv⟩ : ∃ v, v = nb (bnat m + bnat k) := ⟨_, rfl⟩
   rw [← hv] at e
   conv => whnf
   refine .inl ⟨7, [[], [0], [], [2], [], [4], [2, 3, 4, 5], [0, 1, 2, 3, 4, 5, 6], [0, 1, 2, 3, 4, 5, 6, 7]], by kernel_rfl, ?_⟩
   conv => whnf
   refine ⟨(m, k), rfl, ⟨by show m.size ≤ _; omega, by show k.size ≤ _; omega⟩, ?_⟩
   rw [show addMagS.val (m, k) = .string v from by rw [hv]; rfl]
   conv => whnf
   exact fin _ e
  ·have h3 : B ≠ D := by
    intro e
    subst e
    cases B <;> cases h3
   obtain ⟨q, hq⟩ : ∃ q, q = cmpN (bnat m) (bnat k) := ⟨_, rfl⟩
   conv => whnf
   refine ⟨(bnat m, bnat k), by show [Value.string (nb (bnat m)), Value.string (nb (bnat k))] = [Value.string m, Value.string k]; rw [← hE.eta, ← hF.eta], ⟨by show nby (bnat m) ≤ _; exact Nat.le_trans (nby_bnat_le _) (by omega), by show nby (bnat k) ≤ _; exact Nat.le_trans (nby_bnat_le _) (by omega)⟩, ?_⟩
   rw [show cmpMagS.val (bnat m, bnat k) = .int .i64 q from by rw [hq]; rfl]
   conv => whnf
   refine br_intro (fun h4 => ?_) (fun h4 => ?_)
   ·have h4 : bnat k = bnat m := by
     have h4 : q = 0 := by simpa using h4
     rw [hq] at h4
     unfold cmpN at h4
     split at h4
     ·omega
     ·split at h4 <;> omega
    have e := hE.equal hF h3 h4
    conv => whnf
    exact fin _ (by rw [e]; exact encI_zero.symm)
   ·have h4' : bnat k ≠ bnat m := by
     intro h5
     have h6 : q = 0 := by rw [hq, h5]; unfold cmpN; simp
     subst h6
     simp at h4
    conv => whnf
    refine br_intro (fun h5 => ?_) (fun h5 => ?_)
    ·have h5 : bnat k < bnat m := by
      have h5 := of_decide_eq_true h5
      rw [hq] at h5
      unfold cmpN at h5
      split at h5
      ·omega
      ·split at h5 <;> omega
     have e := hE.differ hF h3 h5
     obtain ⟨v, hv⟩ : ∃ v, v = nb (bnat m - bnat k) := ⟨_, rfl⟩
     rw [← hv] at e
     conv => whnf
     refine .inl ⟨7, [[], [0], [], [2], [], [4], [2, 3, 4, 5], [0, 1, 2, 3, 4, 5, 6], [0, 1, 2, 3, 4, 5, 6, 7]], by kernel_rfl, ?_⟩
     conv => whnf
     refine ⟨(m, k), rfl, ⟨⟨by show m.size ≤ _; omega, by show k.size ≤ _; omega⟩, Nat.le_of_lt h5⟩, ?_⟩
     rw [show subMagS.val (m, k) = .string v from by rw [hv]; rfl]
     conv => whnf
     exact fin _ e
    ·have h5 : bnat m < bnat k := by
      have h5 := of_decide_eq_false h5
      rw [hq] at h5
      unfold cmpN at h5
      split at h5
      ·omega
      ·split at h5 <;> omega
     have e := hF.differ hE (Ne.symm h3) h5
     rw [Int.add_comm] at e
     obtain ⟨v, hv⟩ : ∃ v, v = nb (bnat k - bnat m) := ⟨_, rfl⟩
     rw [← hv] at e
     conv => whnf
     refine .inl ⟨7, [[], [0], [], [2], [], [4], [2, 3, 4, 5], [0, 1, 2, 3, 4, 5, 6], [0, 1, 2, 3, 4, 5, 6, 7]], by kernel_rfl, ?_⟩
     conv => whnf
     refine ⟨(k, m), rfl, ⟨⟨by show k.size ≤ _; omega, by show m.size ≤ _; omega⟩, Nat.le_of_lt h5⟩, ?_⟩
     rw [show subMagS.val (k, m) = .string v from by rw [hv]; rfl]
     conv => whnf
     exact fin _ e
def Erh : Env := { tt := tt, eqs := [], Φ := fun g => match g with
 | 133 => some (.p negS)
 | 123 => some (.p addS)
 | _ => none }
theorem Erhok : EnvOk Tryz.prog Erh := ⟨tt_ok, fun t h => by simp [Erh] at h, (fun g S h => by
 simp only [Erh] at h
 split at h
 ·cases h; exact rneg_ok
 ·cases h; exact radd_ok
 ·cases h), fun g F h => by simp [Erh] at h⟩
theorem rsub_ok : Snd Tryz.prog 163 subS := by
 refine snd_of Erhok Dok Tryz.func163 (enters_of Tryz.func163 (by kernel_rfl) rfl) (fun _ => rfl) (fun _ => rfl) ?_
 intro ⟨⟨b, s⟩, ⟨c, t⟩⟩ hp
 have hp : s.size ≤ 549755813888 ∧ t.size ≤ 549755813888 := hp
 obtain ⟨y, hy⟩ : ∃ y, y = IV.z (c, t) := ⟨_, rfl⟩
 have hyn : nby y.natAbs ≤ 549755813888 := by rw [hy]; exact IV.nby (i := (c, t)) hp.2
 obtain ⟨D, k, hF⟩ := EI.mk' (-y)
 have hks := hF.size
 rw [Int.natAbs_neg] at hks
 conv => whnf
 refine .inl ⟨3, [[], [], [1], [0, 1, 2], [0, 1, 2, 3]], by kernel_rfl, ?_⟩
 conv => whnf
 refine ⟨(c, t), rfl, hp.2, ?_⟩
 rw [show negS.val (c, t) = .agg ⟨[.bool D, .string k]⟩ from by show encI (-IV.z (c, t)) = _; rw [← hy, hF.enc]]
 conv => whnf
 refine ⟨((b, s), (D, k)), rfl, ⟨hp.1, by show k.size ≤ _; omega⟩, ?_⟩
 obtain ⟨V, n, hG⟩ := EI.mk' (IV.z (b, s) + -y)
 rw [show addS.val ((b, s), (D, k)) = .agg ⟨[.bool V, .string n]⟩ from by show encI (IV.z (b, s) + IV.z (D, k)) = _; rw [hF.val, hG.enc]]
 conv => whnf
 rw [show subS.val ((b, s), (c, t)) = .agg ⟨[.bool V, .string n]⟩ from by show encI (IV.z (b, s) - IV.z (c, t)) = _; rw [← hy, Int.sub_eq_add_neg, hG.enc]]
 rfl
theorem rmul_ok : Snd Tryz.prog 122 mulS := by
 refine snd_of Ergok Dok Tryz.func122 (enters_of Tryz.func122 (by kernel_rfl) rfl) (fun _ => rfl) (fun _ => rfl) ?_
 intro ⟨⟨b, s⟩, ⟨c, t⟩⟩ hp
 have hp : s.size ≤ 549755813888 ∧ t.size ≤ 549755813888 := hp
 obtain ⟨x, hx⟩ : ∃ x, x = IV.z (b, s) := ⟨_, rfl⟩
 obtain ⟨y, hy⟩ : ∃ y, y = IV.z (c, t) := ⟨_, rfl⟩
 have hxn : nby x.natAbs ≤ 549755813888 := by rw [hx]; exact IV.nby (i := (b, s)) hp.1
 have hyn : nby y.natAbs ≤ 549755813888 := by rw [hy]; exact IV.nby (i := (c, t)) hp.2
 obtain ⟨B, m, hE⟩ := EI.mk' x
 obtain ⟨D, k, hF⟩ := EI.mk' y
 have hms := hE.size
 have hks := hF.size
 have ec : canonS.val (b, s) = .agg ⟨[.bool B, .string m]⟩ := by show encI (IV.z (b, s)) = _; rw [← hx, hE.enc]
 have ed : canonS.val (c, t) = .agg ⟨[.bool D, .string k]⟩ := by show encI (IV.z (c, t)) = _; rw [← hy, hF.enc]
 have fin : ∀ v : Value, v = encI (x * y) → v = mulS.val ((b, s), (c, t)) := fun v h => by rw [h, hx, hy]; rfl
 have ew : IntKind.i64.wrap (((m.size : Nat) : Int) + ((k.size : Nat) : Int)) = ((m.size + k.size : Nat) : Int) := by rw [wrapi64 (by omega) (by omega)]; omega
 conv => whnf
 refine .inl ⟨3, [[], [0], [], [0, 1, 2], [0, 1, 2, 3], [0, 1, 2, 3, 4]], by kernel_rfl, ?_⟩
 conv => whnf
 refine ⟨(b, s), rfl, hp.1, ?_⟩
 rw [ec]
 conv => whnf
 refine ⟨(c, t), rfl, hp.2, ?_⟩
 rw [ed]
 conv => whnf
 by_cases h1 : x = 0
 ·rw [show (m.toList == (⟨#[]⟩ : ByteArray).toList) = true from by rw [hE.nil, decide_eq_true h1]]
  conv => whnf
  exact fin _ (by rw [h1, Int.zero_mul]; exact encI_zero.symm)
 ·rw [show (m.toList == (⟨#[]⟩ : ByteArray).toList) = false from by rw [hE.nil, decide_eq_false h1]]
  conv => whnf
  by_cases h2 : y = 0
  ·rw [show (k.toList == (⟨#[]⟩ : ByteArray).toList) = true from by rw [hF.nil, decide_eq_true h2]]
   conv => whnf
   exact fin _ (by rw [h2, Int.mul_zero]; exact encI_zero.symm)
  ·rw [show (k.toList == (⟨#[]⟩ : ByteArray).toList) = false from by rw [hF.nil, decide_eq_false h2]]
   conv => whnf
   by_cases h3 : m.size + k.size < 8
   ·refine br_yes ?_ ?_
    ·exact decide_eq_true (by rw [ew]; omega)
    conv => whnf
    refine .inl ⟨3, [[], [0], [], [0, 1, 2], [0, 1, 2, 3], [0, 1, 2, 3, 4], [0, 1, 2, 3, 4, 5]], by kernel_rfl, ?_⟩
    conv => whnf
    refine ⟨(B, m), rfl, by show m.size ≤ 7; omega, ?_⟩
    rw [show valueS.val (B, m) = .int .i64 x from by show Value.int .i64 (IV.z (B, m)) = _; rw [hE.val]]
    conv => whnf
    refine ⟨(D, k), rfl, by show k.size ≤ 7; omega, ?_⟩
    rw [show valueS.val (D, k) = .int .i64 y from by show Value.int .i64 (IV.z (D, k)) = _; rw [hF.val]]
    conv => whnf
    have hb := nby_mul_small (x := x) (y := y) (by omega)
    obtain ⟨w, hw⟩ : ∃ w, w = x * y := ⟨_, rfl⟩
    rw [← hw] at hb
    rw [show IntKind.i64.wrap (x * y) = w from by rw [← hw]; exact wrapi64 hb.1 hb.2]
    refine ⟨w, rfl, hb, ?_⟩
    obtain ⟨V, n, hG⟩ := EI.mk' w
    rw [show ofS.val w = .agg ⟨[.bool V, .string n]⟩ from hG.enc]
    conv => whnf
    exact fin _ (by rw [← hw, hG.enc]; rfl)
   ·refine br_intro (fun h => absurd (of_decide_eq_true h) (by rw [ew]; omega)) (fun _ => ?_)
    obtain ⟨v, hv⟩ : ∃ v, v = nb (bnat m * bnat k) := ⟨_, rfl⟩
    have e := hE.mul hF h1 h2
    rw [← hv] at e
    conv => whnf
    refine .inl ⟨10, [[], [0], [], [2], [0, 1, 2, 3], [], [5], [], [7], [5, 6, 7, 8], [0, 1, 2, 3, 4, 5, 6, 7, 8, 9], [0, 1, 2, 3, 4, 5, 6, 7, 8, 9, 10]], by kernel_rfl, ?_⟩
    conv => whnf
    refine ⟨(m, k), rfl, ⟨by show m.size ≤ _; omega, by show k.size ≤ _; omega⟩, ?_⟩
    rw [show mulMagS.val (m, k) = .string v from by rw [hv]; rfl]
    conv => whnf
    exact fin _ e
end Go.Proofs.YtppeponndkfbkaaGreat
/- Contracts of the reference integers: greatest divisor, division. -/
set_option maxRecDepth 20000
set_option maxHeartbeats 1000000
namespace Go.Proofs.YtppeponndkfbkaaGreat
open Go Go.Ae
def Eri : Env := { tt := tt, eqs := [], Φ := fun g => match g with
 | 160 => some (.p stripS)
 | 162 => some (.p smallS)
 | 93 => some (.p ofS)
 | 161 => some (.p divMagS)
 | _ => none }
theorem Eriok : EnvOk Tryz.prog Eri := ⟨tt_ok, fun t h => by simp [Eri] at h, (fun g S h => by
 simp only [Eri] at h
 split at h
 ·cases h; exact rtrim_ok
 ·cases h; exact rsmall_ok
 ·cases h; exact rof_ok
 ·cases h; exact rdivMag_ok
 ·cases h), fun g F h => by simp [Eri] at h⟩
theorem rgcd_ok : Snd Tryz.prog 134 gcdS := by
 refine snd_of Eriok Dok Tryz.func134 (enters_of Tryz.func134 (by kernel_rfl) rfl) (fun _ => rfl) (fun _ => rfl) ?_
 intro ⟨⟨b, s⟩, ⟨c, t⟩⟩ hp
 have hp : s.size ≤ 549755813888 ∧ t.size ≤ 549755813888 := hp
 have hA := nby_bnat_le s
 have hD := nby_bnat_le t
 obtain ⟨G, hG⟩ : ∃ G, G = Nat.gcd (bnat s) (bnat t) := ⟨_, rfl⟩
 have fin : ∀ v : Value, v = encI ((G : Nat) : Int) → v = gcdS.val ((b, s), (c, t)) := fun v h => by
  rw [h, hG]
  show _ = encI ((Int.gcd (IV.z (b, s)) (IV.z (c, t)) : Nat) : Int)
  unfold Int.gcd IV.z
  rw [valI_abs, valI_abs]
 conv => whnf
 refine .inl ⟨5, [[], [0], [0, 1], [], [3], [0, 1, 2, 3, 4], [0, 1, 2, 3, 4, 5], [0, 1, 2, 3, 4, 5, 6]], by kernel_rfl, ?_⟩
 conv => whnf
 refine ⟨s, rfl, by show s.size ≤ _; omega, ?_⟩
 conv => whnf
 refine ⟨t, rfl, by show t.size ≤ _; omega, ?_⟩
 conv => whnf
 refine .inl ⟨fun mm tz hz => ∃ (A : Nat) (D : Nat), Pat [none, none, none, none, some (.pointer (some ⟨0, 0, none⟩)), some (.string (nb A)), some (.string (nb D)), none, none, none, none, none, none, none, none, none, none, none, none, none, none, none, none, none, none, none, none, none, none, none, none, none, none, none, none, none, none, none, none, none, none, none, none, none, none, none, none, none, none, none, none, none, none] tz ∧ hz = [some (.expl true 2 [[.bool false, .string ⟨#[]⟩]])] ∧ D = mm ∧ ((nby A ≤ 549755813888 ∧ nby D ≤ 549755813888) ∧ Nat.gcd A D = G), .inr ⟨[2], [4, 5, 6], ?_⟩, ?_⟩
 ·conv => whnf
  intro _
  conv => whnf
  refine ⟨_, bnat s, bnat t, (.skip (.skip (.skip (.skip (.keep (.keep (.keep (.s8 (.s8 (.s8 (.s8 (.s8 (.skip (.skip (.skip (.skip (.skip (.skip (.nil))))))))))))))))))), rfl, rfl, ?_⟩
  exact ⟨⟨by omega, by omega⟩, hG.symm⟩
 rintro mm tms _ ⟨A, D, hpat, rfl, rfl, ⟨hnl, hg⟩⟩
 obtain ⟨az, rfl⟩ : ∃ az : Nat → Value, tms = [az 0, az 1, az 2, az 3, .pointer (some ⟨0, 0, none⟩), .string (nb A), .string (nb D), az 7, az 8, az 9, az 10, az 11, az 12, az 13, az 14, az 15, az 16, az 17, az 18, az 19, az 20, az 21, az 22, az 23, az 24, az 25, az 26, az 27, az 28, az 29, az 30, az 31, az 32, az 33, az 34, az 35, az 36, az 37, az 38, az 39, az 40, az 41, az 42, az 43, az 44, az 45, az 46, az 47, az 48, az 49, az 50, az 51, az 52] := pat_fill hpat
 clear hpat
 obtain ⟨x, hx⟩ : ∃ x, x = nb A := ⟨_, rfl⟩
 obtain ⟨y, hy⟩ : ∃ y, y = nb D := ⟨_, rfl⟩
 have hxs : x.size = nby A := by rw [hx, nb_size]
 have hys : y.size = nby D := by rw [hy, nb_size]
 have hxn : bnat x = A := by rw [hx, bnat_nb]
 have hyn : bnat y = D := by rw [hy, bnat_nb]
 rw [← hx, ← hy]
 conv => whnf
 by_cases h1 : D = 0
 ·rw [show (!y.toList == (⟨#[]⟩ : ByteArray).toList) = false from by rw [hy]; exact mag_zero h1]
  conv => whnf
  rw [show (y.toList == (⟨#[]⟩ : ByteArray).toList) = true from by
   have := mag_zero h1
   rw [← hy] at this
   simpa using this]
  conv => whnf
  rw [h1, Nat.gcd_zero_right] at hg
  exact fin _ (by rw [hx, ← hg]; exact encI_mk (decide_eq_false (by omega)).symm (by omega))
 ·rw [show (!y.toList == (⟨#[]⟩ : ByteArray).toList) = true from by rw [hy]; exact mag_pos h1]
  conv => whnf
  by_cases h2 : x.size > 7
  ·rw [show decide (((x.size : Nat) : Int) > 7) = true from decide_eq_true (by omega)]
   conv => whnf
   obtain ⟨q, hq⟩ : ∃ q, q = nb (A / D) := ⟨_, rfl⟩
   obtain ⟨r, hr⟩ : ∃ r, r = nb (A % D) := ⟨_, rfl⟩
   refine ⟨(x, D), by rw [hy]; rfl, ⟨by show x.size ≤ _; omega, by show nby D ≤ _; omega, h1⟩, ?_⟩
   rw [show divMagS.val (x, D) = .tuple ⟨[.string q, .string r]⟩ from by show Value.tuple ⟨[.string (nb (bnat x / D)), .string (nb (bnat x % D))]⟩ = _; rw [hxn, hq, hr]]
   conv => whnf
   rw [hy, hr]
   have hml : nby (A % D) ≤ nby D := nby_mono (Nat.le_of_lt (Nat.mod_lt _ (by omega)))
   refine .inr ⟨[0], [4, 5, 6], ?_⟩
   conv => whnf
   intro _
   conv => whnf
   refine ⟨_, ?_, D, A % D, (.skip (.skip (.skip (.skip (.keep (.keep (.keep (.s8 (.s8 (.s8 (.s8 (.s8 (.skip (.skip (.skip (.skip (.skip (.skip (.nil))))))))))))))))))), rfl, rfl, ?_⟩
   ·exact Nat.mod_lt _ (by omega)
   ·exact ⟨⟨hnl.2, by omega⟩, by rw [Nat.gcd_comm, ← Nat.gcd_rec, Nat.gcd_comm]; exact hg⟩
  ·rw [show decide (((x.size : Nat) : Int) > 7) = false from decide_eq_false (by omega)]
   conv => whnf
   by_cases h3 : y.size > 7
   ·rw [show decide (((y.size : Nat) : Int) > 7) = true from decide_eq_true (by omega)]
    conv => whnf
    obtain ⟨q, hq⟩ : ∃ q, q = nb (A / D) := ⟨_, rfl⟩
    obtain ⟨r, hr⟩ : ∃ r, r = nb (A % D) := ⟨_, rfl⟩
    refine ⟨(x, D), by rw [hy]; rfl, ⟨by show x.size ≤ _; omega, by show nby D ≤ _; omega, h1⟩, ?_⟩
    rw [show divMagS.val (x, D) = .tuple ⟨[.string q, .string r]⟩ from by show Value.tuple ⟨[.string (nb (bnat x / D)), .string (nb (bnat x % D))]⟩ = _; rw [hxn, hq, hr]]
    conv => whnf
    rw [hy, hr]
    have hml : nby (A % D) ≤ nby D := nby_mono (Nat.le_of_lt (Nat.mod_lt _ (by omega)))
    refine .inr ⟨[0], [4, 5, 6], ?_⟩
    conv => whnf
    intro _
    conv => whnf
    refine ⟨_, ?_, D, A % D, (.skip (.skip (.skip (.skip (.keep (.keep (.keep (.s8 (.s8 (.s8 (.s8 (.s8 (.skip (.skip (.skip (.skip (.skip (.skip (.nil))))))))))))))))))), rfl, rfl, ?_⟩
    ·exact Nat.mod_lt _ (by omega)
    ·exact ⟨⟨hnl.2, by omega⟩, by rw [Nat.gcd_comm, ← Nat.gcd_rec, Nat.gcd_comm]; exact hg⟩
   ·rw [show decide (((y.size : Nat) : Int) > 7) = false from decide_eq_false (by omega)]
    conv => whnf
    rw [show (y.toList == (⟨#[]⟩ : ByteArray).toList) = false from by
     have := mag_pos h1
     rw [← hy] at this
     simpa using this]
    conv => whnf
    refine ⟨x, rfl, by show x.size ≤ 7; omega, ?_⟩
    rw [show smallS.val x = .int .i64 A from by show Value.int .i64 (bnat x : Nat) = _; rw [hxn]]
    conv => whnf
    refine ⟨y, rfl, by show y.size ≤ 7; omega, ?_⟩
    rw [show smallS.val y = .int .i64 D from by show Value.int .i64 (bnat y : Nat) = _; rw [hyn]]
    conv => whnf
    have lA : A < 72057594037927936 := Nat.lt_of_lt_of_le (lt_nby A) (pow7 (by omega))
    have lD : D < 72057594037927936 := Nat.lt_of_lt_of_le (lt_nby D) (pow7 (by omega))
    refine .inl ⟨fun mm tz hz => ∃ (m : Nat) (n : Nat), Pat [none, none, none, none, some (.pointer (some ⟨0, 0, none⟩)), none, none, none, none, some (.int .i64 m), some (.int .i64 n), none, none, none, none, none, none, none, none, none, none, none, none, none, none, none, none, none, none, none, none, none, none, none, none, none, none, none, none, none, none, none, none, none, none, none, none, none, none, none, none, none, none] tz ∧ hz = [some (.expl true 2 [[.bool false, .string ⟨#[]⟩]])] ∧ n = mm ∧ ((m < 72057594037927936 ∧ n < 72057594037927936) ∧ Nat.gcd m n = G), .inr ⟨[0], [4, 9, 10], ?_⟩, ?_⟩
    ·conv => whnf
     intro _
     conv => whnf
     refine ⟨_, A, D, (.skip (.skip (.skip (.skip (.keep (.skip (.skip (.skip (.skip (.keep (.keep (.s8 (.s8 (.s8 (.s8 (.s8 (.skip (.skip (.nil))))))))))))))))))), rfl, rfl, ?_⟩
     exact ⟨⟨lA, lD⟩, hg⟩
    rintro mm tms _ ⟨m, n, hpat, rfl, rfl, ⟨hmn, hg2⟩⟩
    obtain ⟨az, rfl⟩ : ∃ az : Nat → Value, tms = [az 0, az 1, az 2, az 3, .pointer (some ⟨0, 0, none⟩), az 5, az 6, az 7, az 8, .int .i64 m, .int .i64 n, az 11, az 12, az 13, az 14, az 15, az 16, az 17, az 18, az 19, az 20, az 21, az 22, az 23, az 24, az 25, az 26, az 27, az 28, az 29, az 30, az 31, az 32, az 33, az 34, az 35, az 36, az 37, az 38, az 39, az 40, az 41, az 42, az 43, az 44, az 45, az 46, az 47, az 48, az 49, az 50, az 51, az 52] := pat_fill hpat
    clear hpat
    conv => whnf
    refine br_intro (fun h4 => ?_) (fun h4 => ?_)
    ·have h4 : 0 < n := by
      have := of_decide_eq_true h4
      omega
     have hlt := Nat.mod_lt m h4
     conv => whnf
     refine .inl ⟨5, [[], [], [], [1, 2], [0, 1], [0, 1, 2, 3, 4]], by kernel_rfl, ?_⟩
     conv => whnf
     rw [show decide (((n : Nat) : Int) ≠ 0) = true from decide_eq_true (by omega)]
     conv => whnf
     rw [show Int.tmod ((m : Nat) : Int) ((n : Nat) : Int) = ((m % n : Nat) : Int) from rfl]
     refine .inr ⟨[0], [4, 9, 10], ?_⟩
     conv => whnf
     intro _
     conv => whnf
     refine ⟨_, ?_, n, m % n, (.skip (.skip (.skip (.skip (.keep (.skip (.skip (.skip (.skip (.keep (.keep (.s8 (.s8 (.s8 (.s8 (.s8 (.skip (.skip (.nil))))))))))))))))))), rfl, rfl, ?_⟩
     ·exact hlt
     ·exact ⟨⟨hmn.2, by omega⟩, by rw [Nat.gcd_comm, ← Nat.gcd_rec, Nat.gcd_comm]; exact hg2⟩
    ·have h4 : n = 0 := by
      have := of_decide_eq_false h4
      omega
     subst h4
     rw [Nat.gcd_zero_right] at hg2
     conv => whnf
     refine ⟨((m : Nat) : Int), rfl, ⟨by omega, by omega⟩, ?_⟩
     obtain ⟨V, n, hV⟩ := EI.mk' ((m : Nat) : Int)
     rw [show ofS.val ((m : Nat) : Int) = .agg ⟨[.bool V, .string n]⟩ from hV.enc]
     conv => whnf
     exact fin _ (by rw [← hg2, hV.enc]; rfl)
def Erj : Env := { tt := tt, eqs := [], Φ := fun g => match g with
 | 149 => some (.p canonS)
 | 162 => some (.p smallS)
 | 93 => some (.p ofS)
 | 161 => some (.p divMagS)
 | 133 => some (.p negS)
 | 163 => some (.p subS)
 | _ => none }
theorem Erjok : EnvOk Tryz.prog Erj := ⟨tt_ok, fun t h => by simp [Erj] at h, (fun g S h => by
 simp only [Erj] at h
 split at h
 ·cases h; exact rcanon_ok
 ·cases h; exact rsmall_ok
 ·cases h; exact rof_ok
 ·cases h; exact rdivMag_ok
 ·cases h; exact rneg_ok
 ·cases h; exact rsub_ok
 ·cases h), fun g F h => by simp [Erj] at h⟩
theorem rdiv_ok : Snd Tryz.prog 135 divS := by
 refine snd_of Erjok Dok Tryz.func135 (enters_of Tryz.func135 (by kernel_rfl) rfl) (fun _ => rfl) (fun _ => rfl) ?_
 intro ⟨⟨b, s⟩, ⟨c, t⟩⟩ hp
 have hp : s.size ≤ 549755813888 ∧ t.size ≤ 549755813888 := hp
 obtain ⟨x, hx⟩ : ∃ x, x = IV.z (b, s) := ⟨_, rfl⟩
 obtain ⟨y, hy⟩ : ∃ y, y = IV.z (c, t) := ⟨_, rfl⟩
 have hxn : nby x.natAbs ≤ 549755813888 := by rw [hx]; exact IV.nby (i := (b, s)) hp.1
 have hyn : nby y.natAbs ≤ 549755813888 := by rw [hy]; exact IV.nby (i := (c, t)) hp.2
 obtain ⟨B, m, hE⟩ := EI.mk' x
 obtain ⟨D, k, hF⟩ := EI.mk' y
 have hms := hE.size
 have hks := hF.size
 have ec : canonS.val (b, s) = .agg ⟨[.bool B, .string m]⟩ := by show encI (IV.z (b, s)) = _; rw [← hx, hE.enc]
 have ed : canonS.val (c, t) = .agg ⟨[.bool D, .string k]⟩ := by show encI (IV.z (c, t)) = _; rw [← hy, hF.enc]
 conv => whnf
 refine .inl ⟨3, [[], [0], [], [0, 1, 2], [0, 1, 2, 3], [0, 1, 2, 3, 4]], by kernel_rfl, ?_⟩
 conv => whnf
 refine ⟨(b, s), rfl, hp.1, ?_⟩
 rw [ec]
 conv => whnf
 refine ⟨(c, t), rfl, hp.2, ?_⟩
 rw [ed]
 conv => whnf
 by_cases h2 : y = 0
 ·rw [show (k.toList == (⟨#[]⟩ : ByteArray).toList) = true from by rw [hF.nil, decide_eq_true h2]]
  conv => whnf
  have e : Int.fdiv (IV.z (b, s)) 0 = 0 := Int.fdiv_zero _
  have hz : IV.z (c, t) = 0 := by rw [← hy]; exact h2
  simp only [divS, hz, e, if_true, encI_zero]
  rfl
 ·rw [show (k.toList == (⟨#[]⟩ : ByteArray).toList) = false from by rw [hF.nil, decide_eq_false h2]]
  have fin : ∀ (q r : Value), q = encI (Int.fdiv x y) → r = encI (Int.fmod x y) → Value.tuple ⟨[q, r, .int .i64 0]⟩ = divS.val ((b, s), (c, t)) := fun q r hq hr => by
   rw [hx, hy] at hq hr
   have hz : IV.z (c, t) ≠ 0 := by rw [← hy]; exact h2
   simp only [divS, if_neg hz]
   rw [hq, hr]
  obtain ⟨zq, hzq⟩ : ∃ z : Int, z = ((bnat m / bnat k : Nat) : Int) := ⟨_, rfl⟩
  obtain ⟨zr, hzr⟩ : ∃ z : Int, z = ((bnat m % bnat k : Nat) : Int) := ⟨_, rfl⟩
  obtain ⟨hzq0, hzqm⟩ : 0 ≤ zq ∧ zq ≤ bnat m := by rw [hzq]; exact ⟨Int.natCast_nonneg _, Int.ofNat_le.2 (Nat.div_le_self _ _)⟩
  obtain ⟨qs, hq⟩ := EI.nonneg hzq0
  obtain ⟨rs, hr⟩ := EI.nonneg (show 0 ≤ zr by rw [hzr]; exact Int.natCast_nonneg _)
  have hk0 : bnat k ≠ 0 := by rw [hF.abs]; omega
  have hz0 : 0 ≤ zr ∧ zr < bnat k := by
   have := Nat.mod_lt (bnat m) (Nat.pos_of_ne_zero hk0)
   omega
  have hqz : nby zq.natAbs ≤ 549755813888 := by
   have h3 := nby_mono (Nat.div_le_self (bnat m) (bnat k))
   have h4 := nby_bnat_le m
   have : zq.natAbs = bnat m / bnat k := by rw [hzq]; rfl
   rw [this]
   omega
  have hrz : nby zr.natAbs ≤ 549755813888 := by
   have h3 := nby_mono (Nat.mod_le (bnat m) (bnat k))
   have h4 := nby_bnat_le m
   have : zr.natAbs = bnat m % bnat k := by rw [hzr]; rfl
   rw [this]
   omega
  conv => whnf
  by_cases h3 : m.size < 8 ∧ k.size < 8
  ·have lm : bnat m < 72057594037927936 := Nat.lt_of_lt_of_le (bnat_lt m) (pow7 (by omega))
   have lk : bnat k < 72057594037927936 := Nat.lt_of_lt_of_le (bnat_lt k) (pow7 (by omega))
   obtain ⟨M, hM⟩ : ∃ M, M = bnat m := ⟨_, rfl⟩
   obtain ⟨N, hN⟩ : ∃ N, N = bnat k := ⟨_, rfl⟩
   rw [show decide (((m.size : Nat) : Int) < 8) = true from decide_eq_true (by omega)]
   conv => whnf
   rw [show decide (((k.size : Nat) : Int) < 8) = true from decide_eq_true (by omega)]
   conv => whnf
   refine .inl ⟨5, [[], [0], [0, 1], [], [3], [0, 1, 2, 3, 4], [0, 1, 2, 3, 4, 5], [0, 1, 2, 3, 4, 5, 6]], by kernel_rfl, ?_⟩
   conv => whnf
   refine ⟨m, rfl, by show m.size ≤ 7; omega, ?_⟩
   rw [show smallS.val m = .int .i64 M from by rw [hM]; rfl]
   conv => whnf
   refine ⟨k, rfl, by show k.size ≤ 7; omega, ?_⟩
   rw [show smallS.val k = .int .i64 N from by rw [hN]; rfl]
   conv => whnf
   refine .inl ⟨7, [[], [], [0, 1], [0, 1, 2], [], [], [4, 5], [0, 1, 2, 3, 4, 5, 6], [0, 1, 2, 3, 4, 5, 6, 7], [0, 1, 2, 3, 4, 5, 6, 7, 8]], by kernel_rfl, ?_⟩
   have eq : IntKind.i64.wrap (Int.tdiv (M : Int) (N : Int)) = zq := by
    rw [tdiv_nat, hzq, hM, hN]
    exact wrap_nat (Nat.lt_of_le_of_lt (Nat.div_le_self _ _) lm)
   have er : Int.tmod (M : Int) (N : Int) = zr := by rw [tmod_nat, hzr, hM, hN]
   conv => whnf
   rw [show decide (((N : Nat) : Int) ≠ 0) = true from decide_eq_true (by omega)]
   conv => whnf
   rw [eq]
   refine ⟨zq, rfl, ?_, ?_⟩
   ·exact ⟨by omega, by omega⟩
   rw [show ofS.val zq = .agg ⟨[.bool false, .string qs]⟩ from hq.enc]
   conv => whnf
   rw [show decide (((N : Nat) : Int) ≠ 0) = true from decide_eq_true (by omega)]
   conv => whnf
   rw [er]
   refine ⟨zr, rfl, ⟨by omega, by omega⟩, ?_⟩
   rw [show ofS.val zr = .agg ⟨[.bool false, .string rs]⟩ from hr.enc]
   conv => whnf
   refine br_intro (fun h5 => ?_) (fun h5 => ?_)
   ·have h5 : B ≠ D := by
     intro e
     subst e
     cases B <;> cases h5
    obtain ⟨qb2, qs2, hq2⟩ := EI.mk' (-zq)
    have hq2s := hq2.size
    rw [Int.natAbs_neg] at hq2s
    conv => whnf
    refine ⟨(false, qs), rfl, by show qs.size ≤ _; rw [hq.size]; omega, ?_⟩
    rw [show negS.val (false, qs) = .agg ⟨[.bool qb2, .string qs2]⟩ from by show encI (-IV.z (false, qs)) = _; rw [hq.val, hq2.enc]]
    conv => whnf
    by_cases h6 : zr = 0
    ·rw [show (!rs.toList == (⟨#[]⟩ : ByteArray).toList) = false from by rw [hr.nn]; exact decide_eq_false (by omega)]
     obtain ⟨hz, hw⟩ := div_zero0 hE hF h2 h5 hzq hzr h6
     clear hq
     have hq := hq2
     conv => whnf
     refine br_intro (fun h9 => ?_) (fun h9 => ?_)
     ·have hvq := hq.enc.symm.trans (congrArg encI hz)
      rw [h9, if_pos rfl] at hw
      conv => whnf
      refine ⟨(false, rs), rfl, by show rs.size ≤ _; rw [hr.size]; omega, ?_⟩
      obtain ⟨V, n, hV⟩ := EI.mk' (-zr)
      rw [show negS.val (false, rs) = .agg ⟨[.bool V, .string n]⟩ from by show encI (-IV.z (false, rs)) = _; rw [hr.val, hV.enc]]
      have hvr := hV.enc.symm.trans (congrArg encI hw)
      conv => whnf
      refine .inr (.inl ⟨(.br 0 (.br 1 (.br 2 (.br 3 (.br 4 .leaf .leaf) .leaf) .leaf) (.br 2 (.br 1 (.br 3 (.br 4 .leaf .leaf) .leaf) .leaf) .leaf)) (.br 1 (.br 0 (.br 2 (.br 3 (.br 4 .leaf .leaf) .leaf) .leaf) .leaf) .leaf)), by kernel_rfl, ?_⟩)
      repeat' ((conv => whnf); first | exact True.intro | refine And.intro ?_ ?_)
      all_goals conv => whnf
      all_goals exact fin _ _ hvq hvr
     ·have hvq := hq.enc.symm.trans (congrArg encI hz)
      rw [h9, if_neg (by decide)] at hw
      have hvr := hr.enc.symm.trans (congrArg encI hw)
      conv => whnf
      refine .inr (.inl ⟨(.br 0 (.br 1 (.br 2 (.br 3 (.br 4 .leaf .leaf) .leaf) .leaf) (.br 2 (.br 1 (.br 3 (.br 4 .leaf .leaf) .leaf) .leaf) .leaf)) (.br 1 (.br 0 (.br 2 (.br 3 (.br 4 .leaf .leaf) .leaf) .leaf) .leaf) .leaf)), by kernel_rfl, ?_⟩)
      repeat' ((conv => whnf); first | exact True.intro | refine And.intro ?_ ?_)
      all_goals conv => whnf
      all_goals exact fin _ _ hvq hvr
    ·rw [show (!rs.toList == (⟨#[]⟩ : ByteArray).toList) = true from by rw [hr.nn]; exact decide_eq_true (by omega)]
     obtain ⟨hz, hw⟩ := div_rest hE hF h2 h5 hzq hzr h6
     obtain ⟨vb, v1, h1e⟩ := EI.mk' 1
     have v1s := h1e.size
     have hn1 : nby (Int.natAbs 1) ≤ 1 := nby_le (by decide)
     have hq2z : IV.z (qb2, qs2) = -zq := hq2.val
     conv => whnf
     refine .inl ⟨2, [[], [], [0, 1], [0, 1, 2]], by kernel_rfl, ?_⟩
     conv => whnf
     refine ⟨(1 : Int), rfl, ⟨by decide, by decide⟩, ?_⟩
     rw [show ofS.val (1 : Int) = .agg ⟨[.bool vb, .string v1]⟩ from h1e.enc]
     conv => whnf
     refine ⟨((qb2, qs2), (vb, v1)), rfl, ⟨by show qs2.size ≤ _; omega, by show v1.size ≤ _; omega⟩, ?_⟩
     obtain ⟨qb3, qs3, hq3⟩ := EI.mk' (-zq - 1)
     rw [show subS.val ((qb2, qs2), (vb, v1)) = .agg ⟨[.bool qb3, .string qs3]⟩ from by show encI (IV.z (qb2, qs2) - IV.z (vb, v1)) = _; rw [hq2.val, h1e.val, hq3.enc]]
     conv => whnf
     refine ⟨((false, k), (false, rs)), rfl, ⟨by show k.size ≤ _; omega, by show rs.size ≤ _; rw [hr.size]; omega⟩, ?_⟩
     obtain ⟨rb3, rs3, hr3⟩ := EI.mk' (((bnat k : Nat) : Int) - zr)
     rw [show subS.val ((false, k), (false, rs)) = .agg ⟨[.bool rb3, .string rs3]⟩ from by show encI (IV.z (false, k) - IV.z (false, rs)) = _; rw [hr.val, show IV.z (false, k) = ((bnat k : Nat) : Int) from rfl, hr3.enc]]
     have hrk : nby (((bnat k : Nat) : Int) - zr).natAbs ≤ 549755813888 := by
      have hk2 := nby_bnat_le k
      have := nby_mono (show (((bnat k : Nat) : Int) - zr).natAbs ≤ bnat k by have := hF.abs; omega)
      omega
     clear hq hr hrz
     have hq := hq3
     clear hz0
     obtain ⟨zr, hrr⟩ : ∃ z, z = ((bnat k : Nat) : Int) - zr := ⟨_, rfl⟩
     rw [← hrr] at hr3 hw hrk
     obtain ⟨rb, rfl⟩ : ∃ q', q' = rb3 := ⟨_, rfl⟩
     obtain ⟨rs, rfl⟩ : ∃ q', q' = rs3 := ⟨_, rfl⟩
     have hr := hr3
     have hrz := hrk
     conv => whnf
     refine br_intro (fun h9 => ?_) (fun h9 => ?_)
     ·have hvq := hq.enc.symm.trans (congrArg encI hz)
      rw [h9, if_pos rfl] at hw
      conv => whnf
      refine ⟨(rb, rs), rfl, by show rs.size ≤ _; rw [hr.size]; omega, ?_⟩
      obtain ⟨V, n, hV⟩ := EI.mk' (-zr)
      rw [show negS.val (rb, rs) = .agg ⟨[.bool V, .string n]⟩ from by show encI (-IV.z (rb, rs)) = _; rw [hr.val, hV.enc]]
      have hvr := hV.enc.symm.trans (congrArg encI hw)
      conv => whnf
      refine .inr (.inl ⟨(.br 0 (.br 1 (.br 2 (.br 3 (.br 4 .leaf .leaf) .leaf) .leaf) (.br 2 (.br 1 (.br 3 (.br 4 .leaf .leaf) .leaf) .leaf) .leaf)) (.br 1 (.br 0 (.br 2 (.br 3 (.br 4 .leaf .leaf) .leaf) .leaf) .leaf) .leaf)), by kernel_rfl, ?_⟩)
      repeat' ((conv => whnf); first | exact True.intro | refine And.intro ?_ ?_)
      all_goals conv => whnf
      all_goals exact fin _ _ hvq hvr
     ·have hvq := hq.enc.symm.trans (congrArg encI hz)
      rw [h9, if_neg (by decide)] at hw
      have hvr := hr.enc.symm.trans (congrArg encI hw)
      conv => whnf
      refine .inr (.inl ⟨(.br 0 (.br 1 (.br 2 (.br 3 (.br 4 .leaf .leaf) .leaf) .leaf) (.br 2 (.br 1 (.br 3 (.br 4 .leaf .leaf) .leaf) .leaf) .leaf)) (.br 1 (.br 0 (.br 2 (.br 3 (.br 4 .leaf .leaf) .leaf) .leaf) .leaf) .leaf)), by kernel_rfl, ?_⟩)
      repeat' ((conv => whnf); first | exact True.intro | refine And.intro ?_ ?_)
      all_goals conv => whnf
      all_goals exact fin _ _ hvq hvr
   ·have h5 : B = D := by
     cases B <;> cases D <;> first | rfl | cases h5
    obtain ⟨hz, hw⟩ := div_same hE hF h2 h5 hzq hzr
    conv => whnf
    refine br_intro (fun h9 => ?_) (fun h9 => ?_)
    ·have hvq := hq.enc.symm.trans (congrArg encI hz)
     rw [h9, if_pos rfl] at hw
     conv => whnf
     refine ⟨(false, rs), rfl, by show rs.size ≤ _; rw [hr.size]; omega, ?_⟩
     obtain ⟨V, n, hV⟩ := EI.mk' (-zr)
     rw [show negS.val (false, rs) = .agg ⟨[.bool V, .string n]⟩ from by show encI (-IV.z (false, rs)) = _; rw [hr.val, hV.enc]]
     have hvr := hV.enc.symm.trans (congrArg encI hw)
     conv => whnf
     refine .inr (.inl ⟨(.br 0 (.br 1 (.br 2 (.br 3 (.br 4 .leaf .leaf) .leaf) .leaf) (.br 2 (.br 1 (.br 3 (.br 4 .leaf .leaf) .leaf) .leaf) .leaf)) (.br 1 (.br 0 (.br 2 (.br 3 (.br 4 .leaf .leaf) .leaf) .leaf) .leaf) .leaf)), by kernel_rfl, ?_⟩)
     repeat' ((conv => whnf); first | exact True.intro | refine And.intro ?_ ?_)
     all_goals conv => whnf
     all_goals exact fin _ _ hvq hvr
    ·have hvq := hq.enc.symm.trans (congrArg encI hz)
     rw [h9, if_neg (by decide)] at hw
     have hvr := hr.enc.symm.trans (congrArg encI hw)
     conv => whnf
     refine .inr (.inl ⟨(.br 0 (.br 1 (.br 2 (.br 3 (.br 4 .leaf .leaf) .leaf) .leaf) (.br 2 (.br 1 (.br 3 (.br 4 .leaf .leaf) .leaf) .leaf) .leaf)) (.br 1 (.br 0 (.br 2 (.br 3 (.br 4 .leaf .leaf) .leaf) .leaf) .leaf) .leaf)), by kernel_rfl, ?_⟩)
     repeat' ((conv => whnf); first | exact True.intro | refine And.intro ?_ ?_)
     all_goals conv => whnf
     all_goals exact fin _ _ hvq hvr
  ·have ev : divMagS.val (m, bnat k) = .tuple ⟨[.string qs, .string rs]⟩ := by
    show Value.tuple ⟨[.string (nb (bnat m / bnat k)), .string (nb (bnat m % bnat k))]⟩ = _
    rw [hq.mag, hr.mag, hzq, hzr]
    rfl
   have ei : divMagS.args (m, bnat k) = [.string m, .string k] := by
    show [Value.string m, .string (nb (bnat k))] = _
    rw [← hF.eta]
   have epre : divMagS.pre (m, bnat k) := ⟨by show m.size ≤ _; omega, by show nby (bnat k) ≤ _; rw [hF.abs]; omega, hk0⟩
   by_cases h4 : m.size < 8
   ·rw [show decide (((m.size : Nat) : Int) < 8) = true from decide_eq_true (by omega)]
    conv => whnf
    rw [show decide (((k.size : Nat) : Int) < 8) = false from decide_eq_false (by omega)]
    conv => whnf
    refine ⟨(m, bnat k), ei, epre, ?_⟩
    rw [ev]
    conv => whnf
    refine br_intro (fun h5 => ?_) (fun h5 => ?_)
    ·have h5 : B ≠ D := by
      intro e
      subst e
      cases B <;> cases h5
     obtain ⟨qb2, qs2, hq2⟩ := EI.mk' (-zq)
     have hq2s := hq2.size
     rw [Int.natAbs_neg] at hq2s
     conv => whnf
     refine ⟨(false, qs), rfl, by show qs.size ≤ _; rw [hq.size]; omega, ?_⟩
     rw [show negS.val (false, qs) = .agg ⟨[.bool qb2, .string qs2]⟩ from by show encI (-IV.z (false, qs)) = _; rw [hq.val, hq2.enc]]
     conv => whnf
     by_cases h6 : zr = 0
     ·rw [show (!rs.toList == (⟨#[]⟩ : ByteArray).toList) = false from by rw [hr.nn]; exact decide_eq_false (by omega)]
      obtain ⟨hz, hw⟩ := div_zero0 hE hF h2 h5 hzq hzr h6
      clear hq
      have hq := hq2
      conv => whnf
      refine br_intro (fun h9 => ?_) (fun h9 => ?_)
      ·have hvq := hq.enc.symm.trans (congrArg encI hz)
       rw [h9, if_pos rfl] at hw
       conv => whnf
       refine ⟨(false, rs), rfl, by show rs.size ≤ _; rw [hr.size]; omega, ?_⟩
       obtain ⟨V, n, hV⟩ := EI.mk' (-zr)
       rw [show negS.val (false, rs) = .agg ⟨[.bool V, .string n]⟩ from by show encI (-IV.z (false, rs)) = _; rw [hr.val, hV.enc]]
       have hvr := hV.enc.symm.trans (congrArg encI hw)
       conv => whnf
       refine .inr (.inl ⟨(.br 0 (.br 1 (.br 2 (.br 3 (.br 4 .leaf .leaf) .leaf) .leaf) (.br 2 (.br 1 (.br 3 (.br 4 .leaf .leaf) .leaf) .leaf) .leaf)) (.br 1 (.br 0 (.br 2 (.br 3 (.br 4 .leaf .leaf) .leaf) .leaf) .leaf) .leaf)), by kernel_rfl, ?_⟩)
       repeat' ((conv => whnf); first | exact True.intro | refine And.intro ?_ ?_)
       all_goals conv => whnf
       all_goals exact fin _ _ hvq hvr
      ·have hvq := hq.enc.symm.trans (congrArg encI hz)
       rw [h9, if_neg (by decide)] at hw
       have hvr := hr.enc.symm.trans (congrArg encI hw)
       conv => whnf
       refine .inr (.inl ⟨(.br 0 (.br 1 (.br 2 (.br 3 (.br 4 .leaf .leaf) .leaf) .leaf) (.br 2 (.br 1 (.br 3 (.br 4 .leaf .leaf) .leaf) .leaf) .leaf)) (.br 1 (.br 0 (.br 2 (.br 3 (.br 4 .leaf .leaf) .leaf) .leaf) .leaf) .leaf)), by kernel_rfl, ?_⟩)
       repeat' ((conv => whnf); first | exact True.intro | refine And.intro ?_ ?_)
       all_goals conv => whnf
       all_goals exact fin _ _ hvq hvr
     ·rw [show (!rs.toList == (⟨#[]⟩ : ByteArray).toList) = true from by rw [hr.nn]; exact decide_eq_true (by omega)]
      obtain ⟨hz, hw⟩ := div_rest hE hF h2 h5 hzq hzr h6
      obtain ⟨vb, v1, h1e⟩ := EI.mk' 1
      have v1s := h1e.size
      have hn1 : nby (Int.natAbs 1) ≤ 1 := nby_le (by decide)
      have hq2z : IV.z (qb2, qs2) = -zq := hq2.val
      conv => whnf
      refine .inl ⟨2, [[], [], [0, 1], [0, 1, 2]], by kernel_rfl, ?_⟩
      conv => whnf
      refine ⟨(1 : Int), rfl, ⟨by decide, by decide⟩, ?_⟩
      rw [show ofS.val (1 : Int) = .agg ⟨[.bool vb, .string v1]⟩ from h1e.enc]
      conv => whnf
      refine ⟨((qb2, qs2), (vb, v1)), rfl, ⟨by show qs2.size ≤ _; omega, by show v1.size ≤ _; omega⟩, ?_⟩
      obtain ⟨qb3, qs3, hq3⟩ := EI.mk' (-zq - 1)
      rw [show subS.val ((qb2, qs2), (vb, v1)) = .agg ⟨[.bool qb3, .string qs3]⟩ from by show encI (IV.z (qb2, qs2) - IV.z (vb, v1)) = _; rw [hq2.val, h1e.val, hq3.enc]]
      conv => whnf
      refine ⟨((false, k), (false, rs)), rfl, ⟨by show k.size ≤ _; omega, by show rs.size ≤ _; rw [hr.size]; omega⟩, ?_⟩
      obtain ⟨rb3, rs3, hr3⟩ := EI.mk' (((bnat k : Nat) : Int) - zr)
      rw [show subS.val ((false, k), (false, rs)) = .agg ⟨[.bool rb3, .string rs3]⟩ from by show encI (IV.z (false, k) - IV.z (false, rs)) = _; rw [hr.val, show IV.z (false, k) = ((bnat k : Nat) : Int) from rfl, hr3.enc]]
      have hrk : nby (((bnat k : Nat) : Int) - zr).natAbs ≤ 549755813888 := by
       have hk2 := nby_bnat_le k
       have := nby_mono (show (((bnat k : Nat) : Int) - zr).natAbs ≤ bnat k by have := hF.abs; omega)
       omega
      clear hq hr hrz
      have hq := hq3
      clear hz0
      obtain ⟨zr, hrr⟩ : ∃ z, z = ((bnat k : Nat) : Int) - zr := ⟨_, rfl⟩
      rw [← hrr] at hr3 hw hrk
      obtain ⟨rb, rfl⟩ : ∃ q', q' = rb3 := ⟨_, rfl⟩
      obtain ⟨rs, rfl⟩ : ∃ q', q' = rs3 := ⟨_, rfl⟩
      have hr := hr3
      have hrz := hrk
      conv => whnf
      refine br_intro (fun h9 => ?_) (fun h9 => ?_)
      ·have hvq := hq.enc.symm.trans (congrArg encI hz)
       rw [h9, if_pos rfl] at hw
       conv => whnf
       refine ⟨(rb, rs), rfl, by show rs.size ≤ _; rw [hr.size]; omega, ?_⟩
       obtain ⟨V, n, hV⟩ := EI.mk' (-zr)
       rw [show negS.val (rb, rs) = .agg ⟨[.bool V, .string n]⟩ from by show encI (-IV.z (rb, rs)) = _; rw [hr.val, hV.enc]]
       have hvr := hV.enc.symm.trans (congrArg encI hw)
       conv => whnf
       refine .inr (.inl ⟨(.br 0 (.br 1 (.br 2 (.br 3 (.br 4 .leaf .leaf) .leaf) .leaf) (.br 2 (.br 1 (.br 3 (.br 4 .leaf .leaf) .leaf) .leaf) .leaf)) (.br 1 (.br 0 (.br 2 (.br 3 (.br 4 .leaf .leaf) .leaf) .leaf) .leaf) .leaf)), by kernel_rfl, ?_⟩)
       repeat' ((conv => whnf); first | exact True.intro | refine And.intro ?_ ?_)
       all_goals conv => whnf
       all_goals exact fin _ _ hvq hvr
      ·have hvq := hq.enc.symm.trans (congrArg encI hz)
       rw [h9, if_neg (by decide)] at hw
       have hvr := hr.enc.symm.trans (congrArg encI hw)
       conv => whnf
       refine .inr (.inl ⟨(.br 0 (.br 1 (.br 2 (.br 3 (.br 4 .leaf .leaf) .leaf) .leaf) (.br 2 (.br 1 (.br 3 (.br 4 .leaf .leaf) .leaf) .leaf) .leaf)) (.br 1 (.br 0 (.br 2 (.br 3 (.br 4 .leaf .leaf) .leaf) .leaf) .leaf) .leaf)), by kernel_rfl, ?_⟩)
       repeat' ((conv => whnf); first | exact True.intro | refine And.intro ?_ ?_)
       all_goals conv => whnf
       all_goals exact fin _ _ hvq hvr
    ·have h5 : B = D := by
      cases B <;> cases D <;> first | rfl | cases h5
     obtain ⟨hz, hw⟩ := div_same hE hF h2 h5 hzq hzr
     conv => whnf
     refine br_intro (fun h9 => ?_) (fun h9 => ?_)
     ·have hvq := hq.enc.symm.trans (congrArg encI hz)
      rw [h9, if_pos rfl] at hw
      conv => whnf
      refine ⟨(false, rs), rfl, by show rs.size ≤ _; rw [hr.size]; omega, ?_⟩
      obtain ⟨V, n, hV⟩ := EI.mk' (-zr)
      rw [show negS.val (false, rs) = .agg ⟨[.bool V, .string n]⟩ from by show encI (-IV.z (false, rs)) = _; rw [hr.val, hV.enc]]
      have hvr := hV.enc.symm.trans (congrArg encI hw)
      conv => whnf
      refine .inr (.inl ⟨(.br 0 (.br 1 (.br 2 (.br 3 (.br 4 .leaf .leaf) .leaf) .leaf) (.br 2 (.br 1 (.br 3 (.br 4 .leaf .leaf) .leaf) .leaf) .leaf)) (.br 1 (.br 0 (.br 2 (.br 3 (.br 4 .leaf .leaf) .leaf) .leaf) .leaf) .leaf)), by kernel_rfl, ?_⟩)
      repeat' ((conv => whnf); first | exact True.intro | refine And.intro ?_ ?_)
      all_goals conv => whnf
      all_goals exact fin _ _ hvq hvr
     ·have hvq := hq.enc.symm.trans (congrArg encI hz)
      rw [h9, if_neg (by decide)] at hw
      have hvr := hr.enc.symm.trans (congrArg encI hw)
      conv => whnf
      refine .inr (.inl ⟨(.br 0 (.br 1 (.br 2 (.br 3 (.br 4 .leaf .leaf) .leaf) .leaf) (.br 2 (.br 1 (.br 3 (.br 4 .leaf .leaf) .leaf) .leaf) .leaf)) (.br 1 (.br 0 (.br 2 (.br 3 (.br 4 .leaf .leaf) .leaf) .leaf) .leaf) .leaf)), by kernel_rfl, ?_⟩)
      repeat' ((conv => whnf); first | exact True.intro | refine And.intro ?_ ?_)
      all_goals conv => whnf
      all_goals exact fin _ _ hvq hvr
   ·rw [show decide (((m.size : Nat) : Int) < 8) = false from decide_eq_false (by omega)]
    conv => whnf
    refine ⟨(m, bnat k), ei, epre, ?_⟩
    rw [ev]
    conv => whnf
    refine br_intro (fun h5 => ?_) (fun h5 => ?_)
    ·have h5 : B ≠ D := by
      intro e
      subst e
      cases B <;> cases h5
     obtain ⟨qb2, qs2, hq2⟩ := EI.mk' (-zq)
     have hq2s := hq2.size
     rw [Int.natAbs_neg] at hq2s
     conv => whnf
     refine ⟨(false, qs), rfl, by show qs.size ≤ _; rw [hq.size]; omega, ?_⟩
     rw [show negS.val (false, qs) = .agg ⟨[.bool qb2, .string qs2]⟩ from by show encI (-IV.z (false, qs)) = _; rw [hq.val, hq2.enc]]
     conv => whnf
     by_cases h6 : zr = 0
     ·rw [show (!rs.toList == (⟨#[]⟩ : ByteArray).toList) = false from by rw [hr.nn]; exact decide_eq_false (by omega)]
      obtain ⟨hz, hw⟩ := div_zero0 hE hF h2 h5 hzq hzr h6
      clear hq
      have hq := hq2
      conv => whnf
      refine br_intro (fun h9 => ?_) (fun h9 => ?_)
      ·have hvq := hq.enc.symm.trans (congrArg encI hz)
       rw [h9, if_pos rfl] at hw
       conv => whnf
       refine ⟨(false, rs), rfl, by show rs.size ≤ _; rw [hr.size]; omega, ?_⟩
       obtain ⟨V, n, hV⟩ := EI.mk' (-zr)
       rw [show negS.val (false, rs) = .agg ⟨[.bool V, .string n]⟩ from by show encI (-IV.z (false, rs)) = _; rw [hr.val, hV.enc]]
       have hvr := hV.enc.symm.trans (congrArg encI hw)
       conv => whnf
       refine .inr (.inl ⟨(.br 0 (.br 1 (.br 2 (.br 3 (.br 4 .leaf .leaf) .leaf) .leaf) (.br 2 (.br 1 (.br 3 (.br 4 .leaf .leaf) .leaf) .leaf) .leaf)) (.br 1 (.br 0 (.br 2 (.br 3 (.br 4 .leaf .leaf) .leaf) .leaf) .leaf) .leaf)), by kernel_rfl, ?_⟩)
       repeat' ((conv => whnf); first | exact True.intro | refine And.intro ?_ ?_)
       all_goals conv => whnf
       all_goals exact fin _ _ hvq hvr
      ·have hvq := hq.enc.symm.trans (congrArg encI hz)
       rw [h9, if_neg (by decide)] at hw
       have hvr := hr.enc.symm.trans (congrArg encI hw)
       conv => whnf
       refine .inr (.inl ⟨(.br 0 (.br 1 (.br 2 (.br 3 (.br 4 .leaf .leaf) .leaf) .leaf) (.br 2 (.br 1 (.br 3 (.br 4 .leaf .leaf) .leaf) .leaf) .leaf)) (.br 1 (.br 0 (.br 2 (.br 3 (.br 4 .leaf .leaf) .leaf) .leaf) .leaf) .leaf)), by kernel_rfl, ?_⟩)
       repeat' ((conv => whnf); first | exact True.intro | refine And.intro ?_ ?_)
       all_goals conv => whnf
       all_goals exact fin _ _ hvq hvr
     ·rw [show (!rs.toList == (⟨#[]⟩ : ByteArray).toList) = true from by rw [hr.nn]; exact decide_eq_true (by omega)]
      obtain ⟨hz, hw⟩ := div_rest hE hF h2 h5 hzq hzr h6
      obtain ⟨vb, v1, h1e⟩ := EI.mk' 1
      have v1s := h1e.size
      have hn1 : nby (Int.natAbs 1) ≤ 1 := nby_le (by decide)
      have hq2z : IV.z (qb2, qs2) = -zq := hq2.val
      conv => whnf
      refine .inl ⟨2, [[], [], [0, 1], [0, 1, 2]], by kernel_rfl, ?_⟩
      conv => whnf
      refine ⟨(1 : Int), rfl, ⟨by decide, by decide⟩, ?_⟩
      rw [show ofS.val (1 : Int) = .agg ⟨[.bool vb, .string v1]⟩ from h1e.enc]
      conv => whnf
      refine ⟨((qb2, qs2), (vb, v1)), rfl, ⟨by show qs2.size ≤ _; omega, by show v1.size ≤ _; omega⟩, ?_⟩
      obtain ⟨qb3, qs3, hq3⟩ := EI.mk' (-zq - 1)
      rw [show subS.val ((qb2, qs2), (vb, v1)) = .agg ⟨[.bool qb3, .string qs3]⟩ from by show encI (IV.z (qb2, qs2) - IV.z (vb, v1)) = _; rw [hq2.val, h1e.val, hq3.enc]]
      conv => whnf
      refine ⟨((false, k), (false, rs)), rfl, ⟨by show k.size ≤ _; omega, by show rs.size ≤ _; rw [hr.size]; omega⟩, ?_⟩
      obtain ⟨rb3, rs3, hr3⟩ := EI.mk' (((bnat k : Nat) : Int) - zr)
      rw [show subS.val ((false, k), (false, rs)) = .agg ⟨[.bool rb3, .string rs3]⟩ from by show encI (IV.z (false, k) - IV.z (false, rs)) = _; rw [hr.val, show IV.z (false, k) = ((bnat k : Nat) : Int) from rfl, hr3.enc]]
      have hrk : nby (((bnat k : Nat) : Int) - zr).natAbs ≤ 549755813888 := by
       have hk2 := nby_bnat_le k
       have := nby_mono (show (((bnat k : Nat) : Int) - zr).natAbs ≤ bnat k by have := hF.abs; omega)
       omega
      clear hq hr hrz
      have hq := hq3
      clear hz0
      obtain ⟨zr, hrr⟩ : ∃ z, z = ((bnat k : Nat) : Int) - zr := ⟨_, rfl⟩
      rw [← hrr] at hr3 hw hrk
      obtain ⟨rb, rfl⟩ : ∃ q', q' = rb3 := ⟨_, rfl⟩
      obtain ⟨rs, rfl⟩ : ∃ q', q' = rs3 := ⟨_, rfl⟩
      have hr := hr3
      have hrz := hrk
      conv => whnf
      refine br_intro (fun h9 => ?_) (fun h9 => ?_)
      ·have hvq := hq.enc.symm.trans (congrArg encI hz)
       rw [h9, if_pos rfl] at hw
       conv => whnf
       refine ⟨(rb, rs), rfl, by show rs.size ≤ _; rw [hr.size]; omega, ?_⟩
       obtain ⟨V, n, hV⟩ := EI.mk' (-zr)
       rw [show negS.val (rb, rs) = .agg ⟨[.bool V, .string n]⟩ from by show encI (-IV.z (rb, rs)) = _; rw [hr.val, hV.enc]]
       have hvr := hV.enc.symm.trans (congrArg encI hw)
       conv => whnf
       refine .inr (.inl ⟨(.br 0 (.br 1 (.br 2 (.br 3 (.br 4 .leaf .leaf) .leaf) .leaf) (.br 2 (.br 1 (.br 3 (.br 4 .leaf .leaf) .leaf) .leaf) .leaf)) (.br 1 (.br 0 (.br 2 (.br 3 (.br 4 .leaf .leaf) .leaf) .leaf) .leaf) .leaf)), by kernel_rfl, ?_⟩)
       repeat' ((conv => whnf); first | exact True.intro | refine And.intro ?_ ?_)
       all_goals conv => whnf
       all_goals exact fin _ _ hvq hvr
      ·have hvq := hq.enc.symm.trans (congrArg encI hz)
       rw [h9, if_neg (by decide)] at hw
       have hvr := hr.enc.symm.trans (congrArg encI hw)
       conv => whnf
       refine .inr (.inl ⟨(.br 0 (.br 1 (.br 2 (.br 3 (.br 4 .leaf .leaf) .leaf) .leaf) (.br 2 (.br 1 (.br 3 (.br 4 .leaf .leaf) .leaf) .leaf) .leaf)) (.br 1 (.br 0 (.br 2 (.br 3 (.br 4 .leaf .leaf) .leaf) .leaf) .leaf) .leaf)), by kernel_rfl, ?_⟩)
       repeat' ((conv => whnf); first | exact True.intro | refine And.intro ?_ ?_)
       all_goals conv => whnf
       all_goals exact fin _ _ hvq hvr
    ·have h5 : B = D := by
      cases B <;> cases D <;> first | rfl | cases h5
     obtain ⟨hz, hw⟩ := div_same hE hF h2 h5 hzq hzr
     conv => whnf
     refine br_intro (fun h9 => ?_) (fun h9 => ?_)
     ·have hvq := hq.enc.symm.trans (congrArg encI hz)
      rw [h9, if_pos rfl] at hw
      conv => whnf
      refine ⟨(false, rs), rfl, by show rs.size ≤ _; rw [hr.size]; omega, ?_⟩
      obtain ⟨V, n, hV⟩ := EI.mk' (-zr)
      rw [show negS.val (false, rs) = .agg ⟨[.bool V, .string n]⟩ from by show encI (-IV.z (false, rs)) = _; rw [hr.val, hV.enc]]
      have hvr := hV.enc.symm.trans (congrArg encI hw)
      conv => whnf
      refine .inr (.inl ⟨(.br 0 (.br 1 (.br 2 (.br 3 (.br 4 .leaf .leaf) .leaf) .leaf) (.br 2 (.br 1 (.br 3 (.br 4 .leaf .leaf) .leaf) .leaf) .leaf)) (.br 1 (.br 0 (.br 2 (.br 3 (.br 4 .leaf .leaf) .leaf) .leaf) .leaf) .leaf)), by kernel_rfl, ?_⟩)
      repeat' ((conv => whnf); first | exact True.intro | refine And.intro ?_ ?_)
      all_goals conv => whnf
      all_goals exact fin _ _ hvq hvr
     ·have hvq := hq.enc.symm.trans (congrArg encI hz)
      rw [h9, if_neg (by decide)] at hw
      have hvr := hr.enc.symm.trans (congrArg encI hw)
      conv => whnf
      refine .inr (.inl ⟨(.br 0 (.br 1 (.br 2 (.br 3 (.br 4 .leaf .leaf) .leaf) .leaf) (.br 2 (.br 1 (.br 3 (.br 4 .leaf .leaf) .leaf) .leaf) .leaf)) (.br 1 (.br 0 (.br 2 (.br 3 (.br 4 .leaf .leaf) .leaf) .leaf) .leaf) .leaf)), by kernel_rfl, ?_⟩)
      repeat' ((conv => whnf); first | exact True.intro | refine And.intro ?_ ?_)
      all_goals conv => whnf
      all_goals exact fin _ _ hvq hvr
end Go.Proofs.YtppeponndkfbkaaGreat
/- Contracts of rational: machine integers. -/
set_option maxRecDepth 20000
set_option maxHeartbeats 1000000
namespace Go.Proofs.YtppeponndkfbkaaGreat
open Go Go.Ae
def eqsL : List TypeId := [23, 27, 44, 25]
theorem eqs_ok : ∀ t ∈ eqsL, ∀ ti, tt t = some ti → EqTy Tryz.prog t ti.zero := by
 intro t ht ti h
 simp only [eqsL, List.mem_cons, List.mem_nil_iff, or_false] at ht
 rcases ht with rfl | rfl | rfl | rfl
 all_goals cases h; exact eqTy (by kernel_rfl) (by kernel_rfl)
theorem qdigits_ok : Snd Tryz.prog 164 smallS := by
 refine snd_of E0ok Dok Tryz.func164 (enters_of Tryz.func164 (by kernel_rfl) rfl) (fun _ => rfl) (fun _ => rfl) ?_
 intro (s : ByteArray) hp
 have hp : s.size ≤ 7 := hp
 conv => whnf
 refine .inl ⟨fun mm tz hz => ∃ (i : Nat) (N : Nat), Pat [some (.string s), none, none, some (.int .i64 N), none, none, some (.int .i64 s.size), some (.int .i64 i), none, none, none, none, none, none, none, none, none, none, none] tz ∧ hz = [] ∧ s.size - i = mm ∧ (i ≤ s.size ∧ N = bnat s / C ^ (s.size - i)), .inl ⟨_, 0, 0, (.keep (.skip (.skip (.keep (.skip (.skip (.keep (.keep (.s8 (.skip (.skip (.skip (.nil))))))))))))), rfl, rfl, ?_⟩, ?_⟩
 ·exact ⟨Nat.zero_le _, by rw [Nat.sub_zero, Nat.div_eq_of_lt (bnat_lt s)]⟩
 rintro mm tms _ ⟨i, N, hpat, rfl, rfl, ⟨hi, hN⟩⟩
 obtain ⟨az, rfl⟩ : ∃ az : Nat → Value, tms = [.string s, az 1, az 2, .int .i64 N, az 4, az 5, .int .i64 s.size, .int .i64 i, az 8, az 9, az 10, az 11, az 12, az 13, az 14, az 15, az 16, az 17, az 18] := pat_fill hpat
 clear hpat
 have hlC := pre_lt s hi
 rw [← hN] at hlC
 have hlt := Nat.lt_of_lt_of_le hlC (pow7 (show i ≤ 7 by omega))
 conv => whnf
 refine br_intro (fun h2 => ?_) (fun h2 => ?_)
 ·have h2 : i < s.size := by simpa using h2
  have hst := pre_step h2
  rw [← hN] at hst
  have hb : byteAt s i < 256 := byteAt_lt s i
  have e3 : IntKind.i64.wrap (((i : Nat) : Int) + 1) = ((i + 1 : Nat) : Int) := by rw [wrapi64 (by omega) (by omega)]; rfl
  have hl6 := Nat.lt_of_lt_of_le hlC (pow6 (show i ≤ 6 by omega))
  conv => whnf
  refine ⟨⟨by omega, by omega⟩, ?_⟩
  simp only [toNat_cast]
  conv => whnf
  rw [byte_raw (by omega) hb, e3]
  refine .inl ⟨_, ?_, i + 1, N * 256 + byteAt s i, (.keep (.skip (.skip (.keep (.skip (.skip (.keep (.keep (.s8 (.skip (.skip (.skip (.nil))))))))))))), rfl, rfl, ?_⟩
  ·omega
  ·exact ⟨by omega, hst.symm⟩
 ·have h2 : i = s.size := by
   have h2 : ¬ i < s.size := by simpa using h2
   omega
  subst h2
  rw [Nat.sub_self, Nat.pow_zero, Nat.div_one] at hN
  subst hN
  conv => whnf
  rfl
theorem qnumber_ok : Snd Tryz.prog 137 smallS := by
 refine snd_of E0ok Dok Tryz.func137 (enters_of Tryz.func137 (by kernel_rfl) rfl) (fun _ => rfl) (fun _ => rfl) ?_
 intro (s : ByteArray) hp
 have hp : s.size ≤ 7 := hp
 conv => whnf
 refine .inl ⟨fun mm tz hz => ∃ (i : Nat) (N : Nat), Pat [some (.string s), none, none, some (.int .i64 N), some (.int .i64 i), none, none, none, none, none, none, none, none, none, none, none, none, none, none] tz ∧ hz = [] ∧ s.size - i = mm ∧ (i ≤ s.size ∧ N = bnat s / C ^ (s.size - i)), .inl ⟨_, 0, 0, (.keep (.skip (.skip (.keep (.keep (.s8 (.skip (.skip (.skip (.skip (.skip (.skip (.nil))))))))))))), rfl, rfl, ?_⟩, ?_⟩
 ·exact ⟨Nat.zero_le _, by rw [Nat.sub_zero, Nat.div_eq_of_lt (bnat_lt s)]⟩
 rintro mm tms _ ⟨i, N, hpat, rfl, rfl, ⟨hi, hN⟩⟩
 obtain ⟨az, rfl⟩ : ∃ az : Nat → Value, tms = [.string s, az 1, az 2, .int .i64 N, .int .i64 i, az 5, az 6, az 7, az 8, az 9, az 10, az 11, az 12, az 13, az 14, az 15, az 16, az 17, az 18] := pat_fill hpat
 clear hpat
 have hlC := pre_lt s hi
 rw [← hN] at hlC
 have hlt := Nat.lt_of_lt_of_le hlC (pow7 (show i ≤ 7 by omega))
 conv => whnf
 refine br_intro (fun h2 => ?_) (fun h2 => ?_)
 ·have h2 : i < s.size := by simpa using h2
  have hst := pre_step h2
  rw [← hN] at hst
  have hb : byteAt s i < 256 := byteAt_lt s i
  have e3 : IntKind.i64.wrap (((i : Nat) : Int) + 1) = ((i + 1 : Nat) : Int) := by rw [wrapi64 (by omega) (by omega)]; rfl
  have hl6 := Nat.lt_of_lt_of_le hlC (pow6 (show i ≤ 6 by omega))
  obtain ⟨b, hbb⟩ : ∃ b, b = byteAt s i := ⟨_, rfl⟩
  rw [← hbb] at hb hst
  have ev : IntKind.i64.wrap (IntKind.i64.wrap (256 * (N : Int)) + IntKind.i64.wrap (b : Int)) = ((N * 256 + b : Nat) : Int) := by
   rw [wrapi64 (x := 256 * (N : Int)) (by omega) (by omega), wrapi64 (x := (b : Int)) (by omega) (by omega), wrapi64 (by omega) (by omega)]; omega
  conv => whnf
  refine ⟨⟨by omega, by omega⟩, ?_⟩
  simp only [toNat_cast]
  conv => whnf
  rw [← hbb, ev, e3]
  refine .inl ⟨_, ?_, i + 1, N * 256 + b, (.keep (.skip (.skip (.keep (.keep (.s8 (.skip (.skip (.skip (.skip (.skip (.skip (.nil))))))))))))), rfl, rfl, ?_⟩
  ·omega
  ·exact ⟨by omega, hst.symm⟩
 ·have h2 : i = s.size := by
   have h2 : ¬ i < s.size := by simpa using h2
   omega
  subst h2
  rw [Nat.sub_self, Nat.pow_zero, Nat.div_one] at hN
  subst hN
  conv => whnf
  rfl
def Ema : Env := { tt := tt, eqs := [], Φ := fun g => match g with
 | 164 => some (.p smallS)
 | 137 => some (.p smallS)
 | _ => none }
theorem Emaok : EnvOk Tryz.prog Ema := ⟨tt_ok, fun t h => by simp [Ema] at h, (fun g S h => by
 simp only [Ema] at h
 split at h
 ·cases h; exact qdigits_ok
 ·cases h; exact qnumber_ok
 ·cases h), fun g F h => by simp [Ema] at h⟩
theorem mach_ok : Snd Tryz.prog 141 machS := by
 refine snd_of Emaok Dok Tryz.func141 (enters_of Tryz.func141 (by kernel_rfl) rfl) (fun _ => rfl) (fun _ => rfl) ?_
 intro ⟨b, s, t⟩ _
 have fin0 : ¬ RV.tiny (b, s, t) → Value.tuple ⟨[.int .i64 0, .int .i64 0, .bool false]⟩ = machS.val (b, s, t) := fun h => by
  simp only [machS, if_neg h, decide_eq_false h]
 have fin1 : RV.tiny (b, s, t) → ∀ x y : Int, x = RV.n (b, s, t) → y = (RV.d (b, s, t) : Int) → Value.tuple ⟨[.int .i64 x, .int .i64 y, .bool true]⟩ = machS.val (b, s, t) := fun h x y hx hy => by
  simp only [machS, if_pos h, decide_eq_true h, hx, hy]
 conv => whnf
 by_cases h1 : s.size ≤ 3
 ·rw [show decide (((s.size : Nat) : Int) > 3) = false from decide_eq_false (by omega)]
  conv => whnf
  by_cases h2 : t.size ≤ 3
  ·rw [show decide (((t.size : Nat) : Int) > 3) = false from decide_eq_false (by omega)]
   have ht : RV.tiny (b, s, t) := ⟨h1, h2⟩
   obtain ⟨N, hN⟩ : ∃ N, N = bnat s := ⟨_, rfl⟩
   obtain ⟨D, hD⟩ : ∃ D, D = bnat t := ⟨_, rfl⟩
   have hn := RV.tiny_n ht
   have hd := RV.tiny_d ht
   conv => whnf
   refine .inl ⟨5, [[], [0], [0, 1], [], [3], [0, 1, 2, 3, 4], [0, 1, 2, 3, 4, 5], [0, 1, 2, 3, 4, 5, 6]], by kernel_rfl, ?_⟩
   conv => whnf
   refine ⟨s, rfl, by show s.size ≤ 7; omega, ?_⟩
   rw [show smallS.val s = .int .i64 N from by rw [hN]; rfl]
   conv => whnf
   refine ⟨t, rfl, by show t.size ≤ 7; omega, ?_⟩
   rw [show smallS.val t = .int .i64 D from by rw [hD]; rfl]
   conv => whnf
   have hd2 : (RV.d (b, s, t) : Int) = if D = 0 then 1 else D := by
    show (((if bnat t = 0 then 1 else bnat t) : Nat) : Int) = _
    rw [← hD]
   refine br_intro (fun h3 => ?_) (fun h3 => ?_)
   ·have hn2 : RV.n (b, s, t) = -(N : Int) := by
     have h3 : b = true := h3
     show valI b (bnat s) = _
     rw [h3, ← hN]; rfl
    have en : IntKind.i64.wrap (0 - (N : Int)) = -(N : Int) := by rw [wrapi64 (by omega) (by omega)]; omega
    conv => whnf
    exact fin1 ht _ _ (by rw [hn2]; exact en) (by rw [hd2]; split <;> split <;> omega)
   ·have hn2 : RV.n (b, s, t) = (N : Int) := by
     have h3 : b = false := h3
     show valI b (bnat s) = _
     rw [h3, ← hN]; rfl
    conv => whnf
    exact fin1 ht _ _ (by rw [hn2]) (by rw [hd2]; split <;> split <;> omega)
  ·rw [show decide (((t.size : Nat) : Int) > 3) = true from decide_eq_true (by omega)]
   conv => whnf
   exact fin0 (fun h => h2 h.2)
 ·rw [show decide (((s.size : Nat) : Int) > 3) = true from decide_eq_true (by omega)]
  conv => whnf
  exact fin0 (fun h => h1 h.1)
theorem small_ok : Snd Tryz.prog 94 machS := by
 refine snd_of Emaok Dok Tryz.func94 (enters_of Tryz.func94 (by kernel_rfl) rfl) (fun _ => rfl) (fun _ => rfl) ?_
 intro ⟨b, s, t⟩ _
 have fin0 : ¬ RV.tiny (b, s, t) → Value.tuple ⟨[.int .i64 0, .int .i64 0, .bool false]⟩ = machS.val (b, s, t) := fun h => by
  simp only [machS, if_neg h, decide_eq_false h]
 have fin1 : RV.tiny (b, s, t) → ∀ x y : Int, x = RV.n (b, s, t) → y = (RV.d (b, s, t) : Int) → Value.tuple ⟨[.int .i64 x, .int .i64 y, .bool true]⟩ = machS.val (b, s, t) := fun h x y hx hy => by
  simp only [machS, if_pos h, decide_eq_true h, hx, hy]
 conv => whnf
 by_cases h1 : s.size ≤ 3
 ·rw [show decide (((s.size : Nat) : Int) > 3) = false from decide_eq_false (by omega)]
  conv => whnf
  by_cases h2 : t.size ≤ 3
  ·rw [show decide (((t.size : Nat) : Int) > 3) = false from decide_eq_false (by omega)]
   have ht : RV.tiny (b, s, t) := ⟨h1, h2⟩
   obtain ⟨N, hN⟩ : ∃ N, N = bnat s := ⟨_, rfl⟩
   obtain ⟨D, hD⟩ : ∃ D, D = bnat t := ⟨_, rfl⟩
   have hn := RV.tiny_n ht
   have hd := RV.tiny_d ht
   conv => whnf
   refine .inl ⟨5, [[], [0], [0, 1], [], [3], [0, 1, 2, 3, 4], [0, 1, 2, 3, 4, 5], [0, 1, 2, 3, 4, 5, 6]], by kernel_rfl, ?_⟩
   conv => whnf
   refine ⟨s, rfl, by show s.size ≤ 7; omega, ?_⟩
   rw [show smallS.val s = .int .i64 N from by rw [hN]; rfl]
   conv => whnf
   refine ⟨t, rfl, by show t.size ≤ 7; omega, ?_⟩
   rw [show smallS.val t = .int .i64 D from by rw [hD]; rfl]
   conv => whnf
   have hd2 : (RV.d (b, s, t) : Int) = if D = 0 then 1 else D := by
    show (((if bnat t = 0 then 1 else bnat t) : Nat) : Int) = _
    rw [← hD]
   refine br_intro (fun h4 => ?_) (fun h4 => ?_)
   ·have h4 : D = 0 := by
     have h4 : ((D : Nat) : Int) = 0 := by simpa using h4
     omega
    rw [if_pos h4] at hd2
    conv => whnf
    refine br_intro (fun h3 => ?_) (fun h3 => ?_)
    ·have hn2 : RV.n (b, s, t) = -(N : Int) := by
      have h3 : b = true := h3
      show valI b (bnat s) = _
      rw [h3, ← hN]; rfl
     have en : IntKind.i64.wrap (0 - (N : Int)) = -(N : Int) := by rw [wrapi64 (by omega) (by omega)]; omega
     conv => whnf
     exact fin1 ht _ _ (by rw [hn2]; exact en) (by rw [hd2]; first | done | rfl)
    ·have hn2 : RV.n (b, s, t) = (N : Int) := by
      have h3 : b = false := h3
      show valI b (bnat s) = _
      rw [h3, ← hN]; rfl
     conv => whnf
     exact fin1 ht _ _ (by rw [hn2]) (by rw [hd2]; first | done | rfl)
   ·have h4 : D ≠ 0 := by
     intro e
     subst e
     simp at h4
    rw [if_neg h4] at hd2
    conv => whnf
    refine br_intro (fun h3 => ?_) (fun h3 => ?_)
    ·have hn2 : RV.n (b, s, t) = -(N : Int) := by
      have h3 : b = true := h3
      show valI b (bnat s) = _
      rw [h3, ← hN]; rfl
     have en : IntKind.i64.wrap (0 - (N : Int)) = -(N : Int) := by rw [wrapi64 (by omega) (by omega)]; omega
     conv => whnf
     exact fin1 ht _ _ (by rw [hn2]; exact en) (by rw [hd2]; first | done | rfl)
    ·have hn2 : RV.n (b, s, t) = (N : Int) := by
      have h3 : b = false := h3
      show valI b (bnat s) = _
      rw [h3, ← hN]; rfl
     conv => whnf
     exact fin1 ht _ _ (by rw [hn2]) (by rw [hd2]; first | done | rfl)
  ·rw [show decide (((t.size : Nat) : Int) > 3) = true from decide_eq_true (by omega)]
   conv => whnf
   exact fin0 (fun h => h2 h.2)
 ·rw [show decide (((s.size : Nat) : Int) > 3) = true from decide_eq_true (by omega)]
  conv => whnf
  exact fin0 (fun h => h1 h.1)
end Go.Proofs.YtppeponndkfbkaaGreat
/- Contracts of rational: digits, ratios. -/
set_option maxRecDepth 20000
set_option maxHeartbeats 1000000
namespace Go.Proofs.YtppeponndkfbkaaGreat
open Go Go.Ae
theorem text_ok : Snd Tryz.prog 156 textS := by
 refine snd_of E0ok Dok Tryz.func156 (enters_of Tryz.func156 (by kernel_rfl) rfl) (fun _ => rfl) (fun _ => rfl) ?_
 intro (n : Nat) hp
 have hp : n < 72057594037927936 := hp
 conv => whnf
 refine .inl ⟨fun mm tz hz => ∃ (i : Nat) (m : Nat) (g : Nat → List Value), Pat [some (.int .i64 m), none, none, some (.pointer (some ⟨0, 0, none⟩)), some (.int .i64 i), none, none, none, none, none, none, none, none, none, none, none, none, none] tz ∧ hz = [some (.flat true 8 1 g)] ∧ m = mm ∧ ((i ≤ 8 ∧ m = n / C ^ (8 - i)) ∧ (i = 8 ∨ C ^ (8 - i - 1) ≤ n) ∧ (∀ r, i ≤ r → r < 8 → g r = [.int .u8 ((n / C ^ (7 - r) % C : Nat) : Int)]) ∧ (∀ r, r < 8 → ∃ x : Int, g r = [.int .u8 x])), .inl ⟨_, 8, n, _, (.keep (.skip (.skip (.keep (.keep (.s8 (.skip (.skip (.skip (.skip (.skip (.nil)))))))))))), rfl, rfl, ?_⟩, ?_⟩
 ·exact ⟨⟨Nat.le_refl _, by simp⟩, .inl rfl, fun r h1 h2 => absurd h1 (by omega), fun r hr => ⟨0, rfl⟩⟩
 rintro mm tms _ ⟨i, m, g, hpat, rfl, rfl, ⟨⟨hi, hm⟩, ho, hg, hall⟩⟩
 obtain ⟨az, rfl⟩ : ∃ az : Nat → Value, tms = [.int .i64 m, az 1, az 2, .pointer (some ⟨0, 0, none⟩), .int .i64 i, az 5, az 6, az 7, az 8, az 9, az 10, az 11, az 12, az 13, az 14, az 15, az 16, az 17] := pat_fill hpat
 clear hpat
 conv => whnf
 refine br_intro (fun h2 => ?_) (fun h2 => ?_)
 ·have h2 : 0 < m := by
   have := of_decide_eq_true h2
   omega
  have hi0 : 0 < i := by
   rcases Nat.eq_zero_or_pos i with h | h
   ·subst h
    rw [hm] at h2
    rw [mag8 (by omega)] at h2
    exact absurd h2 (by decide)
   ·exact h
  obtain ⟨i, rfl⟩ : ∃ i', i = i' + 1 := ⟨i - 1, by omega⟩
  have ei : IntKind.i64.wrap (((i + 1 : Nat) : Int) - 1) = ((i : Nat) : Int) := by rw [wrapi64 (by omega) (by omega)]; omega
  have hm2 : m / 256 = n / C ^ (8 - i) := by
   rw [hm, div_pow_succ, show 8 - (i + 1) + 1 = 8 - i by omega]
  have hlow : C ^ (8 - (i + 1)) ≤ n := by
   rcases Nat.lt_or_ge n (C ^ (8 - (i + 1))) with h | h
   ·rw [hm, Nat.div_eq_of_lt h] at h2
    exact absurd h2 (by decide)
   ·exact h
  conv => whnf
  simp only [ei]
  refine ⟨⟨by omega, by omega⟩, ?_⟩
  simp only [toNat_cast, rowAdd_eq, Nat.zero_add]
  conv => whnf
  refine ⟨by show i < 8; omega, ?_⟩
  conv => whnf
  obtain ⟨x, hx⟩ := hall i (by omega)
  rw [hx]
  conv => whnf
  rw [u8_mod, shr_i64_8, show ((m : Nat) : Int) / 256 = ((m / 256 : Nat) : Int) from rfl]
  refine .inl ⟨_, ?_, i, m / 256, _, (.keep (.skip (.skip (.keep (.keep (.s8 (.skip (.skip (.skip (.skip (.skip (.nil)))))))))))), rfl, rfl, ?_⟩
  ·omega
  ·refine ⟨⟨by omega, hm2⟩, .inr (by rw [show 8 - i - 1 = 8 - (i + 1) by omega]; exact hlow), fun r hr1 hr2 => ?_, fun r hr => ?_⟩
   rotate_left
   ·by_cases he : r = i
    ·exact ⟨_, if_pos he⟩
    ·rw [if_neg he]; exact hall r hr
   by_cases he : r = i
   ·subst he
    rw [if_pos rfl, hm, show 7 - r = 8 - (r + 1) by omega]
   ·rw [if_neg he]
    exact hg r (by omega) hr2
 ·have h2 : m = 0 := by
   have := of_decide_eq_false h2
   omega
  have hlt : n < C ^ (8 - i) := by
   rw [h2] at hm
   have h3 := Nat.mod_lt n (Cpos (8 - i))
   have h4 := Nat.mod_add_div n (C ^ (8 - i))
   rw [← hm, Nat.mul_zero, Nat.add_zero] at h4
   rw [← h4]; exact h3
  rcases Nat.eq_zero_or_pos (8 - i) with hz | hz
  ·have h0 : n = 0 := by
    rw [hz, Nat.pow_zero] at hlt; omega
   obtain rfl : i = 8 := by omega
   subst h0
   conv => whnf
   refine ⟨⟨by omega, by omega, Int.le_refl _, Nat.le_refl _, rfl⟩, ?_⟩
   conv => whnf
   show Value.string ⟨#[]⟩ = Value.string (nb 0)
   rw [nb_zero]
  ·obtain ⟨k, hk⟩ : ∃ k, 8 - i = k + 1 := ⟨8 - i - 1, by omega⟩
   rw [hk] at hlt
   have ho : C ^ k ≤ n := by
    rcases ho with h | h
    ·omega
    ·rw [show 8 - i - 1 = k by omega] at h; exact h
   have e := bytesOf_from (g := g) (i := i) (m := k + 1) (X := n) (fun r hr => by
    rw [hg (i + r) (by omega) (by omega), show 7 - (i + r) = k + 1 - 1 - r by omega])
   conv => whnf
   refine ⟨⟨by omega, by omega, Int.le_refl _, Nat.le_refl _, rfl⟩, ?_⟩
   simp only [toNat_cast, rowAdd_eq, Nat.zero_add, hk]
   conv => whnf
   refine ⟨⟨by show i + (k + 1) ≤ 8; omega, fun r hr => hall (i + r) (by omega)⟩, ?_⟩
   conv => whnf
   show Value.string ⟨⟨bytesOf g i (k + 1)⟩⟩ = Value.string (nb n)
   rw [e, nb_be hlt (.inr ho)]
theorem rdigits_ok : Snd Tryz.prog 138 textS := by
 refine snd_of E0ok Dok Tryz.func138 (enters_of Tryz.func138 (by kernel_rfl) rfl) (fun _ => rfl) (fun _ => rfl) ?_
 intro (n : Nat) hp
 have hp : n < 72057594037927936 := hp
 conv => whnf
 refine .inl ⟨fun mm tz hz => ∃ (e : Nat) (k : Int) (out : Value) (hp : Heap), Pat [some (.int .i64 n), none, none, some (out), some (.int .i64 k), none, none, none, none, none, none, none, none, none, none, none, none, none, none, none, none, none, none, none, none, none, none, none, none, none] tz ∧ hz = hp ∧ e = mm ∧ ((e ≤ 7 ∧ k = 8 * (e : Int) - 8) ∧ ((out = .slice none 0 0 ∧ hp = [] ∧ n / C ^ e = 0) ∨ (∃ m g, out = .slice (some ⟨0, 0, none⟩) m capU ∧ hp = [some (.flat true m 1 g)] ∧ (1 ≤ m ∧ m ≤ 7 - e) ∧ n / C ^ e < C ^ m ∧ C ^ (m - 1) ≤ n / C ^ e ∧ ∀ r, r < m → g r = [.int .u8 ((n / C ^ e / C ^ (m - 1 - r) % C : Nat) : Int)]))), .inl ⟨_, 7, 48, .slice none 0 0, [], (.keep (.skip (.skip (.keep (.keep (.s8 (.s8 (.s8 (.skip (.nil)))))))))), rfl, rfl, ?_⟩, ?_⟩
 ·exact ⟨⟨Nat.le_refl _, rfl⟩, .inl ⟨rfl, rfl, pow7' hp⟩⟩
 rintro mm tms _ ⟨e, k, out, hp, hpat, rfl, rfl, ⟨⟨he, hk⟩, h⟩⟩
 obtain ⟨az, rfl⟩ : ∃ az : Nat → Value, tms = [.int .i64 n, az 1, az 2, out, .int .i64 k, az 5, az 6, az 7, az 8, az 9, az 10, az 11, az 12, az 13, az 14, az 15, az 16, az 17, az 18, az 19, az 20, az 21, az 22, az 23, az 24, az 25, az 26, az 27, az 28, az 29] := pat_fill hpat
 clear hpat
 rcases h with ⟨rfl, rfl, hz⟩ | ⟨m, g, rfl, rfl, hm, hl1, hl2, hg⟩
 ·conv => whnf
  refine br_intro (fun h1 => ?_) (fun h1 => ?_)
  ·have h1 := of_decide_eq_true h1
   obtain ⟨e, rfl⟩ : ∃ e', e = e' + 1 := ⟨e - 1, by omega⟩
   have hsh := shrk (n := n) k (e := e) (by omega) (by omega)
   obtain ⟨P, hP⟩ : ∃ P, P = n / C ^ e := ⟨_, rfl⟩
   rw [← hP] at hsh
   obtain ⟨D, hD⟩ : ∃ D, D = P % 256 := ⟨_, rfl⟩
   have ed : Int.tmod ((P : Nat) : Int) 256 = ((D : Nat) : Int) := by rw [hD]; rfl
   have hsp := digit_split n e
   rw [hz, ← hP, ← hD] at hsp
   have hk2 : IntKind.i64.wrap (k - 8) = 8 * (e : Int) - 8 := by rw [wrapi64 (by omega) (by omega)]; omega
   conv => whnf
   rw [show decide (0 ≤ k) = true from decide_eq_true (by omega)]
   conv => whnf
   rw [hsh, ed]
   by_cases h2 : 0 < D
   ·rw [show decide (((D : Nat) : Int) > 0) = true from decide_eq_true (by omega)]
    conv => whnf
    rw [show decide (0 ≤ k) = true from decide_eq_true (by omega)]
    conv => whnf
    rw [hsh, u8_of (show P < 256 by omega)]
    refine ⟨by decide, ?_⟩
    conv => whnf
    rw [hk2]
    refine .inr ⟨[1], [0, 3, 4], ?_⟩
    conv => whnf
    intro _
    conv => whnf
    refine ⟨_, ?_, e, 8 * (e : Int) - 8, .slice (some ⟨0, 0, none⟩) 1 capU, [some (.flat true 1 1 _)], (.keep (.skip (.skip (.keep (.keep (.s8 (.s8 (.s8 (.skip (.nil)))))))))), rfl, rfl, ?_⟩
    ·omega
    ·refine ⟨⟨by omega, rfl⟩, .inr ⟨1, _, rfl, rfl, ⟨Nat.le_refl _, by omega⟩, by rw [← hP]; show P < 256; omega, by rw [← hP]; show 1 ≤ P; omega, fun r hr => ?_⟩⟩
     have h0 : r = 0 := by omega
     subst h0
     rw [← hP]
     have : P / C ^ (1 - 1 - 0) % C = P := by
      show P / 1 % 256 = P
      omega
     rw [this]
     rfl
   ·rw [show decide (((D : Nat) : Int) > 0) = false from decide_eq_false (by omega)]
    conv => whnf
    rw [hk2]
    refine .inl ⟨_, ?_, e, 8 * (e : Int) - 8, .slice none 0 0, [], (.keep (.skip (.skip (.keep (.keep (.s8 (.s8 (.s8 (.skip (.nil)))))))))), rfl, rfl, ?_⟩
    ·omega
    ·exact ⟨⟨by omega, rfl⟩, .inl ⟨rfl, rfl, by rw [← hP]; omega⟩⟩
  ·have h1 := of_decide_eq_false h1
   obtain rfl : e = 0 := by omega
   have hn0 : n = 0 := by simpa using hz
   subst hn0
   conv => whnf
   show Value.string ⟨#[]⟩ = Value.string (nb 0)
   rw [nb_zero]
 ·conv => whnf
  refine br_intro (fun h1 => ?_) (fun h1 => ?_)
  ·have h1 := of_decide_eq_true h1
   obtain ⟨e, rfl⟩ : ∃ e', e = e' + 1 := ⟨e - 1, by omega⟩
   have hsh := shrk (n := n) k (e := e) (by omega) (by omega)
   obtain ⟨P, hP⟩ : ∃ P, P = n / C ^ e := ⟨_, rfl⟩
   obtain ⟨Q, hQ⟩ : ∃ Q, Q = n / C ^ (e + 1) := ⟨_, rfl⟩
   rw [← hP] at hsh
   obtain ⟨D, hD⟩ : ∃ D, D = P % 256 := ⟨_, rfl⟩
   have ed : Int.tmod ((P : Nat) : Int) 256 = ((D : Nat) : Int) := by rw [hD]; rfl
   have hDlt : D < 256 := by omega
   have hsp := digit_split n e
   rw [← hP, ← hD, ← hQ] at hsp
   rw [← hQ] at hl1 hl2 hg
   have g1 := push_lt hl1 hDlt
   have g2 := push_ge (d := D) hl2 hm.1
   rw [← hsp] at g1 g2
   have hk2 : IntKind.i64.wrap (k - 8) = 8 * (e : Int) - 8 := by rw [wrapi64 (by omega) (by omega)]; omega
   conv => whnf
   rw [show decide (0 ≤ k) = true from decide_eq_true (by omega)]
   conv => whnf
   rw [hsh, ed]
   by_cases h2 : 0 < D
   ·rw [show decide (((D : Nat) : Int) > 0) = true from decide_eq_true (by omega)]
    conv => whnf
    rw [show decide (0 ≤ k) = true from decide_eq_true (by omega)]
    conv => whnf
    rw [hsh, u8_mod]
    refine ⟨⟨by decide, rfl, ?_⟩, ?_⟩
    ·show (m + 1) * 1 ≤ _
     omega
    conv => whnf
    refine ⟨[0, 4], ?_⟩
    conv => whnf
    intro _
    conv => whnf
    rw [hk2]
    refine .inr ⟨[0], [0, 3, 4], ?_⟩
    conv => whnf
    intro _
    conv => whnf
    refine ⟨_, ?_, e, 8 * (e : Int) - 8, .slice (some ⟨0, 0, none⟩) (m + 1) capU, [some (.flat true (m + 1) 1 _)], (.keep (.skip (.skip (.keep (.keep (.s8 (.s8 (.s8 (.skip (.nil)))))))))), rfl, rfl, ?_⟩
    ·omega
    ·refine ⟨⟨by omega, rfl⟩, .inr ⟨m + 1, _, rfl, rfl, ⟨by omega, by omega⟩, by rw [← hP]; exact g1, by rw [← hP]; exact g2, fun r hr => ?_⟩⟩
     rw [← hP]
     exact push_rows hsp hDlt hg r hr
   ·rw [show decide (((D : Nat) : Int) > 0) = false from decide_eq_false (by omega)]
    conv => whnf
    refine br_yes ?_ ?_
    ·exact decide_eq_true (by omega)
    conv => whnf
    rw [show decide (0 ≤ k) = true from decide_eq_true (by omega)]
    conv => whnf
    rw [hsh, u8_mod]
    refine ⟨⟨by decide, rfl, ?_⟩, ?_⟩
    ·show (m + 1) * 1 ≤ _
     omega
    conv => whnf
    refine ⟨[0, 4], ?_⟩
    conv => whnf
    intro _
    conv => whnf
    rw [hk2]
    refine .inr ⟨[0], [0, 3, 4], ?_⟩
    conv => whnf
    intro _
    conv => whnf
    refine ⟨_, ?_, e, 8 * (e : Int) - 8, .slice (some ⟨0, 0, none⟩) (m + 1) capU, [some (.flat true (m + 1) 1 _)], (.keep (.skip (.skip (.keep (.keep (.s8 (.s8 (.s8 (.skip (.nil)))))))))), rfl, rfl, ?_⟩
    ·omega
    ·refine ⟨⟨by omega, rfl⟩, .inr ⟨m + 1, _, rfl, rfl, ⟨by omega, by omega⟩, by rw [← hP]; exact g1, by rw [← hP]; exact g2, fun r hr => ?_⟩⟩
     rw [← hP]
     exact push_rows hsp hDlt hg r hr
  ·have h1 := of_decide_eq_false h1
   obtain rfl : e = 0 := by omega
   rw [Nat.pow_zero, Nat.div_one] at hl1 hl2 hg
   obtain ⟨m, rfl⟩ : ∃ m', m = m' + 1 := ⟨m - 1, by omega⟩
   have hs := bytesOf_be hg
   conv => whnf
   refine ⟨⟨by show 0 + (m + 1) ≤ m + 1; omega, fun r hr => ⟨_, by show g (0 + r) = _; rw [Nat.zero_add]; exact hg r hr⟩⟩, ?_⟩
   rw [show (Blk.flat true (m + 1) 1 g).row = g from rfl, hs]
   conv => whnf
   show Value.string (be (m + 1) n) = Value.string (nb n)
   rw [nb_be hl1 (.inr (by rw [show m + 1 - 1 = m by omega] at hl2; exact hl2))]
end Go.Proofs.YtppeponndkfbkaaGreat
/- Contracts of rational: ratios of machine integers. -/
set_option maxRecDepth 20000
set_option maxHeartbeats 1000000
namespace Go.Proofs.YtppeponndkfbkaaGreat
open Go Go.Ae
def Emc : Env := { tt := tt, eqs := [], Φ := fun g => match g with
 | 156 => some (.p textS)
 | 138 => some (.p textS)
 | _ => none }
theorem Emcok : EnvOk Tryz.prog Emc := ⟨tt_ok, fun t h => by simp [Emc] at h, (fun g S h => by
 simp only [Emc] at h
 split at h
 ·cases h; exact text_ok
 ·cases h; exact rdigits_ok
 ·cases h), fun g F h => by simp [Emc] at h⟩
theorem ratio_ok : Snd Tryz.prog 128 ratioS := by
 refine snd_of Emcok Dok Tryz.func128 (enters_of Tryz.func128 (by kernel_rfl) rfl) (fun _ => rfl) (fun _ => rfl) ?_
 intro ⟨n, d⟩ hp
 have hp : n.natAbs < 72057594037927936 ∧ d ≠ 0 ∧ d < 72057594037927936 := hp
 obtain ⟨g, hg⟩ : ∃ g, g = Int.gcd n d := ⟨_, rfl⟩
 obtain ⟨hd1, hd2, hg0⟩ := div_self_gcd hp.2.1 hg
 have hgd : g ≤ d := by
  have h3 := Nat.div_le_self d g
  rcases Nat.lt_or_ge d g with h | h
  ·rw [Nat.div_eq_of_lt h] at hd2; omega
  ·exact h
 have fin : ∀ v : Value, v = encQ (mkRat n d) → v = ratioS.val (n, d) := fun v h => h
 conv => whnf
 refine .inl ⟨fun mm tz hz => ∃ (a : Int) (b : Int), Pat [some (.int .i64 n), some (.int .i64 d), none, none, some (.pointer (some ⟨0, 0, none⟩)), some (.int .i64 a), some (.int .i64 b), none, none, none, none, none, none, none, none, none, none, none, none, none, none, none, none, none, none, none, none, none, none, none, none, none, none, none, none, none, none, none, none, none, none, none, none] tz ∧ hz = [some (.expl true 3 [[.bool false, .string ⟨#[]⟩, .string ⟨#[]⟩]])] ∧ b.natAbs = mm ∧ (((-72057594037927936 < a ∧ a < 72057594037927936) ∧ -72057594037927936 < b ∧ b < 72057594037927936) ∧ Int.gcd a b = g), .inr ⟨[0], [0, 1, 4, 5, 6], ?_⟩, ?_⟩
 ·conv => whnf
  intro _
  conv => whnf
  refine ⟨_, n, d, (.keep (.keep (.skip (.skip (.keep (.keep (.keep (.s8 (.s8 (.s8 (.s8 (.skip (.skip (.skip (.skip (.nil)))))))))))))))), rfl, rfl, ?_⟩
  exact ⟨⟨⟨by omega, by omega⟩, by omega, by omega⟩, hg.symm⟩
 rintro mm tms _ ⟨a, b, hpat, rfl, rfl, ⟨hab, he⟩⟩
 obtain ⟨az, rfl⟩ : ∃ az : Nat → Value, tms = [.int .i64 n, .int .i64 d, az 2, az 3, .pointer (some ⟨0, 0, none⟩), .int .i64 a, .int .i64 b, az 7, az 8, az 9, az 10, az 11, az 12, az 13, az 14, az 15, az 16, az 17, az 18, az 19, az 20, az 21, az 22, az 23, az 24, az 25, az 26, az 27, az 28, az 29, az 30, az 31, az 32, az 33, az 34, az 35, az 36, az 37, az 38, az 39, az 40, az 41, az 42] := pat_fill hpat
 clear hpat
 conv => whnf
 refine br_intro (fun h1 => ?_) (fun h1 => ?_)
 ·have h1 : b ≠ 0 := by
   intro e
   subst e
   simp at h1
  have hlt : (Int.tmod a b).natAbs < b.natAbs := by
   rw [Int.natAbs_tmod]; exact Nat.mod_lt _ (by omega)
  obtain ⟨r, hr⟩ : ∃ r, r = Int.tmod a b := ⟨_, rfl⟩
  rw [← hr] at hlt
  conv => whnf
  refine .inl ⟨5, [[], [], [], [1, 2], [0, 1], [0, 1, 2, 3, 4]], by kernel_rfl, ?_⟩
  conv => whnf
  rw [show decide (b ≠ 0) = true from decide_eq_true h1]
  conv => whnf
  rw [← hr]
  refine .inr ⟨[0], [0, 1, 4, 5, 6], ?_⟩
  conv => whnf
  intro _
  conv => whnf
  refine ⟨_, ?_, b, r, (.keep (.keep (.skip (.skip (.keep (.keep (.keep (.s8 (.s8 (.s8 (.s8 (.skip (.skip (.skip (.skip (.nil)))))))))))))))), rfl, rfl, ?_⟩
  ·exact hlt
  ·exact ⟨⟨hab.2, by omega, by omega⟩, by rw [hr, gcd_step]; exact he⟩
 ·have h1 : b = 0 := by simpa using h1
  subst h1
  have he : a.natAbs = g := by rw [← he, Int.gcd_zero_right]
  have em := max_neg a hab.1
  rw [he] at em
  have en := max_neg n (by omega)
  obtain ⟨N, hN⟩ : ∃ N, N = n.natAbs := ⟨_, rfl⟩
  rw [← hN] at en
  conv => whnf
  rw [em]
  by_cases h2 : n = 0
  ·subst h2
   conv => whnf
   exact fin _ (encQ_zero d).symm
  ·refine br_intro (fun h => absurd (by simpa using h) h2) (fun _ => ?_)
   have eq := encQ_mk h2 hp.2.1 hg
   rw [← hN] at eq
   have ed := tdiv_wrap (a := N) (g := g) (by omega)
   have ed2 := tdiv_wrap (a := d) (g := g) hp.2.2
   obtain ⟨x, hx⟩ : ∃ x, x = nb (N / g) := ⟨_, rfl⟩
   obtain ⟨y, hy⟩ : ∃ y, y = nb (d / g) := ⟨_, rfl⟩
   have ex : textS.val (N / g) = .string x := by rw [hx]; rfl
   have ey : textS.val (d / g) = .string y := by rw [hy]; rfl
   rw [← hx] at eq
   conv => whnf
   rw [en, show decide (((g : Nat) : Int) ≠ 0) = true from decide_eq_true (by omega)]
   conv => whnf
   rw [ed]
   refine ⟨N / g, rfl, by show N / g < _; exact Nat.lt_of_le_of_lt (Nat.div_le_self _ _) (by omega), ?_⟩
   rw [ex]
   conv => whnf
   refine br_intro (fun h3 => ?_) (fun h3 => ?_)
   ·have h3 : d ≠ g := by
     intro e
     rw [e] at h3
     simp at h3
    have e4 : denS (d / g) = y := by
     rw [hy]; unfold denS; rw [if_neg (fun h => h3 (hd1.1 h))]
    rw [e4] at eq
    conv => whnf
    rw [show decide (((g : Nat) : Int) ≠ 0) = true from decide_eq_true (by omega)]
    conv => whnf
    rw [ed2]
    refine ⟨d / g, rfl, by show d / g < _; exact Nat.lt_of_le_of_lt (Nat.div_le_self _ _) hp.2.2, ?_⟩
    rw [ey]
    conv => whnf
    exact fin _ eq.symm
   ·have h3 : d = g := by
     have : ((d : Nat) : Int) = g := by simpa using h3
     omega
    have e4 : denS (d / g) = ⟨#[]⟩ := by unfold denS; rw [if_pos (hd1.2 h3)]
    rw [e4] at eq
    conv => whnf
    exact fin _ eq.symm
theorem pack_ok2 : Snd Tryz.prog 95 ratioS := by
 refine snd_of Emcok Dok Tryz.func95 (enters_of Tryz.func95 (by kernel_rfl) rfl) (fun _ => rfl) (fun _ => rfl) ?_
 intro ⟨n, d⟩ hp
 have hp : n.natAbs < 72057594037927936 ∧ d ≠ 0 ∧ d < 72057594037927936 := hp
 obtain ⟨g, hg⟩ : ∃ g, g = Int.gcd n d := ⟨_, rfl⟩
 obtain ⟨hd1, hd2, hg0⟩ := div_self_gcd hp.2.1 hg
 have fin : ∀ v : Value, v = encQ (mkRat n d) → v = ratioS.val (n, d) := fun v h => h
 obtain ⟨N, hN⟩ : ∃ N, N = n.natAbs := ⟨_, rfl⟩
 obtain ⟨B, hB⟩ : ∃ B, B = decide (n < 0) := ⟨_, rfl⟩
 have ed := tdiv_wrap (a := N) (g := g) (by omega)
 have ed2 := tdiv_wrap (a := d) (g := g) hp.2.2
 obtain ⟨x, hx⟩ : ∃ x, x = nb (N / g) := ⟨_, rfl⟩
 obtain ⟨y, hy⟩ : ∃ y, y = nb (d / g) := ⟨_, rfl⟩
 have ex : textS.val (N / g) = .string x := by rw [hx]; rfl
 have ey : textS.val (d / g) = .string y := by rw [hy]; rfl
 conv => whnf
 refine br_intro (fun h1 => ?_) (fun h1 => ?_)
 ·have h1' := of_decide_eq_true h1
  have h1' : n < 0 := h1'
  have e0 : IntKind.i64.wrap (0 - n) = (N : Int) := by rw [wrapi64 (by omega) (by omega)]; omega
  have h2 : n ≠ 0 := by omega
  have eq := encQ_mk h2 hp.2.1 hg
  rw [← hN, ← hx, ← hB] at eq
  conv => whnf
  rw [show decide ((n, d).fst < 0) = B from hB.symm]
  rw [show IntKind.i64.wrap (0 - (n, d).fst) = (N : Int) from e0]
  refine br_intro (fun h => absurd (by simpa using h) (show N ≠ 0 by omega)) (fun _ => ?_)
  conv => whnf
  refine .inl ⟨fun mm tz hz => ∃ (a : Nat) (b : Nat), Pat [some (.int .i64 N), some (.int .i64 d), none, none, some (.pointer (some ⟨0, 0, none⟩)), some (.pointer (some ⟨1, 0, none⟩)), some (.int .i64 a), some (.int .i64 b), none, none, none, none, none, none, none, none, none, none, none, none, none, none, none, none, none, none, none, none, none, none, none, none, none, none, none, none, none, none, none, none, none] tz ∧ hz = [some (.expl true 3 [[.bool false, .string ⟨#[]⟩, .string ⟨#[]⟩]]), some (.expl true 3 [[.bool B, .string ⟨#[]⟩, .string ⟨#[]⟩]])] ∧ b = mm ∧ ((a < 72057594037927936 ∧ b < 72057594037927936) ∧ Nat.gcd a b = g), .inr ⟨[0, 1], [0, 1, 4, 5, 6, 7], ?_⟩, ?_⟩
  ·conv => whnf
   intro _
   conv => whnf
   refine ⟨_, N, d, (.keep (.keep (.skip (.skip (.keep (.keep (.keep (.keep (.s8 (.s8 (.s8 (.s8 (.skip (.nil)))))))))))))), rfl, rfl, ?_⟩
   exact ⟨⟨by omega, by omega⟩, by rw [hg, hN]; rfl⟩
  rintro mm tms _ ⟨a, b, hpat, rfl, rfl, ⟨hab, he⟩⟩
  obtain ⟨az, rfl⟩ : ∃ az : Nat → Value, tms = [.int .i64 N, .int .i64 d, az 2, az 3, .pointer (some ⟨0, 0, none⟩), .pointer (some ⟨1, 0, none⟩), .int .i64 a, .int .i64 b, az 8, az 9, az 10, az 11, az 12, az 13, az 14, az 15, az 16, az 17, az 18, az 19, az 20, az 21, az 22, az 23, az 24, az 25, az 26, az 27, az 28, az 29, az 30, az 31, az 32, az 33, az 34, az 35, az 36, az 37, az 38, az 39, az 40] := pat_fill hpat
  clear hpat
  conv => whnf
  refine br_intro (fun h1 => ?_) (fun h1 => ?_)
  ·have h1 : 0 < b := by
    have := of_decide_eq_true h1
    omega
   have hlt := Nat.mod_lt a h1
   conv => whnf
   refine .inl ⟨5, [[], [], [], [1, 2], [0, 1], [0, 1, 2, 3, 4]], by kernel_rfl, ?_⟩
   conv => whnf
   rw [show decide (((b : Nat) : Int) ≠ 0) = true from decide_eq_true (by omega)]
   conv => whnf
   rw [show Int.tmod ((a : Nat) : Int) ((b : Nat) : Int) = ((a % b : Nat) : Int) from rfl]
   refine .inr ⟨[0, 1], [0, 1, 4, 5, 6, 7], ?_⟩
   conv => whnf
   intro _
   conv => whnf
   refine ⟨_, ?_, b, a % b, (.keep (.keep (.skip (.skip (.keep (.keep (.keep (.keep (.s8 (.s8 (.s8 (.s8 (.skip (.nil)))))))))))))), rfl, rfl, ?_⟩
   ·exact hlt
   ·exact ⟨⟨hab.2, by omega⟩, by rw [Nat.gcd_comm, ← Nat.gcd_rec, Nat.gcd_comm]; exact he⟩
  ·have h1 : b = 0 := by
    have := of_decide_eq_false h1
    omega
   subst h1
   obtain rfl : a = g := by rw [← he, Nat.gcd_zero_right]
   conv => whnf
   rw [show decide (((a : Nat) : Int) ≠ 0) = true from decide_eq_true (by omega)]
   conv => whnf
   rw [ed]
   refine ⟨N / a, rfl, by show N / a < _; exact Nat.lt_of_le_of_lt (Nat.div_le_self _ _) (by omega), ?_⟩
   rw [ex]
   conv => whnf
   rw [show decide (((a : Nat) : Int) ≠ 0) = true from decide_eq_true (by omega)]
   obtain ⟨q, hq⟩ : ∃ q, q = d / a := ⟨_, rfl⟩
   rw [← hq] at ed2 ey eq hd1 hd2 hy
   conv => whnf
   rw [ed2]
   refine br_intro (fun h3 => ?_) (fun h3 => ?_)
   ·have h3 : q ≠ 1 := by
     have := of_decide_eq_true h3
     omega
    have e4 : denS q = y := by
     rw [hy]; unfold denS; rw [if_neg h3]
    rw [e4] at eq
    conv => whnf
    rw [show decide (((a : Nat) : Int) ≠ 0) = true from decide_eq_true (by omega)]
    conv => whnf
    rw [ed2]
    refine ⟨q, rfl, by show q < _; rw [hq]; exact Nat.lt_of_le_of_lt (Nat.div_le_self _ _) hp.2.2, ?_⟩
    rw [ey]
    conv => whnf
    exact fin _ eq.symm
   ·have h3 : q = 1 := by
     have := of_decide_eq_false h3
     omega
    have e4 : denS q = ⟨#[]⟩ := by unfold denS; rw [if_pos h3]
    rw [e4] at eq
    conv => whnf
    exact fin _ eq.symm
 ·have h1' := of_decide_eq_false h1
  have h1' : ¬ n < 0 := h1'
  have e0 : n = (N : Int) := by omega
  by_cases h2 : n = 0
  ·subst h2
   conv => whnf
   exact fin _ (encQ_zero d).symm
  ·have eq := encQ_mk h2 hp.2.1 hg
   rw [← hN, ← hx, ← hB] at eq
   conv => whnf
   rw [show decide ((n, d).fst < 0) = B from hB.symm]
   refine br_intro (fun h => absurd (by simpa using h) h2) (fun _ => ?_)
   conv => whnf
   rw [show (n, d).fst = (N : Int) from e0]
   refine .inl ⟨fun mm tz hz => ∃ (a : Nat) (b : Nat), Pat [some (.int .i64 N), some (.int .i64 d), none, none, some (.pointer (some ⟨0, 0, none⟩)), some (.pointer (some ⟨1, 0, none⟩)), some (.int .i64 a), some (.int .i64 b), none, none, none, none, none, none, none, none, none, none, none, none, none, none, none, none, none, none, none, none, none, none, none, none, none, none, none, none, none, none, none, none, none] tz ∧ hz = [some (.expl true 3 [[.bool false, .string ⟨#[]⟩, .string ⟨#[]⟩]]), some (.expl true 3 [[.bool B, .string ⟨#[]⟩, .string ⟨#[]⟩]])] ∧ b = mm ∧ ((a < 72057594037927936 ∧ b < 72057594037927936) ∧ Nat.gcd a b = g), .inr ⟨[0, 1], [0, 1, 4, 5, 6, 7], ?_⟩, ?_⟩
   ·conv => whnf
    intro _
    conv => whnf
    refine ⟨_, N, d, (.keep (.keep (.skip (.skip (.keep (.keep (.keep (.keep (.s8 (.s8 (.s8 (.s8 (.skip (.nil)))))))))))))), rfl, rfl, ?_⟩
    exact ⟨⟨by omega, by omega⟩, by rw [hg, hN]; rfl⟩
   rintro mm tms _ ⟨a, b, hpat, rfl, rfl, ⟨hab, he⟩⟩
   obtain ⟨az, rfl⟩ : ∃ az : Nat → Value, tms = [.int .i64 N, .int .i64 d, az 2, az 3, .pointer (some ⟨0, 0, none⟩), .pointer (some ⟨1, 0, none⟩), .int .i64 a, .int .i64 b, az 8, az 9, az 10, az 11, az 12, az 13, az 14, az 15, az 16, az 17, az 18, az 19, az 20, az 21, az 22, az 23, az 24, az 25, az 26, az 27, az 28, az 29, az 30, az 31, az 32, az 33, az 34, az 35, az 36, az 37, az 38, az 39, az 40] := pat_fill hpat
   clear hpat
   conv => whnf
   refine br_intro (fun h1 => ?_) (fun h1 => ?_)
   ·have h1 : 0 < b := by
     have := of_decide_eq_true h1
     omega
    have hlt := Nat.mod_lt a h1
    conv => whnf
    refine .inl ⟨5, [[], [], [], [1, 2], [0, 1], [0, 1, 2, 3, 4]], by kernel_rfl, ?_⟩
    conv => whnf
    rw [show decide (((b : Nat) : Int) ≠ 0) = true from decide_eq_true (by omega)]
    conv => whnf
    rw [show Int.tmod ((a : Nat) : Int) ((b : Nat) : Int) = ((a % b : Nat) : Int) from rfl]
    refine .inr ⟨[0, 1], [0, 1, 4, 5, 6, 7], ?_⟩
    conv => whnf
    intro _
    conv => whnf
    refine ⟨_, ?_, b, a % b, (.keep (.keep (.skip (.skip (.keep (.keep (.keep (.keep (.s8 (.s8 (.s8 (.s8 (.skip (.nil)))))))))))))), rfl, rfl, ?_⟩
    ·exact hlt
    ·exact ⟨⟨hab.2, by omega⟩, by rw [Nat.gcd_comm, ← Nat.gcd_rec, Nat.gcd_comm]; exact he⟩
   ·have h1 : b = 0 := by
     have := of_decide_eq_false h1
     omega
    subst h1
    obtain rfl : a = g := by rw [← he, Nat.gcd_zero_right]
    conv => whnf
    rw [show decide (((a : Nat) : Int) ≠ 0) = true from decide_eq_true (by omega)]
    conv => whnf
    rw [ed]
    refine ⟨N / a, rfl, by show N / a < _; exact Nat.lt_of_le_of_lt (Nat.div_le_self _ _) (by omega), ?_⟩
    rw [ex]
    conv => whnf
    rw [show decide (((a : Nat) : Int) ≠ 0) = true from decide_eq_true (by omega)]
    obtain ⟨q, hq⟩ : ∃ q, q = d / a := ⟨_, rfl⟩
    rw [← hq] at ed2 ey eq hd1 hd2 hy
    conv => whnf
    rw [ed2]
    refine br_intro (fun h3 => ?_) (fun h3 => ?_)
    ·have h3 : q ≠ 1 := by
      have := of_decide_eq_true h3
      omega
     have e4 : denS q = y := by
      rw [hy]; unfold denS; rw [if_neg h3]
     rw [e4] at eq
     conv => whnf
     rw [show decide (((a : Nat) : Int) ≠ 0) = true from decide_eq_true (by omega)]
     conv => whnf
     rw [ed2]
     refine ⟨q, rfl, by show q < _; rw [hq]; exact Nat.lt_of_le_of_lt (Nat.div_le_self _ _) hp.2.2, ?_⟩
     rw [ey]
     conv => whnf
     exact fin _ eq.symm
    ·have h3 : q = 1 := by
      have := of_decide_eq_false h3
      omega
     have e4 : denS q = ⟨#[]⟩ := by unfold denS; rw [if_pos h3]
     rw [e4] at eq
     conv => whnf
     exact fin _ eq.symm
end Go.Proofs.YtppeponndkfbkaaGreat
/- Contracts of rational: fractions in lowest terms. -/
set_option maxRecDepth 20000
set_option maxHeartbeats 1000000
namespace Go.Proofs.YtppeponndkfbkaaGreat
open Go Go.Ae
def Emd : Env := { tt := tt, eqs := [], Φ := fun g => match g with
 | 81 => some (.p ofS)
 | 88 => some (.p cmpS)
 | _ => none }
theorem Emdok : EnvOk Tryz.prog Emd := ⟨tt_ok, fun t h => by simp [Emd] at h, (fun g S h => by
 simp only [Emd] at h
 split at h
 ·cases h; exact of_ok
 ·cases h; exact cmp_ok
 ·cases h), fun g F h => by simp [Emd] at h⟩
theorem is_ok : Snd Tryz.prog 117 isS := by
 refine snd_of Emdok Dok Tryz.func117 (enters_of Tryz.func117 (by kernel_rfl) rfl) (fun _ => rfl) (fun _ => rfl) ?_
 intro ⟨⟨b, s⟩, n⟩ hp
 have hp : s.size ≤ 549755813888 ∧ -9223372036854775808 ≤ n ∧ n < 9223372036854775808 := hp
 obtain ⟨V, m, hV⟩ := EI.mk' n
 have hm : m.size ≤ 549755813888 := by
  rw [hV.size]
  have := nby_i64 hp.2
  omega
 obtain ⟨q, hq⟩ : ∃ q, q = cmpZ (IV.z (b, s)) n := ⟨_, rfl⟩
 conv => whnf
 refine .inl ⟨3, [[], [], [1], [0, 1, 2], [0, 1, 2, 3], [0, 1, 2, 3, 4]], by kernel_rfl, ?_⟩
 conv => whnf
 refine ⟨n, rfl, ⟨by omega, by omega⟩, ?_⟩
 rw [show ofS.val n = .agg ⟨[.bool V, .string m]⟩ from hV.enc]
 conv => whnf
 refine ⟨((b, s), (V, m)), rfl, ⟨hp.1, hm⟩, ?_⟩
 rw [show cmpS.val ((b, s), (V, m)) = .int .i64 q from by show Value.int .i64 (cmpZ (IV.z (b, s)) (IV.z (V, m))) = _; rw [hV.val, hq]]
 conv => whnf
 show Value.bool (q == 0) = Value.bool (decide (IV.z (b, s) = n))
 congr 1
 rw [hq]
 unfold cmpZ
 split
 ·rw [decide_eq_false (by omega)]; rfl
 ·split
  ·rw [decide_eq_false (by omega)]; rfl
  ·rw [decide_eq_true (by omega)]; rfl
theorem integer_ok : Snd Tryz.prog 120 integerS := by
 refine snd_of E0ok Dok Tryz.func120 (enters_of Tryz.func120 (by kernel_rfl) rfl) (fun _ => rfl) (fun _ => rfl) ?_
 intro ⟨b, s⟩ _
 conv => whnf
 rfl
def Eme : Env := { tt := tt, eqs := [], Φ := fun g => match g with
 | 81 => some (.p ofS)
 | 117 => some (.p isS)
 | 120 => some (.p integerS)
 | _ => none }
theorem Emeok : EnvOk Tryz.prog Eme := ⟨tt_ok, fun t h => by simp [Eme] at h, (fun g S h => by
 simp only [Eme] at h
 split at h
 ·cases h; exact of_ok
 ·cases h; exact is_ok
 ·cases h; exact integer_ok
 ·cases h), fun g F h => by simp [Eme] at h⟩
theorem ofR_ok : Snd Tryz.prog 84 ofRS := by
 refine snd_of Emeok Dok Tryz.func84 (enters_of Tryz.func84 (by kernel_rfl) rfl) (fun _ => rfl) (fun _ => rfl) ?_
 intro ⟨b, s, t⟩ hp
 have hp : t.size ≤ 549755813888 := hp
 conv => whnf
 refine .inl ⟨10, [[], [0], [], [2], [0, 1, 2, 3], [], [5], [0, 1, 2, 3, 4, 5, 6], [0, 1, 2, 3, 4, 5, 6, 7], [], [0, 1, 2, 3, 4, 5, 6, 7, 8, 9]], by kernel_rfl, ?_⟩
 conv => whnf
 refine ⟨(b, s), rfl, trivial, ?_⟩
 conv => whnf
 refine ⟨(false, t), rfl, trivial, ?_⟩
 conv => whnf
 refine ⟨((false, t), 0), rfl, ⟨hp, r0⟩, ?_⟩
 by_cases h : bnat t = 0
 ·rw [show isS.val ((false, t), 0) = .bool true from by
   show Value.bool (decide (((bnat t : Nat) : Int) = 0)) = _
   rw [h]; rfl]
  obtain ⟨v, hv⟩ : ∃ v, v = nb 1 := ⟨_, rfl⟩
  conv => whnf
  refine ⟨(1 : Int), rfl, r1, ?_⟩
  rw [show ofS.val (1 : Int) = .agg ⟨[.bool false, .string v]⟩ from by rw [hv]; rfl]
  conv => whnf
  show Value.agg ⟨[.bool b, .string s, .bool false, .string v]⟩ = fracV (b, s) (false, RV.den (b, s, t))
  unfold RV.den
  rw [if_pos h, ← hv]
  rfl
 ·rw [show isS.val ((false, t), 0) = .bool false from by
   show Value.bool (decide (((bnat t : Nat) : Int) = 0)) = _
   rw [decide_eq_false (by omega)]]
  conv => whnf
  show Value.agg ⟨[.bool b, .string s, .bool false, .string t]⟩ = fracV (b, s) (false, RV.den (b, s, t))
  unfold RV.den
  rw [if_neg h]
  rfl
def Emf : Env := { tt := tt, eqs := [], Φ := fun g => match g with
 | 117 => some (.p isS)
 | 118 => some (.p gcdS)
 | 119 => some (.p divS)
 | _ => none }
theorem Emfok : EnvOk Tryz.prog Emf := ⟨tt_ok, fun t h => by simp [Emf] at h, (fun g S h => by
 simp only [Emf] at h
 split at h
 ·cases h; exact is_ok
 ·cases h; exact gcd_ok
 ·cases h; exact div_ok
 ·cases h), fun g F h => by simp [Emf] at h⟩
theorem number_ok : Snd Tryz.prog 82 numberS := by
 refine snd_of Emfok Dok Tryz.func82 (enters_of Tryz.func82 (by kernel_rfl) rfl) (fun _ => rfl) (fun _ => rfl) ?_
 intro ⟨⟨b, s⟩, ⟨c, t⟩⟩ hp
 have hp : s.size ≤ 549755813888 ∧ t.size ≤ 549755813888 ∧ 0 < IV.z (c, t) := hp
 obtain ⟨x, hx⟩ : ∃ x, x = IV.z (b, s) := ⟨_, rfl⟩
 obtain ⟨d, hd⟩ : ∃ d, d = (IV.z (c, t)).natAbs := ⟨_, rfl⟩
 have hd2 : IV.z (c, t) = ((d : Nat) : Int) := by omega
 have hd0 : d ≠ 0 := by omega
 obtain ⟨q, hq⟩ : ∃ q, q = mkRat x d := ⟨_, rfl⟩
 have fin : ∀ v : Value, v = encQ q → v = numberS.val ((b, s), (c, t)) := fun v h => by rw [h, hq, hx, hd]; rfl
 conv => whnf
 refine ⟨((b, s), 0), rfl, ⟨hp.1, r0⟩, ?_⟩
 rw [show isS.val ((b, s), 0) = .bool (decide (x = 0)) from by rw [hx]; rfl]
 by_cases h1 : x = 0
 ·rw [decide_eq_true h1]
  conv => whnf
  exact fin _ (by rw [hq, h1]; exact (encQ_zero d).symm)
 ·rw [decide_eq_false h1]
  obtain ⟨g, hg⟩ : ∃ g, g = Int.gcd x d := ⟨_, rfl⟩
  obtain ⟨gs, hgs⟩ := EI.nonneg (show 0 ≤ ((g : Nat) : Int) by omega)
  obtain ⟨qb, qs, hn⟩ := EI.mk' q.num
  obtain ⟨es, he⟩ := EI.nonneg (show 0 ≤ ((q.den : Nat) : Int) by omega)
  have hg0 : ((g : Nat) : Int) ≠ 0 := by
   have : 0 < g := by rw [hg]; exact Int.gcd_pos_of_ne_zero_left _ h1
   omega
  have hgle : g ≤ d := by
   have h3 := (div_self_gcd hd0 hg).2.1
   rcases Nat.lt_or_ge d g with h | h
   ·rw [Nat.div_eq_of_lt h] at h3; omega
   ·exact h
  have hds : nby d ≤ 549755813888 := by rw [hd]; exact IV.nby (i := (c, t)) hp.2.1
  have gsz : gs.size ≤ 549755813888 := by
   rw [hgs.size, Int.natAbs_natCast]
   exact Nat.le_trans (nby_mono hgle) hds
  have esz : es.size ≤ 549755813888 := by
   rw [he.size, Int.natAbs_natCast]
   exact Nat.le_trans (nby_mono (by rw [hq]; exact den_le x hd0)) hds
  have hqn : x.fdiv ((g : Nat) : Int) = q.num := by rw [hg, hq]; exact mk_num x hd0
  have hqd : ((d : Nat) : Int).fdiv ((g : Nat) : Int) = ((q.den : Nat) : Int) := by rw [hg, hq]; exact mk_den x hd0
  conv => whnf
  refine ⟨((b, s), (c, t)), rfl, ⟨hp.1, hp.2.1⟩, ?_⟩
  rw [show gcdS.val ((b, s), (c, t)) = .agg ⟨[.bool false, .string gs]⟩ from by
   show encI ((Int.gcd (IV.z (b, s)) (IV.z (c, t)) : Nat) : Int) = _
   rw [← hx, hd2, ← hg, hgs.enc]]
  conv => whnf
  obtain ⟨fb, fs, hf⟩ := EI.mk' (x.fmod ((g : Nat) : Int))
  refine ⟨((b, s), (false, gs)), rfl, ⟨hp.1, gsz⟩, ?_⟩
  rw [show divS.val ((b, s), (false, gs)) = .tuple ⟨[.agg ⟨[.bool qb, .string qs]⟩, .agg ⟨[.bool fb, .string fs]⟩, .int .i64 0]⟩ from by
   simp only [divS, hgs.val, if_neg hg0]
   rw [← hx, hqn, hn.enc, hf.enc]]
  conv => whnf
  obtain ⟨kb, ks, hk⟩ := EI.mk' (((d : Nat) : Int).fmod ((g : Nat) : Int))
  refine ⟨((c, t), (false, gs)), rfl, ⟨hp.2.1, gsz⟩, ?_⟩
  rw [show divS.val ((c, t), (false, gs)) = .tuple ⟨[.agg ⟨[.bool false, .string es]⟩, .agg ⟨[.bool kb, .string ks]⟩, .int .i64 0]⟩ from by
   simp only [divS, hgs.val, if_neg hg0, hd2]
   rw [hqd, he.enc, hk.enc]]
  conv => whnf
  refine ⟨((false, es), 1), rfl, ⟨esz, r1⟩, ?_⟩
  rw [show isS.val ((false, es), 1) = .bool (decide (((q.den : Nat) : Int) = 1)) from by
   show Value.bool (decide (IV.z (false, es) = 1)) = _
   rw [he.val]]
  have enc : ∀ y, denS q.den = y → Value.agg ⟨[.bool qb, .string qs, .string y]⟩ = encQ q := fun y hy => by
   unfold encQ
   rw [← hn.mag, ← hn.sign, hy]
  by_cases h2 : q.den = 1
  ·rw [decide_eq_true (by omega)]
   conv => whnf
   exact fin _ (enc _ (by unfold denS; rw [if_pos h2]))
  ·rw [decide_eq_false (by omega)]
   conv => whnf
   exact fin _ (enc _ (by unfold denS; rw [if_neg h2, he.mag, Int.natAbs_natCast]))
end Go.Proofs.YtppeponndkfbkaaGreat
/- Contracts of rational: what is made of small numbers, and of large ones. -/
set_option maxRecDepth 20000
set_option maxHeartbeats 1000000
namespace Go.Proofs.YtppeponndkfbkaaGreat
open Go Go.Ae
def Emg : Env := { tt := tt, eqs := [], Φ := fun g => match g with
 | 128 => some (.p ratioS)
 | _ => none }
theorem Emgok : EnvOk Tryz.prog Emg := ⟨tt_ok, fun t h => by simp [Emg] at h, (fun g S h => by
 simp only [Emg] at h
 split at h
 ·cases h; exact ratio_ok
 ·cases h), fun g F h => by simp [Emg] at h⟩
theorem add1_ok : Snd Tryz.prog 130 add1S := by
 refine snd_of Emgok Dok Tryz.func130 (enters_of Tryz.func130 (by kernel_rfl) rfl) (fun _ => rfl) (fun _ => rfl) ?_
 intro ⟨⟨n, d⟩, ⟨m, e⟩⟩ hp
 obtain ⟨h1, h2, h3, h4⟩ := I4.bounds hp
 simp only at h1 h2 h3 h4
 obtain ⟨x, hx⟩ : ∃ x, x = n * (e : Int) := ⟨_, rfl⟩
 obtain ⟨y, hy⟩ : ∃ y, y = m * (d : Int) := ⟨_, rfl⟩
 obtain ⟨k, hk⟩ : ∃ k, k = d * e := ⟨_, rfl⟩
 rw [← hx] at h1
 rw [← hy] at h2
 rw [← hk] at h4
 have e1 : IntKind.i64.wrap (IntKind.i64.wrap (n * (e : Int)) + IntKind.i64.wrap (m * (d : Int))) = x + y := by
  rw [← hx, ← hy, wrapi64 (x := x) (by omega) (by omega), wrapi64 (x := y) (by omega) (by omega), wrapi64 (by omega) (by omega)]
 have e2 : IntKind.i64.wrap ((d : Int) * (e : Int)) = (k : Int) := by
  rw [← Int.natCast_mul, ← hk, wrapi64 (by omega) (by omega)]
 conv => whnf
 rw [show IntKind.i64.wrap (IntKind.i64.wrap (((n, d), m, e).fst.fst * (((n, d), m, e).snd.snd : Int)) + IntKind.i64.wrap (((n, d), m, e).snd.fst * (((n, d), m, e).fst.snd : Int))) = x + y from e1]
 rw [show IntKind.i64.wrap ((((n, d), m, e).fst.snd : Int) * (((n, d), m, e).snd.snd : Int)) = (k : Int) from e2]
 refine ⟨(x + y, k), rfl, ⟨by show (x + y).natAbs < _; omega, by show k ≠ 0; omega, by show k < _; omega⟩, ?_⟩
 obtain ⟨v, hv⟩ : ∃ v, v = mkRat (x + y) k := ⟨_, rfl⟩
 rw [show ratioS.val (x + y, k) = (RV.of v).v from by rw [hv]; rfl]
 conv => whnf
 show (RV.of v).v = encQ (mkRat (n * e + m * d) (d * e))
 rw [hv, hx, hy, hk]
 rfl
theorem mul1_ok : Snd Tryz.prog 127 mul1S := by
 refine snd_of Emgok Dok Tryz.func127 (enters_of Tryz.func127 (by kernel_rfl) rfl) (fun _ => rfl) (fun _ => rfl) ?_
 intro ⟨⟨n, d⟩, ⟨m, e⟩⟩ hp
 obtain ⟨h1, h2, h3, h4⟩ := I4.bounds hp
 simp only at h1 h2 h3 h4
 obtain ⟨x, hx⟩ : ∃ x, x = n * m := ⟨_, rfl⟩
 obtain ⟨k, hk⟩ : ∃ k, k = d * e := ⟨_, rfl⟩
 rw [← hx] at h3
 rw [← hk] at h4
 have e1 : IntKind.i64.wrap (n * m) = x := by
  rw [← hx, wrapi64 (x := x) (by omega) (by omega)]
 have e2 : IntKind.i64.wrap ((d : Int) * (e : Int)) = (k : Int) := by
  rw [← Int.natCast_mul, ← hk, wrapi64 (by omega) (by omega)]
 conv => whnf
 rw [show IntKind.i64.wrap (((n, d), m, e).fst.fst * ((n, d), m, e).snd.fst) = x from e1]
 rw [show IntKind.i64.wrap ((((n, d), m, e).fst.snd : Int) * (((n, d), m, e).snd.snd : Int)) = (k : Int) from e2]
 refine ⟨(x, k), rfl, ⟨by show x.natAbs < _; omega, by show k ≠ 0; omega, by show k < _; omega⟩, ?_⟩
 obtain ⟨v, hv⟩ : ∃ v, v = mkRat x k := ⟨_, rfl⟩
 rw [show ratioS.val (x, k) = (RV.of v).v from by rw [hv]; rfl]
 conv => whnf
 show (RV.of v).v = encQ (mkRat (n * m) (d * e))
 rw [hv, hx, hk]
 rfl
theorem cmp1_ok : Snd Tryz.prog 101 cmp1S := by
 refine snd_of E0ok Dok Tryz.func101 (enters_of Tryz.func101 (by kernel_rfl) rfl) (fun _ => rfl) (fun _ => rfl) ?_
 intro ⟨⟨n, d⟩, ⟨m, e⟩⟩ hp
 obtain ⟨h1, h2, h3, h4⟩ := I4.bounds hp
 simp only at h1 h2 h3 h4
 obtain ⟨x, hx⟩ : ∃ x, x = n * (e : Int) := ⟨_, rfl⟩
 obtain ⟨y, hy⟩ : ∃ y, y = m * (d : Int) := ⟨_, rfl⟩
 rw [← hx] at h1
 rw [← hy] at h2
 have e1 : IntKind.i64.wrap (n * (e : Int)) = x := by rw [← hx, wrapi64 (x := x) (by omega) (by omega)]
 have e2 : IntKind.i64.wrap (m * (d : Int)) = y := by rw [← hy, wrapi64 (x := y) (by omega) (by omega)]
 have fin : ∀ z : Int, z = cmpZ x y → Value.int .i64 z = cmp1S.val ((n, d), (m, e)) := fun z h => by rw [h, hx, hy]; rfl
 conv => whnf
 rw [show IntKind.i64.wrap (((n, d), m, e).fst.fst * (((n, d), m, e).snd.snd : Int)) = x from e1, show IntKind.i64.wrap (((n, d), m, e).snd.fst * (((n, d), m, e).fst.snd : Int)) = y from e2]
 refine br_intro (fun h => ?_) (fun h => ?_)
 ·have h := of_decide_eq_true h
  conv => whnf
  exact fin _ (cmpZ_lt h).symm
 ·have h := of_decide_eq_false h
  conv => whnf
  refine br_intro (fun h5 => ?_) (fun h5 => ?_)
  ·have h5 := of_decide_eq_true h5
   conv => whnf
   exact fin _ (cmpZ_gt h5).symm
  ·have h5 := of_decide_eq_false h5
   conv => whnf
   refine fin _ ?_
   unfold cmpZ
   rw [if_neg h, if_neg (show ¬ y < x from h5)]
def Emh : Env := { tt := tt, eqs := [], Φ := fun g => match g with
 | 98 => some (.p mulS)
 | 132 => some (.p addS)
 | 88 => some (.p cmpS)
 | 82 => some (.p numberS)
 | _ => none }
theorem Emhok : EnvOk Tryz.prog Emh := ⟨tt_ok, fun t h => by simp [Emh] at h, (fun g S h => by
 simp only [Emh] at h
 split at h
 ·cases h; exact mul_ok
 ·cases h; exact add_ok
 ·cases h; exact cmp_ok
 ·cases h; exact number_ok
 ·cases h), fun g F h => by simp [Emh] at h⟩
theorem add2_ok : Snd Tryz.prog 131 add2S := by
 refine snd_of Emhok Dok Tryz.func131 (enters_of Tryz.func131 (by kernel_rfl) rfl) (fun _ => rfl) (fun _ => rfl) ?_
 intro ⟨⟨⟨b, s⟩, ⟨c, t⟩⟩, ⟨⟨b', s'⟩, ⟨c', t'⟩⟩⟩ hp
 have hp : ((s.size ≤ 17179869184 ∧ t.size ≤ 17179869184) ∧ 0 < IV.z (c, t)) ∧ (s'.size ≤ 17179869184 ∧ t'.size ≤ 17179869184) ∧ 0 < IV.z (c', t') := hp
 obtain ⟨⟨⟨hs, ht⟩, hd⟩, ⟨hs', ht'⟩, hd'⟩ := hp
 obtain ⟨B1, m1, h1⟩ := EI.mk' (IV.z (b, s) * IV.z (c', t'))
 obtain ⟨B2, m2, h2⟩ := EI.mk' (IV.z (b', s') * IV.z (c, t))
 obtain ⟨B3, m3, h3⟩ := EI.mk' (IV.z (b, s) * IV.z (c', t') + IV.z (b', s') * IV.z (c, t))
 obtain ⟨B4, m4, h4⟩ := EI.mk' (IV.z (c, t) * IV.z (c', t'))
 have z1 := h1.mul_size (nby_z hs) (nby_z ht')
 have z2 := h2.mul_size (nby_z hs') (nby_z ht)
 have z4 := h4.mul_size (nby_z ht) (nby_z ht')
 have z3 : m3.size ≤ 34359738369 := h3.add_size (by rw [← h1.size]; omega) (by rw [← h2.size]; omega)
 have hpos := Int.mul_pos hd hd'
 conv => whnf
 refine .inl ⟨15, [[], [0], [], [2], [0, 1, 2, 3], [], [5], [], [7], [0, 1, 2, 3, 4, 5, 6, 7, 8], [0, 1, 2, 3, 4, 5, 6, 7, 8, 9], [], [11], [], [13], [0, 1, 2, 3, 4, 5, 6, 7, 8, 9, 10, 11, 12, 13, 14], [0, 1, 2, 3, 4, 5, 6, 7, 8, 9, 10, 11, 12, 13, 14, 15], [0, 1, 2, 3, 4, 5, 6, 7, 8, 9, 10, 11, 12, 13, 14, 15, 16], [0, 1, 2, 3, 4, 5, 6, 7, 8, 9, 10, 11, 12, 13, 14, 15, 16, 17]], by kernel_rfl, ?_⟩
 conv => whnf
 refine ⟨((b, s), (c', t')), rfl, ⟨by show s.size ≤ _; omega, by show t'.size ≤ _; omega⟩, ?_⟩
 rw [show mulS.val ((b, s), (c', t')) = .agg ⟨[.bool B1, .string m1]⟩ from h1.enc]
 conv => whnf
 refine ⟨((b', s'), (c, t)), rfl, ⟨by show s'.size ≤ _; omega, by show t.size ≤ _; omega⟩, ?_⟩
 rw [show mulS.val ((b', s'), (c, t)) = .agg ⟨[.bool B2, .string m2]⟩ from h2.enc]
 conv => whnf
 refine ⟨((B1, m1), (B2, m2)), rfl, ⟨by show m1.size ≤ _; omega, by show m2.size ≤ _; omega⟩, ?_⟩
 rw [show addS.val ((B1, m1), (B2, m2)) = .agg ⟨[.bool B3, .string m3]⟩ from by
  show encI (IV.z (B1, m1) + IV.z (B2, m2)) = _
  rw [h1.val, h2.val, h3.enc]]
 conv => whnf
 refine ⟨((c, t), (c', t')), rfl, ⟨by show t.size ≤ _; omega, by show t'.size ≤ _; omega⟩, ?_⟩
 rw [show mulS.val ((c, t), (c', t')) = .agg ⟨[.bool B4, .string m4]⟩ from h4.enc]
 conv => whnf
 refine ⟨((B3, m3), (B4, m4)), rfl, ⟨by show m3.size ≤ _; omega, by show m4.size ≤ _; omega, by show 0 < IV.z (B4, m4); rw [h4.val]; exact hpos⟩, ?_⟩
 obtain ⟨v, hv⟩ : ∃ v, v = mkRat (IV.z (B3, m3)) (IV.z (B4, m4)).natAbs := ⟨_, rfl⟩
 rw [show numberS.val ((B3, m3), (B4, m4)) = (RV.of v).v from by rw [hv]; rfl]
 rw [h3.val, h4.val] at hv
 conv => whnf
 show (RV.of v).v = encQ _
 rw [hv]
 rfl
theorem mul2_ok : Snd Tryz.prog 129 mul2S := by
 refine snd_of Emhok Dok Tryz.func129 (enters_of Tryz.func129 (by kernel_rfl) rfl) (fun _ => rfl) (fun _ => rfl) ?_
 intro ⟨⟨⟨b, s⟩, ⟨c, t⟩⟩, ⟨⟨b', s'⟩, ⟨c', t'⟩⟩⟩ hp
 have hp : ((s.size ≤ 17179869184 ∧ t.size ≤ 17179869184) ∧ 0 < IV.z (c, t)) ∧ (s'.size ≤ 17179869184 ∧ t'.size ≤ 17179869184) ∧ 0 < IV.z (c', t') := hp
 obtain ⟨⟨⟨hs, ht⟩, hd⟩, ⟨hs', ht'⟩, hd'⟩ := hp
 obtain ⟨B3, m3, h3⟩ := EI.mk' (IV.z (b, s) * IV.z (b', s'))
 obtain ⟨B4, m4, h4⟩ := EI.mk' (IV.z (c, t) * IV.z (c', t'))
 have z3 := h3.mul_size (nby_z hs) (nby_z hs')
 have z4 := h4.mul_size (nby_z ht) (nby_z ht')
 have hpos := Int.mul_pos hd hd'
 conv => whnf
 refine .inl ⟨9, [[], [0], [], [2], [0, 1, 2, 3], [], [5], [], [7], [0, 1, 2, 3, 4, 5, 6, 7, 8], [0, 1, 2, 3, 4, 5, 6, 7, 8, 9], [0, 1, 2, 3, 4, 5, 6, 7, 8, 9, 10], [0, 1, 2, 3, 4, 5, 6, 7, 8, 9, 10, 11]], by kernel_rfl, ?_⟩
 conv => whnf
 refine ⟨((b, s), (b', s')), rfl, ⟨by show s.size ≤ _; omega, by show s'.size ≤ _; omega⟩, ?_⟩
 rw [show mulS.val ((b, s), (b', s')) = .agg ⟨[.bool B3, .string m3]⟩ from h3.enc]
 conv => whnf
 refine ⟨((c, t), (c', t')), rfl, ⟨by show t.size ≤ _; omega, by show t'.size ≤ _; omega⟩, ?_⟩
 rw [show mulS.val ((c, t), (c', t')) = .agg ⟨[.bool B4, .string m4]⟩ from h4.enc]
 conv => whnf
 refine ⟨((B3, m3), (B4, m4)), rfl, ⟨by show m3.size ≤ _; omega, by show m4.size ≤ _; omega, by show 0 < IV.z (B4, m4); rw [h4.val]; exact hpos⟩, ?_⟩
 obtain ⟨v, hv⟩ : ∃ v, v = mkRat (IV.z (B3, m3)) (IV.z (B4, m4)).natAbs := ⟨_, rfl⟩
 rw [show numberS.val ((B3, m3), (B4, m4)) = (RV.of v).v from by rw [hv]; rfl]
 rw [h3.val, h4.val] at hv
 conv => whnf
 show (RV.of v).v = encQ _
 rw [hv]
 rfl
theorem cmp2_ok : Snd Tryz.prog 102 cmp2S := by
 refine snd_of Emhok Dok Tryz.func102 (enters_of Tryz.func102 (by kernel_rfl) rfl) (fun _ => rfl) (fun _ => rfl) ?_
 intro ⟨⟨⟨b, s⟩, ⟨c, t⟩⟩, ⟨⟨b', s'⟩, ⟨c', t'⟩⟩⟩ hp
 have hp : ((s.size ≤ 17179869184 ∧ t.size ≤ 17179869184) ∧ 0 < IV.z (c, t)) ∧ (s'.size ≤ 17179869184 ∧ t'.size ≤ 17179869184) ∧ 0 < IV.z (c', t') := hp
 obtain ⟨⟨⟨hs, ht⟩, hd⟩, ⟨hs', ht'⟩, hd'⟩ := hp
 obtain ⟨B1, m1, h1⟩ := EI.mk' (IV.z (b, s) * IV.z (c', t'))
 obtain ⟨B2, m2, h2⟩ := EI.mk' (IV.z (b', s') * IV.z (c, t))
 have z1 := h1.mul_size (nby_z hs) (nby_z ht')
 have z2 := h2.mul_size (nby_z hs') (nby_z ht)
 obtain ⟨q, hq⟩ : ∃ q, q = cmpZ (IV.z (b, s) * IV.z (c', t')) (IV.z (b', s') * IV.z (c, t)) := ⟨_, rfl⟩
 conv => whnf
 refine .inl ⟨9, [[], [0], [], [2], [0, 1, 2, 3], [], [5], [], [7], [0, 1, 2, 3, 4, 5, 6, 7, 8], [0, 1, 2, 3, 4, 5, 6, 7, 8, 9], [0, 1, 2, 3, 4, 5, 6, 7, 8, 9, 10]], by kernel_rfl, ?_⟩
 conv => whnf
 refine ⟨((b, s), (c', t')), rfl, ⟨by show s.size ≤ _; omega, by show t'.size ≤ _; omega⟩, ?_⟩
 rw [show mulS.val ((b, s), (c', t')) = .agg ⟨[.bool B1, .string m1]⟩ from h1.enc]
 conv => whnf
 refine ⟨((b', s'), (c, t)), rfl, ⟨by show s'.size ≤ _; omega, by show t.size ≤ _; omega⟩, ?_⟩
 rw [show mulS.val ((b', s'), (c, t)) = .agg ⟨[.bool B2, .string m2]⟩ from h2.enc]
 conv => whnf
 refine ⟨((B1, m1), (B2, m2)), rfl, ⟨by show m1.size ≤ _; omega, by show m2.size ≤ _; omega⟩, ?_⟩
 rw [show cmpS.val ((B1, m1), (B2, m2)) = .int .i64 q from by
  show Value.int .i64 (cmpZ (IV.z (B1, m1)) (IV.z (B2, m2))) = _
  rw [h1.val, h2.val, hq]]
 conv => whnf
 show Value.int .i64 q = _
 rw [hq]
 rfl
end Go.Proofs.YtppeponndkfbkaaGreat
