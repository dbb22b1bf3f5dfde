import Derived.Test.YtppeponndkfbkaaQH
/- Contracts of rational: differences, signs, checks. -/
set_option linter.unusedVariables false
set_option linter.unusedSimpArgs false
set_option maxRecDepth 20000
set_option maxHeartbeats 1000000
namespace Go.Proofs.Ytppeponndkfbkaa
open Go Go.Ae

def Eml : Env := { tt := tt, eqs := eqsL, Φ := fun g => match g with
  | 69 => some (.p qaddS)
  | 81 => some (.p ofRS)
  | 77 => some (.p numberS)
  | 54 => some (.p cmpS)
  | 80 => some (.p ofS)
  | 102 => some (.p negS)
  | _ => none }
theorem Emlok : EnvOk Try.prog Eml := ⟨tt_ok, eqs_ok, (fun g S h => by
  simp only [Eml] at h
  split at h
  · cases h; exact qadd_ok
  · cases h; exact ofR_ok
  · cases h; exact number_ok
  · cases h; exact cmp_ok
  · cases h; exact of_ok
  · cases h; exact neg_ok
  · cases h), fun g F h => by simp [Eml] at h⟩

theorem qsub_ok : Snd Try.prog 70 qsubS := by
  refine snd_of Emlok Dok Try.func70 (enters_of Try.func70 (by kernel_rfl) rfl) (fun _ => rfl) (fun _ => rfl) ?_
  intro ⟨⟨b, s, t⟩, ⟨c, u, v⟩⟩ hp
  have hp : RV.ok (b, s, t) ∧ RV.ok (c, u, v) := hp
  obtain ⟨w, hw⟩ : ∃ w, w = RV.q (b, s, t) - RV.q (c, u, v) := ⟨_, rfl⟩
  conv => whnf
  refine ⟨((b, s, t), (!c, u, v)), rfl, hp, ?_⟩
  rw [show qaddS.val ((b, s, t), (!c, u, v)) = (RV.of w).v from by
    rw [hw]
    show encQ (RV.q (b, s, t) + RV.q (!c, u, v)) = encQ _
    rw [neg_q', ← Rat.sub_eq_add_neg]]
  conv => whnf
  show (RV.of w).v = encQ _
  rw [hw]
  rfl

theorem qneg_ok : Snd Try.prog 61 qnegS := by
  refine snd_of Emlok Dok Try.func61 (enters_of Try.func61 (by kernel_rfl) rfl) (fun _ => rfl) (fun _ => rfl) ?_
  intro ⟨b, s, t⟩ hp
  have hp : RV.ok (b, s, t) := hp
  obtain ⟨w, hw⟩ : ∃ w, w = -RV.q (b, s, t) := ⟨_, rfl⟩
  obtain ⟨x, hx⟩ : ∃ x, x = RV.den (b, s, t) := ⟨_, rfl⟩
  have f1 := RV.fracOk (i := (!b, s, t)) hp
  have e1 := RV.q_of (!b, s, t)
  rw [show RV.den (!b, s, t) = x from hx.symm] at f1 e1
  conv => whnf
  refine ⟨(!b, s, t), rfl, by have := hp.2; show t.size ≤ _; exact Nat.le_trans this (by decide), ?_⟩
  rw [show ofRS.val (!b, s, t) = .agg ⟨[.bool (!b), .string s, .bool false, .string x]⟩ from by rw [hx]; rfl]
  conv => whnf
  refine ⟨((!b, s), (false, x)), rfl, ⟨Nat.le_trans f1.1.1 (by decide), Nat.le_trans f1.1.2 (by decide), f1.2⟩, ?_⟩
  rw [show numberS.val ((!b, s), (false, x)) = (RV.of w).v from by
    rw [hw, ← neg_q', e1]; rfl]
  conv => whnf
  show (RV.of w).v = encQ _
  rw [hw]
  rfl

theorem qsign_ok : Snd Try.prog 50 qsignS := by
  refine snd_of Emlok Dok Try.func50 (enters_of Try.func50 (by kernel_rfl) rfl) (fun _ => rfl) (fun _ => rfl) ?_
  intro ⟨b, s, t⟩ hp
  have hp : RV.ok (b, s, t) := hp
  obtain ⟨x, hx⟩ : ∃ x, x = RV.den (b, s, t) := ⟨_, rfl⟩
  obtain ⟨w, hw⟩ : ∃ w, w = cmpQ (RV.q (b, s, t)) 0 := ⟨_, rfl⟩
  conv => whnf
  refine ⟨(b, s, t), rfl, by have := hp.2; show t.size ≤ _; exact Nat.le_trans this (by decide), ?_⟩
  rw [show ofRS.val (b, s, t) = .agg ⟨[.bool b, .string s, .bool false, .string x]⟩ from by rw [hx]; rfl]
  conv => whnf
  refine ⟨((b, s), (false, ⟨#[]⟩)), rfl, ⟨by have := hp.1; show s.size ≤ _; exact Nat.le_trans this (by decide), Nat.zero_le _⟩, ?_⟩
  rw [show cmpS.val ((b, s), (false, ⟨#[]⟩)) = .int .i64 w from by rw [hw, sign_q]; rfl]
  conv => whnf
  show Value.int .i64 w = _
  rw [hw]
  rfl

theorem qof_ok : Snd Try.prog 39 qofS := by
  refine snd_of Emlok Dok Try.func39 (enters_of Try.func39 (by kernel_rfl) rfl) (fun _ => rfl) (fun _ => rfl) ?_
  intro (n : Int) hp
  have hp : -9223372036854775808 ≤ n ∧ n < 9223372036854775808 := hp
  obtain ⟨w, hw⟩ : ∃ w : Rat, w = (n : Rat) := ⟨_, rfl⟩
  obtain ⟨B, m, hE⟩ := EI.mk' n
  obtain ⟨k, hF⟩ := EI.nonneg (show 0 ≤ (1 : Int) by decide)
  have hm := hE.size
  have hk := hF.size
  have h8 := nby_i64 hp
  have h1 := nby_i64 r1
  conv => whnf
  refine ⟨n, rfl, hp, ?_⟩
  rw [show ofS.val n = .agg ⟨[.bool B, .string m]⟩ from hE.enc]
  conv => whnf
  refine ⟨(1 : Int), rfl, r1, ?_⟩
  rw [show ofS.val (1 : Int) = .agg ⟨[.bool false, .string k]⟩ from hF.enc]
  conv => whnf
  refine ⟨((B, m), (false, k)), rfl, ⟨by show m.size ≤ _; omega, by show k.size ≤ _; omega, by show 0 < IV.z (false, k); rw [hF.val]; decide⟩, ?_⟩
  rw [show numberS.val ((B, m), (false, k)) = (RV.of w).v from by
    rw [hw, of_q n]
    show encQ (mkRat (IV.z (B, m)) (IV.z (false, k)).natAbs) = _
    rw [hE.val, hF.val]; rfl]
  conv => whnf
  show (RV.of w).v = encQ _
  rw [hw]
  rfl

theorem qcheck_ok : Snd Try.prog 48 qcheckS := by
  refine snd_of Emlok Dok Try.func48 (enters_of Try.func48 (by kernel_rfl) rfl) (fun _ => rfl) (fun _ => rfl) ?_
  intro ⟨b, s, t⟩ hp
  have hp : RV.ok (b, s, t) := hp
  obtain ⟨⟨c, u, v⟩, hw⟩ : ∃ w, w = RV.of (RV.q (b, s, t)) := ⟨_, rfl⟩
  obtain ⟨x, hx⟩ : ∃ x, x = RV.den (b, s, t) := ⟨_, rfl⟩
  have f1 := RV.fracOk hp
  have e1 := RV.q_of (b, s, t)
  rw [show RV.den (b, s, t) = x from hx.symm] at f1 e1
  have heq := eqCells_rat (b, s, t) (c, u, v)
  conv => whnf
  refine .inl ⟨4, [[], [], [1], [1, 2], [0, 1, 2, 3]], by kernel_rfl, ?_⟩
  conv => whnf
  refine ⟨(b, s, t), rfl, by have := hp.2; show t.size ≤ _; exact Nat.le_trans this (by decide), ?_⟩
  rw [show ofRS.val (b, s, t) = .agg ⟨[.bool b, .string s, .bool false, .string x]⟩ from by rw [hx]; rfl]
  conv => whnf
  refine ⟨((b, s), (false, x)), rfl, ⟨Nat.le_trans f1.1.1 (by decide), Nat.le_trans f1.1.2 (by decide), f1.2⟩, ?_⟩
  rw [show numberS.val ((b, s), (false, x)) = RV.v (c, u, v) from by
    rw [hw, e1]; rfl]
  conv => whnf
  by_cases h : (b, s, t) = (c, u, v)
  · rw [decide_eq_true h] at heq
    refine br_intro (fun h2 => ?_) (fun h2 => ?_)
    · exfalso
      rw [show eqCells [Value.bool b, .string s, .string t] [.bool c, .string u, .string v] = true from heq] at h2
      cases h2
    · conv => whnf
      show _ = Value.int .i64 (if (b, s, t) = RV.of (RV.q (b, s, t)) then 0 else 1)
      rw [← hw, if_pos h]
  · rw [decide_eq_false h] at heq
    refine br_intro (fun h2 => ?_) (fun h2 => ?_)
    · conv => whnf
      show _ = Value.int .i64 (if (b, s, t) = RV.of (RV.q (b, s, t)) then 0 else 1)
      rw [← hw, if_neg h]
    · exfalso
      rw [show eqCells [Value.bool b, .string s, .string t] [.bool c, .string u, .string v] = false from heq] at h2
      cases h2

theorem qnew_ok : Snd Try.prog 79 qnewS := by
  refine snd_of Emlok Dok Try.func79 (enters_of Try.func79 (by kernel_rfl) rfl) (fun _ => rfl) (fun _ => rfl) ?_
  intro ⟨⟨b, s⟩, ⟨c, t⟩⟩ hp
  have hp : s.size ≤ 549755813888 ∧ t.size ≤ 549755813888 := hp
  obtain ⟨x, hx⟩ : ∃ x, x = IV.z (b, s) := ⟨_, rfl⟩
  obtain ⟨y, hy⟩ : ∃ y, y = IV.z (c, t) := ⟨_, rfl⟩
  obtain ⟨w, hw⟩ : ∃ w, w = Rat.divInt x y := ⟨_, rfl⟩
  have ec : cmpS.val ((c, t), (false, ⟨#[]⟩)) = .int .i64 (cmpZ y 0) := by rw [hy]; rfl
  have fin0 : y = 0 → ∀ v, v = encQ 0 → Value.tuple ⟨[v, .int .i64 10]⟩ = qnewS.val ((b, s), (c, t)) := fun h v hv => by
    show _ = quoV (IV.z (b, s)) (IV.z (c, t))
    rw [← hy, hv]; unfold quoV; rw [if_pos h, h, Rat.divInt_zero]
  have fin : y ≠ 0 → ∀ v, v = encQ w → Value.tuple ⟨[v, .int .i64 0]⟩ = qnewS.val ((b, s), (c, t)) := fun h v hv => by
    show _ = quoV (IV.z (b, s)) (IV.z (c, t))
    rw [← hx, ← hy, hv]; unfold quoV; rw [if_neg h, hw]
  conv => whnf
  refine ⟨((c, t), (false, ⟨#[]⟩)), rfl, ⟨hp.2, Nat.zero_le _⟩, ?_⟩
  rw [ec]
  rcases Int.lt_trichotomy y 0 with h | h | h
  · rw [cmpZ_lt h]
    obtain ⟨B, m, hE⟩ := EI.mk' (-x)
    obtain ⟨k, hF⟩ := EI.nonneg (show 0 ≤ -y by omega)
    have hm : m.size ≤ 549755813888 := by rw [hE.size, Int.natAbs_neg, hx]; exact nby_z hp.1
    have hk : k.size ≤ 549755813888 := by rw [hF.size, Int.natAbs_neg, hy]; exact nby_z hp.2
    conv => whnf
    refine .inl ⟨3, [[], [0], [], [0, 1, 2], [0, 1, 2, 3], [0, 1, 2, 3, 4]], by kernel_rfl, ?_⟩
    conv => whnf
    refine ⟨(b, s), rfl, hp.1, ?_⟩
    rw [show negS.val (b, s) = .agg ⟨[.bool B, .string m]⟩ from by show encI (-IV.z (b, s)) = _; rw [← hx, hE.enc]]
    conv => whnf
    refine ⟨(c, t), rfl, hp.2, ?_⟩
    rw [show negS.val (c, t) = .agg ⟨[.bool false, .string k]⟩ from by show encI (-IV.z (c, t)) = _; rw [← hy, hF.enc]]
    conv => whnf
    refine ⟨((B, m), (false, k)), rfl, ⟨hm, hk, by show 0 < IV.z (false, k); rw [hF.val]; omega⟩, ?_⟩
    rw [show numberS.val ((B, m), (false, k)) = (RV.of w).v from by
      rw [hw, divInt_negs h]
      show encQ (mkRat (IV.z (B, m)) (IV.z (false, k)).natAbs) = _
      rw [hE.val, hF.val]; rfl]
    conv => whnf
    exact fin (by omega) _ rfl
  · rw [h]
    conv => whnf
    exact fin0 h _ encQ0.symm
  · rw [cmpZ_gt h]
    conv => whnf
    refine ⟨((b, s), (c, t)), rfl, ⟨hp.1, hp.2, by show 0 < IV.z (c, t); omega⟩, ?_⟩
    rw [show numberS.val ((b, s), (c, t)) = (RV.of w).v from by
      rw [hw, divInt_pos h, hx, hy]; rfl]
    conv => whnf
    exact fin (by omega) _ rfl

end Go.Proofs.Ytppeponndkfbkaa
/- Contracts of the reference rationals: parts, lowest terms. -/
set_option linter.unusedVariables false
set_option linter.unusedSimpArgs false
set_option maxRecDepth 20000
set_option maxHeartbeats 1000000
namespace Go.Proofs.Ytppeponndkfbkaa
open Go Go.Ae

end Go.Proofs.Ytppeponndkfbkaa
/- Contracts of the reference rationals: the operations. -/
set_option linter.unusedVariables false
set_option linter.unusedSimpArgs false
set_option maxRecDepth 20000
set_option maxHeartbeats 1000000
namespace Go.Proofs.Ytppeponndkfbkaa
open Go Go.Ae

end Go.Proofs.Ytppeponndkfbkaa
/- Contracts of the reference rationals: sum, product, comparison. -/
set_option linter.unusedVariables false
set_option linter.unusedSimpArgs false
set_option maxRecDepth 20000
set_option maxHeartbeats 1000000
namespace Go.Proofs.Ytppeponndkfbkaa
open Go Go.Ae

end Go.Proofs.Ytppeponndkfbkaa
/- Contracts of vector and of the reference vectors: sums, products. -/
set_option linter.unusedVariables false
set_option linter.unusedSimpArgs false
set_option maxRecDepth 20000
set_option maxHeartbeats 1000000
namespace Go.Proofs.Ytppeponndkfbkaa
open Go Go.Ae

def Eva : Env := { tt := tt, eqs := [], Φ := fun g => match g with
  | 69 => some (.p qaddS)
  | 70 => some (.p qsubS)
  | 35 => some (.p qmulS)
  | _ => none }
theorem Evaok : EnvOk Try.prog Eva := ⟨tt_ok, fun t h => by simp [Eva] at h, (fun g S h => by
  simp only [Eva] at h
  split at h
  · cases h; exact qadd_ok
  · cases h; exact qsub_ok
  · cases h; exact qmul_ok
  · cases h), fun g F h => by simp [Eva] at h⟩

theorem each_ft : FTOk Try.prog 45 (fnK Eva drawT Try.f45) := by
  exact ft_of Evaok Dok Try.func45 (enters_of Try.func45 (by kernel_rfl) rfl)

def EvbW : FuncId → Option FT := fun g => match g with
  | 45 => some (fnK Eva drawT Try.f45)
  | _ => none
def Evb : Env := { tt := tt, eqs := [], Ψ := EvbW, Φ := fun g => match g with
  | 39 => some (.p qofS)
  | 69 => some (.p qaddS)
  | 70 => some (.p qsubS)
  | 16 => some (.p qcmpS)
  | 48 => some (.p qcheckS)
  | _ => none }
theorem Evbok : EnvOk Try.prog Evb := ⟨tt_ok, fun t h => by simp [Evb] at h, (fun g S h => by
  simp only [Evb] at h
  split at h
  · cases h; exact qof_ok
  · cases h; exact qadd_ok
  · cases h; exact qsub_ok
  · cases h; exact qcmp_ok
  · cases h; exact qcheck_ok
  · cases h), (fun g F h => by
  simp only [Evb, EvbW] at h
  split at h
  · cases h; exact each_ft
  · cases h)⟩
theorem vof_ok : Snd Try.prog 37 vofS := by
  refine snd_of Evbok Dok Try.func37 (enters_of Try.func37 (by kernel_rfl) rfl) (fun _ => rfl) (fun _ => rfl) ?_
  intro ⟨n, m⟩ hp
  have hp : ok1 n ∧ ok1 m := hp
  obtain ⟨x, hx⟩ : ∃ x : Rat, x = (n : Rat) := ⟨_, rfl⟩
  obtain ⟨y, hy⟩ : ∃ x : Rat, x = (m : Rat) := ⟨_, rfl⟩
  conv => whnf
  refine ⟨n, rfl, hp.1, ?_⟩
  rw [show qofS.val n = (RV.of x).v from by rw [hx]; rfl]
  conv => whnf
  refine ⟨m, rfl, hp.2, ?_⟩
  rw [show qofS.val m = (RV.of y).v from by rw [hy]; rfl]
  conv => whnf
  show PV.v (RV.of x, RV.of y) = encP _ _
  rw [hx, hy]
  rfl

theorem vadd_ok : Snd Try.prog 31 vaddS := by
  refine snd_of Evbok Dok Try.func31 (enters_of Try.func31 (by kernel_rfl) rfl) (fun _ => rfl) (fun _ => rfl) ?_
  intro ⟨p, q⟩ hp
  have hp : p.sz 8589934592 ∧ q.sz 8589934592 := hp
  obtain ⟨x, hx⟩ : ∃ x, x = p.1.q + q.1.q := ⟨_, rfl⟩
  obtain ⟨y, hy⟩ : ∃ x, x = p.2.q + q.2.q := ⟨_, rfl⟩
  conv => whnf
  refine .inl ⟨11, [[], [], [1], [], [3], [0, 1, 2, 3, 4], [], [], [7], [], [9], [0, 1, 2, 3, 4, 5, 6, 7, 8, 9, 10], [0, 1, 2, 3, 4, 5, 6, 7, 8, 9, 10, 11], [0, 1, 2, 3, 4, 5, 6, 7, 8, 9, 10, 11, 12]], by kernel_rfl, ?_⟩
  conv => whnf
  refine ⟨(p.1, q.1), rfl, ⟨hp.1.1, hp.2.1⟩, ?_⟩
  rw [show qaddS.val (p.1, q.1) = (RV.of x).v from by rw [hx]; rfl]
  conv => whnf
  refine ⟨(p.2, q.2), rfl, ⟨hp.1.2, hp.2.2⟩, ?_⟩
  rw [show qaddS.val (p.2, q.2) = (RV.of y).v from by rw [hy]; rfl]
  conv => whnf
  show PV.v (RV.of x, RV.of y) = encP _ _
  rw [hx, hy]
  rfl

theorem vsub_ok : Snd Try.prog 49 vsubS := by
  refine snd_of Evbok Dok Try.func49 (enters_of Try.func49 (by kernel_rfl) rfl) (fun _ => rfl) (fun _ => rfl) ?_
  intro ⟨p, q⟩ hp
  have hp : p.sz 8589934592 ∧ q.sz 8589934592 := hp
  obtain ⟨x, hx⟩ : ∃ x, x = p.1.q - q.1.q := ⟨_, rfl⟩
  obtain ⟨y, hy⟩ : ∃ x, x = p.2.q - q.2.q := ⟨_, rfl⟩
  conv => whnf
  refine .inl ⟨11, [[], [], [1], [], [3], [0, 1, 2, 3, 4], [], [], [7], [], [9], [0, 1, 2, 3, 4, 5, 6, 7, 8, 9, 10], [0, 1, 2, 3, 4, 5, 6, 7, 8, 9, 10, 11], [0, 1, 2, 3, 4, 5, 6, 7, 8, 9, 10, 11, 12]], by kernel_rfl, ?_⟩
  conv => whnf
  refine ⟨(p.1, q.1), rfl, ⟨hp.1.1, hp.2.1⟩, ?_⟩
  rw [show qsubS.val (p.1, q.1) = (RV.of x).v from by rw [hx]; rfl]
  conv => whnf
  refine ⟨(p.2, q.2), rfl, ⟨hp.1.2, hp.2.2⟩, ?_⟩
  rw [show qsubS.val (p.2, q.2) = (RV.of y).v from by rw [hy]; rfl]
  conv => whnf
  show PV.v (RV.of x, RV.of y) = encP _ _
  rw [hx, hy]
  rfl

theorem vscale_ok : Snd Try.prog 68 vscaleS := by
  refine snd_of Evbok Dok Try.func68 (enters_of Try.func68 (by kernel_rfl) rfl) (fun _ => rfl) (fun _ => rfl) ?_
  intro ⟨p, q⟩ hp
  have hp : p.sz 8589934592 ∧ q.sz 8589934592 := hp
  obtain ⟨x, hx⟩ : ∃ x, x = p.1.q * q.q := ⟨_, rfl⟩
  obtain ⟨y, hy⟩ : ∃ x, x = p.2.q * q.q := ⟨_, rfl⟩
  conv => whnf
  refine .inl ⟨11, [[], [], [1], [], [3], [0, 1, 2, 3, 4], [], [], [7], [], [9], [0, 1, 2, 3, 4, 5, 6, 7, 8, 9, 10], [0, 1, 2, 3, 4, 5, 6, 7, 8, 9, 10, 11], [0, 1, 2, 3, 4, 5, 6, 7, 8, 9, 10, 11, 12]], by kernel_rfl, ?_⟩
  conv => whnf
  refine ⟨(p.1, q), rfl, ⟨hp.1.1, hp.2⟩, ?_⟩
  rw [show qmulS.val (p.1, q) = (RV.of x).v from by rw [hx]; rfl]
  conv => whnf
  refine ⟨(p.2, q), rfl, ⟨hp.1.2, hp.2⟩, ?_⟩
  rw [show qmulS.val (p.2, q) = (RV.of y).v from by rw [hy]; rfl]
  conv => whnf
  show PV.v (RV.of x, RV.of y) = encP _ _
  rw [hx, hy]
  rfl

theorem vdot_ok : Snd Try.prog 40 vdotS := by
  refine snd_of Evbok Dok Try.func40 (enters_of Try.func40 (by kernel_rfl) rfl) (fun _ => rfl) (fun _ => rfl) ?_
  intro ⟨p, q⟩ hp
  have hp : p.sz 1073741824 ∧ q.sz 1073741824 := hp
  obtain ⟨x, hx⟩ : ∃ x, x = p.1.q * q.1.q := ⟨_, rfl⟩
  obtain ⟨y, hy⟩ : ∃ x, x = p.2.q * q.2.q := ⟨_, rfl⟩
  obtain ⟨z, hz⟩ : ∃ z, z = x + y := ⟨_, rfl⟩
  have sx : (RV.of x).ok := RV.sz_ok (RV.of_sz (by rw [hx]; exact (RV.qb' hp.1.1 (by decide)).mul (RV.qb' hp.2.1 (by decide)))) (by decide)
  have sy : (RV.of y).ok := RV.sz_ok (RV.of_sz (by rw [hy]; exact (RV.qb' hp.1.2 (by decide)).mul (RV.qb' hp.2.2 (by decide)))) (by decide)
  conv => whnf
  refine .inl ⟨11, [[], [], [1], [], [3], [0, 1, 2, 3, 4], [], [], [7], [], [9], [0, 1, 2, 3, 4, 5, 6, 7, 8, 9, 10], [0, 1, 2, 3, 4, 5, 6, 7, 8, 9, 10, 11], [0, 1, 2, 3, 4, 5, 6, 7, 8, 9, 10, 11, 12]], by kernel_rfl, ?_⟩
  conv => whnf
  refine ⟨(p.1, q.1), rfl, ⟨RV.sz_ok hp.1.1 (by decide), RV.sz_ok hp.2.1 (by decide)⟩, ?_⟩
  rw [show qmulS.val (p.1, q.1) = (RV.of x).v from by rw [hx]; rfl]
  conv => whnf
  refine ⟨(p.2, q.2), rfl, ⟨RV.sz_ok hp.1.2 (by decide), RV.sz_ok hp.2.2 (by decide)⟩, ?_⟩
  rw [show qmulS.val (p.2, q.2) = (RV.of y).v from by rw [hy]; rfl]
  conv => whnf
  refine ⟨(RV.of x, RV.of y), rfl, ⟨sx, sy⟩, ?_⟩
  rw [show qaddS.val (RV.of x, RV.of y) = (RV.of z).v from by
    show encQ ((RV.of x).q + (RV.of y).q) = _
    rw [RV.of_q, RV.of_q, hz]; rfl]
  conv => whnf
  show (RV.of z).v = encQ _
  rw [hz, hx, hy]
  rfl

theorem vcross_ok : Snd Try.prog 41 vcrossS := by
  refine snd_of Evbok Dok Try.func41 (enters_of Try.func41 (by kernel_rfl) rfl) (fun _ => rfl) (fun _ => rfl) ?_
  intro ⟨p, q⟩ hp
  have hp : p.sz 1073741824 ∧ q.sz 1073741824 := hp
  obtain ⟨x, hx⟩ : ∃ x, x = p.1.q * q.2.q := ⟨_, rfl⟩
  obtain ⟨y, hy⟩ : ∃ x, x = p.2.q * q.1.q := ⟨_, rfl⟩
  obtain ⟨z, hz⟩ : ∃ z, z = x - y := ⟨_, rfl⟩
  have sx : (RV.of x).ok := RV.sz_ok (RV.of_sz (by rw [hx]; exact (RV.qb' hp.1.1 (by decide)).mul (RV.qb' hp.2.2 (by decide)))) (by decide)
  have sy : (RV.of y).ok := RV.sz_ok (RV.of_sz (by rw [hy]; exact (RV.qb' hp.1.2 (by decide)).mul (RV.qb' hp.2.1 (by decide)))) (by decide)
  conv => whnf
  refine .inl ⟨11, [[], [], [1], [], [3], [0, 1, 2, 3, 4], [], [], [7], [], [9], [0, 1, 2, 3, 4, 5, 6, 7, 8, 9, 10], [0, 1, 2, 3, 4, 5, 6, 7, 8, 9, 10, 11], [0, 1, 2, 3, 4, 5, 6, 7, 8, 9, 10, 11, 12]], by kernel_rfl, ?_⟩
  conv => whnf
  refine ⟨(p.1, q.2), rfl, ⟨RV.sz_ok hp.1.1 (by decide), RV.sz_ok hp.2.2 (by decide)⟩, ?_⟩
  rw [show qmulS.val (p.1, q.2) = (RV.of x).v from by rw [hx]; rfl]
  conv => whnf
  refine ⟨(p.2, q.1), rfl, ⟨RV.sz_ok hp.1.2 (by decide), RV.sz_ok hp.2.1 (by decide)⟩, ?_⟩
  rw [show qmulS.val (p.2, q.1) = (RV.of y).v from by rw [hy]; rfl]
  conv => whnf
  refine ⟨(RV.of x, RV.of y), rfl, ⟨sx, sy⟩, ?_⟩
  rw [show qsubS.val (RV.of x, RV.of y) = (RV.of z).v from by
    show encQ ((RV.of x).q - (RV.of y).q) = _
    rw [RV.of_q, RV.of_q, hz]; rfl]
  conv => whnf
  show (RV.of z).v = encQ _
  rw [hz, hx, hy]
  rfl

theorem vcmp_ok : Snd Try.prog 20 vcmpS := by
  refine snd_of Evbok Dok Try.func20 (enters_of Try.func20 (by kernel_rfl) rfl) (fun _ => rfl) (fun _ => rfl) ?_
  intro ⟨p, q⟩ hp
  have hp : p.sz 8589934592 ∧ q.sz 8589934592 := hp
  obtain ⟨x, hx⟩ : ∃ x, x = cmpQ p.1.q q.1.q := ⟨_, rfl⟩
  obtain ⟨y, hy⟩ : ∃ x, x = cmpQ p.2.q q.2.q := ⟨_, rfl⟩
  have fin : ∀ z : Int, z = (if x ≠ 0 then x else y) → Value.int .i64 z = vcmpS.val (p, q) := fun z h => by rw [h, hx, hy]; rfl
  conv => whnf
  refine ⟨(p.1, q.1), rfl, ⟨hp.1.1, hp.2.1⟩, ?_⟩
  rw [show qcmpS.val (p.1, q.1) = .int .i64 x from by rw [hx]; rfl]
  conv => whnf
  refine br_intro (fun h => ?_) (fun h => ?_)
  · have h : x ≠ 0 := by
      intro e
      subst e
      simp at h
    conv => whnf
    exact fin _ (if_pos h).symm
  · have h : x = 0 := by simpa using h
    conv => whnf
    refine ⟨(p.2, q.2), rfl, ⟨hp.1.2, hp.2.2⟩, ?_⟩
    rw [show qcmpS.val (p.2, q.2) = .int .i64 y from by rw [hy]; rfl]
    conv => whnf
    exact fin _ (if_neg (fun e => e h)).symm

end Go.Proofs.Ytppeponndkfbkaa
/- Contracts of vector and of the reference vectors: checks, extremes. -/
set_option linter.unusedVariables false
set_option linter.unusedSimpArgs false
set_option maxRecDepth 20000
set_option maxHeartbeats 1000000
namespace Go.Proofs.Ytppeponndkfbkaa
open Go Go.Ae

theorem vcheck_ok : Snd Try.prog 14 vcheckS := by
  refine snd_of Evbok Dok Try.func14 (enters_of Try.func14 (by kernel_rfl) rfl) (fun _ => rfl) (fun _ => rfl) ?_
  intro (p : PV) hp
  have hp : p.sz 8589934592 := hp
  have fin0 : p.1 = RV.of p.1.q → p.2 = RV.of p.2.q → Value.int .i64 0 = vcheckS.val p := fun h1 h2 => by
    show _ = Value.int .i64 (if p.canon then 0 else 1)
    rw [if_pos ⟨h1, h2⟩]
  have fin1 : ¬ p.canon → Value.int .i64 1 = vcheckS.val p := fun h => by
    show _ = Value.int .i64 (if p.canon then 0 else 1)
    rw [if_neg h]
  conv => whnf
  refine .inr ⟨3, ?_⟩
  conv => whnf
  refine ⟨⟨by decide, by decide⟩, ?_⟩
  conv => whnf
  refine ⟨p.1, rfl, hp.1, ?_⟩
  by_cases h1 : p.1 = RV.of p.1.q
  · rw [show qcheckS.val p.1 = .int .i64 0 from by show Value.int .i64 (if p.1 = RV.of p.1.q then 0 else 1) = _; rw [if_pos h1]]
    conv => whnf
    refine ⟨⟨by decide, by decide⟩, ?_⟩
    conv => whnf
    refine ⟨p.2, rfl, hp.2, ?_⟩
    by_cases h2 : p.2 = RV.of p.2.q
    · rw [show qcheckS.val p.2 = .int .i64 0 from by show Value.int .i64 (if p.2 = RV.of p.2.q then 0 else 1) = _; rw [if_pos h2]]
      conv => whnf
      exact fin0 h1 h2
    · rw [show qcheckS.val p.2 = .int .i64 1 from by show Value.int .i64 (if p.2 = RV.of p.2.q then 0 else 1) = _; rw [if_neg h2]]
      conv => whnf
      exact fin1 (fun h => h2 h.2)
  · rw [show qcheckS.val p.1 = .int .i64 1 from by show Value.int .i64 (if p.1 = RV.of p.1.q then 0 else 1) = _; rw [if_neg h1]]
    conv => whnf
    exact fin1 (fun h => h1 h.1)

def Evf : Env := { tt := tt, eqs := [], Φ := fun g => match g with
  | 49 => some (.p vsubS)
  | 68 => some (.p vscaleS)
  | 31 => some (.p vaddS)
  | 40 => some (.p vdotS)
  | _ => none }
theorem Evfok : EnvOk Try.prog Evf := ⟨tt_ok, fun t h => by simp [Evf] at h, (fun g S h => by
  simp only [Evf] at h
  split at h
  · cases h; exact vsub_ok
  · cases h; exact vscale_ok
  · cases h; exact vadd_ok
  · cases h; exact vdot_ok
  · cases h), fun g F h => by simp [Evf] at h⟩
theorem vat_ok : Snd Try.prog 42 vatS := by
  refine snd_of Evfok Dok Try.func42 (enters_of Try.func42 (by kernel_rfl) rfl) (fun _ => rfl) (fun _ => rfl) ?_
  intro ⟨⟨p, q⟩, t⟩ hp
  have hp : (p.sz 268435456 ∧ q.sz 268435456) ∧ t.sz 268435456 := hp
  obtain ⟨⟨hp, hq⟩, ht⟩ := hp
  obtain ⟨x, hx⟩ : ∃ x, x = q.1.q - p.1.q := ⟨_, rfl⟩
  obtain ⟨y, hy⟩ : ∃ x, x = q.2.q - p.2.q := ⟨_, rfl⟩
  obtain ⟨x2, hx2⟩ : ∃ z, z = x * t.q := ⟨_, rfl⟩
  obtain ⟨y2, hy2⟩ : ∃ z, z = y * t.q := ⟨_, rfl⟩
  obtain ⟨x3, hx3⟩ : ∃ z, z = p.1.q + x2 := ⟨_, rfl⟩
  obtain ⟨y3, hy3⟩ : ∃ z, z = p.2.q + y2 := ⟨_, rfl⟩
  have bx : QB x 536870913 := by rw [hx]; exact (RV.qb' hq.1 (by decide)).sub (RV.qb' hp.1 (by decide))
  have byy : QB y 536870913 := by rw [hy]; exact (RV.qb' hq.2 (by decide)).sub (RV.qb' hp.2 (by decide))
  have bx2 : QB x2 805306369 := by rw [hx2]; exact bx.mul (RV.qb' ht (by decide))
  have by2 : QB y2 805306369 := by rw [hy2]; exact byy.mul (RV.qb' ht (by decide))
  conv => whnf
  refine .inl ⟨6, [[], [], [], [1, 2], [], [1, 2, 3, 4], [0, 1, 2, 3, 4, 5], [0, 1, 2, 3, 4, 5, 6]], by kernel_rfl, ?_⟩
  conv => whnf
  refine ⟨(q, p), rfl, ⟨PV.sz_mono hq (by decide), PV.sz_mono hp (by decide)⟩, ?_⟩
  rw [show vsubS.val (q, p) = PV.v (RV.of x, RV.of y) from by rw [hx, hy]; rfl]
  conv => whnf
  refine ⟨((RV.of x, RV.of y), t), rfl, ⟨⟨RV.of_sz (bx.mono (by decide)), RV.of_sz (byy.mono (by decide))⟩, RV.sz_mono ht (by decide)⟩, ?_⟩
  rw [show vscaleS.val ((RV.of x, RV.of y), t) = PV.v (RV.of x2, RV.of y2) from by
    show encP ((RV.of x).q * t.q) ((RV.of y).q * t.q) = _
    rw [RV.of_q, RV.of_q, ← hx2, ← hy2]; rfl]
  conv => whnf
  refine ⟨(p, (RV.of x2, RV.of y2)), rfl, ⟨PV.sz_mono hp (by decide), RV.of_sz (bx2.mono (by decide)), RV.of_sz (by2.mono (by decide))⟩, ?_⟩
  rw [show vaddS.val (p, (RV.of x2, RV.of y2)) = PV.v (RV.of x3, RV.of y3) from by
    show encP (p.1.q + (RV.of x2).q) (p.2.q + (RV.of y2).q) = _
    rw [RV.of_q, RV.of_q, ← hx3, ← hy3]; rfl]
  conv => whnf
  show PV.v (RV.of x3, RV.of y3) = encP _ _
  rw [hx3, hy3, hx2, hy2, hx, hy]
  rfl

theorem vdist_ok : Snd Try.prog 30 vdistS := by
  refine snd_of Evfok Dok Try.func30 (enters_of Try.func30 (by kernel_rfl) rfl) (fun _ => rfl) (fun _ => rfl) ?_
  intro ⟨p, q⟩ hp
  have hp : p.sz 268435456 ∧ q.sz 268435456 := hp
  obtain ⟨hp, hq⟩ := hp
  have bx : QB (p.1.q - q.1.q) 536870913 := (RV.qb' hp.1 (by decide)).sub (RV.qb' hq.1 (by decide))
  have byy : QB (p.2.q - q.2.q) 536870913 := (RV.qb' hp.2 (by decide)).sub (RV.qb' hq.2 (by decide))
  have hds : (diffP p q).sz 1073741824 := ⟨RV.of_sz (bx.mono (by decide)), RV.of_sz (byy.mono (by decide))⟩
  have ed : vsubS.val (p, q) = (diffP p q).v := rfl
  have fin : ∀ v, v = vdotS.val (diffP p q, diffP p q) → v = vdistS.val (p, q) := fun v h => h
  obtain ⟨d, hd⟩ : ∃ d, d = diffP p q := ⟨_, rfl⟩
  rw [← hd] at hds ed fin
  obtain ⟨z, hz⟩ : ∃ z, z = dotQ d d := ⟨_, rfl⟩
  have ez : vdotS.val (d, d) = (RV.of z).v := by rw [hz]; rfl
  rw [ez] at fin
  conv => whnf
  refine ⟨(p, q), rfl, ⟨PV.sz_mono hp (by decide), PV.sz_mono hq (by decide)⟩, ?_⟩
  rw [ed]
  conv => whnf
  refine ⟨(d, d), rfl, ⟨hds, hds⟩, ?_⟩
  rw [ez]
  conv => whnf
  exact fin _ rfl

end Go.Proofs.Ytppeponndkfbkaa
/- Contracts of rational: quotients of rationals. -/
set_option linter.unusedVariables false
set_option linter.unusedSimpArgs false
set_option maxRecDepth 20000
set_option maxHeartbeats 1000000
namespace Go.Proofs.Ytppeponndkfbkaa
open Go Go.Ae

def Emn : Env := { tt := tt, eqs := [], Φ := fun g => match g with
  | 81 => some (.p ofRS)
  | 55 => some (.p mulS)
  | 79 => some (.p qnewS)
  | _ => none }
theorem Emnok : EnvOk Try.prog Emn := ⟨tt_ok, fun t h => by simp [Emn] at h, (fun g S h => by
  simp only [Emn] at h
  split at h
  · cases h; exact ofR_ok
  · cases h; exact mul_ok
  · cases h; exact qnew_ok
  · cases h), fun g F h => by simp [Emn] at h⟩
theorem qquo_ok : Snd Try.prog 72 qquoS := by
  refine snd_of Emnok Dok Try.func72 (enters_of Try.func72 (by kernel_rfl) rfl) (fun _ => rfl) (fun _ => rfl) ?_
  intro ⟨⟨b, s, t⟩, ⟨b', s', t'⟩⟩ hp
  have hp : RV.ok (b, s, t) ∧ RV.ok (b', s', t') := hp
  obtain ⟨x, hx⟩ : ∃ x, x = RV.den (b, s, t) := ⟨_, rfl⟩
  obtain ⟨y, hy⟩ : ∃ x, x = RV.den (b', s', t') := ⟨_, rfl⟩
  have f1 := RV.fracOk hp.1
  have f2 := RV.fracOk hp.2
  have g1 := RV.den_z (b, s, t)
  have g2 := RV.den_z (b', s', t')
  rw [← hx] at f1 g1
  rw [← hy] at f2 g2
  have hq := quo_q (b, s, t) (b', s', t')
  obtain ⟨B1, m1, h1⟩ := EI.mk' (IV.z (b, s) * IV.z (false, y))
  obtain ⟨B2, m2, h2⟩ := EI.mk' (IV.z (false, x) * IV.z (b', s'))
  have z1 := h1.mul_size (nby_z f1.1.1) (nby_z f2.1.2)
  have z2 := h2.mul_size (nby_z f1.1.2) (nby_z f2.1.1)
  obtain ⟨w, hw⟩ : ∃ w, w = RV.q (b, s, t) / RV.q (b', s', t') := ⟨_, rfl⟩
  obtain ⟨e, he⟩ : ∃ e : Int, e = if RV.q (b', s', t') = 0 then 10 else 0 := ⟨_, rfl⟩
  have hN : qnewS.val ((B1, m1), (B2, m2)) = .tuple ⟨[(RV.of w).v, .int .i64 e]⟩ := by
    show quoV (IV.z (B1, m1)) (IV.z (B2, m2)) = _
    rw [h1.val, h2.val, g1, g2, hw, he]
    exact hq
  conv => whnf
  refine .inl ⟨6, [[], [0], [], [0, 1, 2], [], [], [0, 1, 2, 3, 4, 5], [0, 1, 2, 3, 4, 5, 6]], by kernel_rfl, ?_⟩
  conv => whnf
  refine ⟨(b, s, t), rfl, by have := hp.1.2; show t.size ≤ _; exact Nat.le_trans this (by decide), ?_⟩
  rw [show ofRS.val (b, s, t) = .agg ⟨[.bool b, .string s, .bool false, .string x]⟩ from by rw [hx]; rfl]
  conv => whnf
  refine ⟨(b', s', t'), rfl, by have := hp.2.2; show t'.size ≤ _; exact Nat.le_trans this (by decide), ?_⟩
  rw [show ofRS.val (b', s', t') = .agg ⟨[.bool b', .string s', .bool false, .string y]⟩ from by rw [hy]; rfl]
  conv => whnf
  refine .inl ⟨13, [[], [0], [], [2], [0, 1, 2, 3], [], [5], [], [7], [0, 1, 2, 3, 4, 5, 6, 7, 8], [0, 1, 2, 3, 4, 5, 6, 7, 8, 9], [0, 1, 2, 3, 4, 5, 6, 7, 8, 9, 10], [0, 1, 2, 3, 4, 5, 6, 7, 8, 9, 10], [0, 1, 2, 3, 4, 5, 6, 7, 8, 9, 10, 11, 12], [0, 1, 2, 3, 4, 5, 6, 7, 8, 9, 10, 11, 12, 13]], by kernel_rfl, ?_⟩
  conv => whnf
  refine ⟨((b, s), (false, y)), rfl, ⟨Nat.le_trans f1.1.1 (by decide), Nat.le_trans f2.1.2 (by decide)⟩, ?_⟩
  rw [show mulS.val ((b, s), (false, y)) = .agg ⟨[.bool B1, .string m1]⟩ from h1.enc]
  conv => whnf
  refine ⟨((false, x), (b', s')), rfl, ⟨Nat.le_trans f1.1.2 (by decide), Nat.le_trans f2.1.1 (by decide)⟩, ?_⟩
  rw [show mulS.val ((false, x), (b', s')) = .agg ⟨[.bool B2, .string m2]⟩ from h2.enc]
  conv => whnf
  refine ⟨((B1, m1), (B2, m2)), rfl, ⟨by show m1.size ≤ _; omega, by show m2.size ≤ _; omega⟩, ?_⟩
  rw [hN]
  conv => whnf
  show Value.tuple ⟨[(RV.of w).v, .int .i64 e]⟩ = Value.tuple ⟨[encQ _, .int .i64 _]⟩
  rw [hw, he]
  rfl
end Go.Proofs.Ytppeponndkfbkaa
/- Contracts of line. -/
set_option linter.unusedVariables false
set_option linter.unusedSimpArgs false
set_option maxRecDepth 20000
set_option maxHeartbeats 1000000
namespace Go.Proofs.Ytppeponndkfbkaa
open Go Go.Ae

def Ela : Env := { tt := tt, eqs := [], Φ := fun g => match g with
  | 31 => some (.p vaddS)
  | 49 => some (.p vsubS)
  | 37 => some (.p vofS)
  | 40 => some (.p vdotS)
  | 41 => some (.p vcrossS)
  | 20 => some (.p vcmpS)
  | 68 => some (.p vscaleS)
  | 61 => some (.p qnegS)
  | 70 => some (.p qsubS)
  | 72 => some (.p qquoS)
  | 50 => some (.p qsignS)
  | 39 => some (.p qofS)
  | _ => none }
theorem Elaok : EnvOk Try.prog Ela := ⟨tt_ok, fun t h => by simp [Ela] at h, (fun g S h => by
  simp only [Ela] at h
  split at h
  · cases h; exact vadd_ok
  · cases h; exact vsub_ok
  · cases h; exact vof_ok
  · cases h; exact vdot_ok
  · cases h; exact vcross_ok
  · cases h; exact vcmp_ok
  · cases h; exact vscale_ok
  · cases h; exact qneg_ok
  · cases h; exact qsub_ok
  · cases h; exact qquo_ok
  · cases h; exact qsign_ok
  · cases h; exact qof_ok
  · cases h), fun g F h => by simp [Ela] at h⟩
theorem normal_ok : Snd Try.prog 71 normalS := by
  refine snd_of Elaok Dok Try.func71 (enters_of Try.func71 (by kernel_rfl) rfl) (fun _ => rfl) (fun _ => rfl) ?_
  intro l hp
  conv => whnf
  rfl
theorem along_ok : Snd Try.prog 60 alongS := by
  refine snd_of Elaok Dok Try.func60 (enters_of Try.func60 (by kernel_rfl) rfl) (fun _ => rfl) (fun _ => rfl) ?_
  intro ⟨n, p⟩ hp
  have hp : n.sz 67108864 ∧ p.sz 67108864 := hp
  obtain ⟨sn, sp⟩ := hp
  have qn := PV.psz sn (by decide)
  have qp := PV.psz sp (by decide)
  conv => whnf
  refine .inl ⟨2, [[], [], [0, 1], [0, 1, 2]], by kernel_rfl, ?_⟩
  conv => whnf
  obtain ⟨z, cz, ez, pz, sz, qz⟩ := hidePc (ofsz (0) (0) (by decide) (by decide))
  refine ⟨(((0 : Int), (0 : Int)) : Int × Int), rfl, ⟨⟨by decide, by decide⟩, ⟨by decide, by decide⟩⟩, ?_⟩
  rw [show vofS.val (((0 : Int), (0 : Int)) : Int × Int) = z.v from ez]
  conv => whnf
  obtain ⟨a, ea, pa, sa, qa⟩ := hideP (add_sz qn qz)
  refine ⟨(n, z), rfl, ⟨PV.sz_mono sn (by decide), PV.sz_mono sz (by decide)⟩, ?_⟩
  rw [show vaddS.val (n, z) = a.v from ea]
  conv => whnf
  refine .inl ⟨7, [[], [0], [], [2], [], [], [4, 5], [0, 1, 2, 3, 4, 5, 6], [0, 1, 2, 3, 4, 5, 6, 7]], by kernel_rfl, ?_⟩
  conv => whnf
  obtain ⟨d, ed, pd, sd, qd⟩ := hideR (dot_sz qa qp)
  refine ⟨(a, p), rfl, ⟨PV.sz_mono sa (by decide), PV.sz_mono sp (by decide)⟩, ?_⟩
  rw [show vdotS.val (a, p) = d.v from ed]
  conv => whnf
  have ha := (PV.v_eq ea).symm
  have hd := (RV.v_eq ed).symm
  rw [addz _ _ pz] at ha pa
  rw [pa] at hd
  show R3.v (a.1, a.2, d) = (linV (n.p.1, n.p.2, dotR n.p p.p)).v
  rw [ha, hd]
  rfl
def Elb : Env := { tt := tt, eqs := [], Φ := fun g => match g with
  | 60 => some (.p alongS)
  | 71 => some (.p normalS)
  | 31 => some (.p vaddS)
  | 49 => some (.p vsubS)
  | 40 => some (.p vdotS)
  | 41 => some (.p vcrossS)
  | 20 => some (.p vcmpS)
  | 68 => some (.p vscaleS)
  | 61 => some (.p qnegS)
  | 70 => some (.p qsubS)
  | 72 => some (.p qquoS)
  | 50 => some (.p qsignS)
  | 39 => some (.p qofS)
  | _ => none }
theorem Elbok : EnvOk Try.prog Elb := ⟨tt_ok, fun t h => by simp [Elb] at h, (fun g S h => by
  simp only [Elb] at h
  split at h
  · cases h; exact along_ok
  · cases h; exact normal_ok
  · cases h; exact vadd_ok
  · cases h; exact vsub_ok
  · cases h; exact vdot_ok
  · cases h; exact vcross_ok
  · cases h; exact vcmp_ok
  · cases h; exact vscale_ok
  · cases h; exact qneg_ok
  · cases h; exact qsub_ok
  · cases h; exact qquo_ok
  · cases h; exact qsign_ok
  · cases h; exact qof_ok
  · cases h), fun g F h => by simp [Elb] at h⟩
theorem lcheck_ok : Snd Try.prog 22 lcheckS := by
  refine snd_of Elbok Dok Try.func22 (enters_of Try.func22 (by kernel_rfl) rfl) (fun _ => rfl) (fun _ => rfl) ?_
  intro ⟨a, b, c⟩ hp
  have hp : RV.sz 1048576 a ∧ RV.sz 1048576 b ∧ RV.sz 1048576 c := hp
  obtain ⟨sa, sb, sc⟩ := hp
  have fin : ∀ z : Int, z = chkV (R3.q (a, b, c)) → Value.int .i64 z = lcheckS.val (a, b, c) := fun z h => by rw [h]; rfl
  conv => whnf
  obtain ⟨m, em, pm⟩ := hideZ (cmpQ a.q 0)
  refine ⟨a, rfl, RV.sz_ok sa (by decide), ?_⟩
  rw [show qsignS.val a = .int .i64 m from em]
  conv => whnf
  by_cases h : m = 0
  · have h1 : a.q = 0 := cmpQ_zero.1 (by rw [← pm]; exact h)
    subst h
    conv => whnf
    obtain ⟨n, en, pn⟩ := hideZ (cmpQ b.q 0)
    refine ⟨b, rfl, RV.sz_ok sb (by decide), ?_⟩
    rw [show qsignS.val b = .int .i64 n from en]
    conv => whnf
    by_cases h2 : n = 0
    · have h3 : b.q = 0 := cmpQ_zero.1 (by rw [← pn]; exact h2)
      subst h2
      conv => whnf
      exact fin _ (if_pos ⟨h1, h3⟩).symm
    · rw [show (n == 0) = false from by simp [h2]]
      conv => whnf
      exact fin _ (if_neg (fun e => h2 (by rw [pn]; exact cmpQ_eq e.2))).symm
  · rw [show (m == 0) = false from by simp [h]]
    conv => whnf
    exact fin _ (if_neg (fun e => h (by rw [pm]; exact cmpQ_eq e.1))).symm
theorem through_ok : Snd Try.prog 19 throughS := by
  refine snd_of Elbok Dok Try.func19 (enters_of Try.func19 (by kernel_rfl) rfl) (fun _ => rfl) (fun _ => rfl) ?_
  intro ⟨p, q⟩ hp
  have hp : p.sz 1048576 ∧ q.sz 1048576 := hp
  obtain ⟨sp, sq⟩ := hp
  have qp := PV.psz sp (by decide)
  have qq := PV.psz sq (by decide)
  have fin : ∀ (x : R3) (z : Int), thrV p.p q.p = (x, z) → Value.tuple ⟨[x.v, .int .i64 z]⟩ = throughS.val (p, q) := fun x z h => by
    show _ = LE.v (thrV p.p q.p)
    rw [h]; rfl
  conv => whnf
  obtain ⟨m, em, pm⟩ := hideZ (cmpR p.p q.p)
  refine ⟨(p, q), rfl, ⟨PV.sz_mono sp (by decide), PV.sz_mono sq (by decide)⟩, ?_⟩
  rw [show vcmpS.val (p, q) = .int .i64 m from em]
  conv => whnf
  refine br_intro (fun h => ?_) (fun h => ?_)
  · have h : m = 0 := by simpa using h
    conv => whnf
    exact fin zeroL 12 (if_pos (by rw [← pm]; exact h))
  · have h : m ≠ 0 := by intro e; subst e; simp at h
    conv => whnf
    obtain ⟨d, ed, pd, sd, qd⟩ := hideP (sub_sz qq qp)
    refine ⟨(q, p), rfl, ⟨PV.sz_mono sq (by decide), PV.sz_mono sp (by decide)⟩, ?_⟩
    rw [show vsubS.val (q, p) = d.v from ed]
    conv => whnf
    obtain ⟨x, y⟩ := d
    have sx := sd.1
    have sy := sd.2
    have qx : QB x.q _ := qd.1
    have qy : QB y.q _ := qd.2
    refine .inl ⟨7, [[], [0], [0, 1], [], [3], [0, 1, 2, 3, 4], [], [0, 1, 2, 3, 4, 5, 6], [0, 1, 2, 3, 4, 5, 6, 7], [0, 1, 2, 3, 4, 5, 6, 7, 8]], by kernel_rfl, ?_⟩
    conv => whnf
    obtain ⟨w, ew, pw, sw, qw⟩ := hideR (QB.neg qy)
    refine ⟨y, rfl, RV.sz_ok sy (by decide), ?_⟩
    rw [show qnegS.val y = w.v from ew]
    conv => whnf
    obtain ⟨l, el, pl, sl, ql⟩ := hideL (along_sz (mkQ qw qx) qp)
    refine ⟨((w, x), p), rfl, ⟨PV.sz_mono (mkP sw sx) (by decide), PV.sz_mono sp (by decide)⟩, ?_⟩
    rw [show alongS.val ((w, x), p) = l.v from el]
    conv => whnf
    have hw := (RV.v_eq ew).symm
    refine fin l 0 ?_
    have hl : l = linV (w.q, x.q, dotR (w.q, x.q) p.p) := (R3.v_eq el).symm
    unfold thrV
    rw [if_neg (by rw [← pm]; exact h), hl]
    congr 2
    have h1 : x.q = q.p.1 - p.p.1 := congrArg Prod.fst pd
    have h2 : y.q = q.p.2 - p.p.2 := congrArg Prod.snd pd
    rw [pw, h1, h2]
    unfold thrR dotR
    ext <;> dsimp only <;> grind
def Elc : Env := { tt := tt, eqs := [], Φ := fun g => match g with
  | 22 => some (.p lcheckS)
  | 60 => some (.p alongS)
  | 71 => some (.p normalS)
  | 31 => some (.p vaddS)
  | 49 => some (.p vsubS)
  | 40 => some (.p vdotS)
  | 41 => some (.p vcrossS)
  | 20 => some (.p vcmpS)
  | 68 => some (.p vscaleS)
  | 61 => some (.p qnegS)
  | 70 => some (.p qsubS)
  | 72 => some (.p qquoS)
  | 50 => some (.p qsignS)
  | 39 => some (.p qofS)
  | _ => none }
theorem Elcok : EnvOk Try.prog Elc := ⟨tt_ok, fun t h => by simp [Elc] at h, (fun g S h => by
  simp only [Elc] at h
  split at h
  · cases h; exact lcheck_ok
  · cases h; exact along_ok
  · cases h; exact normal_ok
  · cases h; exact vadd_ok
  · cases h; exact vsub_ok
  · cases h; exact vdot_ok
  · cases h; exact vcross_ok
  · cases h; exact vcmp_ok
  · cases h; exact vscale_ok
  · cases h; exact qneg_ok
  · cases h; exact qsub_ok
  · cases h; exact qquo_ok
  · cases h; exact qsign_ok
  · cases h; exact qof_ok
  · cases h), fun g F h => by simp [Elc] at h⟩
theorem bisect_ok : Snd Try.prog 32 bisectS := by
  refine snd_of Elcok Dok Try.func32 (enters_of Try.func32 (by kernel_rfl) rfl) (fun _ => rfl) (fun _ => rfl) ?_
  intro ⟨p, q⟩ hp
  have hp : p.sz 1048576 ∧ q.sz 1048576 := hp
  obtain ⟨sp, sq⟩ := hp
  have qp := PV.psz sp (by decide)
  have qq := PV.psz sq (by decide)
  have fin : ∀ (x : R3) (z : Int), bisV p.p q.p = (x, z) → Value.tuple ⟨[x.v, .int .i64 z]⟩ = bisectS.val (p, q) := fun x z h => by
    show _ = LE.v (bisV p.p q.p)
    rw [h]; rfl
  conv => whnf
  obtain ⟨m, em, pm⟩ := hideZ (cmpR p.p q.p)
  refine ⟨(p, q), rfl, ⟨PV.sz_mono sp (by decide), PV.sz_mono sq (by decide)⟩, ?_⟩
  rw [show vcmpS.val (p, q) = .int .i64 m from em]
  conv => whnf
  refine br_intro (fun h => ?_) (fun h => ?_)
  · have h : m = 0 := by simpa using h
    conv => whnf
    exact fin zeroL 12 (if_pos (by rw [← pm]; exact h))
  · have h : m ≠ 0 := by intro e; subst e; simp at h
    conv => whnf
    obtain ⟨d, ed, pd, sd, qd⟩ := hideP (sub_sz qq qp)
    refine ⟨(q, p), rfl, ⟨PV.sz_mono sq (by decide), PV.sz_mono sp (by decide)⟩, ?_⟩
    rw [show vsubS.val (q, p) = d.v from ed]
    conv => whnf
    obtain ⟨t, et, pt, st, qt⟩ := hideR (q := ((2 : Int) : Rat)) (QB.of_int (n := 2) (k := 1) (nby_le (show Int.natAbs 2 < C ^ 1 by decide)) (by decide))
    refine ⟨(2 : Int), rfl, ⟨by decide, by decide⟩, ?_⟩
    rw [show qofS.val (2 : Int) = t.v from et]
    conv => whnf
    obtain ⟨n, en, pn, sn, qn⟩ := hideP (scale_sz qd qt)
    refine ⟨(d, t), rfl, ⟨PV.sz_mono sd (by decide), RV.sz_mono st (by decide)⟩, ?_⟩
    rw [show vscaleS.val (d, t) = n.v from en]
    conv => whnf
    have hn := (PV.v_eq en).symm
    refine .inl ⟨11, [[], [0], [], [2], [], [], [4, 5], [], [], [4, 5, 6, 7, 8], [4, 5, 6, 7, 8, 9], [0, 1, 2, 3, 4, 5, 6, 7, 8, 9, 10], [0, 1, 2, 3, 4, 5, 6, 7, 8, 9, 10, 11], [0, 1, 2, 3, 4, 5, 6, 7, 8, 9, 10, 11, 12]], by kernel_rfl, ?_⟩
    conv => whnf
    obtain ⟨a, ea, pa, sa, qa⟩ := hideR (dot_sz qq qq)
    refine ⟨(q, q), rfl, ⟨PV.sz_mono sq (by decide), PV.sz_mono sq (by decide)⟩, ?_⟩
    rw [show vdotS.val (q, q) = a.v from ea]
    conv => whnf
    obtain ⟨b, eb, pb, sb, qb⟩ := hideR (dot_sz qp qp)
    refine ⟨(p, p), rfl, ⟨PV.sz_mono sp (by decide), PV.sz_mono sp (by decide)⟩, ?_⟩
    rw [show vdotS.val (p, p) = b.v from eb]
    conv => whnf
    obtain ⟨c, ec, pc, sc, qc⟩ := hideR (QB.sub qa qb)
    refine ⟨(a, b), rfl, ⟨RV.sz_ok sa (by decide), RV.sz_ok sb (by decide)⟩, ?_⟩
    rw [show qsubS.val (a, b) = c.v from ec]
    conv => whnf
    have hc := (RV.v_eq ec).symm
    refine fin (n.1, n.2, c) 0 ?_
    unfold bisV
    rw [if_neg (by rw [← pm]; exact h), hn, hc, pa, pb, pd, pt]
    congr 2
theorem meet_ok : Snd Try.prog 33 meetS := by
  refine snd_of Elcok Dok Try.func33 (enters_of Try.func33 (by kernel_rfl) rfl) (fun _ => rfl) (fun _ => rfl) ?_
  intro ⟨l, m⟩ hp
  have hp : l.sz 1048576 ∧ m.sz 1048576 := hp
  obtain ⟨sl, sm⟩ := hp
  have ql := R3.qsz sl (by decide)
  have qm := R3.qsz sm (by decide)
  have fin : ∀ (x : PV) (z : Int), metV l.q m.q = (x, z) → Value.tuple ⟨[x.v, .int .i64 z]⟩ = meetS.val (l, m) := fun x z h => by
    show _ = PE.v (metV l.q m.q)
    rw [h]; rfl
  conv => whnf
  obtain ⟨c, ec, pc⟩ := hideZ (chkV l.q)
  refine ⟨l, rfl, R3.sz_mono sl (by decide), ?_⟩
  rw [show lcheckS.val l = .int .i64 c from ec]
  conv => whnf
  by_cases h : c = 0
  · have h1 : isL l.q := fun e => by rw [pc] at h; exact absurd ((if_pos e).symm.trans h) (by decide)
    subst h
    conv => whnf
    obtain ⟨c2, ec2, pc2⟩ := hideZ (chkV m.q)
    refine ⟨m, rfl, R3.sz_mono sm (by decide), ?_⟩
    rw [show lcheckS.val m = .int .i64 c2 from ec2]
    conv => whnf
    by_cases h2 : c2 = 0
    · have h3 : isL m.q := fun e => by rw [pc2] at h2; exact absurd ((if_pos e).symm.trans h2) (by decide)
      subst h2
      conv => whnf
      refine .inl ⟨6, [[], [0], [], [0, 1, 2], [0, 1, 2, 3], [], [0, 1, 2, 3, 4, 5]], by kernel_rfl, ?_⟩
      conv => whnf
      obtain ⟨n1, en1, pn1, sn1, qn1⟩ := hideN sl ql
      refine ⟨l, rfl, trivial, ?_⟩
      rw [show normalS.val l = n1.v from en1]
      conv => whnf
      obtain ⟨n2, en2, pn2, sn2, qn2⟩ := hideN sm qm
      refine ⟨m, rfl, trivial, ?_⟩
      rw [show normalS.val m = n2.v from en2]
      conv => whnf
      obtain ⟨d, ed, pd, sd, qd⟩ := hideR (cross_sz qn1 qn2)
      refine ⟨(n1, n2), rfl, ⟨PV.sz_mono sn1 (by decide), PV.sz_mono sn2 (by decide)⟩, ?_⟩
      rw [show vcrossS.val (n1, n2) = d.v from ed]
      conv => whnf
      have hd : d.q = detR l.q m.q := by rw [pd, pn1, pn2]; rfl
      obtain ⟨a, b, r⟩ := l
      obtain ⟨a', b', r'⟩ := m
      have sa := sl.1
      have sb := sl.2.1
      have sr := sl.2.2
      have sa' := sm.1
      have sb' := sm.2.1
      have sr' := sm.2.2
      have qa : QB a.q _ := ql.1
      have qb : QB b.q _ := ql.2.1
      have qr : QB r.q _ := ql.2.2
      have qa' : QB a'.q _ := qm.1
      have qb' : QB b'.q _ := qm.2.1
      have qr' : QB r'.q _ := qm.2.2
      refine .inr (.inr ⟨17, 1, [[], [0], [], [2], [0, 1, 2, 3], [], [5], [], [7], [5, 6, 7, 8], [0, 1, 2, 3, 4, 5, 6, 7, 8, 9], [], [0, 1, 2, 3, 4, 5, 6, 7, 8, 9, 10, 11], [0, 1, 2, 3, 4, 5, 6, 7, 8, 9, 10, 11, 12], [0, 1, 2, 3, 4, 5, 6, 7, 8, 9, 10, 11, 12, 13], [0, 1, 2, 3, 4, 5, 6, 7, 8, 9, 10, 11, 12, 13], [], [0, 1, 2, 3, 4, 5, 6, 7, 8, 9, 10, 11, 12, 13, 14, 16], [0, 1, 2, 3, 4, 5, 6, 7, 8, 9, 10, 11, 12, 13, 14, 15, 16, 17]], [15], by kernel_rfl, ?_⟩)
      conv => whnf
      obtain ⟨x1, ex1, px1, sx1, qx1⟩ := hideR (cross_sz (mkQ qr qb) (mkQ qr' qb'))
      refine ⟨((r, b), (r', b')), rfl, ⟨PV.sz_mono (mkP sr sb) (by decide), PV.sz_mono (mkP sr' sb') (by decide)⟩, ?_⟩
      rw [show vcrossS.val ((r, b), (r', b')) = x1.v from ex1]
      conv => whnf
      obtain ⟨x, ex, px, sx, qx⟩ := hideR (QB.div qx1 qd (by decide))
      obtain ⟨e, ee, pe⟩ := hideZ (if d.q = 0 then 10 else 0)
      refine ⟨(x1, d), rfl, ⟨RV.sz_ok sx1 (by decide), RV.sz_ok sd (by decide)⟩, ?_⟩
      rw [show qquoS.val (x1, d) = .tuple ⟨[x.v, .int .i64 e]⟩ from by rw [← ex, ← ee]; rfl]
      conv => whnf
      by_cases h4 : d.q = 0
      · rw [if_pos h4] at pe
        subst pe
        conv => whnf
        refine fin zeroP 24 ?_
        unfold metV
        rw [if_pos ⟨h1, h3⟩, if_pos (by rw [← hd]; exact h4)]
      · rw [if_neg h4] at pe
        subst pe
        conv => whnf
        refine .inr (.inr ⟨17, 1, [[], [0], [], [2], [0, 1, 2, 3], [], [5], [], [7], [5, 6, 7, 8], [0, 1, 2, 3, 4, 5, 6, 7, 8, 9], [], [0, 1, 2, 3, 4, 5, 6, 7, 8, 9, 10, 11], [0, 1, 2, 3, 4, 5, 6, 7, 8, 9, 10, 11, 12], [0, 1, 2, 3, 4, 5, 6, 7, 8, 9, 10, 11, 12, 13], [0, 1, 2, 3, 4, 5, 6, 7, 8, 9, 10, 11, 12, 13], [], [0, 1, 2, 3, 4, 5, 6, 7, 8, 9, 10, 11, 12, 13, 14, 16], [0, 1, 2, 3, 4, 5, 6, 7, 8, 9, 10, 11, 12, 13, 14, 15, 16, 17]], [15], by kernel_rfl, ?_⟩)
        conv => whnf
        obtain ⟨y1, ey1, py1, sy1, qy1⟩ := hideR (cross_sz (mkQ qa qr) (mkQ qa' qr'))
        refine ⟨((a, r), (a', r')), rfl, ⟨PV.sz_mono (mkP sa sr) (by decide), PV.sz_mono (mkP sa' sr') (by decide)⟩, ?_⟩
        rw [show vcrossS.val ((a, r), (a', r')) = y1.v from ey1]
        conv => whnf
        obtain ⟨y, ey, py, sy, qy⟩ := hideR (QB.div qy1 qd (by decide))
        obtain ⟨e2, ee2, pe2⟩ := hideZ (if d.q = 0 then 10 else 0)
        refine ⟨(y1, d), rfl, ⟨RV.sz_ok sy1 (by decide), RV.sz_ok sd (by decide)⟩, ?_⟩
        rw [show qquoS.val (y1, d) = .tuple ⟨[y.v, .int .i64 e2]⟩ from by rw [← ey, ← ee2]; rfl]
        conv => whnf
        refine fin (x, y) 0 ?_
        have hx := (RV.v_eq ex).symm
        have hy := (RV.v_eq ey).symm
        unfold metV
        rw [if_pos ⟨h1, h3⟩, if_neg (by rw [← hd]; exact h4), hx, hy, px1, py1, hd]
        rfl
    · rw [show (c2 != 0) = true from by simp [h2]]
      conv => whnf
      exact fin zeroP 1 (if_neg (fun e => h2 (by rw [pc2]; exact if_neg e.2)))
  · rw [show (c != 0) = true from by simp [h]]
    conv => whnf
    exact fin zeroP 1 (if_neg (fun e => h (by rw [pc]; exact if_neg e.1)))
theorem value_ok : QSnd Try.prog 90 lvalS := by
  refine qsnd_of Elcok Dok Try.func90 (enters_of Try.func90 (by kernel_rfl) rfl) ?_ ?_ ?_
  · intro i b hb; simp [lvalS] at hb; rw [hb]; rfl
  · intro i b hb; simp [lvalS] at hb
  intro ⟨l, p⟩ hp
  have hp : l.sz 1048576 ∧ p.sz 1048576 := hp
  obtain ⟨sl, sp⟩ := hp
  have ql := R3.qsz sl (by decide)
  have qp := PV.psz sp (by decide)
  unfold qRes
  rw [show lvalS.blks (l, p) = [.flat false 1 9 (fun _ => l.cells)] from rfl, show lvalS.args (l, p) = [p.v, .pointer (some ⟨0, 0, none⟩)] from rfl, show lvalS.new (l, p) = none from rfl]
  conv => whnf
  refine .inl ⟨6, [[], [0], [], [0, 1, 2], [], [4], [0, 1, 2, 3, 4, 5], [0, 1, 2, 3, 4, 5, 6]], by kernel_rfl, ?_⟩
  conv => whnf
  refine ⟨by decide, ?_⟩
  conv => whnf
  obtain ⟨n, en, pn, sn, qn⟩ := hideN sl ql
  refine ⟨l, rfl, trivial, ?_⟩
  rw [show normalS.val l = n.v from en]
  conv => whnf
  obtain ⟨d, ed, pd, sd, qd⟩ := hideR (dot_sz qn qp)
  refine ⟨(n, p), rfl, ⟨PV.sz_mono sn (by decide), PV.sz_mono sp (by decide)⟩, ?_⟩
  rw [show vdotS.val (n, p) = d.v from ed]
  conv => whnf
  refine ⟨by decide, ?_⟩
  obtain ⟨a, b, r⟩ := l
  have sr := sl.2.2
  have qr : QB r.q _ := ql.2.2
  conv => whnf
  obtain ⟨v, ev, pv, sv, qv⟩ := hideR (QB.sub qd qr)
  refine ⟨(d, r), rfl, ⟨RV.sz_ok sd (by decide), RV.sz_ok sr (by decide)⟩, ?_⟩
  rw [show qsubS.val (d, r) = v.v from ev]
  conv => whnf
  refine ⟨v.v, ?_, .refl _⟩
  rw [show lvalS.val ((a, b, r), p) = v.v from by
    show (RV.of (valR (R3.q (a, b, r)) p.p)).v = _
    rw [← ev, pd, pn]; rfl]
  rfl
def Eld0 : Env := { tt := tt, eqs := [], Φ := fun g => match g with
  | 39 => some (.p qofS)
  | _ => none }
theorem Eld0ok : EnvOk Try.prog Eld0 := ⟨tt_ok, fun t h => by simp [Eld0] at h, (fun g S h => by
  simp only [Eld0] at h
  split at h
  · cases h; exact qof_ok
  · cases h), fun g F h => by simp [Eld0] at h⟩
theorem lvalue_ok : QSnd Try.prog 62 (lvalueS 90) := by
  refine qsnd_of Eld0ok Dok Try.func62 (enters_of Try.func62 (by kernel_rfl) rfl) ?_ ?_ ?_
  · intro i b hb; simp [lvalueS] at hb
  · intro i b hb; simp [lvalueS] at hb; rw [← hb]; rfl
  intro l hp
  unfold qRes
  rw [show (lvalueS 90).new l = some (.flat true 1 9 (fun _ => l.cells)) from rfl]
  conv => whnf
  refine ⟨0, ?_⟩
  conv => whnf
  exact ⟨⟨rfl, line_blk l⟩, _, rfl, .refl _⟩
def Elv : Env := { tt := tt, eqs := [], Φ := fun g => match g with
  | 62 => some (.q (lvalueS 90))
  | 90 => some (.q lvalS)
  | 22 => some (.p lcheckS)
  | 60 => some (.p alongS)
  | 71 => some (.p normalS)
  | 31 => some (.p vaddS)
  | 40 => some (.p vdotS)
  | 68 => some (.p vscaleS)
  | 61 => some (.p qnegS)
  | 72 => some (.p qquoS)
  | 50 => some (.p qsignS)
  | 39 => some (.p qofS)
  | _ => none }
theorem Elvok : EnvOk Try.prog Elv := ⟨tt_ok, fun t h => by simp [Elv] at h, (fun g S h => by
  simp only [Elv] at h
  split at h
  · cases h; exact lvalue_ok
  · cases h; exact value_ok
  · cases h; exact lcheck_ok
  · cases h; exact along_ok
  · cases h; exact normal_ok
  · cases h; exact vadd_ok
  · cases h; exact vdot_ok
  · cases h; exact vscale_ok
  · cases h; exact qneg_ok
  · cases h; exact qquo_ok
  · cases h; exact qsign_ok
  · cases h; exact qof_ok
  · cases h), fun g F h => by simp [Elv] at h⟩
theorem side_ok : Snd Try.prog 21 sideS := by
  refine snd_of Elvok Dok Try.func21 (enters_of Try.func21 (by kernel_rfl) rfl) (fun _ => rfl) (fun _ => rfl) ?_
  intro ⟨l, p⟩ hp
  have hp : l.sz 1048576 ∧ p.sz 1048576 := hp
  obtain ⟨sl, sp⟩ := hp
  have ql := R3.qsz sl (by decide)
  have qp := PV.psz sp (by decide)
  have fin : ∀ (x z : Int), sidV l.q p.p = (x, z) → Value.tuple ⟨[.int .i64 x, .int .i64 z]⟩ = sideS.val (l, p) := fun x z h => by
    show _ = ZE.v (sidV l.q p.p)
    rw [h]; rfl
  conv => whnf
  obtain ⟨c, ec, pc⟩ := hideZ (chkV l.q)
  refine ⟨l, rfl, R3.sz_mono sl (by decide), ?_⟩
  rw [show lcheckS.val l = .int .i64 c from ec]
  conv => whnf
  by_cases h : c = 0
  · have h1 : isL l.q := fun e => by rw [pc] at h; exact absurd ((if_pos e).symm.trans h) (by decide)
    subst h
    conv => whnf
    refine .inl ⟨3, [[], [0], [], [0, 1, 2], [0, 1, 2, 3], [0, 1, 2, 3, 4], [0, 1, 2, 3, 4, 5]], by kernel_rfl, ?_⟩
    conv => whnf
    refine ⟨l, [], rfl, trivial, ?_⟩
    rw [show (lvalueS 90).new l = some (.flat true 1 9 (fun _ => R3.cells l)) from rfl]
    conv => whnf
    refine ⟨_, rfl, ?_⟩
    conv => whnf
    obtain ⟨v, ev, pv, sv, qv⟩ := hideR (val_sz ql qp)
    refine ⟨(l, p), [3], rfl, ⟨R3.sz_mono sl (by decide), PV.sz_mono sp (by decide)⟩, ?_⟩
    rw [show lvalS.blks (l, p) = [.flat false 1 9 (fun _ => R3.cells l)] from rfl, show lvalS.val (l, p) = v.v from ev, show lvalS.new (l, p) = none from rfl]
    conv => whnf
    refine ⟨line_blk2 l, ?_⟩
    conv => whnf
    refine ⟨_, rfl, ?_⟩
    conv => whnf
    obtain ⟨z, ez, pz⟩ := hideZ (cmpQ v.q 0)
    refine ⟨v, rfl, RV.sz_ok sv (by decide), ?_⟩
    rw [show qsignS.val v = .int .i64 z from ez]
    conv => whnf
    refine fin z 0 ?_
    unfold sidV
    rw [if_pos h1, pz, pv]
  · rw [show (c != 0) = true from by simp [h]]
    conv => whnf
    exact fin 0 1 (if_neg (fun e => h (by rw [pc]; exact if_neg e)))
theorem parallel_ok : Snd Try.prog 34 parallelS := by
  refine snd_of Elvok Dok Try.func34 (enters_of Try.func34 (by kernel_rfl) rfl) (fun _ => rfl) (fun _ => rfl) ?_
  intro ⟨l, p⟩ hp
  have hp : l.sz 1048576 ∧ p.sz 1048576 := hp
  obtain ⟨sl, sp⟩ := hp
  have ql := R3.qsz sl (by decide)
  have qp := PV.psz sp (by decide)
  have fin : ∀ (x : R3) (z : Int), parV l.q p.p = (x, z) → Value.tuple ⟨[x.v, .int .i64 z]⟩ = parallelS.val (l, p) := fun x z h => by
    show _ = LE.v (parV l.q p.p)
    rw [h]; rfl
  conv => whnf
  obtain ⟨c, ec, pc⟩ := hideZ (chkV l.q)
  refine ⟨l, rfl, R3.sz_mono sl (by decide), ?_⟩
  rw [show lcheckS.val l = .int .i64 c from ec]
  conv => whnf
  by_cases h : c = 0
  · have h1 : isL l.q := fun e => by rw [pc] at h; exact absurd ((if_pos e).symm.trans h) (by decide)
    subst h
    conv => whnf
    refine .inl ⟨3, [[], [0], [], [0, 1, 2], [0, 1, 2, 3], [0, 1, 2, 3, 4]], by kernel_rfl, ?_⟩
    conv => whnf
    obtain ⟨n, en, pn, sn, qn⟩ := hideN sl ql
    refine ⟨l, rfl, trivial, ?_⟩
    rw [show normalS.val l = n.v from en]
    conv => whnf
    obtain ⟨x, ex, px, sx, qx⟩ := hideL (along_sz qn qp)
    refine ⟨(n, p), rfl, ⟨PV.sz_mono sn (by decide), PV.sz_mono sp (by decide)⟩, ?_⟩
    rw [show alongS.val (n, p) = x.v from ex]
    conv => whnf
    refine fin x 0 ?_
    have hx := (R3.v_eq ex).symm
    unfold parV
    rw [if_pos h1, hx, pn]
    rfl
  · rw [show (c != 0) = true from by simp [h]]
    conv => whnf
    exact fin zeroL 1 (if_neg (fun e => h (by rw [pc]; exact if_neg e)))
theorem step_ok : Snd Try.prog 67 stepS := by
  refine snd_of Elvok Dok Try.func67 (enters_of Try.func67 (by kernel_rfl) rfl) (fun _ => rfl) (fun _ => rfl) ?_
  intro ⟨l, p⟩ hp
  have hp : l.sz 1048576 ∧ p.sz 1048576 ∧ isL l.q := hp
  obtain ⟨sl, sp, h1⟩ := hp
  have ql := R3.qsz sl (by decide)
  have qp := PV.psz sp (by decide)
  conv => whnf
  obtain ⟨n, en, pn, sn, qn⟩ := hideN sl ql
  refine ⟨l, rfl, trivial, ?_⟩
  rw [show normalS.val l = n.v from en]
  conv => whnf
  refine .inr (.inr ⟨12, 1, [[], [0], [], [0, 1, 2], [], [], [0, 1, 2, 3, 4, 5], [0, 1, 2, 3, 4, 5, 6], [0, 1, 2, 3, 4, 5, 6, 7], [0, 1, 2, 3, 4, 5, 6, 7, 8], [0, 1, 2, 3, 4, 5, 6, 7, 8], [], [0, 1, 2, 3, 4, 5, 6, 7, 8, 9, 11], [0, 1, 2, 3, 4, 5, 6, 7, 8, 9, 10, 11, 12]], [10], by kernel_rfl, ?_⟩)
  conv => whnf
  refine ⟨l, [], rfl, trivial, ?_⟩
  rw [show (lvalueS 90).new l = some (.flat true 1 9 (fun _ => R3.cells l)) from rfl]
  conv => whnf
  refine ⟨_, rfl, ?_⟩
  conv => whnf
  obtain ⟨v, ev, pv, sv, qv⟩ := hideR (val_sz ql qp)
  refine ⟨(l, p), [5], rfl, ⟨R3.sz_mono sl (by decide), PV.sz_mono sp (by decide)⟩, ?_⟩
  rw [show lvalS.blks (l, p) = [.flat false 1 9 (fun _ => R3.cells l)] from rfl, show lvalS.val (l, p) = v.v from ev, show lvalS.new (l, p) = none from rfl]
  conv => whnf
  refine ⟨line_blk2 l, ?_⟩
  conv => whnf
  refine ⟨_, rfl, ?_⟩
  conv => whnf
  obtain ⟨d, ed, pd, sd, qd⟩ := hideR (dot_sz qn qn)
  refine ⟨(n, n), rfl, ⟨PV.sz_mono sn (by decide), PV.sz_mono sn (by decide)⟩, ?_⟩
  rw [show vdotS.val (n, n) = d.v from ed]
  conv => whnf
  obtain ⟨k, ek, pk, sk, qk⟩ := hideR (QB.div qv qd (by decide))
  obtain ⟨e, ee, pe⟩ := hideZ (if d.q = 0 then 10 else 0)
  refine ⟨(v, d), rfl, ⟨RV.sz_ok sv (by decide), RV.sz_ok sd (by decide)⟩, ?_⟩
  rw [show qquoS.val (v, d) = .tuple ⟨[k.v, .int .i64 e]⟩ from by rw [← ek, ← ee]; rfl]
  conv => whnf
  refine .inl ⟨3, [[], [], [1], [0, 1, 2], [0, 1, 2, 3]], by kernel_rfl, ?_⟩
  conv => whnf
  obtain ⟨j, ej, pj, sj, qj⟩ := hideR (QB.neg qk)
  refine ⟨k, rfl, RV.sz_ok sk (by decide), ?_⟩
  rw [show qnegS.val k = j.v from ej]
  conv => whnf
  obtain ⟨w, ew, pw, sw, qw⟩ := hideP (scale_sz qn qj)
  refine ⟨(n, j), rfl, ⟨PV.sz_mono sn (by decide), RV.sz_mono sj (by decide)⟩, ?_⟩
  rw [show vscaleS.val (n, j) = w.v from ew]
  conv => whnf
  have hw := (PV.v_eq ew).symm
  show w.v = (ptV (scR (-(valR l.q p.p / dotR (nrm l.q) (nrm l.q))) (nrm l.q))).v
  rw [hw, pj, pk, pv, pd, pn]
def Els : Env := { tt := tt, eqs := [], Φ := fun g => match g with
  | 67 => some (.p stepS)
  | 22 => some (.p lcheckS)
  | 31 => some (.p vaddS)
  | 68 => some (.p vscaleS)
  | 39 => some (.p qofS)
  | _ => none }
theorem Elsok : EnvOk Try.prog Els := ⟨tt_ok, fun t h => by simp [Els] at h, (fun g S h => by
  simp only [Els] at h
  split at h
  · cases h; exact step_ok
  · cases h; exact lcheck_ok
  · cases h; exact vadd_ok
  · cases h; exact vscale_ok
  · cases h; exact qof_ok
  · cases h), fun g F h => by simp [Els] at h⟩
theorem foot_ok : Snd Try.prog 28 (footS 1) := by
  refine snd_of Elsok Dok Try.func28 (enters_of Try.func28 (by kernel_rfl) rfl) (fun _ => rfl) (fun _ => rfl) ?_
  intro ⟨l, p⟩ hp
  have hp : l.sz 1048576 ∧ p.sz 1048576 := hp
  obtain ⟨sl, sp⟩ := hp
  have ql := R3.qsz sl (by decide)
  have qp := PV.psz sp (by decide)
  have fin : ∀ (x : PV) (z : Int), footV 1 l.q p.p = (x, z) → Value.tuple ⟨[x.v, .int .i64 z]⟩ = (footS 1).val (l, p) := fun x z h => by
    show _ = PE.v (footV 1 l.q p.p)
    rw [h]; rfl
  conv => whnf
  obtain ⟨c, ec, pc⟩ := hideZ (chkV l.q)
  refine ⟨l, rfl, R3.sz_mono sl (by decide), ?_⟩
  rw [show lcheckS.val l = .int .i64 c from ec]
  conv => whnf
  by_cases h : c = 0
  · have h1 : isL l.q := fun e => by rw [pc] at h; exact absurd ((if_pos e).symm.trans h) (by decide)
    subst h
    conv => whnf
    refine .inl ⟨4, [[], [], [], [1, 2], [0, 1, 2, 3], [0, 1, 2, 3, 4], [0, 1, 2, 3, 4, 5]], by kernel_rfl, ?_⟩
    conv => whnf
    obtain ⟨s, es, ps, ss, qs⟩ := hideP (step_sz ql qp)
    refine ⟨(l, p), rfl, ⟨R3.sz_mono sl (by decide), PV.sz_mono sp (by decide), h1⟩, ?_⟩
    rw [show stepS.val (l, p) = s.v from es]
    conv => whnf
    obtain ⟨x, ex, px, sx, qx⟩ := hideP (add_sz qp qs)
    refine ⟨(p, s), rfl, ⟨PV.sz_mono sp (by decide), PV.sz_mono ss (by decide)⟩, ?_⟩
    rw [show vaddS.val (p, s) = x.v from ex]
    conv => whnf
    refine fin x 0 ?_
    have hx := (PV.v_eq ex).symm
    unfold footV
    rw [if_pos h1, hx, ps, foot_step]
  · rw [show (c != 0) = true from by simp [h]]
    conv => whnf
    exact fin zeroP 1 (if_neg (fun e => h (by rw [pc]; exact if_neg e)))
theorem mirror_ok : Snd Try.prog 29 (footS 2) := by
  refine snd_of Elsok Dok Try.func29 (enters_of Try.func29 (by kernel_rfl) rfl) (fun _ => rfl) (fun _ => rfl) ?_
  intro ⟨l, p⟩ hp
  have hp : l.sz 1048576 ∧ p.sz 1048576 := hp
  obtain ⟨sl, sp⟩ := hp
  have ql := R3.qsz sl (by decide)
  have qp := PV.psz sp (by decide)
  have fin : ∀ (x : PV) (z : Int), footV 2 l.q p.p = (x, z) → Value.tuple ⟨[x.v, .int .i64 z]⟩ = (footS 2).val (l, p) := fun x z h => by
    show _ = PE.v (footV 2 l.q p.p)
    rw [h]; rfl
  conv => whnf
  obtain ⟨c, ec, pc⟩ := hideZ (chkV l.q)
  refine ⟨l, rfl, R3.sz_mono sl (by decide), ?_⟩
  rw [show lcheckS.val l = .int .i64 c from ec]
  conv => whnf
  by_cases h : c = 0
  · have h1 : isL l.q := fun e => by rw [pc] at h; exact absurd ((if_pos e).symm.trans h) (by decide)
    subst h
    conv => whnf
    refine .inl ⟨6, [[], [], [], [1, 2], [1, 2, 3], [1, 2, 3, 4], [0, 1, 2, 3, 4, 5], [0, 1, 2, 3, 4, 5, 6], [0, 1, 2, 3, 4, 5, 6, 7]], by kernel_rfl, ?_⟩
    conv => whnf
    obtain ⟨s, es, ps, ss, qs⟩ := hideP (step_sz ql qp)
    refine ⟨(l, p), rfl, ⟨R3.sz_mono sl (by decide), PV.sz_mono sp (by decide), h1⟩, ?_⟩
    rw [show stepS.val (l, p) = s.v from es]
    conv => whnf
    obtain ⟨t, et, pt, st, qt⟩ := hideR (q := ((2 : Int) : Rat)) (QB.of_int (n := 2) (k := 1) (nby_le (show Int.natAbs 2 < C ^ 1 by decide)) (by decide))
    refine ⟨(2 : Int), rfl, ⟨by decide, by decide⟩, ?_⟩
    rw [show qofS.val (2 : Int) = t.v from et]
    conv => whnf
    obtain ⟨w, ew, pw, sw, qw⟩ := hideP (scale_sz qs qt)
    refine ⟨(s, t), rfl, ⟨PV.sz_mono ss (by decide), RV.sz_mono st (by decide)⟩, ?_⟩
    rw [show vscaleS.val (s, t) = w.v from ew]
    conv => whnf
    obtain ⟨x, ex, px, sx, qx⟩ := hideP (add_sz qp qw)
    refine ⟨(p, w), rfl, ⟨PV.sz_mono sp (by decide), PV.sz_mono sw (by decide)⟩, ?_⟩
    rw [show vaddS.val (p, w) = x.v from ex]
    conv => whnf
    refine fin x 0 ?_
    have hx := (PV.v_eq ex).symm
    unfold footV
    rw [if_pos h1, hx, pw, ps, pt, mirror_step]
  · rw [show (c != 0) = true from by simp [h]]
    conv => whnf
    exact fin zeroP 1 (if_neg (fun e => h (by rw [pc]; exact if_neg e)))
end Go.Proofs.Ytppeponndkfbkaa
/- Contracts of vector and of the reference vectors: lists. -/
set_option linter.unusedVariables false
set_option linter.unusedSimpArgs false
set_option maxRecDepth 20000
set_option maxHeartbeats 1000000
namespace Go.Proofs.Ytppeponndkfbkaa
open Go Go.Ae

end Go.Proofs.Ytppeponndkfbkaa
/- Contracts of vector and of the reference vectors: square distance, boxes. -/
set_option linter.unusedVariables false
set_option linter.unusedSimpArgs false
set_option maxRecDepth 20000
set_option maxHeartbeats 1000000
namespace Go.Proofs.Ytppeponndkfbkaa
open Go Go.Ae

end Go.Proofs.Ytppeponndkfbkaa
/- Contracts of predicate: orientations. -/
set_option linter.unusedVariables false
set_option linter.unusedSimpArgs false
set_option maxRecDepth 20000
set_option maxHeartbeats 1000000
namespace Go.Proofs.Ytppeponndkfbkaa
open Go Go.Ae

def Epa : Env := { tt := tt, eqs := [], Φ := fun g => match g with
  | 49 => some (.p vsubS)
  | 41 => some (.p vcrossS)
  | 40 => some (.p vdotS)
  | 50 => some (.p qsignS)
  | 35 => some (.p qmulS)
  | 70 => some (.p qsubS)
  | 69 => some (.p qaddS)
  | _ => none }
theorem Epaok : EnvOk Try.prog Epa := ⟨tt_ok, fun t h => by simp [Epa] at h, (fun g S h => by
  simp only [Epa] at h
  split at h
  · cases h; exact vsub_ok
  · cases h; exact vcross_ok
  · cases h; exact vdot_ok
  · cases h; exact qsign_ok
  · cases h; exact qmul_ok
  · cases h; exact qsub_ok
  · cases h; exact qadd_ok
  · cases h), fun g F h => by simp [Epa] at h⟩

theorem orient_ok : Snd Try.prog 23 orientS := by
  refine snd_of Epaok Dok Try.func23 (enters_of Try.func23 (by kernel_rfl) rfl) (fun _ => rfl) (fun _ => rfl) ?_
  intro ⟨a, b, c⟩ hp
  obtain ⟨sa, sb, sc⟩ : a.sz 1048576 ∧ b.sz 1048576 ∧ c.sz 1048576 := hp
  have pa : Q2.sz 1048576 a.p := PV.psz sa (by decide)
  have pb : Q2.sz 1048576 b.p := PV.psz sb (by decide)
  have pc : Q2.sz 1048576 c.p := PV.psz sc (by decide)
  obtain ⟨w, hw⟩ : ∃ w, w = orR a.p b.p c.p := ⟨_, rfl⟩
  obtain ⟨u, hu⟩ : ∃ u, u = ptV (subR b.p a.p) := ⟨_, rfl⟩
  obtain ⟨v, hv⟩ : ∃ v, v = ptV (subR c.p a.p) := ⟨_, rfl⟩
  have su : u.sz 1073741824 := by rw [hu]; exact ptV_sz (sub_sz pb pa) (by decide)
  have sv : v.sz 1073741824 := by rw [hv]; exact ptV_sz (sub_sz pc pa) (by decide)
  have sw : (RV.of w).ok := by rw [hw]; exact of_okL (cross_sz (sub_sz pb pa) (sub_sz pc pa)) (by decide)
  conv => whnf
  refine .inl ⟨5, [[], [], [0, 1], [], [], [0, 1, 2, 3, 4], [0, 1, 2, 3, 4, 5], [0, 1, 2, 3, 4, 5, 6], [0, 1, 2, 3, 4, 5, 6, 7]], by kernel_rfl, ?_⟩
  conv => whnf
  refine ⟨(b, a), rfl, ⟨PV.sz_mono sb (by decide), PV.sz_mono sa (by decide)⟩, ?_⟩
  rw [show vsubS.val (b, a) = u.v from by rw [sub_val, hu]]
  conv => whnf
  refine ⟨(c, a), rfl, ⟨PV.sz_mono sc (by decide), PV.sz_mono sa (by decide)⟩, ?_⟩
  rw [show vsubS.val (c, a) = v.v from by rw [sub_val, hv]]
  conv => whnf
  refine ⟨(u, v), rfl, ⟨su, sv⟩, ?_⟩
  rw [show vcrossS.val (u, v) = (RV.of w).v from by rw [cross_val, hu, hv, ptV_p, ptV_p, hw]; rfl]
  conv => whnf
  refine ⟨RV.of w, rfl, sw, ?_⟩
  rw [sign_val, RV.of_q]
  conv => whnf
  show Value.int .i64 _ = Value.int .i64 _
  rw [hw]
end Go.Proofs.Ytppeponndkfbkaa
/- slices.Clone of points. -/
set_option linter.unusedVariables false
set_option linter.unusedSimpArgs false
set_option maxRecDepth 20000
set_option maxHeartbeats 4000000
namespace Go.Proofs.Ytppeponndkfbkaa
open Go Go.Ae

def Eld : Env := { tt := tt, eqs := [], Φ := fun g => match g with
  | 14 => some (.p vcheckS)
  | _ => none }
theorem Eldok : EnvOk Try.prog Eld := ⟨tt_ok, fun t h => by simp [Eld] at h, (fun g S h => by
  simp only [Eld] at h
  split at h
  · cases h; exact vcheck_ok
  · cases h), fun g F h => by simp [Eld] at h⟩
theorem clone_ok : QSnd Try.prog 12 cloneS := by
  refine qsnd_of Eldok Dok Try.func12 (enters_of Try.func12 (by kernel_rfl) rfl) ?_ ?_ ?_
  · intro i b hb
    cases i with
    | none => simp [cloneS, PL.blks] at hb
    | some i => simp [cloneS, PL.blks] at hb; rw [hb]; rfl
  · intro i b hb
    cases i with
    | none => simp [cloneS] at hb
    | some i => simp [cloneS] at hb; rw [← hb]; rfl
  intro i hp
  cases i with
  | none =>
    conv => whnf
    exact ⟨_, rfl, .refl _⟩
  | some i =>
    obtain ⟨l, c⟩ := i
    have hp : l.length ≤ 1099511627776 := hp
    obtain ⟨n, hn⟩ : ∃ n, n = l.length := ⟨_, rfl⟩
    obtain ⟨g, hg⟩ : ∃ g, g = rowsP l := ⟨_, rfl⟩
    have hs : ∀ r, r < n → allS (g r) = true := fun r hr => by rw [hg]; rfl
    rw [← hn] at hp
    unfold qRes
    rw [show cloneS.new (some (l, c)) = some (.flat true n 6 g) from by rw [hn, hg]; rfl, show cloneS.val (some (l, c)) = .slice (some ⟨1, 0, none⟩) n capU from by rw [hn]; rfl, show cloneS.blks (some (l, c)) = [.flat false n 6 g] from by rw [hn, hg]; rfl, show cloneS.args (some (l, c)) = [.slice (some ⟨0, 0, none⟩) n c] from by rw [hn]; rfl]
    clear hg hn
    conv => whnf
    refine ⟨by omega, ?_⟩
    conv => whnf
    refine br_intro (fun h => ?_) (fun h => ?_)
    · have h : n ≤ 0 := by
        have := Nat.le_of_ble_eq_true h
        have : 0 + n ≤ 0 := this
        omega
      obtain rfl : n = 0 := by omega
      refine ⟨rfl, ?_⟩
      conv => whnf
      refine ⟨1, ?_⟩
      conv => whnf
      exact ⟨⟨rfl, BlkLe.flat_rows (fun h => h) (fun r hr => absurd hr (Nat.not_lt_zero r)) (fun r hr => absurd hr (Nat.not_lt_zero r))⟩, .slice (some ⟨2 - 1, 0, none⟩) 0 capU, rfl, .cap _ _ _ rfl⟩
    · refine ⟨⟨Nat.le_refl _, Nat.le_trans (Nat.mul_le_mul_right _ (show 0 + n ≤ 1099511627776 by omega)) (by decide)⟩, ?_⟩
      conv => whnf
      rw [show (0 + (Src.fl n fun j => g (rowAdd 0 j)).m) = n from Nat.zero_add n, show 0 + n = n from Nat.zero_add n]
      refine ⟨2, ?_⟩
      conv => whnf
      exact ⟨⟨rfl, BlkLe.flat_rows (fun h => h) (fun r hr => by rw [appGet_hi (Nat.zero_le _)]; simp [rowAdd_eq]) hs⟩, _, rfl, .refl _⟩
end Go.Proofs.Ytppeponndkfbkaa
/- Contracts of line: needless points. -/
set_option linter.unusedVariables false
set_option linter.unusedSimpArgs false
set_option maxRecDepth 20000
set_option maxHeartbeats 4000000
namespace Go.Proofs.Ytppeponndkfbkaa
open Go Go.Ae

def Eg0 : Env := { tt := tt, eqs := [], Φ := fun g => match g with
  | 39 => some (.p qofS)
  | _ => none }
theorem Eg0ok : EnvOk Try.prog Eg0 := ⟨tt_ok, fun t h => by simp [Eg0] at h, (fun g S h => by
  simp only [Eg0] at h
  split at h
  · cases h; exact qof_ok
  · cases h), fun g F h => by simp [Eg0] at h⟩
theorem grow_ft : FTOk Try.prog 108 (fnK Eg0 drawT Try.f108) := by
  exact ft_of Eg0ok Dok Try.func108 (enters_of Try.func108 (by kernel_rfl) rfl)
def Eg1W : FuncId → Option FT := fun g => match g with
  | 108 => some (fnK Eg0 drawT Try.f108)
  | _ => none
def Eg1 : Env := { tt := tt, eqs := [], Ψ := Eg1W, over := true, Φ := fun g => match g with
  | _ => none }
theorem Eg1ok : EnvOk Try.prog Eg1 := ⟨tt_ok, fun t h => by simp [Eg1] at h, (fun g S h => by
  change none = some S at h
  cases h), (fun g F h => by
  simp only [Eg1, Eg1W] at h
  split at h
  · cases h; exact grow_ft
  · cases h)⟩
theorem concat_ft : FTOk Try.prog 94 (fnK Eg1 drawT Try.f94) := by
  exact ft_of Eg1ok Dok Try.func94 (enters_of Try.func94 (by kernel_rfl) rfl)
def Eg2W : FuncId → Option FT := fun g => match g with
  | 94 => some (fnK Eg1 drawT Try.f94)
  | _ => none
def Eg2 : Env := { tt := tt, eqs := eqsL, Ψ := Eg2W, Φ := fun g => match g with
  | 12 => some (.q cloneS)
  | 23 => some (.p orientS)
  | 20 => some (.p vcmpS)
  | _ => none }
theorem Eg2ok : EnvOk Try.prog Eg2 := ⟨tt_ok, eqs_ok, (fun g S h => by
  simp only [Eg2] at h
  split at h
  · cases h; exact clone_ok
  · cases h; exact orient_ok
  · cases h; exact vcmp_ok
  · cases h), (fun g F h => by
  simp only [Eg2, Eg2W] at h
  split at h
  · cases h; exact concat_ft
  · cases h)⟩
theorem clean_ok : QSnd Try.prog 66 cleanS := by
  refine qsnd_of Eg2ok Dok Try.func66 (enters_of Try.func66 (by kernel_rfl) rfl) ?_ ?_ ?_
  · intro i b hb; simp [cleanS] at hb; rw [hb]; rfl
  · intro i b hb; simp [cleanS] at hb; rw [← hb]; rfl
  intro ⟨L, c⟩ hp
  have hp : (L ≠ [] ∧ firstNd L = none) ∧ L.length ≤ 1099511627776 ∧ ∀ v ∈ L, Q2.sz 1048576 v := hp
  obtain ⟨⟨hne, hnd⟩, hlen, hsz⟩ := hp
  obtain ⟨n, hn⟩ : ∃ n, n = L.length := ⟨_, rfl⟩
  obtain ⟨g, hg⟩ : ∃ g, g = rowsQ L := ⟨_, rfl⟩
  obtain ⟨cu, hcu⟩ : ∃ cu, cu = capU := ⟨_, rfl⟩
  obtain ⟨gs, hgs⟩ : ∃ g, g = rowsQ (rotR (cleanL L)) := ⟨_, rfl⟩
  have hcl : cleanL L = L := cleanL_stop hnd
  unfold qRes
  rw [show cleanS.blks (L, c) = [.flat false n 6 g] from by rw [hn, hg]; rfl, show cleanS.args (L, c) = [.slice (some ⟨0, 0, none⟩) n c] from by rw [hn]; rfl,
    show cleanS.val (L, c) = .slice (some ⟨1, 0, none⟩) n cu from by rw [hcu, hn]; show Value.slice _ (cleanL L).length _ = _; rw [hcl], show cleanS.new (L, c) = some (.flat true n 6 gs) from by rw [hgs, hn]; show some (Blk.flat true (cleanL L).length 6 _) = _; rw [hcl]]
  rw [← hn] at hlen
  have hpos : 0 < n := by rw [hn]; exact List.length_pos_iff.2 hne
  conv => whnf
  refine ⟨some (pvs L, c), [0], by rw [show cloneS.args (some (pvs L, c)) = [.slice (some ⟨0, 0, none⟩) n c] from by rw [hn, ← pvs_length L]; rfl]; rfl, by show (pvs L).length ≤ 1099511627776; rw [pvs_length]; omega, ?_⟩
  rw [show cloneS.blks (some (pvs L, c)) = [.flat false n 6 g] from by rw [hn, hg, ← pvs_length L]; rfl, show cloneS.val (some (pvs L, c)) = .slice (some ⟨1, 0, none⟩) n cu from by rw [hn, hcu, ← pvs_length L]; rfl, show cloneS.new (some (pvs L, c)) = some (.flat true n 6 g) from by rw [hn, hg, ← pvs_length L]; rfl]
  conv => whnf
  refine ⟨BlkLe.flat_flat (fun h => h) (fun r hr => by rw [hg]; rfl), ?_⟩
  conv => whnf
  refine ⟨_, rfl, ?_⟩
  conv => whnf
  refine .inr ⟨1, ?_⟩
  conv => whnf
  refine .inl ⟨fun mm tz hz => ∃ (k : Nat), Pat [some (.slice (some ⟨1, 0, none⟩) n cu), none, none, some (.int .i64 n), some (.int .i64 (-1)), none, none, none, none, none, none, none, none, none, some (.int .i64 n), some (.int .i64 k), none, none, none, none, none, none, none, none, none, none, none, none, none, none, none, none, none, none, none, none, none, none, none, none, none, none, none, none, none, none, none, none, none, none, none, none, none, none, none, none, none, none, none, none, none, none, none, none, none, none, none, none, none, none, none, none, none, none, none, none, none, none, none, none, none, none, none, none, none, none, none, none, none, none, none, none, none, none, none] tz ∧ hz = [some (.flat false n 6 g), some (.flat true n 6 g)] ∧ n - k = mm ∧ (k ≤ n), .inr ⟨[0, 1], [0, 3, 4, 14, 15], ?_⟩, ?_⟩
  · conv => whnf
    intro _
    conv => whnf
    refine ⟨_, 0, (.keep (.skip (.skip (.keep (.keep (.skip (.skip (.skip (.skip (.skip (.skip (.skip (.skip (.skip (.keep (.keep (.skip (.skip (.skip (.skip (.skip (.skip (.skip (.skip (.skip (.skip (.skip (.skip (.skip (.skip (.skip (.skip (.skip (.skip (.skip (.skip (.skip (.skip (.skip (.skip (.skip (.skip (.skip (.skip (.skip (.skip (.skip (.skip (.skip (.skip (.skip (.skip (.skip (.skip (.skip (.skip (.skip (.skip (.skip (.skip (.skip (.skip (.skip (.skip (.skip (.skip (.skip (.skip (.skip (.skip (.skip (.skip (.skip (.skip (.skip (.skip (.skip (.skip (.skip (.skip (.skip (.skip (.skip (.skip (.skip (.skip (.skip (.skip (.skip (.skip (.skip (.skip (.skip (.skip (.skip (.nil)))))))))))))))))))))))))))))))))))))))))))))))))))))))))))))))))))))))))))))))))))))))))))))))), rfl, rfl, ?_⟩
    exact Nat.zero_le _
  rintro mm tms _ ⟨k, hpat, rfl, rfl, hk⟩
  obtain ⟨az, rfl⟩ : ∃ az : Nat → Value, tms = [.slice (some ⟨1, 0, none⟩) n cu, az 1, az 2, .int .i64 n, .int .i64 (-1), az 5, az 6, az 7, az 8, az 9, az 10, az 11, az 12, az 13, .int .i64 n, .int .i64 k, az 16, az 17, az 18, az 19, az 20, az 21, az 22, az 23, az 24, az 25, az 26, az 27, az 28, az 29, az 30, az 31, az 32, az 33, az 34, az 35, az 36, az 37, az 38, az 39, az 40, az 41, az 42, az 43, az 44, az 45, az 46, az 47, az 48, az 49, az 50, az 51, az 52, az 53, az 54, az 55, az 56, az 57, az 58, az 59, az 60, az 61, az 62, az 63, az 64, az 65, az 66, az 67, az 68, az 69, az 70, az 71, az 72, az 73, az 74, az 75, az 76, az 77, az 78, az 79, az 80, az 81, az 82, az 83, az 84, az 85, az 86, az 87, az 88, az 89, az 90, az 91, az 92, az 93, az 94] := pat_fill hpat
  clear hpat
  conv => whnf
  refine br_intro (fun h1 => ?_) (fun h1 => ?_)
  · have h1 : k < n := by
      have := of_decide_eq_true h1
      omega
    have hndk : ¬ nd L k := firstNd_none' hnd k (by omega)
    conv => whnf
    refine .inl ⟨39, [[], [0], [0, 1], [0, 1, 2], [0, 1, 2], [0, 1, 2, 3, 4], [0, 1, 2, 3, 4, 5], [0, 1, 2], [0, 1, 2], [0, 1, 2, 8], [0, 1, 2], [0, 1, 2, 8, 9, 10], [0, 1, 2, 7, 8, 9, 10, 11], [0, 1, 2, 7, 8, 9, 10, 11, 12], [0, 1, 2, 3, 4, 5, 6, 7, 8, 9, 10, 11, 12, 13], [0, 1, 2, 3, 4, 5, 6, 7, 8, 9, 10, 11, 12, 13, 14], [0, 1, 2, 3, 4, 5, 6, 7, 8, 9, 10, 11, 12, 13, 14, 15], [0, 1, 2, 3, 4, 5, 6, 7, 8, 9, 10, 11, 12, 13, 14, 15, 16], [0, 1, 2, 3, 4, 5, 6, 7, 8, 9, 10, 11, 12, 13, 14, 15, 16, 17], [0, 1, 2, 3, 4, 5, 6, 7, 8, 9, 10, 11, 12, 13, 14, 15, 16, 17, 18], [0, 1, 2, 3, 4, 5, 6, 7, 8, 9, 10, 11, 12, 13, 14, 15, 16, 17, 18], [0, 1, 2, 3, 4, 5, 6, 7, 8, 9, 10, 11, 12, 13, 14, 15, 16, 17, 18], [0, 1, 2, 3, 4, 5, 6, 7, 8, 9, 10, 11, 12, 13, 14, 15, 16, 17, 18, 20, 21], [0, 1, 2, 3, 4, 5, 6, 7, 8, 9, 10, 11, 12, 13, 14, 15, 16, 17, 18, 20, 21, 22], [0, 1, 2, 3, 4, 5, 6, 7, 8, 9, 10, 11, 12, 13, 14, 15, 16, 17, 18], [0, 1, 2, 3, 4, 5, 6, 7, 8, 9, 10, 11, 12, 13, 14, 15, 16, 17, 18, 20, 21, 22, 23, 24], [0, 1, 2, 3, 4, 5, 6, 7, 8, 9, 10, 11, 12, 13, 14, 15, 16, 17, 18, 19, 20, 21, 22, 23, 24, 25], [0, 1, 2, 3, 4, 5, 6, 7, 8, 9, 10, 11, 12, 13, 14, 15, 16, 17, 18, 19, 20, 21, 22, 23, 24, 25, 26], [0, 1, 2, 3, 4, 5, 6, 7, 8, 9, 10, 11, 12, 13, 14, 15, 16, 17, 18], [0, 1, 2, 3, 4, 5, 6, 7, 8, 9, 10, 11, 12, 13, 14, 15, 16, 17, 18], [0, 1, 2, 3, 4, 5, 6, 7, 8, 9, 10, 11, 12, 13, 14, 15, 16, 17, 18, 28, 29], [0, 1, 2, 3, 4, 5, 6, 7, 8, 9, 10, 11, 12, 13, 14, 15, 16, 17, 18, 28, 29, 30], [0, 1, 2, 3, 4, 5, 6, 7, 8, 9, 10, 11, 12, 13, 14, 15, 16, 17, 18], [0, 1, 2, 3, 4, 5, 6, 7, 8, 9, 10, 11, 12, 13, 14, 15, 16, 17, 18], [0, 1, 2, 3, 4, 5, 6, 7, 8, 9, 10, 11, 12, 13, 14, 15, 16, 17, 18, 33], [0, 1, 2, 3, 4, 5, 6, 7, 8, 9, 10, 11, 12, 13, 14, 15, 16, 17, 18], [0, 1, 2, 3, 4, 5, 6, 7, 8, 9, 10, 11, 12, 13, 14, 15, 16, 17, 18, 33, 34, 35], [0, 1, 2, 3, 4, 5, 6, 7, 8, 9, 10, 11, 12, 13, 14, 15, 16, 17, 18, 32, 33, 34, 35, 36], [0, 1, 2, 3, 4, 5, 6, 7, 8, 9, 10, 11, 12, 13, 14, 15, 16, 17, 18, 32, 33, 34, 35, 36, 37], [0, 1, 2, 3, 4, 5, 6, 7, 8, 9, 10, 11, 12, 13, 14, 15, 16, 17, 18, 19, 20, 21, 22, 23, 24, 25, 26, 27, 28, 29, 30, 31, 32, 33, 34, 35, 36, 37, 38], [0, 1, 2, 3, 4, 5, 6, 7, 8, 9, 10, 11, 12, 13, 14, 15, 16, 17, 18, 19, 20, 21, 22, 23, 24, 25, 26, 27, 28, 29, 30, 31, 32, 33, 34, 35, 36, 37, 38, 39], [0, 1, 2, 3, 4, 5, 6, 7, 8, 9, 10, 11, 12, 13, 14, 15, 16, 17, 18, 19, 20, 21, 22, 23, 24, 25, 26, 27, 28, 29, 30, 31, 32, 33, 34, 35, 36, 37, 38, 39, 40], [0, 1, 2, 3, 4, 5, 6, 7, 8, 9, 10, 11, 12, 13, 14, 15, 16, 17, 18, 19, 20, 21, 22, 23, 24, 25, 26, 27, 28, 29, 30, 31, 32, 33, 34, 35, 36, 37, 38, 39, 40, 41], [0, 1, 2, 3, 4, 5, 6, 7, 8, 9, 10, 11, 12, 13, 14, 15, 16, 17, 18, 19, 20, 21, 22, 23, 24, 25, 26, 27, 28, 29, 30, 31, 32, 33, 34, 35, 36, 37, 38, 39, 40, 41, 42]], by kernel_rfl, ?_⟩
    conv => whnf
    have e7 : IntKind.i64.wrap ((k : Int) + 1) = ((k + 1 : Nat) : Int) := by rw [wrapi64 (by omega) (by omega)]; rfl
    by_cases hn1 : 1 < n
    · rw [show decide ((n : Int) > 1) = true from decide_eq_true (by omega)]
      obtain ⟨p, cp, rp, pp, sp, qp⟩ := hideAt (k := k) (by omega) hsz
      obtain ⟨q, cq, rq, pq, sq, qq⟩ := hideAt (k := nxt n k) (by rw [hn]; exact nxt_lt (by omega)) hsz
      have hnx := nxt_i h1 hlen
      have hnl := nxt_lt h1
      obtain ⟨j, hj⟩ : ∃ j, j = nxt n k := ⟨_, rfl⟩
      rw [← hj] at hnx hnl rq
      rw [← hg] at rp rq
      have ne : p ≠ q := fun e => hndk ⟨by omega, .inl (by rw [← hn]; exact (canP_eq cp cq).1 e)⟩
      conv => whnf
      refine ⟨⟨by omega, by omega⟩, ?_⟩
      simp only [toNat_cast, rowAdd_eq, Nat.zero_add]
      conv => whnf
      refine ⟨by show k < n; omega, ?_⟩
      conv => whnf
      rw [rp]
      conv => whnf
      rw [show decide ((n : Int) ≠ 0) = true from decide_eq_true (by omega)]
      conv => whnf
      rw [hnx]
      refine ⟨⟨by omega, by omega⟩, ?_⟩
      simp only [toNat_cast, rowAdd_eq, Nat.zero_add]
      conv => whnf
      refine ⟨by show j < n; omega, ?_⟩
      conv => whnf
      rw [rq]
      conv => whnf
      rw [eqPQ p q, decide_eq_false ne]
      conv => whnf
      by_cases hn2 : 2 < n
      · rw [show decide ((n : Int) > 2) = true from decide_eq_true (by omega)]
        obtain ⟨o, co, ro, po, so, qo⟩ := hideAt (k := prv n k) (by rw [hn]; exact prv_lt (by omega)) hsz
        have hpx := prv_i h1 hlen
        have hpl := prv_lt h1
        obtain ⟨i, hi⟩ : ∃ i, i = prv n k := ⟨_, rfl⟩
        rw [← hi] at hpx hpl ro
        rw [← hg] at ro
        have hor : cmpQ (orR o.p p.p q.p) 0 ≠ 0 := fun e => hndk ⟨by omega, .inr ⟨by omega, by
          have := cmpQ_zero.1 e
          rw [po, pp, pq, hn] at this; exact this⟩⟩
        conv => whnf
        rw [show decide ((n : Int) ≠ 0) = true from decide_eq_true (by omega)]
        conv => whnf
        rw [hpx]
        refine ⟨⟨by omega, by omega⟩, ?_⟩
        simp only [toNat_cast, rowAdd_eq, Nat.zero_add]
        conv => whnf
        refine ⟨by show i < n; omega, ?_⟩
        conv => whnf
        rw [ro]
        conv => whnf
        refine ⟨⟨by omega, by omega⟩, ?_⟩
        simp only [toNat_cast, rowAdd_eq, Nat.zero_add]
        conv => whnf
        refine ⟨by show k < n; omega, ?_⟩
        conv => whnf
        rw [rp]
        conv => whnf
        rw [show decide ((n : Int) ≠ 0) = true from decide_eq_true (by omega)]
        conv => whnf
        rw [hnx]
        refine ⟨⟨by omega, by omega⟩, ?_⟩
        simp only [toNat_cast, rowAdd_eq, Nat.zero_add]
        conv => whnf
        refine ⟨by show j < n; omega, ?_⟩
        conv => whnf
        rw [rq]
        conv => whnf
        obtain ⟨z, ez, pz⟩ := hideZ (cmpQ (orR o.p p.p q.p) 0)
        refine ⟨(o, p, q), rfl, ⟨PV.sz_mono so (by decide), PV.sz_mono sp (by decide), PV.sz_mono sq (by decide)⟩, ?_⟩
        rw [show orientS.val (o, p, q) = .int .i64 z from ez]
        conv => whnf
        rw [show (z == 0) = false from by rw [pz]; simp [hor]]
        conv => whnf
        rw [e7]
        refine .inr ⟨[0, 1], [0, 3, 4, 14, 15], ?_⟩
        conv => whnf
        intro _
        conv => whnf
        refine ⟨_, ?_, k + 1, (.keep (.skip (.skip (.keep (.keep (.skip (.skip (.skip (.skip (.skip (.skip (.skip (.skip (.skip (.keep (.keep (.skip (.skip (.skip (.skip (.skip (.skip (.skip (.skip (.skip (.skip (.skip (.skip (.skip (.skip (.skip (.skip (.skip (.skip (.skip (.skip (.skip (.skip (.skip (.skip (.skip (.skip (.skip (.skip (.skip (.skip (.skip (.skip (.skip (.skip (.skip (.skip (.skip (.skip (.skip (.skip (.skip (.skip (.skip (.skip (.skip (.skip (.skip (.skip (.skip (.skip (.skip (.skip (.skip (.skip (.skip (.skip (.skip (.skip (.skip (.skip (.skip (.skip (.skip (.skip (.skip (.skip (.skip (.skip (.skip (.skip (.skip (.skip (.skip (.skip (.skip (.skip (.skip (.skip (.skip (.nil)))))))))))))))))))))))))))))))))))))))))))))))))))))))))))))))))))))))))))))))))))))))))))))))), rfl, rfl, ?_⟩
        · omega
        · omega
      · rw [show decide ((n : Int) > 2) = false from decide_eq_false (by omega)]
        conv => whnf
        rw [e7]
        refine .inr ⟨[0, 1], [0, 3, 4, 14, 15], ?_⟩
        conv => whnf
        intro _
        conv => whnf
        refine ⟨_, ?_, k + 1, (.keep (.skip (.skip (.keep (.keep (.skip (.skip (.skip (.skip (.skip (.skip (.skip (.skip (.skip (.keep (.keep (.skip (.skip (.skip (.skip (.skip (.skip (.skip (.skip (.skip (.skip (.skip (.skip (.skip (.skip (.skip (.skip (.skip (.skip (.skip (.skip (.skip (.skip (.skip (.skip (.skip (.skip (.skip (.skip (.skip (.skip (.skip (.skip (.skip (.skip (.skip (.skip (.skip (.skip (.skip (.skip (.skip (.skip (.skip (.skip (.skip (.skip (.skip (.skip (.skip (.skip (.skip (.skip (.skip (.skip (.skip (.skip (.skip (.skip (.skip (.skip (.skip (.skip (.skip (.skip (.skip (.skip (.skip (.skip (.skip (.skip (.skip (.skip (.skip (.skip (.skip (.skip (.skip (.skip (.skip (.nil)))))))))))))))))))))))))))))))))))))))))))))))))))))))))))))))))))))))))))))))))))))))))))))))), rfl, rfl, ?_⟩
        · omega
        · omega
    · rw [show decide ((n : Int) > 1) = false from decide_eq_false (by omega)]
      conv => whnf
      rw [e7]
      refine .inr ⟨[0, 1], [0, 3, 4, 14, 15], ?_⟩
      conv => whnf
      intro _
      conv => whnf
      refine ⟨_, ?_, k + 1, (.keep (.skip (.skip (.keep (.keep (.skip (.skip (.skip (.skip (.skip (.skip (.skip (.skip (.skip (.keep (.keep (.skip (.skip (.skip (.skip (.skip (.skip (.skip (.skip (.skip (.skip (.skip (.skip (.skip (.skip (.skip (.skip (.skip (.skip (.skip (.skip (.skip (.skip (.skip (.skip (.skip (.skip (.skip (.skip (.skip (.skip (.skip (.skip (.skip (.skip (.skip (.skip (.skip (.skip (.skip (.skip (.skip (.skip (.skip (.skip (.skip (.skip (.skip (.skip (.skip (.skip (.skip (.skip (.skip (.skip (.skip (.skip (.skip (.skip (.skip (.skip (.skip (.skip (.skip (.skip (.skip (.skip (.skip (.skip (.skip (.skip (.skip (.skip (.skip (.skip (.skip (.skip (.skip (.skip (.skip (.nil)))))))))))))))))))))))))))))))))))))))))))))))))))))))))))))))))))))))))))))))))))))))))))))))), rfl, rfl, ?_⟩
      · omega
      · omega
  · have h1 : k = n := by
      have := of_decide_eq_false h1
      omega
    subst h1
    conv => whnf
    skip
    refine .inl ⟨fun mm tz hz => ∃ (i : Nat) (m : Nat), Pat [some (.slice (some ⟨1, 0, none⟩) k cu), none, none, none, none, none, some (.int .i64 m), none, none, none, none, none, none, none, none, none, none, none, none, none, none, none, none, none, none, none, none, none, none, none, none, none, none, none, none, none, none, none, none, none, none, none, none, none, none, none, none, none, none, none, none, none, none, none, none, none, none, none, none, none, none, none, none, none, none, none, none, none, none, none, none, some (.slice (some ⟨1, 0, none⟩) k cu), some (.int .i64 k), some (.int .i64 i), none, none, none, none, none, none, none, none, none, none, none, none, none, none, none, none, none, none, none, none, none] tz ∧ hz = [some (.flat false k 6 g), some (.flat true k 6 g)] ∧ k - i = mm ∧ (i ≤ k ∧ m = leastUp L i), .inr ⟨[0, 1], [0, 6, 71, 72, 73], ?_⟩, ?_⟩
    · conv => whnf
      intro _
      conv => whnf
      refine ⟨_, 0, 0, (.keep (.skip (.skip (.skip (.skip (.skip (.keep (.skip (.skip (.skip (.skip (.skip (.skip (.skip (.skip (.skip (.skip (.skip (.skip (.skip (.skip (.skip (.skip (.skip (.skip (.skip (.skip (.skip (.skip (.skip (.skip (.skip (.skip (.skip (.skip (.skip (.skip (.skip (.skip (.skip (.skip (.skip (.skip (.skip (.skip (.skip (.skip (.skip (.skip (.skip (.skip (.skip (.skip (.skip (.skip (.skip (.skip (.skip (.skip (.skip (.skip (.skip (.skip (.skip (.skip (.skip (.skip (.skip (.skip (.skip (.skip (.keep (.keep (.keep (.skip (.skip (.skip (.skip (.skip (.skip (.skip (.skip (.skip (.skip (.skip (.skip (.skip (.skip (.skip (.skip (.skip (.skip (.skip (.skip (.skip (.nil)))))))))))))))))))))))))))))))))))))))))))))))))))))))))))))))))))))))))))))))))))))))))))))))), rfl, rfl, ?_⟩
      exact ⟨Nat.zero_le _, rfl⟩
    rintro mm tms _ ⟨i, m, hpat, rfl, rfl, ⟨hi, hm⟩⟩
    obtain ⟨az, rfl⟩ : ∃ az : Nat → Value, tms = [.slice (some ⟨1, 0, none⟩) k cu, az 1, az 2, az 3, az 4, az 5, .int .i64 m, az 7, az 8, az 9, az 10, az 11, az 12, az 13, az 14, az 15, az 16, az 17, az 18, az 19, az 20, az 21, az 22, az 23, az 24, az 25, az 26, az 27, az 28, az 29, az 30, az 31, az 32, az 33, az 34, az 35, az 36, az 37, az 38, az 39, az 40, az 41, az 42, az 43, az 44, az 45, az 46, az 47, az 48, az 49, az 50, az 51, az 52, az 53, az 54, az 55, az 56, az 57, az 58, az 59, az 60, az 61, az 62, az 63, az 64, az 65, az 66, az 67, az 68, az 69, az 70, .slice (some ⟨1, 0, none⟩) k cu, .int .i64 k, .int .i64 i, az 74, az 75, az 76, az 77, az 78, az 79, az 80, az 81, az 82, az 83, az 84, az 85, az 86, az 87, az 88, az 89, az 90, az 91, az 92, az 93, az 94] := pat_fill hpat
    clear hpat
    have hml : m < k := by rw [hm, hn]; exact (leastUp_spec L i (by omega)).1 (by omega)
    conv => whnf
    refine br_intro (fun h1 => ?_) (fun h1 => ?_)
    · have h1 : i < k := by
        have := of_decide_eq_true h1
        omega
      have e7 : IntKind.i64.wrap ((i : Int) + 1) = ((i + 1 : Nat) : Int) := by rw [wrapi64 (by omega) (by omega)]; rfl
      obtain ⟨p, cp, rp, pp, sp, qp⟩ := hideAt (k := i) (by omega) hsz
      obtain ⟨q, cq, rq, pq, sq, qq⟩ := hideAt (k := m) (by omega) hsz
      rw [← hg] at rp rq
      conv => whnf
      refine ⟨⟨by omega, by omega⟩, ?_⟩
      simp only [toNat_cast, rowAdd_eq, Nat.zero_add]
      conv => whnf
      refine ⟨by show i < k; omega, ?_⟩
      conv => whnf
      rw [rp]
      conv => whnf
      refine .inl ⟨5, [[], [], [], [1, 2], [1, 2, 3], [0, 1, 2, 3, 4], [0, 1, 2, 3, 4, 5]], by kernel_rfl, ?_⟩
      conv => whnf
      refine ⟨⟨by omega, by omega⟩, ?_⟩
      simp only [toNat_cast, rowAdd_eq, Nat.zero_add]
      conv => whnf
      refine ⟨by show m < k; omega, ?_⟩
      conv => whnf
      rw [rq]
      conv => whnf
      obtain ⟨z, ez, pz⟩ := hideZ (cmpR p.p q.p)
      refine ⟨(p, q), rfl, ⟨PV.sz_mono sp (by decide), PV.sz_mono sq (by decide)⟩, ?_⟩
      rw [show vcmpS.val (p, q) = .int .i64 z from ez]
      conv => whnf
      rw [pp, pq] at pz
      have hup : leastUp L (i + 1) = if z < 0 then i else m := by
        show (if cmpR (at2 L i) (at2 L (leastUp L i)) < 0 then i else leastUp L i) = _
        rw [pz, hm]
      refine br_intro (fun h2 => ?_) (fun h2 => ?_)
      · have h2 : z < 0 := of_decide_eq_true h2
        conv => whnf
        rw [e7]
        refine .inr ⟨[0, 1], [0, 6, 71, 72, 73], ?_⟩
        conv => whnf
        intro _
        conv => whnf
        refine ⟨_, ?_, i + 1, i, (.keep (.skip (.skip (.skip (.skip (.skip (.keep (.skip (.skip (.skip (.skip (.skip (.skip (.skip (.skip (.skip (.skip (.skip (.skip (.skip (.skip (.skip (.skip (.skip (.skip (.skip (.skip (.skip (.skip (.skip (.skip (.skip (.skip (.skip (.skip (.skip (.skip (.skip (.skip (.skip (.skip (.skip (.skip (.skip (.skip (.skip (.skip (.skip (.skip (.skip (.skip (.skip (.skip (.skip (.skip (.skip (.skip (.skip (.skip (.skip (.skip (.skip (.skip (.skip (.skip (.skip (.skip (.skip (.skip (.skip (.skip (.keep (.keep (.keep (.skip (.skip (.skip (.skip (.skip (.skip (.skip (.skip (.skip (.skip (.skip (.skip (.skip (.skip (.skip (.skip (.skip (.skip (.skip (.skip (.skip (.nil)))))))))))))))))))))))))))))))))))))))))))))))))))))))))))))))))))))))))))))))))))))))))))))))), rfl, rfl, ?_⟩
        · omega
        · exact ⟨by omega, by rw [hup, if_pos h2]⟩
      · have h2 : ¬ z < 0 := of_decide_eq_false h2
        conv => whnf
        rw [e7]
        refine .inr ⟨[0, 1], [0, 6, 71, 72, 73], ?_⟩
        conv => whnf
        intro _
        conv => whnf
        refine ⟨_, ?_, i + 1, m, (.keep (.skip (.skip (.skip (.skip (.skip (.keep (.skip (.skip (.skip (.skip (.skip (.skip (.skip (.skip (.skip (.skip (.skip (.skip (.skip (.skip (.skip (.skip (.skip (.skip (.skip (.skip (.skip (.skip (.skip (.skip (.skip (.skip (.skip (.skip (.skip (.skip (.skip (.skip (.skip (.skip (.skip (.skip (.skip (.skip (.skip (.skip (.skip (.skip (.skip (.skip (.skip (.skip (.skip (.skip (.skip (.skip (.skip (.skip (.skip (.skip (.skip (.skip (.skip (.skip (.skip (.skip (.skip (.skip (.skip (.skip (.keep (.keep (.keep (.skip (.skip (.skip (.skip (.skip (.skip (.skip (.skip (.skip (.skip (.skip (.skip (.skip (.skip (.skip (.skip (.skip (.skip (.skip (.skip (.skip (.nil)))))))))))))))))))))))))))))))))))))))))))))))))))))))))))))))))))))))))))))))))))))))))))))))), rfl, rfl, ?_⟩
        · omega
        · exact ⟨by omega, by rw [hup, if_neg h2]⟩
    · have h1 : i = k := by
        have := of_decide_eq_false h1
        omega
      subst h1
      conv => whnf
      refine .inl ⟨6, [[], [], [0, 1], [], [], [3, 4], [0, 1, 2, 3, 4, 5], [0, 1, 2, 3, 4, 5, 6], [0, 1, 2, 3, 4, 5, 6, 7]], by kernel_rfl, ?_⟩
      conv => whnf
      refine ⟨⟨by omega, by omega, by omega⟩, ?_⟩
      rw [show Int.toNat (i : Int) - Int.toNat (m : Int) = i - m from rfl, show Int.toNat (m : Int) = m from rfl, rowAdd_eq, Nat.zero_add]
      conv => whnf
      refine ⟨⟨by omega, by omega, by omega⟩, ?_⟩
      conv => whnf
      obtain ⟨a, ha⟩ : ∃ a, a = i - m := ⟨_, rfl⟩
      obtain ⟨ca, hca⟩ : ∃ a, a = capSub cu m := ⟨_, rfl⟩
      obtain ⟨cb, hcb⟩ : ∃ a, a = capSub cu (Int.toNat 0) := ⟨_, rfl⟩
      rw [← ha, ← hca, ← hcb, show rowAdd 0 (Int.toNat 0) = 0 from rfl, show Int.toNat (m : Int) - Int.toNat 0 = m from rfl, Nat.zero_add]
      have w1 : IntKind.i64.wrap (0 + (a : Int)) = (a : Int) := by rw [wrapi64 (by omega) (by omega)]; omega
      have w2 : IntKind.i64.wrap ((a : Int) + (m : Int)) = (i : Int) := by rw [wrapi64 (by omega) (by omega)]; omega
      refine .inr ⟨3, ?_⟩
      conv => whnf
      refine ⟨by decide, ?_⟩
      conv => whnf
      rw [w1, show decide ((a : Int) < 0) = false from decide_eq_false (by omega)]
      conv => whnf
      refine ⟨by decide, ?_⟩
      conv => whnf
      rw [w2, show decide ((i : Int) < 0) = false from decide_eq_false (by omega)]
      conv => whnf
      have w3 : IntKind.i64.wrap ((i : Int) - IntKind.i64.wrap (0 - ((0 : Nat) : Int))) = (i : Int) := by
        rw [show IntKind.i64.wrap (0 - ((0 : Nat) : Int)) = 0 from rfl, wrapi64 (by omega) (by omega)]; omega
      rw [w3, show decide ((i : Int) > 0) = true from decide_eq_true (by omega)]
      conv => whnf
      refine ⟨⟨by omega, by omega, by omega⟩, ?_⟩
      conv => whnf
      refine ⟨⟨by omega, by show (i : Int) * ((80 : Nat) : Int) ≤ _; omega⟩, ?_⟩
      conv => whnf
      refine ⟨⟨by omega, by omega, by omega⟩, ?_⟩
      rw [show (0 : Int).toNat = 0 from rfl, show rowAdd 0 0 = 0 from rfl]
      conv => whnf
      refine .inr ⟨3, ?_⟩
      conv => whnf
      refine ⟨by decide, ?_⟩
      conv => whnf
      refine ⟨by omega, ?_⟩
      conv => whnf
      rw [show Int.toNat (((0 : Nat) : Int)) - 0 = 0 from rfl, show (Src.fl a fun j => g (rowAdd (0 + m) j)).m = a from rfl, Nat.zero_add]
      refine ⟨⟨by decide, ⟨Nat.zero_le _, rfl⟩, by show (0 + a) * 80 ≤ _; omega⟩, ?_⟩
      conv => whnf
      refine ⟨[25, 26, 27], ?_⟩
      conv => whnf
      intro _
      conv => whnf
      refine ⟨by decide, ?_⟩
      conv => whnf
      refine ⟨by omega, ?_⟩
      conv => whnf
      rw [show (Src.fl m fun j => g (rowAdd 0 j)).m = m from rfl]
      refine ⟨⟨by decide, ⟨Nat.le_refl _, rfl⟩, by show (0 + a + m) * 80 ≤ _; omega⟩, ?_⟩
      conv => whnf
      refine ⟨[25, 26, 27], ?_⟩
      conv => whnf
      intro _
      conv => whnf
      rw [show 0 + a + m = i from by omega]
      refine ⟨9, ?_⟩
      conv => whnf
      refine ⟨⟨rfl, BlkLe.flat_rows (fun h => h) (fun r hr => ?_) (fun r hr => by rw [hgs]; rfl)⟩, _, rfl, by rw [hcu]; exact .refl _⟩
      rw [hgs, hcl, hg, rot_rows (by omega) (by omega) r (by omega), hm, hn]
      rfl
end Go.Proofs.Ytppeponndkfbkaa
