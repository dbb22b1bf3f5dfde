import Derived.Test.YtppeponndkfbkaaPF
/- Contracts of rational: differences, signs, checks. -/
set_option linter.unusedVariables false
set_option linter.unusedSimpArgs false
set_option maxRecDepth 20000
set_option maxHeartbeats 1000000
namespace Go.Proofs.Ytppeponndkfbkaa
open Go Go.Ae

def Eml : Env := { tt := tt, eqs := eqsL, Φ := fun g => match g with
  | 69 => some (.p qaddS)
  | 81 => some (.p ofRS)
  | 77 => some (.p numberS)
  | 54 => some (.p cmpS)
  | 80 => some (.p ofS)
  | 102 => some (.p negS)
  | _ => none }
theorem Emlok : EnvOk Try.prog Eml := ⟨tt_ok, eqs_ok, (fun g S h => by
  simp only [Eml] at h
  split at h
  · cases h; exact qadd_ok
  · cases h; exact ofR_ok
  · cases h; exact number_ok
  · cases h; exact cmp_ok
  · cases h; exact of_ok
  · cases h; exact neg_ok
  · cases h), fun g F h => by simp [Eml] at h⟩

theorem qsub_ok : Snd Try.prog 70 qsubS := by
  refine snd_of Emlok Dok Try.func70 (enters_of Try.func70 (by kernel_rfl) rfl) (fun _ => rfl) (fun _ => rfl) ?_
  intro ⟨⟨b, s, t⟩, ⟨c, u, v⟩⟩ hp
  have hp : RV.ok (b, s, t) ∧ RV.ok (c, u, v) := hp
  obtain ⟨w, hw⟩ : ∃ w, w = RV.q (b, s, t) - RV.q (c, u, v) := ⟨_, rfl⟩
  conv => whnf
  refine ⟨((b, s, t), (!c, u, v)), rfl, hp, ?_⟩
  rw [show qaddS.val ((b, s, t), (!c, u, v)) = (RV.of w).v from by
    rw [hw]
    show encQ (RV.q (b, s, t) + RV.q (!c, u, v)) = encQ _
    rw [neg_q', ← Rat.sub_eq_add_neg]]
  conv => whnf
  show (RV.of w).v = encQ _
  rw [hw]
  rfl

theorem qneg_ok : Snd Try.prog 61 qnegS := by
  refine snd_of Emlok Dok Try.func61 (enters_of Try.func61 (by kernel_rfl) rfl) (fun _ => rfl) (fun _ => rfl) ?_
  intro ⟨b, s, t⟩ hp
  have hp : RV.ok (b, s, t) := hp
  obtain ⟨w, hw⟩ : ∃ w, w = -RV.q (b, s, t) := ⟨_, rfl⟩
  obtain ⟨x, hx⟩ : ∃ x, x = RV.den (b, s, t) := ⟨_, rfl⟩
  have f1 := RV.fracOk (i := (!b, s, t)) hp
  have e1 := RV.q_of (!b, s, t)
  rw [show RV.den (!b, s, t) = x from hx.symm] at f1 e1
  conv => whnf
  refine ⟨(!b, s, t), rfl, by have := hp.2; show t.size ≤ _; exact Nat.le_trans this (by decide), ?_⟩
  rw [show ofRS.val (!b, s, t) = .agg ⟨[.bool (!b), .string s, .bool false, .string x]⟩ from by rw [hx]; rfl]
  conv => whnf
  refine ⟨((!b, s), (false, x)), rfl, ⟨Nat.le_trans f1.1.1 (by decide), Nat.le_trans f1.1.2 (by decide), f1.2⟩, ?_⟩
  rw [show numberS.val ((!b, s), (false, x)) = (RV.of w).v from by
    rw [hw, ← neg_q', e1]; rfl]
  conv => whnf
  show (RV.of w).v = encQ _
  rw [hw]
  rfl

theorem qsign_ok : Snd Try.prog 50 qsignS := by
  refine snd_of Emlok Dok Try.func50 (enters_of Try.func50 (by kernel_rfl) rfl) (fun _ => rfl) (fun _ => rfl) ?_
  intro ⟨b, s, t⟩ hp
  have hp : RV.ok (b, s, t) := hp
  obtain ⟨x, hx⟩ : ∃ x, x = RV.den (b, s, t) := ⟨_, rfl⟩
  obtain ⟨w, hw⟩ : ∃ w, w = cmpQ (RV.q (b, s, t)) 0 := ⟨_, rfl⟩
  conv => whnf
  refine ⟨(b, s, t), rfl, by have := hp.2; show t.size ≤ _; exact Nat.le_trans this (by decide), ?_⟩
  rw [show ofRS.val (b, s, t) = .agg ⟨[.bool b, .string s, .bool false, .string x]⟩ from by rw [hx]; rfl]
  conv => whnf
  refine ⟨((b, s), (false, ⟨#[]⟩)), rfl, ⟨by have := hp.1; show s.size ≤ _; exact Nat.le_trans this (by decide), Nat.zero_le _⟩, ?_⟩
  rw [show cmpS.val ((b, s), (false, ⟨#[]⟩)) = .int .i64 w from by rw [hw, sign_q]; rfl]
  conv => whnf
  show Value.int .i64 w = _
  rw [hw]
  rfl

theorem qof_ok : Snd Try.prog 39 qofS := by
  refine snd_of Emlok Dok Try.func39 (enters_of Try.func39 (by kernel_rfl) rfl) (fun _ => rfl) (fun _ => rfl) ?_
  intro (n : Int) hp
  have hp : -9223372036854775808 ≤ n ∧ n < 9223372036854775808 := hp
  obtain ⟨w, hw⟩ : ∃ w : Rat, w = (n : Rat) := ⟨_, rfl⟩
  obtain ⟨B, m, hE⟩ := EI.mk' n
  obtain ⟨k, hF⟩ := EI.nonneg (show 0 ≤ (1 : Int) by decide)
  have hm := hE.size
  have hk := hF.size
  have h8 := nby_i64 hp
  have h1 := nby_i64 r1
  conv => whnf
  refine ⟨n, rfl, hp, ?_⟩
  rw [show ofS.val n = .agg ⟨[.bool B, .string m]⟩ from hE.enc]
  conv => whnf
  refine ⟨(1 : Int), rfl, r1, ?_⟩
  rw [show ofS.val (1 : Int) = .agg ⟨[.bool false, .string k]⟩ from hF.enc]
  conv => whnf
  refine ⟨((B, m), (false, k)), rfl, ⟨by show m.size ≤ _; omega, by show k.size ≤ _; omega, by show 0 < IV.z (false, k); rw [hF.val]; decide⟩, ?_⟩
  rw [show numberS.val ((B, m), (false, k)) = (RV.of w).v from by
    rw [hw, of_q n]
    show encQ (mkRat (IV.z (B, m)) (IV.z (false, k)).natAbs) = _
    rw [hE.val, hF.val]; rfl]
  conv => whnf
  show (RV.of w).v = encQ _
  rw [hw]
  rfl

theorem qcheck_ok : Snd Try.prog 48 qcheckS := by
  refine snd_of Emlok Dok Try.func48 (enters_of Try.func48 (by kernel_rfl) rfl) (fun _ => rfl) (fun _ => rfl) ?_
  intro ⟨b, s, t⟩ hp
  have hp : RV.ok (b, s, t) := hp
  obtain ⟨⟨c, u, v⟩, hw⟩ : ∃ w, w = RV.of (RV.q (b, s, t)) := ⟨_, rfl⟩
  obtain ⟨x, hx⟩ : ∃ x, x = RV.den (b, s, t) := ⟨_, rfl⟩
  have f1 := RV.fracOk hp
  have e1 := RV.q_of (b, s, t)
  rw [show RV.den (b, s, t) = x from hx.symm] at f1 e1
  have heq := eqCells_rat (b, s, t) (c, u, v)
  conv => whnf
  refine .inl ⟨4, [[], [], [1], [1, 2], [0, 1, 2, 3]], by kernel_rfl, ?_⟩
  conv => whnf
  refine ⟨(b, s, t), rfl, by have := hp.2; show t.size ≤ _; exact Nat.le_trans this (by decide), ?_⟩
  rw [show ofRS.val (b, s, t) = .agg ⟨[.bool b, .string s, .bool false, .string x]⟩ from by rw [hx]; rfl]
  conv => whnf
  refine ⟨((b, s), (false, x)), rfl, ⟨Nat.le_trans f1.1.1 (by decide), Nat.le_trans f1.1.2 (by decide), f1.2⟩, ?_⟩
  rw [show numberS.val ((b, s), (false, x)) = RV.v (c, u, v) from by
    rw [hw, e1]; rfl]
  conv => whnf
  by_cases h : (b, s, t) = (c, u, v)
  · rw [decide_eq_true h] at heq
    refine br_intro (fun h2 => ?_) (fun h2 => ?_)
    · exfalso
      rw [show eqCells [Value.bool b, .string s, .string t] [.bool c, .string u, .string v] = true from heq] at h2
      cases h2
    · conv => whnf
      show _ = Value.int .i64 (if (b, s, t) = RV.of (RV.q (b, s, t)) then 0 else 1)
      rw [← hw, if_pos h]
  · rw [decide_eq_false h] at heq
    refine br_intro (fun h2 => ?_) (fun h2 => ?_)
    · conv => whnf
      show _ = Value.int .i64 (if (b, s, t) = RV.of (RV.q (b, s, t)) then 0 else 1)
      rw [← hw, if_neg h]
    · exfalso
      rw [show eqCells [Value.bool b, .string s, .string t] [.bool c, .string u, .string v] = false from heq] at h2
      cases h2

theorem qnew_ok : Snd Try.prog 79 qnewS := by
  refine snd_of Emlok Dok Try.func79 (enters_of Try.func79 (by kernel_rfl) rfl) (fun _ => rfl) (fun _ => rfl) ?_
  intro ⟨⟨b, s⟩, ⟨c, t⟩⟩ hp
  have hp : s.size ≤ 549755813888 ∧ t.size ≤ 549755813888 := hp
  obtain ⟨x, hx⟩ : ∃ x, x = IV.z (b, s) := ⟨_, rfl⟩
  obtain ⟨y, hy⟩ : ∃ y, y = IV.z (c, t) := ⟨_, rfl⟩
  obtain ⟨w, hw⟩ : ∃ w, w = Rat.divInt x y := ⟨_, rfl⟩
  have ec : cmpS.val ((c, t), (false, ⟨#[]⟩)) = .int .i64 (cmpZ y 0) := by rw [hy]; rfl
  have fin0 : y = 0 → ∀ v, v = encQ 0 → Value.tuple ⟨[v, .int .i64 10]⟩ = qnewS.val ((b, s), (c, t)) := fun h v hv => by
    show _ = quoV (IV.z (b, s)) (IV.z (c, t))
    rw [← hy, hv]; unfold quoV; rw [if_pos h, h, Rat.divInt_zero]
  have fin : y ≠ 0 → ∀ v, v = encQ w → Value.tuple ⟨[v, .int .i64 0]⟩ = qnewS.val ((b, s), (c, t)) := fun h v hv => by
    show _ = quoV (IV.z (b, s)) (IV.z (c, t))
    rw [← hx, ← hy, hv]; unfold quoV; rw [if_neg h, hw]
  conv => whnf
  refine ⟨((c, t), (false, ⟨#[]⟩)), rfl, ⟨hp.2, Nat.zero_le _⟩, ?_⟩
  rw [ec]
  rcases Int.lt_trichotomy y 0 with h | h | h
  · rw [cmpZ_lt h]
    obtain ⟨B, m, hE⟩ := EI.mk' (-x)
    obtain ⟨k, hF⟩ := EI.nonneg (show 0 ≤ -y by omega)
    have hm : m.size ≤ 549755813888 := by rw [hE.size, Int.natAbs_neg, hx]; exact nby_z hp.1
    have hk : k.size ≤ 549755813888 := by rw [hF.size, Int.natAbs_neg, hy]; exact nby_z hp.2
    conv => whnf
    refine .inl ⟨3, [[], [0], [], [0, 1, 2], [0, 1, 2, 3], [0, 1, 2, 3, 4]], by kernel_rfl, ?_⟩
    conv => whnf
    refine ⟨(b, s), rfl, hp.1, ?_⟩
    rw [show negS.val (b, s) = .agg ⟨[.bool B, .string m]⟩ from by show encI (-IV.z (b, s)) = _; rw [← hx, hE.enc]]
    conv => whnf
    refine ⟨(c, t), rfl, hp.2, ?_⟩
    rw [show negS.val (c, t) = .agg ⟨[.bool false, .string k]⟩ from by show encI (-IV.z (c, t)) = _; rw [← hy, hF.enc]]
    conv => whnf
    refine ⟨((B, m), (false, k)), rfl, ⟨hm, hk, by show 0 < IV.z (false, k); rw [hF.val]; omega⟩, ?_⟩
    rw [show numberS.val ((B, m), (false, k)) = (RV.of w).v from by
      rw [hw, divInt_negs h]
      show encQ (mkRat (IV.z (B, m)) (IV.z (false, k)).natAbs) = _
      rw [hE.val, hF.val]; rfl]
    conv => whnf
    exact fin (by omega) _ rfl
  · rw [h]
    conv => whnf
    exact fin0 h _ encQ0.symm
  · rw [cmpZ_gt h]
    conv => whnf
    refine ⟨((b, s), (c, t)), rfl, ⟨hp.1, hp.2, by show 0 < IV.z (c, t); omega⟩, ?_⟩
    rw [show numberS.val ((b, s), (c, t)) = (RV.of w).v from by
      rw [hw, divInt_pos h, hx, hy]; rfl]
    conv => whnf
    exact fin (by omega) _ rfl

def Emm : Env := { tt := tt, eqs := [], Φ := fun g => match g with
  | 79 => some (.p qnewS)
  | 80 => some (.p ofS)
  | _ => none }
theorem Emmok : EnvOk Try.prog Emm := ⟨tt_ok, fun t h => by simp [Emm] at h, (fun g S h => by
  simp only [Emm] at h
  split at h
  · cases h; exact qnew_ok
  · cases h; exact of_ok
  · cases h), fun g F h => by simp [Emm] at h⟩

theorem qratio_ok : Snd Try.prog 38 qratioS := by
  refine snd_of Emmok Dok Try.func38 (enters_of Try.func38 (by kernel_rfl) rfl) (fun _ => rfl) (fun _ => rfl) ?_
  intro ⟨n, d⟩ hp
  have hp : (-9223372036854775808 ≤ n ∧ n < 9223372036854775808) ∧ -9223372036854775808 ≤ d ∧ d < 9223372036854775808 := hp
  obtain ⟨B, m, hE⟩ := EI.mk' n
  obtain ⟨D, k, hF⟩ := EI.mk' d
  have hm := hE.size
  have hk := hF.size
  have h8 := nby_i64 hp.1
  have h1 := nby_i64 hp.2
  obtain ⟨q, e, hqe⟩ : ∃ (q : Rat) (e : Int), quoV n d = .tuple ⟨[(RV.of q).v, .int .i64 e]⟩ := by
    exact ⟨_, _, rfl⟩
  conv => whnf
  refine ⟨n, rfl, hp.1, ?_⟩
  rw [show ofS.val n = .agg ⟨[.bool B, .string m]⟩ from hE.enc]
  conv => whnf
  refine ⟨d, rfl, hp.2, ?_⟩
  rw [show ofS.val d = .agg ⟨[.bool D, .string k]⟩ from hF.enc]
  conv => whnf
  refine ⟨((B, m), (D, k)), rfl, ⟨by show m.size ≤ _; omega, by show k.size ≤ _; omega⟩, ?_⟩
  rw [show qnewS.val ((B, m), (D, k)) = .tuple ⟨[(RV.of q).v, .int .i64 e]⟩ from by
    show quoV (IV.z (B, m)) (IV.z (D, k)) = _
    rw [hE.val, hF.val, hqe]]
  conv => whnf
  show Value.tuple ⟨[(RV.of q).v, .int .i64 e]⟩ = quoV n d
  rw [hqe]
end Go.Proofs.Ytppeponndkfbkaa
/- Contracts of the reference rationals: parts, lowest terms. -/
set_option linter.unusedVariables false
set_option linter.unusedSimpArgs false
set_option maxRecDepth 20000
set_option maxHeartbeats 1000000
namespace Go.Proofs.Ytppeponndkfbkaa
open Go Go.Ae

def Eqa : Env := { tt := tt, eqs := [], Φ := fun g => match g with
  | _ => none }
theorem Eqaok : EnvOk Try.prog Eqa := ⟨tt_ok, fun t h => by simp [Eqa] at h, (fun g S h => by
  change none = some S at h
  cases h), fun g F h => by simp [Eqa] at h⟩

end Go.Proofs.Ytppeponndkfbkaa
/- Contracts of the reference rationals: the operations. -/
set_option linter.unusedVariables false
set_option linter.unusedSimpArgs false
set_option maxRecDepth 20000
set_option maxHeartbeats 1000000
namespace Go.Proofs.Ytppeponndkfbkaa
open Go Go.Ae

def Eqb : Env := { tt := tt, eqs := eqsL, Φ := fun g => match g with
  | _ => none }
theorem Eqbok : EnvOk Try.prog Eqb := ⟨tt_ok, eqs_ok, (fun g S h => by
  change none = some S at h
  cases h), fun g F h => by simp [Eqb] at h⟩

def Eqc : Env := { tt := tt, eqs := eqsL, Φ := fun g => match g with
  | _ => none }
theorem Eqcok : EnvOk Try.prog Eqc := ⟨tt_ok, eqs_ok, (fun g S h => by
  change none = some S at h
  cases h), fun g F h => by simp [Eqc] at h⟩

theorem rqgreat_ok : Snd Try.prog 78 qgreatS := by
  refine snd_of E0ok Dok Try.func78 (enters_of Try.func78 (by kernel_rfl) rfl) (fun _ => rfl) (fun _ => rfl) ?_
  intro ⟨b, s, t⟩ _
  have fin : ∀ x : Bool, x = decide (RV.great (b, s, t)) → Value.bool x = qgreatS.val (b, s, t) := fun x h => by rw [h]; rfl
  conv => whnf
  by_cases h1 : 60 < s.size
  · rw [show decide (((s.size : Nat) : Int) > 60) = true from decide_eq_true (by omega)]
    conv => whnf
    exact fin _ (decide_eq_true (.inl h1)).symm
  · rw [show decide (((s.size : Nat) : Int) > 60) = false from decide_eq_false (by omega)]
    conv => whnf
    refine fin _ ?_
    by_cases h2 : 60 < t.size
    · rw [show decide (((t.size : Nat) : Int) > 60) = true from decide_eq_true (by omega)]
      exact (decide_eq_true (.inr h2)).symm
    · rw [show decide (((t.size : Nat) : Int) > 60) = false from decide_eq_false (by omega)]
      exact (decide_eq_false (fun h => h.elim h1 h2)).symm
end Go.Proofs.Ytppeponndkfbkaa
/- Contracts of the reference rationals: sum, product, comparison. -/
set_option linter.unusedVariables false
set_option linter.unusedSimpArgs false
set_option maxRecDepth 20000
set_option maxHeartbeats 1000000
namespace Go.Proofs.Ytppeponndkfbkaa
open Go Go.Ae

def Eqd : Env := { tt := tt, eqs := [], Φ := fun g => match g with
  | _ => none }
theorem Eqdok : EnvOk Try.prog Eqd := ⟨tt_ok, fun t h => by simp [Eqd] at h, (fun g S h => by
  change none = some S at h
  cases h), fun g F h => by simp [Eqd] at h⟩

end Go.Proofs.Ytppeponndkfbkaa
/- Contracts of vector and of the reference vectors: sums, products. -/
set_option linter.unusedVariables false
set_option linter.unusedSimpArgs false
set_option maxRecDepth 20000
set_option maxHeartbeats 1000000
namespace Go.Proofs.Ytppeponndkfbkaa
open Go Go.Ae

def Eva : Env := { tt := tt, eqs := [], Φ := fun g => match g with
  | 69 => some (.p qaddS)
  | 70 => some (.p qsubS)
  | 35 => some (.p qmulS)
  | _ => none }
theorem Evaok : EnvOk Try.prog Eva := ⟨tt_ok, fun t h => by simp [Eva] at h, (fun g S h => by
  simp only [Eva] at h
  split at h
  · cases h; exact qadd_ok
  · cases h; exact qsub_ok
  · cases h; exact qmul_ok
  · cases h), fun g F h => by simp [Eva] at h⟩

theorem each_ft : FTOk Try.prog 45 (fnK Eva drawT Try.f45) := by
  exact ft_of Evaok Dok Try.func45 (enters_of Try.func45 (by kernel_rfl) rfl)

def EvbW : FuncId → Option FT := fun g => match g with
  | 45 => some (fnK Eva drawT Try.f45)
  | _ => none
def Evb : Env := { tt := tt, eqs := [], Ψ := EvbW, Φ := fun g => match g with
  | 39 => some (.p qofS)
  | 69 => some (.p qaddS)
  | 70 => some (.p qsubS)
  | 16 => some (.p qcmpS)
  | 48 => some (.p qcheckS)
  | _ => none }
theorem Evbok : EnvOk Try.prog Evb := ⟨tt_ok, fun t h => by simp [Evb] at h, (fun g S h => by
  simp only [Evb] at h
  split at h
  · cases h; exact qof_ok
  · cases h; exact qadd_ok
  · cases h; exact qsub_ok
  · cases h; exact qcmp_ok
  · cases h; exact qcheck_ok
  · cases h), (fun g F h => by
  simp only [Evb, EvbW] at h
  split at h
  · cases h; exact each_ft
  · cases h)⟩
def Evr : Env := { tt := tt, eqs := [], Φ := fun g => match g with
  | _ => none }
theorem Evrok : EnvOk Try.prog Evr := ⟨tt_ok, fun t h => by simp [Evr] at h, (fun g S h => by
  change none = some S at h
  cases h), fun g F h => by simp [Evr] at h⟩

theorem vof_ok : Snd Try.prog 37 vofS := by
  refine snd_of Evbok Dok Try.func37 (enters_of Try.func37 (by kernel_rfl) rfl) (fun _ => rfl) (fun _ => rfl) ?_
  intro ⟨n, m⟩ hp
  have hp : ok1 n ∧ ok1 m := hp
  obtain ⟨x, hx⟩ : ∃ x : Rat, x = (n : Rat) := ⟨_, rfl⟩
  obtain ⟨y, hy⟩ : ∃ x : Rat, x = (m : Rat) := ⟨_, rfl⟩
  conv => whnf
  refine ⟨n, rfl, hp.1, ?_⟩
  rw [show qofS.val n = (RV.of x).v from by rw [hx]; rfl]
  conv => whnf
  refine ⟨m, rfl, hp.2, ?_⟩
  rw [show qofS.val m = (RV.of y).v from by rw [hy]; rfl]
  conv => whnf
  show PV.v (RV.of x, RV.of y) = encP _ _
  rw [hx, hy]
  rfl

theorem vadd_ok : Snd Try.prog 31 vaddS := by
  refine snd_of Evbok Dok Try.func31 (enters_of Try.func31 (by kernel_rfl) rfl) (fun _ => rfl) (fun _ => rfl) ?_
  intro ⟨p, q⟩ hp
  have hp : p.sz 8589934592 ∧ q.sz 8589934592 := hp
  obtain ⟨x, hx⟩ : ∃ x, x = p.1.q + q.1.q := ⟨_, rfl⟩
  obtain ⟨y, hy⟩ : ∃ x, x = p.2.q + q.2.q := ⟨_, rfl⟩
  conv => whnf
  refine .inl ⟨11, [[], [], [1], [], [3], [0, 1, 2, 3, 4], [], [], [7], [], [9], [0, 1, 2, 3, 4, 5, 6, 7, 8, 9, 10], [0, 1, 2, 3, 4, 5, 6, 7, 8, 9, 10, 11], [0, 1, 2, 3, 4, 5, 6, 7, 8, 9, 10, 11, 12]], by kernel_rfl, ?_⟩
  conv => whnf
  refine ⟨(p.1, q.1), rfl, ⟨hp.1.1, hp.2.1⟩, ?_⟩
  rw [show qaddS.val (p.1, q.1) = (RV.of x).v from by rw [hx]; rfl]
  conv => whnf
  refine ⟨(p.2, q.2), rfl, ⟨hp.1.2, hp.2.2⟩, ?_⟩
  rw [show qaddS.val (p.2, q.2) = (RV.of y).v from by rw [hy]; rfl]
  conv => whnf
  show PV.v (RV.of x, RV.of y) = encP _ _
  rw [hx, hy]
  rfl

theorem vsub_ok : Snd Try.prog 49 vsubS := by
  refine snd_of Evbok Dok Try.func49 (enters_of Try.func49 (by kernel_rfl) rfl) (fun _ => rfl) (fun _ => rfl) ?_
  intro ⟨p, q⟩ hp
  have hp : p.sz 8589934592 ∧ q.sz 8589934592 := hp
  obtain ⟨x, hx⟩ : ∃ x, x = p.1.q - q.1.q := ⟨_, rfl⟩
  obtain ⟨y, hy⟩ : ∃ x, x = p.2.q - q.2.q := ⟨_, rfl⟩
  conv => whnf
  refine .inl ⟨11, [[], [], [1], [], [3], [0, 1, 2, 3, 4], [], [], [7], [], [9], [0, 1, 2, 3, 4, 5, 6, 7, 8, 9, 10], [0, 1, 2, 3, 4, 5, 6, 7, 8, 9, 10, 11], [0, 1, 2, 3, 4, 5, 6, 7, 8, 9, 10, 11, 12]], by kernel_rfl, ?_⟩
  conv => whnf
  refine ⟨(p.1, q.1), rfl, ⟨hp.1.1, hp.2.1⟩, ?_⟩
  rw [show qsubS.val (p.1, q.1) = (RV.of x).v from by rw [hx]; rfl]
  conv => whnf
  refine ⟨(p.2, q.2), rfl, ⟨hp.1.2, hp.2.2⟩, ?_⟩
  rw [show qsubS.val (p.2, q.2) = (RV.of y).v from by rw [hy]; rfl]
  conv => whnf
  show PV.v (RV.of x, RV.of y) = encP _ _
  rw [hx, hy]
  rfl

theorem vscale_ok : Snd Try.prog 68 vscaleS := by
  refine snd_of Evbok Dok Try.func68 (enters_of Try.func68 (by kernel_rfl) rfl) (fun _ => rfl) (fun _ => rfl) ?_
  intro ⟨p, q⟩ hp
  have hp : p.sz 8589934592 ∧ q.sz 8589934592 := hp
  obtain ⟨x, hx⟩ : ∃ x, x = p.1.q * q.q := ⟨_, rfl⟩
  obtain ⟨y, hy⟩ : ∃ x, x = p.2.q * q.q := ⟨_, rfl⟩
  conv => whnf
  refine .inl ⟨11, [[], [], [1], [], [3], [0, 1, 2, 3, 4], [], [], [7], [], [9], [0, 1, 2, 3, 4, 5, 6, 7, 8, 9, 10], [0, 1, 2, 3, 4, 5, 6, 7, 8, 9, 10, 11], [0, 1, 2, 3, 4, 5, 6, 7, 8, 9, 10, 11, 12]], by kernel_rfl, ?_⟩
  conv => whnf
  refine ⟨(p.1, q), rfl, ⟨hp.1.1, hp.2⟩, ?_⟩
  rw [show qmulS.val (p.1, q) = (RV.of x).v from by rw [hx]; rfl]
  conv => whnf
  refine ⟨(p.2, q), rfl, ⟨hp.1.2, hp.2⟩, ?_⟩
  rw [show qmulS.val (p.2, q) = (RV.of y).v from by rw [hy]; rfl]
  conv => whnf
  show PV.v (RV.of x, RV.of y) = encP _ _
  rw [hx, hy]
  rfl

theorem vdot_ok : Snd Try.prog 40 vdotS := by
  refine snd_of Evbok Dok Try.func40 (enters_of Try.func40 (by kernel_rfl) rfl) (fun _ => rfl) (fun _ => rfl) ?_
  intro ⟨p, q⟩ hp
  have hp : p.sz 1073741824 ∧ q.sz 1073741824 := hp
  obtain ⟨x, hx⟩ : ∃ x, x = p.1.q * q.1.q := ⟨_, rfl⟩
  obtain ⟨y, hy⟩ : ∃ x, x = p.2.q * q.2.q := ⟨_, rfl⟩
  obtain ⟨z, hz⟩ : ∃ z, z = x + y := ⟨_, rfl⟩
  have sx : (RV.of x).ok := RV.sz_ok (RV.of_sz (by rw [hx]; exact (RV.qb' hp.1.1 (by decide)).mul (RV.qb' hp.2.1 (by decide)))) (by decide)
  have sy : (RV.of y).ok := RV.sz_ok (RV.of_sz (by rw [hy]; exact (RV.qb' hp.1.2 (by decide)).mul (RV.qb' hp.2.2 (by decide)))) (by decide)
  conv => whnf
  refine .inl ⟨11, [[], [], [1], [], [3], [0, 1, 2, 3, 4], [], [], [7], [], [9], [0, 1, 2, 3, 4, 5, 6, 7, 8, 9, 10], [0, 1, 2, 3, 4, 5, 6, 7, 8, 9, 10, 11], [0, 1, 2, 3, 4, 5, 6, 7, 8, 9, 10, 11, 12]], by kernel_rfl, ?_⟩
  conv => whnf
  refine ⟨(p.1, q.1), rfl, ⟨RV.sz_ok hp.1.1 (by decide), RV.sz_ok hp.2.1 (by decide)⟩, ?_⟩
  rw [show qmulS.val (p.1, q.1) = (RV.of x).v from by rw [hx]; rfl]
  conv => whnf
  refine ⟨(p.2, q.2), rfl, ⟨RV.sz_ok hp.1.2 (by decide), RV.sz_ok hp.2.2 (by decide)⟩, ?_⟩
  rw [show qmulS.val (p.2, q.2) = (RV.of y).v from by rw [hy]; rfl]
  conv => whnf
  refine ⟨(RV.of x, RV.of y), rfl, ⟨sx, sy⟩, ?_⟩
  rw [show qaddS.val (RV.of x, RV.of y) = (RV.of z).v from by
    show encQ ((RV.of x).q + (RV.of y).q) = _
    rw [RV.of_q, RV.of_q, hz]; rfl]
  conv => whnf
  show (RV.of z).v = encQ _
  rw [hz, hx, hy]
  rfl

theorem vcross_ok : Snd Try.prog 41 vcrossS := by
  refine snd_of Evbok Dok Try.func41 (enters_of Try.func41 (by kernel_rfl) rfl) (fun _ => rfl) (fun _ => rfl) ?_
  intro ⟨p, q⟩ hp
  have hp : p.sz 1073741824 ∧ q.sz 1073741824 := hp
  obtain ⟨x, hx⟩ : ∃ x, x = p.1.q * q.2.q := ⟨_, rfl⟩
  obtain ⟨y, hy⟩ : ∃ x, x = p.2.q * q.1.q := ⟨_, rfl⟩
  obtain ⟨z, hz⟩ : ∃ z, z = x - y := ⟨_, rfl⟩
  have sx : (RV.of x).ok := RV.sz_ok (RV.of_sz (by rw [hx]; exact (RV.qb' hp.1.1 (by decide)).mul (RV.qb' hp.2.2 (by decide)))) (by decide)
  have sy : (RV.of y).ok := RV.sz_ok (RV.of_sz (by rw [hy]; exact (RV.qb' hp.1.2 (by decide)).mul (RV.qb' hp.2.1 (by decide)))) (by decide)
  conv => whnf
  refine .inl ⟨11, [[], [], [1], [], [3], [0, 1, 2, 3, 4], [], [], [7], [], [9], [0, 1, 2, 3, 4, 5, 6, 7, 8, 9, 10], [0, 1, 2, 3, 4, 5, 6, 7, 8, 9, 10, 11], [0, 1, 2, 3, 4, 5, 6, 7, 8, 9, 10, 11, 12]], by kernel_rfl, ?_⟩
  conv => whnf
  refine ⟨(p.1, q.2), rfl, ⟨RV.sz_ok hp.1.1 (by decide), RV.sz_ok hp.2.2 (by decide)⟩, ?_⟩
  rw [show qmulS.val (p.1, q.2) = (RV.of x).v from by rw [hx]; rfl]
  conv => whnf
  refine ⟨(p.2, q.1), rfl, ⟨RV.sz_ok hp.1.2 (by decide), RV.sz_ok hp.2.1 (by decide)⟩, ?_⟩
  rw [show qmulS.val (p.2, q.1) = (RV.of y).v from by rw [hy]; rfl]
  conv => whnf
  refine ⟨(RV.of x, RV.of y), rfl, ⟨sx, sy⟩, ?_⟩
  rw [show qsubS.val (RV.of x, RV.of y) = (RV.of z).v from by
    show encQ ((RV.of x).q - (RV.of y).q) = _
    rw [RV.of_q, RV.of_q, hz]; rfl]
  conv => whnf
  show (RV.of z).v = encQ _
  rw [hz, hx, hy]
  rfl

theorem vcmp_ok : Snd Try.prog 20 vcmpS := by
  refine snd_of Evbok Dok Try.func20 (enters_of Try.func20 (by kernel_rfl) rfl) (fun _ => rfl) (fun _ => rfl) ?_
  intro ⟨p, q⟩ hp
  have hp : p.sz 8589934592 ∧ q.sz 8589934592 := hp
  obtain ⟨x, hx⟩ : ∃ x, x = cmpQ p.1.q q.1.q := ⟨_, rfl⟩
  obtain ⟨y, hy⟩ : ∃ x, x = cmpQ p.2.q q.2.q := ⟨_, rfl⟩
  have fin : ∀ z : Int, z = (if x ≠ 0 then x else y) → Value.int .i64 z = vcmpS.val (p, q) := fun z h => by rw [h, hx, hy]; rfl
  conv => whnf
  refine ⟨(p.1, q.1), rfl, ⟨hp.1.1, hp.2.1⟩, ?_⟩
  rw [show qcmpS.val (p.1, q.1) = .int .i64 x from by rw [hx]; rfl]
  conv => whnf
  refine br_intro (fun h => ?_) (fun h => ?_)
  · have h : x ≠ 0 := by
      intro e
      subst e
      simp at h
    conv => whnf
    exact fin _ (if_pos h).symm
  · have h : x = 0 := by simpa using h
    conv => whnf
    refine ⟨(p.2, q.2), rfl, ⟨hp.1.2, hp.2.2⟩, ?_⟩
    rw [show qcmpS.val (p.2, q.2) = .int .i64 y from by rw [hy]; rfl]
    conv => whnf
    exact fin _ (if_neg (fun e => e h)).symm

end Go.Proofs.Ytppeponndkfbkaa
/- Contracts of vector and of the reference vectors: checks, extremes. -/
set_option linter.unusedVariables false
set_option linter.unusedSimpArgs false
set_option maxRecDepth 20000
set_option maxHeartbeats 1000000
namespace Go.Proofs.Ytppeponndkfbkaa
open Go Go.Ae

theorem vcheck_ok : Snd Try.prog 14 vcheckS := by
  refine snd_of Evbok Dok Try.func14 (enters_of Try.func14 (by kernel_rfl) rfl) (fun _ => rfl) (fun _ => rfl) ?_
  intro (p : PV) hp
  have hp : p.sz 8589934592 := hp
  have fin0 : p.1 = RV.of p.1.q → p.2 = RV.of p.2.q → Value.int .i64 0 = vcheckS.val p := fun h1 h2 => by
    show _ = Value.int .i64 (if p.canon then 0 else 1)
    rw [if_pos ⟨h1, h2⟩]
  have fin1 : ¬ p.canon → Value.int .i64 1 = vcheckS.val p := fun h => by
    show _ = Value.int .i64 (if p.canon then 0 else 1)
    rw [if_neg h]
  conv => whnf
  refine .inr ⟨3, ?_⟩
  conv => whnf
  refine ⟨⟨by decide, by decide⟩, ?_⟩
  conv => whnf
  refine ⟨p.1, rfl, hp.1, ?_⟩
  by_cases h1 : p.1 = RV.of p.1.q
  · rw [show qcheckS.val p.1 = .int .i64 0 from by show Value.int .i64 (if p.1 = RV.of p.1.q then 0 else 1) = _; rw [if_pos h1]]
    conv => whnf
    refine ⟨⟨by decide, by decide⟩, ?_⟩
    conv => whnf
    refine ⟨p.2, rfl, hp.2, ?_⟩
    by_cases h2 : p.2 = RV.of p.2.q
    · rw [show qcheckS.val p.2 = .int .i64 0 from by show Value.int .i64 (if p.2 = RV.of p.2.q then 0 else 1) = _; rw [if_pos h2]]
      conv => whnf
      exact fin0 h1 h2
    · rw [show qcheckS.val p.2 = .int .i64 1 from by show Value.int .i64 (if p.2 = RV.of p.2.q then 0 else 1) = _; rw [if_neg h2]]
      conv => whnf
      exact fin1 (fun h => h2 h.2)
  · rw [show qcheckS.val p.1 = .int .i64 1 from by show Value.int .i64 (if p.1 = RV.of p.1.q then 0 else 1) = _; rw [if_neg h1]]
    conv => whnf
    exact fin1 (fun h => h1 h.1)

def Evf : Env := { tt := tt, eqs := [], Φ := fun g => match g with
  | 49 => some (.p vsubS)
  | 68 => some (.p vscaleS)
  | 31 => some (.p vaddS)
  | 40 => some (.p vdotS)
  | _ => none }
theorem Evfok : EnvOk Try.prog Evf := ⟨tt_ok, fun t h => by simp [Evf] at h, (fun g S h => by
  simp only [Evf] at h
  split at h
  · cases h; exact vsub_ok
  · cases h; exact vscale_ok
  · cases h; exact vadd_ok
  · cases h; exact vdot_ok
  · cases h), fun g F h => by simp [Evf] at h⟩
def Evg : Env := { tt := tt, eqs := [], Φ := fun g => match g with
  | _ => none }
theorem Evgok : EnvOk Try.prog Evg := ⟨tt_ok, fun t h => by simp [Evg] at h, (fun g S h => by
  change none = some S at h
  cases h), fun g F h => by simp [Evg] at h⟩

theorem vat_ok : Snd Try.prog 42 vatS := by
  refine snd_of Evfok Dok Try.func42 (enters_of Try.func42 (by kernel_rfl) rfl) (fun _ => rfl) (fun _ => rfl) ?_
  intro ⟨⟨p, q⟩, t⟩ hp
  have hp : (p.sz 268435456 ∧ q.sz 268435456) ∧ t.sz 268435456 := hp
  obtain ⟨⟨hp, hq⟩, ht⟩ := hp
  obtain ⟨x, hx⟩ : ∃ x, x = q.1.q - p.1.q := ⟨_, rfl⟩
  obtain ⟨y, hy⟩ : ∃ x, x = q.2.q - p.2.q := ⟨_, rfl⟩
  obtain ⟨x2, hx2⟩ : ∃ z, z = x * t.q := ⟨_, rfl⟩
  obtain ⟨y2, hy2⟩ : ∃ z, z = y * t.q := ⟨_, rfl⟩
  obtain ⟨x3, hx3⟩ : ∃ z, z = p.1.q + x2 := ⟨_, rfl⟩
  obtain ⟨y3, hy3⟩ : ∃ z, z = p.2.q + y2 := ⟨_, rfl⟩
  have bx : QB x 536870913 := by rw [hx]; exact (RV.qb' hq.1 (by decide)).sub (RV.qb' hp.1 (by decide))
  have byy : QB y 536870913 := by rw [hy]; exact (RV.qb' hq.2 (by decide)).sub (RV.qb' hp.2 (by decide))
  have bx2 : QB x2 805306369 := by rw [hx2]; exact bx.mul (RV.qb' ht (by decide))
  have by2 : QB y2 805306369 := by rw [hy2]; exact byy.mul (RV.qb' ht (by decide))
  conv => whnf
  refine .inl ⟨6, [[], [], [], [1, 2], [], [1, 2, 3, 4], [0, 1, 2, 3, 4, 5], [0, 1, 2, 3, 4, 5, 6]], by kernel_rfl, ?_⟩
  conv => whnf
  refine ⟨(q, p), rfl, ⟨PV.sz_mono hq (by decide), PV.sz_mono hp (by decide)⟩, ?_⟩
  rw [show vsubS.val (q, p) = PV.v (RV.of x, RV.of y) from by rw [hx, hy]; rfl]
  conv => whnf
  refine ⟨((RV.of x, RV.of y), t), rfl, ⟨⟨RV.of_sz (bx.mono (by decide)), RV.of_sz (byy.mono (by decide))⟩, RV.sz_mono ht (by decide)⟩, ?_⟩
  rw [show vscaleS.val ((RV.of x, RV.of y), t) = PV.v (RV.of x2, RV.of y2) from by
    show encP ((RV.of x).q * t.q) ((RV.of y).q * t.q) = _
    rw [RV.of_q, RV.of_q, ← hx2, ← hy2]; rfl]
  conv => whnf
  refine ⟨(p, (RV.of x2, RV.of y2)), rfl, ⟨PV.sz_mono hp (by decide), RV.of_sz (bx2.mono (by decide)), RV.of_sz (by2.mono (by decide))⟩, ?_⟩
  rw [show vaddS.val (p, (RV.of x2, RV.of y2)) = PV.v (RV.of x3, RV.of y3) from by
    show encP (p.1.q + (RV.of x2).q) (p.2.q + (RV.of y2).q) = _
    rw [RV.of_q, RV.of_q, ← hx3, ← hy3]; rfl]
  conv => whnf
  show PV.v (RV.of x3, RV.of y3) = encP _ _
  rw [hx3, hy3, hx2, hy2, hx, hy]
  rfl

theorem vdist_ok : Snd Try.prog 30 vdistS := by
  refine snd_of Evfok Dok Try.func30 (enters_of Try.func30 (by kernel_rfl) rfl) (fun _ => rfl) (fun _ => rfl) ?_
  intro ⟨p, q⟩ hp
  have hp : p.sz 268435456 ∧ q.sz 268435456 := hp
  obtain ⟨hp, hq⟩ := hp
  have bx : QB (p.1.q - q.1.q) 536870913 := (RV.qb' hp.1 (by decide)).sub (RV.qb' hq.1 (by decide))
  have byy : QB (p.2.q - q.2.q) 536870913 := (RV.qb' hp.2 (by decide)).sub (RV.qb' hq.2 (by decide))
  have hds : (diffP p q).sz 1073741824 := ⟨RV.of_sz (bx.mono (by decide)), RV.of_sz (byy.mono (by decide))⟩
  have ed : vsubS.val (p, q) = (diffP p q).v := rfl
  have fin : ∀ v, v = vdotS.val (diffP p q, diffP p q) → v = vdistS.val (p, q) := fun v h => h
  obtain ⟨d, hd⟩ : ∃ d, d = diffP p q := ⟨_, rfl⟩
  rw [← hd] at hds ed fin
  obtain ⟨z, hz⟩ : ∃ z, z = dotQ d d := ⟨_, rfl⟩
  have ez : vdotS.val (d, d) = (RV.of z).v := by rw [hz]; rfl
  rw [ez] at fin
  conv => whnf
  refine ⟨(p, q), rfl, ⟨PV.sz_mono hp (by decide), PV.sz_mono hq (by decide)⟩, ?_⟩
  rw [ed]
  conv => whnf
  refine ⟨(d, d), rfl, ⟨hds, hds⟩, ?_⟩
  rw [ez]
  conv => whnf
  exact fin _ rfl

def Evh : Env := { tt := tt, eqs := [], Φ := fun g => match g with
  | 78 => some (.p qgreatS)
  | _ => none }
theorem Evhok : EnvOk Try.prog Evh := ⟨tt_ok, fun t h => by simp [Evh] at h, (fun g S h => by
  simp only [Evh] at h
  split at h
  · cases h; exact rqgreat_ok
  · cases h), fun g F h => by simp [Evh] at h⟩

theorem rvgreat_ok : Snd Try.prog 36 vgreatS := by
  refine snd_of Evhok Dok Try.func36 (enters_of Try.func36 (by kernel_rfl) rfl) (fun _ => rfl) (fun _ => rfl) ?_
  intro (p : PV) _
  have fin : ∀ x : Bool, x = decide p.great → Value.bool x = vgreatS.val p := fun x h => by rw [h]; rfl
  conv => whnf
  refine ⟨p.1, rfl, trivial, ?_⟩
  rw [show qgreatS.val p.1 = .bool (decide p.1.great) from rfl]
  by_cases h1 : p.1.great
  · rw [decide_eq_true h1]
    conv => whnf
    exact fin _ (decide_eq_true (.inl h1)).symm
  · rw [decide_eq_false h1]
    conv => whnf
    refine ⟨p.2, rfl, trivial, ?_⟩
    obtain ⟨g, hg⟩ : ∃ g, g = decide p.2.great := ⟨_, rfl⟩
    rw [show qgreatS.val p.2 = .bool g from by rw [hg]; rfl]
    conv => whnf
    refine fin _ ?_
    show g = _
    rw [hg]
    by_cases h2 : p.2.great
    · rw [decide_eq_true h2, decide_eq_true (show p.great from .inr h2)]
    · rw [decide_eq_false h2, decide_eq_false (show ¬ p.great from fun h => h.elim h1 h2)]
end Go.Proofs.Ytppeponndkfbkaa
/- Contracts of vector and of the reference vectors: lists. -/
set_option linter.unusedVariables false
set_option linter.unusedSimpArgs false
set_option maxRecDepth 20000
set_option maxHeartbeats 1000000
namespace Go.Proofs.Ytppeponndkfbkaa
open Go Go.Ae

def Evi : Env := { tt := tt, eqs := [], Φ := fun g => match g with
  | 36 => some (.p vgreatS)
  | _ => none }
theorem Eviok : EnvOk Try.prog Evi := ⟨tt_ok, fun t h => by simp [Evi] at h, (fun g S h => by
  simp only [Evi] at h
  split at h
  · cases h; exact rvgreat_ok
  · cases h), fun g F h => by simp [Evi] at h⟩
theorem index_ft : FTOk Try.prog 89 (fnK Evi drawT Try.f89) := by
  exact ft_of Eviok Dok Try.func89 (enters_of Try.func89 (by kernel_rfl) rfl)
def EvjW : FuncId → Option FT := fun g => match g with
  | 89 => some (fnK Evi drawT Try.f89)
  | _ => none
def Evj : Env := { tt := tt, eqs := [], Ψ := EvjW, Φ := fun g => match g with
  | _ => none }
theorem Evjok : EnvOk Try.prog Evj := ⟨tt_ok, fun t h => by simp [Evj] at h, (fun g S h => by
  change none = some S at h
  cases h), (fun g F h => by
  simp only [Evj, EvjW] at h
  split at h
  · cases h; exact index_ft
  · cases h)⟩
theorem contains_ft : FTOk Try.prog 58 (fnK Evj drawT Try.f58) := by
  exact ft_of Evjok Dok Try.func58 (enters_of Try.func58 (by kernel_rfl) rfl)
def EvkW : FuncId → Option FT := fun g => match g with
  | 58 => some (fnK Evj drawT Try.f58)
  | _ => none
def Evk : Env := { tt := tt, eqs := [], Ψ := EvkW, Φ := fun g => match g with
  | _ => none }
theorem Evkok : EnvOk Try.prog Evk := ⟨tt_ok, fun t h => by simp [Evk] at h, (fun g S h => by
  change none = some S at h
  cases h), (fun g F h => by
  simp only [Evk, EvkW] at h
  split at h
  · cases h; exact contains_ft
  · cases h)⟩

theorem extreme_ok : QSnd Try.prog 47 extremeS := by
  refine qsnd_of Evbok Dok Try.func47 (enters_of Try.func47 (by kernel_rfl) rfl) ?_ ?_ ?_
  · intro i b hb; simp [extremeS] at hb; rw [hb]; rfl
  · intro i b hb; simp [extremeS] at hb
  intro ⟨⟨s, l⟩, c⟩ hp
  have hp : l ≠ [] ∧ (∀ r ∈ l, r.ok) ∧ l.length ≤ c ∧ c ≤ 1099511627776 := hp
  obtain ⟨hne, hok, hlc, hc⟩ := hp
  obtain ⟨a, l, rfl⟩ : ∃ a l', l = a :: l' := List.exists_cons_of_ne_nil hne
  obtain ⟨k, hk⟩ : ∃ k, k = l.length := ⟨_, rfl⟩
  obtain ⟨n, hn⟩ : ∃ n, n = (a :: l).length := ⟨_, rfl⟩
  have hnk : n = k + 1 := by rw [hn, hk]; rfl
  have hcn : n ≤ c := by rw [hn]; exact hlc
  obtain ⟨g, hg⟩ : ∃ g, g = rowsR (a :: l) := ⟨_, rfl⟩
  have hg0 : g 0 = a.cells := by rw [hg]; rfl
  have hcu : c ≠ capU := by unfold capU; omega
  have hv : extremeS.val ((s, a :: l), c) = (l.foldl (extF s) a).v := rfl
  conv => whnf
  rw [show ((s, a :: l), c).fst.snd.length = n from hn.symm, show rowsR ((s, a :: l), c).fst.snd = g from hg.symm]
  refine ⟨⟨by omega, by omega⟩, ?_⟩
  conv => whnf
  refine ⟨by show 0 < n; omega, ?_⟩
  conv => whnf
  rw [show rowAdd 0 (Int.toNat 0) = 0 from rfl, hg0]
  conv => whnf
  refine ⟨⟨by omega, by omega, by omega⟩, ?_⟩
  rw [show Int.toNat (n : Int) - Int.toNat 1 = k from by
    show n - 1 = k
    omega]
  conv => whnf
  refine .inl ⟨fun mm tz hz => ∃ (j : Nat) (o : RV), Pat [some (.int .i64 s), none, none, none, some (.pointer (some ⟨1, 0, none⟩)), some (.pointer (some ⟨2, 0, none⟩)), none, none, none, none, none, none, some (.slice (some ⟨0, 1, none⟩) k (capSub c 1)), some (.int .i64 k), some (.int .i64 j), none, none, none, none, none, none, none, none, none, none, none] tz ∧ hz = [some (.flat false n 3 g), some (.expl true 3 [[.bool false, .string ⟨#[]⟩, .string ⟨#[]⟩]]), some (.expl true 3 [o.cells])] ∧ k - j = mm ∧ (j ≤ k ∧ o = (l.take j).foldl (extF s) a), .inr ⟨[0, 1, 2], [0, 4, 5, 12, 13, 14], ?_⟩, ?_⟩
  · conv => whnf
    intro _
    conv => whnf
    refine ⟨_, 0, a, (.keep (.skip (.skip (.skip (.keep (.keep (.skip (.skip (.skip (.skip (.skip (.skip (.keep (.keep (.keep (.skip (.skip (.skip (.skip (.skip (.skip (.skip (.skip (.skip (.skip (.skip (.nil))))))))))))))))))))))))))), rfl, rfl, ?_⟩
    exact ⟨Nat.zero_le _, rfl⟩
  rintro mm tms _ ⟨j, o, hpat, rfl, rfl, ⟨hj, ho⟩⟩
  obtain ⟨az, rfl⟩ : ∃ az : Nat → Value, tms = [.int .i64 s, az 1, az 2, az 3, .pointer (some ⟨1, 0, none⟩), .pointer (some ⟨2, 0, none⟩), az 6, az 7, az 8, az 9, az 10, az 11, .slice (some ⟨0, 1, none⟩) k (capSub c 1), .int .i64 k, .int .i64 j, az 15, az 16, az 17, az 18, az 19, az 20, az 21, az 22, az 23, az 24, az 25] := pat_fill hpat
  clear hpat
  have hoo : o.ok := by
    rw [ho]
    have h1 := ext_mem (s := s) (a := a) (l.take j)
    refine hok _ ?_
    rcases List.mem_cons.1 h1 with h | h
    · rw [h]; exact List.mem_cons_self
    · exact List.mem_cons_of_mem _ (List.mem_of_mem_take h)
  conv => whnf
  refine br_intro (fun h1 => ?_) (fun h1 => ?_)
  · have h1 : j < k := by
      have := of_decide_eq_true h1
      omega
    obtain ⟨r, hrl, hrm, hrow⟩ := rowsR_get (l := a :: l) (i := j + 1) (by omega)
    rw [← hg] at hrow
    have hrl : l[j]? = some r := by simpa using hrl
    have hst := ext_step (s := s) (a := a) hrl
    rw [← ho] at hst
    obtain ⟨q, hq⟩ : ∃ q, q = 1 + j := ⟨_, rfl⟩
    rw [show j + 1 = q by omega] at hrow
    have e7 : IntKind.i64.wrap ((j : Int) + 1) = ((j + 1 : Nat) : Int) := by rw [wrapi64 (by omega) (by omega)]; rfl
    obtain ⟨w, hw⟩ : ∃ w, w = cmpQ r.q o.q := ⟨_, rfl⟩
    conv => whnf
    refine ⟨⟨by omega, by omega⟩, ?_⟩
    simp only [toNat_cast, rowAdd_eq, ← hq]
    conv => whnf
    refine ⟨by show q < n; omega, ?_⟩
    conv => whnf
    rw [hrow]
    conv => whnf
    refine ⟨(r, o), rfl, ⟨hok r hrm, hoo⟩, ?_⟩
    rw [show qcmpS.val (r, o) = .int .i64 w from by rw [hw]; rfl]
    conv => whnf
    refine br_intro (fun h2 => ?_) (fun h2 => ?_)
    · have h2 : w = s := by simpa using h2
      rw [show extF s o r = r from if_pos (by rw [← hw]; exact h2)] at hst
      conv => whnf
      rw [e7]
      refine .inr ⟨[0, 1, 2], [0, 4, 5, 12, 13, 14], ?_⟩
      conv => whnf
      intro _
      conv => whnf
      refine ⟨_, ?_, j + 1, r, (.keep (.skip (.skip (.skip (.keep (.keep (.skip (.skip (.skip (.skip (.skip (.skip (.keep (.keep (.keep (.skip (.skip (.skip (.skip (.skip (.skip (.skip (.skip (.skip (.skip (.skip (.nil))))))))))))))))))))))))))), rfl, rfl, ?_⟩
      · omega
      · exact ⟨by omega, hst.symm⟩
    · have h2 : w ≠ s := by
        intro e
        subst e
        simp at h2
      rw [show extF s o r = o from if_neg (by rw [← hw]; exact h2)] at hst
      conv => whnf
      rw [e7]
      refine .inr ⟨[0, 1, 2], [0, 4, 5, 12, 13, 14], ?_⟩
      conv => whnf
      intro _
      conv => whnf
      refine ⟨_, ?_, j + 1, o, (.keep (.skip (.skip (.skip (.keep (.keep (.skip (.skip (.skip (.skip (.skip (.skip (.keep (.keep (.keep (.skip (.skip (.skip (.skip (.skip (.skip (.skip (.skip (.skip (.skip (.skip (.nil))))))))))))))))))))))))))), rfl, rfl, ?_⟩
      · omega
      · exact ⟨by omega, hst.symm⟩
  · have h1 : j = k := by
      have := of_decide_eq_false h1
      omega
    subst h1
    rw [hk, List.take_length] at ho
    rw [← ho] at hv
    conv => whnf
    refine ⟨o.v, by rw [hv]; rfl, ?_⟩
    exact .refl _
end Go.Proofs.Ytppeponndkfbkaa
/- Contracts of vector and of the reference vectors: square distance, boxes. -/
set_option linter.unusedVariables false
set_option linter.unusedSimpArgs false
set_option maxRecDepth 20000
set_option maxHeartbeats 1000000
namespace Go.Proofs.Ytppeponndkfbkaa
open Go Go.Ae

def Evl : Env := { tt := tt, eqs := [], Φ := fun g => match g with
  | 49 => some (.p vsubS)
  | 61 => some (.p qnegS)
  | 47 => some (.q extremeS)
  | 50 => some (.p qsignS)
  | _ => none }
theorem Evlok : EnvOk Try.prog Evl := ⟨tt_ok, fun t h => by simp [Evl] at h, (fun g S h => by
  simp only [Evl] at h
  split at h
  · cases h; exact vsub_ok
  · cases h; exact qneg_ok
  · cases h; exact extreme_ok
  · cases h; exact qsign_ok
  · cases h), fun g F h => by simp [Evl] at h⟩

theorem vsquare_ok : Snd Try.prog 43 vsquareS := by
  refine snd_of Evlok Dok Try.func43 (enters_of Try.func43 (by kernel_rfl) rfl) (fun _ => rfl) (fun _ => rfl) ?_
  intro ⟨p, q⟩ hp
  have hp : p.sz 268435456 ∧ q.sz 268435456 := hp
  obtain ⟨hp, hq⟩ := hp
  obtain ⟨x, hx⟩ : ∃ x, x = p.1.q - q.1.q := ⟨_, rfl⟩
  obtain ⟨y, hy⟩ : ∃ x, x = p.2.q - q.2.q := ⟨_, rfl⟩
  have bx : QB x 536870913 := by rw [hx]; exact (RV.qb' hp.1 (by decide)).sub (RV.qb' hq.1 (by decide))
  have byy : QB y 536870913 := by rw [hy]; exact (RV.qb' hp.2 (by decide)).sub (RV.qb' hq.2 (by decide))
  have ox : (RV.of x).ok := RV.of_ok (bx.mono (by decide))
  have oy : (RV.of y).ok := RV.of_ok (byy.mono (by decide))
  have ed : vsubS.val (p, q) = PV.v (RV.of x, RV.of y) := by rw [hx, hy]; rfl
  obtain ⟨z, hz⟩ : ∃ z, z = maxQ (absQ x) (absQ y) := ⟨_, rfl⟩
  have fin : ∀ v, v = (RV.of z).v → v = vsquareS.val (p, q) := fun v h => by rw [h, hz, hx, hy]; rfl
  have on : (RV.of (-x)).ok := RV.of_ok (bx.neg.mono (by decide))
  have om : (RV.of (-y)).ok := RV.of_ok (byy.neg.mono (by decide))
  obtain ⟨a, ha⟩ : ∃ a, a = RV.of x := ⟨_, rfl⟩
  obtain ⟨b, hb⟩ : ∃ a, a = RV.of (-x) := ⟨_, rfl⟩
  obtain ⟨c, hc⟩ : ∃ a, a = RV.of y := ⟨_, rfl⟩
  obtain ⟨d, hd⟩ : ∃ a, a = RV.of (-y) := ⟨_, rfl⟩
  have eb : qnegS.val a = b.v := by rw [ha, hb]; show encQ (-(RV.of x).q) = _; rw [RV.of_q]; rfl
  have edd : qnegS.val c = d.v := by rw [hc, hd]; show encQ (-(RV.of y).q) = _; rw [RV.of_q]; rfl
  have ex : extV 1 [a, b, c, d] = RV.of z := by rw [ha, hb, hc, hd, hz]; exact square_ext x y
  rw [← ha] at ox
  rw [← hc] at oy
  rw [← hb] at on
  rw [← hd] at om
  rw [← ha, ← hc] at ed
  conv => whnf
  refine ⟨(p, q), rfl, ⟨PV.sz_mono hp (by decide), PV.sz_mono hq (by decide)⟩, ?_⟩
  rw [ed]
  conv => whnf
  refine .inl ⟨10, [[], [0], [], [2], [2, 3], [], [5], [], [7], [2, 3, 4, 7, 8], [0, 1, 2, 3, 4, 5, 6, 7, 8, 9], [0, 1, 2, 3, 4, 5, 6, 7, 8, 9, 10], [0, 1, 2, 3, 4, 5, 6, 7, 8, 9, 10, 11]], by kernel_rfl, ?_⟩
  conv => whnf
  refine ⟨a, rfl, ox, ?_⟩
  rw [eb]
  conv => whnf
  refine ⟨c, rfl, oy, ?_⟩
  rw [edd]
  conv => whnf
  refine ⟨((1, [a, b, c, d]), 4), [14], rfl, ⟨(fun h => by cases h), fun r hr => ?_, Nat.le_refl _, by show 4 ≤ 1099511627776; decide⟩, ?_⟩
  · simp only [List.mem_cons, List.mem_nil_iff, or_false] at hr
    rcases hr with rfl | rfl | rfl | rfl <;> assumption
  conv => whnf
  refine ⟨blk_rows rfl (fun r hr => ?_) (fun r hr => rfl), ?_⟩
  · have : r = 0 ∨ r = 1 ∨ r = 2 ∨ r = 3 := by
      have hr : r < 4 := hr
      omega
    rcases this with rfl | rfl | rfl | rfl <;> rfl
  conv => whnf
  refine ⟨(RV.of z).v, by rw [show extremeS.val ((1, [a, b, c, d]), 4) = (RV.of z).v from by show (extV 1 [a, b, c, d]).v = _; rw [ex]]; rfl, ?_⟩
  conv => whnf
  exact fin _ rfl

def Evm : Env := { tt := tt, eqs := [], Φ := fun g => match g with
  | _ => none }
theorem Evmok : EnvOk Try.prog Evm := ⟨tt_ok, fun t h => by simp [Evm] at h, (fun g S h => by
  change none = some S at h
  cases h), fun g F h => by simp [Evm] at h⟩

theorem vwithin_ok : Snd Try.prog 15 vwithinS := by
  refine snd_of Evlok Dok Try.func15 (enters_of Try.func15 (by kernel_rfl) rfl) (fun _ => rfl) (fun _ => rfl) ?_
  intro ⟨⟨lo, hi⟩, p⟩ hp
  have hp : (lo.sz 268435456 ∧ hi.sz 268435456) ∧ p.sz 268435456 := hp
  obtain ⟨⟨hl, hh⟩, hp⟩ := hp
  obtain ⟨x1, hx1⟩ : ∃ x, x = p.1.q - lo.1.q := ⟨_, rfl⟩
  obtain ⟨x2, hx2⟩ : ∃ x, x = p.2.q - lo.2.q := ⟨_, rfl⟩
  obtain ⟨x3, hx3⟩ : ∃ x, x = hi.1.q - p.1.q := ⟨_, rfl⟩
  obtain ⟨x4, hx4⟩ : ∃ x, x = hi.2.q - p.2.q := ⟨_, rfl⟩
  have b1 : QB x1 536870913 := by rw [hx1]; exact (RV.qb' hp.1 (by decide)).sub (RV.qb' hl.1 (by decide))
  have b2 : QB x2 536870913 := by rw [hx2]; exact (RV.qb' hp.2 (by decide)).sub (RV.qb' hl.2 (by decide))
  have b3 : QB x3 536870913 := by rw [hx3]; exact (RV.qb' hh.1 (by decide)).sub (RV.qb' hp.1 (by decide))
  have b4 : QB x4 536870913 := by rw [hx4]; exact (RV.qb' hh.2 (by decide)).sub (RV.qb' hp.2 (by decide))
  have e1 : vsubS.val (p, lo) = PV.v (RV.of x1, RV.of x2) := by rw [hx1, hx2]; rfl
  have e2 : vsubS.val (hi, p) = PV.v (RV.of x3, RV.of x4) := by rw [hx3, hx4]; rfl
  obtain ⟨z, hz⟩ : ∃ z, z = minQ (minQ (minQ x1 x2) x3) x4 := ⟨_, rfl⟩
  have bz : QB z 536870913 := by rw [hz]; exact ((b1.min b2).min b3).min b4
  obtain ⟨a, ha⟩ : ∃ a, a = RV.of x1 := ⟨_, rfl⟩
  obtain ⟨b, hb⟩ : ∃ a, a = RV.of x2 := ⟨_, rfl⟩
  obtain ⟨c, hc⟩ : ∃ a, a = RV.of x3 := ⟨_, rfl⟩
  obtain ⟨d, hd⟩ : ∃ a, a = RV.of x4 := ⟨_, rfl⟩
  have ex : extV (-1) [a, b, c, d] = RV.of z := by rw [ha, hb, hc, hd, hz]; exact within_extV x1 x2 x3 x4
  have o1 : a.ok := by rw [ha]; exact RV.of_ok (b1.mono (by decide))
  have o2 : b.ok := by rw [hb]; exact RV.of_ok (b2.mono (by decide))
  have o3 : c.ok := by rw [hc]; exact RV.of_ok (b3.mono (by decide))
  have o4 : d.ok := by rw [hd]; exact RV.of_ok (b4.mono (by decide))
  rw [← ha, ← hb] at e1
  rw [← hc, ← hd] at e2
  obtain ⟨w, hw⟩ : ∃ w, w = cmpQ z 0 := ⟨_, rfl⟩
  have fin : Value.bool (decide (w ≥ 0)) = vwithinS.val ((lo, hi), p) := by
    show _ = Value.bool (decide (inBox (lo, hi) p))
    congr 1
    have h1 : w ≥ 0 ↔ inBox (lo, hi) p := by
      rw [hw, cmpQ_ge, hz, within_ext, hx1, hx2, hx3, hx4]
      simp only [sub_nonneg']
      unfold inBox
      constructor
      · rintro ⟨a, b, c, d⟩; exact ⟨a, c, b, d⟩
      · rintro ⟨a, b, c, d⟩; exact ⟨a, c, b, d⟩
    simp only [h1]
  conv => whnf
  refine .inl ⟨10, [[], [], [1], [0, 1, 2], [], [4], [], [0, 1, 2, 3, 4, 5, 6], [], [], [0, 1, 2, 3, 4, 5, 6, 7, 8, 9], [0, 1, 2, 3, 4, 5, 6, 7, 8, 9, 10]], by kernel_rfl, ?_⟩
  conv => whnf
  refine ⟨(p, lo), rfl, ⟨PV.sz_mono hp (by decide), PV.sz_mono hl (by decide)⟩, ?_⟩
  rw [e1]
  conv => whnf
  refine ⟨(hi, p), rfl, ⟨PV.sz_mono hh (by decide), PV.sz_mono hp (by decide)⟩, ?_⟩
  rw [e2]
  conv => whnf
  refine ⟨((-1, [a, b, c, d]), 4), [12], rfl, ⟨(fun h => by cases h), fun r hr => ?_, Nat.le_refl _, by show 4 ≤ 1099511627776; decide⟩, ?_⟩
  · simp only [List.mem_cons, List.mem_nil_iff, or_false] at hr
    rcases hr with rfl | rfl | rfl | rfl <;> assumption
  conv => whnf
  refine ⟨blk_rows rfl (fun r hr => ?_) (fun r hr => rfl), ?_⟩
  · have : r = 0 ∨ r = 1 ∨ r = 2 ∨ r = 3 := by
      have hr : r < 4 := hr
      omega
    rcases this with rfl | rfl | rfl | rfl <;> rfl
  conv => whnf
  refine ⟨(RV.of z).v, by rw [show extremeS.val ((-1, [a, b, c, d]), 4) = (RV.of z).v from by show (extV (-1) [a, b, c, d]).v = _; rw [ex]]; rfl, ?_⟩
  conv => whnf
  refine ⟨RV.of z, rfl, RV.of_ok (bz.mono (by decide)), ?_⟩
  rw [show qsignS.val (RV.of z) = .int .i64 w from by show Value.int .i64 (cmpQ (RV.of z).q 0) = _; rw [RV.of_q, hw]]
  conv => whnf
  exact fin

end Go.Proofs.Ytppeponndkfbkaa
/- The laws of vectors: the chapter's example; sums, products; measures. -/
set_option linter.unusedVariables false
set_option linter.unusedSimpArgs false
set_option maxRecDepth 20000
set_option maxHeartbeats 1000000
namespace Go.Proofs.Ytppeponndkfbkaa
open Go Go.Ae

def Ela : Env := { tt := tt, eqs := eqsL, Φ := fun g => match g with
  | 37 => some (.p vofS)
  | 39 => some (.p qofS)
  | 38 => some (.p qratioS)
  | 31 => some (.p vaddS)
  | 40 => some (.p vdotS)
  | 41 => some (.p vcrossS)
  | 42 => some (.p vatS)
  | 30 => some (.p vdistS)
  | 43 => some (.p vsquareS)
  | _ => none }
theorem Elaok : EnvOk Try.prog Ela := ⟨tt_ok, eqs_ok, (fun g S h => by
  simp only [Ela] at h
  split at h
  · cases h; exact vof_ok
  · cases h; exact qof_ok
  · cases h; exact qratio_ok
  · cases h; exact vadd_ok
  · cases h; exact vdot_ok
  · cases h; exact vcross_ok
  · cases h; exact vat_ok
  · cases h; exact vdist_ok
  · cases h; exact vsquare_ok
  · cases h), fun g F h => by simp [Ela] at h⟩

theorem awake_ok : Snd Try.prog 10 awakeS := by
  refine snd_of Elaok Dok Try.func10 (enters_of Try.func10 (by kernel_rfl) rfl) (fun _ => rfl) (fun _ => rfl) ?_
  intro _ _
  obtain ⟨p, hp⟩ : ∃ p, p = exP := ⟨_, rfl⟩
  obtain ⟨q, hq⟩ : ∃ p, p = exQ := ⟨_, rfl⟩
  obtain ⟨h, hh⟩ : ∃ p, p = exH := ⟨_, rfl⟩
  obtain ⟨r1, h1⟩ : ∃ r, r = RV.of ((1 : Int) : Rat) := ⟨_, rfl⟩
  obtain ⟨r4, h4⟩ : ∃ r, r = RV.of ((4 : Int) : Rat) := ⟨_, rfl⟩
  obtain ⟨r7, h7⟩ : ∃ r, r = RV.of ((-7 : Int) : Rat) := ⟨_, rfl⟩
  obtain ⟨r2, h2⟩ : ∃ r, r = RV.of ((2 : Int) : Rat) := ⟨_, rfl⟩
  obtain ⟨r13, h13⟩ : ∃ r, r = RV.of ((13 : Int) : Rat) := ⟨_, rfl⟩
  obtain ⟨r3, h3⟩ : ∃ r, r = RV.of ((3 : Int) : Rat) := ⟨_, rfl⟩
  have sp : ∀ k, 1 ≤ k → p.sz k := fun k hk => by rw [hp]; exact exP_sz hk
  have sq : ∀ k, 1 ≤ k → q.sz k := fun k hk => by rw [hq]; exact exQ_sz hk
  have sh : ∀ k, 1 ≤ k → h.sz k := fun k hk => by rw [hh]; exact exH_sz hk
  conv => whnf
  refine ⟨(1, 2), rfl, ⟨by show ok1 1; decide, by show ok1 2; decide⟩, ?_⟩
  rw [show vofS.val (1, 2) = p.v from by rw [hp]; rfl]
  conv => whnf
  refine ⟨(3, -1), rfl, ⟨by show ok1 3; decide, by show ok1 (-1); decide⟩, ?_⟩
  rw [show vofS.val (3, -1) = q.v from by rw [hq]; rfl]
  conv => whnf
  refine ⟨(1, 2), rfl, ⟨by show ok1 1; decide, by show ok1 2; decide⟩, ?_⟩
  rw [show qratioS.val (1, 2) = .tuple ⟨[h.v, .int .i64 0]⟩ from by rw [hh]; rfl]
  conv => whnf
  refine .inl ⟨49, [[], [0], [0, 1], [0, 1, 2], [0, 1, 2, 3], [0, 1, 2], [0, 1, 2, 3, 4, 5], [0, 1, 2, 3, 4, 5, 6], [0, 1, 2, 3, 4, 5, 6, 7], [0, 1, 2, 3, 4, 5, 6, 7, 8], [0, 1, 2, 3, 4, 5, 6, 7, 8], [0, 1, 2, 3, 4, 5, 6, 7, 8, 9, 10], [0, 1, 2, 3, 4, 5, 6, 7, 8, 9, 10, 11], [0, 1, 2, 3, 4, 5, 6, 7, 8, 9, 10, 11, 12], [0, 1, 2, 3, 4, 5, 6, 7, 8, 9, 10, 11, 12, 13], [0, 1, 2, 3, 4, 5, 6, 7, 8, 9, 10, 11, 12, 13, 14], [0, 1, 2, 3, 4, 5, 6, 7, 8, 9, 10, 11, 12, 13, 14, 15], [0, 1, 2, 3, 4, 5, 6, 7, 8, 9, 10, 11, 12, 13, 14, 15], [0, 1, 2, 3, 4, 5, 6, 7, 8, 9, 10, 11, 12, 13, 14, 15, 16, 17], [0, 1, 2, 3, 4, 5, 6, 7, 8, 9, 10, 11, 12, 13, 14, 15, 16, 17, 18], [0, 1, 2, 3, 4, 5, 6, 7, 8, 9, 10, 11, 12, 13, 14, 15, 16, 17, 18, 19], [0, 1, 2, 3, 4, 5, 6, 7, 8, 9, 10, 11, 12, 13, 14, 15, 16, 17, 18, 19, 20], [0, 1, 2, 3, 4, 5, 6, 7, 8, 9, 10, 11, 12, 13, 14, 15, 16, 17, 18, 19, 20, 21], [0, 1, 2, 3, 4, 5, 6, 7, 8, 9, 10, 11, 12, 13, 14, 15, 16, 17, 18, 19, 20, 21, 22], [0, 1, 2, 3, 4, 5, 6, 7, 8, 9, 10, 11, 12, 13, 14, 15, 16, 17, 18, 19, 20, 21, 22], [0, 1, 2, 3, 4, 5, 6, 7, 8, 9, 10, 11, 12, 13, 14, 15, 16, 17, 18, 19, 20, 21, 22, 23, 24], [0, 1, 2, 3, 4, 5, 6, 7, 8, 9, 10, 11, 12, 13, 14, 15, 16, 17, 18, 19, 20, 21, 22, 23, 24, 25], [0, 1, 2, 3, 4, 5, 6, 7, 8, 9, 10, 11, 12, 13, 14, 15, 16, 17, 18, 19, 20, 21, 22, 23, 24, 25, 26], [0, 1, 2, 3, 4, 5, 6, 7, 8, 9, 10, 11, 12, 13, 14, 15, 16, 17, 18, 19, 20, 21, 22, 23, 24, 25, 26, 27], [0, 1, 2, 3, 4, 5, 6, 7, 8, 9, 10, 11, 12, 13, 14, 15, 16, 17, 18, 19, 20, 21, 22, 23, 24, 25, 26, 27, 28], [0, 1, 2, 3, 4, 5, 6, 7, 8, 9, 10, 11, 12, 13, 14, 15, 16, 17, 18, 19, 20, 21, 22, 23, 24, 25, 26, 27, 28, 29], [0, 1, 2, 3, 4, 5, 6, 7, 8, 9, 10, 11, 12, 13, 14, 15, 16, 17, 18, 19, 20, 21, 22, 23, 24, 25, 26, 27, 28, 29], [0, 1, 2, 3, 4, 5, 6, 7, 8, 9, 10, 11, 12, 13, 14, 15, 16, 17, 18, 19, 20, 21, 22, 23, 24, 25, 26, 27, 28, 29], [0, 1, 2, 3, 4, 5, 6, 7, 8, 9, 10, 11, 12, 13, 14, 15, 16, 17, 18, 19, 20, 21, 22, 23, 24, 25, 26, 27, 28, 29, 30, 31, 32], [0, 1, 2, 3, 4, 5, 6, 7, 8, 9, 10, 11, 12, 13, 14, 15, 16, 17, 18, 19, 20, 21, 22, 23, 24, 25, 26, 27, 28, 29, 30, 31, 32, 33], [0, 1, 2, 3, 4, 5, 6, 7, 8, 9, 10, 11, 12, 13, 14, 15, 16, 17, 18, 19, 20, 21, 22, 23, 24, 25, 26, 27, 28, 29], [0, 1, 2, 3, 4, 5, 6, 7, 8, 9, 10, 11, 12, 13, 14, 15, 16, 17, 18, 19, 20, 21, 22, 23, 24, 25, 26, 27, 28, 29, 30, 31, 32, 33, 34, 35], [0, 1, 2, 3, 4, 5, 6, 7, 8, 9, 10, 11, 12, 13, 14, 15, 16, 17, 18, 19, 20, 21, 22, 23, 24, 25, 26, 27, 28, 29, 30, 31, 32, 33, 34, 35, 36], [0, 1, 2, 3, 4, 5, 6, 7, 8, 9, 10, 11, 12, 13, 14, 15, 16, 17, 18, 19, 20, 21, 22, 23, 24, 25, 26, 27, 28, 29, 30, 31, 32, 33, 34, 35, 36, 37], [0, 1, 2, 3, 4, 5, 6, 7, 8, 9, 10, 11, 12, 13, 14, 15, 16, 17, 18, 19, 20, 21, 22, 23, 24, 25, 26, 27, 28, 29, 30, 31, 32, 33, 34, 35, 36, 37, 38], [0, 1, 2, 3, 4, 5, 6, 7, 8, 9, 10, 11, 12, 13, 14, 15, 16, 17, 18, 19, 20, 21, 22, 23, 24, 25, 26, 27, 28, 29, 30, 31, 32, 33, 34, 35, 36, 37, 38, 39], [0, 1, 2, 3, 4, 5, 6, 7, 8, 9, 10, 11, 12, 13, 14, 15, 16, 17, 18, 19, 20, 21, 22, 23, 24, 25, 26, 27, 28, 29, 30, 31, 32, 33, 34, 35, 36, 37, 38, 39], [0, 1, 2, 3, 4, 5, 6, 7, 8, 9, 10, 11, 12, 13, 14, 15, 16, 17, 18, 19, 20, 21, 22, 23, 24, 25, 26, 27, 28, 29, 30, 31, 32, 33, 34, 35, 36, 37, 38, 39, 40, 41], [0, 1, 2, 3, 4, 5, 6, 7, 8, 9, 10, 11, 12, 13, 14, 15, 16, 17, 18, 19, 20, 21, 22, 23, 24, 25, 26, 27, 28, 29, 30, 31, 32, 33, 34, 35, 36, 37, 38, 39, 40, 41, 42], [0, 1, 2, 3, 4, 5, 6, 7, 8, 9, 10, 11, 12, 13, 14, 15, 16, 17, 18, 19, 20, 21, 22, 23, 24, 25, 26, 27, 28, 29, 30, 31, 32, 33, 34, 35, 36, 37, 38, 39, 40, 41, 42, 43], [0, 1, 2, 3, 4, 5, 6, 7, 8, 9, 10, 11, 12, 13, 14, 15, 16, 17, 18, 19, 20, 21, 22, 23, 24, 25, 26, 27, 28, 29, 30, 31, 32, 33, 34, 35, 36, 37, 38, 39, 40, 41, 42, 43, 44], [0, 1, 2, 3, 4, 5, 6, 7, 8, 9, 10, 11, 12, 13, 14, 15, 16, 17, 18, 19, 20, 21, 22, 23, 24, 25, 26, 27, 28, 29, 30, 31, 32, 33, 34, 35, 36, 37, 38, 39, 40, 41, 42, 43, 44, 45], [0, 1, 2, 3, 4, 5, 6, 7, 8, 9, 10, 11, 12, 13, 14, 15, 16, 17, 18, 19, 20, 21, 22, 23, 24, 25, 26, 27, 28, 29, 30, 31, 32, 33, 34, 35, 36, 37, 38, 39, 40, 41, 42, 43, 44, 45, 46], [0, 1, 2, 3, 4, 5, 6, 7, 8, 9, 10, 11, 12, 13, 14, 15, 16, 17, 18, 19, 20, 21, 22, 23, 24, 25, 26, 27, 28, 29, 30, 31, 32, 33, 34, 35, 36, 37, 38, 39, 40, 41, 42, 43, 44, 45, 46], [0, 1, 2, 3, 4, 5, 6, 7, 8, 9, 10, 11, 12, 13, 14, 15, 16, 17, 18, 19, 20, 21, 22, 23, 24, 25, 26, 27, 28, 29, 30, 31, 32, 33, 34, 35, 36, 37, 38, 39, 40, 41, 42, 43, 44, 45, 46, 47, 48], [0, 1, 2, 3, 4, 5, 6, 7, 8, 9, 10, 11, 12, 13, 14, 15, 16, 17, 18, 19, 20, 21, 22, 23, 24, 25, 26, 27, 28, 29, 30, 31, 32, 33, 34, 35, 36, 37, 38, 39, 40, 41, 42, 43, 44, 45, 46, 47, 48, 49], [0, 1, 2, 3, 4, 5, 6, 7, 8, 9, 10, 11, 12, 13, 14, 15, 16, 17, 18, 19, 20, 21, 22, 23, 24, 25, 26, 27, 28, 29, 30, 31, 32, 33, 34, 35, 36, 37, 38, 39, 40, 41, 42, 43, 44, 45, 46, 47, 48, 49, 50], [0, 1, 2, 3, 4, 5, 6, 7, 8, 9, 10, 11, 12, 13, 14, 15, 16, 17, 18, 19, 20, 21, 22, 23, 24, 25, 26, 27, 28, 29, 30, 31, 32, 33, 34, 35, 36, 37, 38, 39, 40, 41, 42, 43, 44, 45, 46, 47, 48, 49, 50, 51], [0, 1, 2, 3, 4, 5, 6, 7, 8, 9, 10, 11, 12, 13, 14, 15, 16, 17, 18, 19, 20, 21, 22, 23, 24, 25, 26, 27, 28, 29, 30, 31, 32, 33, 34, 35, 36, 37, 38, 39, 40, 41, 42, 43, 44, 45, 46, 47, 48, 49, 50, 51, 52]], by kernel_rfl, ?_⟩
  conv => whnf
  refine ⟨(1 : Int), rfl, by show ok1 1; decide, ?_⟩
  rw [show qofS.val (1 : Int) = RV.v p.1 from by rw [hp]; rfl]
  conv => whnf
  rw [eqR p.1]
  conv => whnf
  obtain ⟨z, hz⟩ : ∃ z : PV, z = (r4, r1) := ⟨_, rfl⟩
  refine ⟨(p, q), rfl, ⟨sp _ (by decide), sq _ (by decide)⟩, ?_⟩
  rw [show vaddS.val (p, q) = z.v from by rw [hp, hq, hz, h4, h1]; exact ex_add]
  conv => whnf
  refine ⟨(4, 1), rfl, ⟨by show ok1 4; decide, by show ok1 1; decide⟩, ?_⟩
  rw [show vofS.val (4, 1) = z.v from by rw [hz, h4, h1]; rfl]
  conv => whnf
  rw [eqP z]
  conv => whnf
  refine ⟨(p, q), rfl, ⟨sp _ (by decide), sq _ (by decide)⟩, ?_⟩
  rw [show vdotS.val (p, q) = r1.v from by rw [hp, hq, h1]; exact ex_dot]
  conv => whnf
  refine ⟨(1 : Int), rfl, by show ok1 1; decide, ?_⟩
  rw [show qofS.val (1 : Int) = r1.v from by rw [h1]; rfl]
  conv => whnf
  rw [eqR r1]
  conv => whnf
  refine ⟨(p, q), rfl, ⟨sp _ (by decide), sq _ (by decide)⟩, ?_⟩
  rw [show vcrossS.val (p, q) = r7.v from by rw [hp, hq, h7]; exact ex_cross]
  conv => whnf
  refine ⟨(-7 : Int), rfl, by show ok1 (-7); decide, ?_⟩
  rw [show qofS.val (-7 : Int) = r7.v from by rw [h7]; rfl]
  conv => whnf
  rw [eqR r7]
  conv => whnf
  refine ⟨((p, q), h), rfl, ⟨⟨sp _ (by decide), sq _ (by decide)⟩, sh _ (by decide)⟩, ?_⟩
  rw [show vatS.val ((p, q), h) = PV.v (r2, h) from by rw [hp, hq, hh, h2]; exact ex_at]
  conv => whnf
  refine ⟨(2 : Int), rfl, by show ok1 2; decide, ?_⟩
  rw [show qofS.val (2 : Int) = r2.v from by rw [h2]; rfl]
  conv => whnf
  rw [eqP (r2, h)]
  conv => whnf
  refine ⟨(p, q), rfl, ⟨sp _ (by decide), sq _ (by decide)⟩, ?_⟩
  rw [show vdistS.val (p, q) = r13.v from by rw [hp, hq, h13]; exact ex_dist]
  conv => whnf
  refine ⟨(13 : Int), rfl, by show ok1 13; decide, ?_⟩
  rw [show qofS.val (13 : Int) = r13.v from by rw [h13]; rfl]
  conv => whnf
  rw [eqR r13]
  conv => whnf
  refine ⟨(p, q), rfl, ⟨sp _ (by decide), sq _ (by decide)⟩, ?_⟩
  rw [show vsquareS.val (p, q) = r3.v from by rw [hp, hq, h3]; exact ex_square]
  conv => whnf
  refine ⟨(3 : Int), rfl, by show ok1 3; decide, ?_⟩
  rw [show qofS.val (3 : Int) = r3.v from by rw [h3]; rfl]
  conv => whnf
  show Value.bool (eqCells _ _) = Value.bool true
  exact congrArg Value.bool (eqR r3)

def Elb : Env := { tt := tt, eqs := eqsL, Φ := fun g => match g with
  | 10 => some (.p awakeS)
  | 37 => some (.p vofS)
  | 31 => some (.p vaddS)
  | 49 => some (.p vsubS)
  | 68 => some (.p vscaleS)
  | 40 => some (.p vdotS)
  | 41 => some (.p vcrossS)
  | 14 => some (.p vcheckS)
  | 20 => some (.p vcmpS)
  | 42 => some (.p vatS)
  | 30 => some (.p vdistS)
  | 43 => some (.p vsquareS)
  | _ => none }
theorem Elbok : EnvOk Try.prog Elb := ⟨tt_ok, eqs_ok, (fun g S h => by
  simp only [Elb] at h
  split at h
  · cases h; exact awake_ok
  · cases h; exact vof_ok
  · cases h; exact vadd_ok
  · cases h; exact vsub_ok
  · cases h; exact vscale_ok
  · cases h; exact vdot_ok
  · cases h; exact vcross_ok
  · cases h; exact vcheck_ok
  · cases h; exact vcmp_ok
  · cases h; exact vat_ok
  · cases h; exact vdist_ok
  · cases h; exact vsquare_ok
  · cases h), fun g F h => by simp [Elb] at h⟩

end Go.Proofs.Ytppeponndkfbkaa
/- Contracts of vector and of the reference vectors: lists that are too large; the corner functions. -/
set_option linter.unusedVariables false
set_option linter.unusedSimpArgs false
set_option maxRecDepth 20000
set_option maxHeartbeats 1000000
namespace Go.Proofs.Ytppeponndkfbkaa
open Go Go.Ae

theorem greatList_ok : QSnd Try.prog 9 greatListS := by
  refine qsnd_of Eviok Dok Try.func9 (enters_of Try.func9 (by kernel_rfl) rfl) ?_ ?_ ?_
  · intro i b hb
    cases i with
    | none => simp [greatListS, PL.blks] at hb
    | some i => simp [greatListS, PL.blks] at hb; rw [hb]; rfl
  · intro i b hb; simp [greatListS] at hb
  intro i hp
  cases i with
  | none =>
    conv => whnf
    refine .inr ⟨1, ?_⟩
    conv => whnf
    exact ⟨.bool false, rfl, .refl _⟩
  | some i =>
    obtain ⟨l, c⟩ := i
    have hp : l.length ≤ 9223372036854775807 := hp
    obtain ⟨n, hn⟩ : ∃ n, n = l.length := ⟨_, rfl⟩
    obtain ⟨g, hg⟩ : ∃ g, g = rowsP l := ⟨_, rfl⟩
    have fin : ∀ b : Bool, b = greatList l → ∃ v', renV (List.range (greatListS.blks (some (l, c))).length) 3 (greatListS.val (some (l, c))) = some v' ∧ VLe (Value.bool b) v' := fun b hb =>
      ⟨.bool b, by show renV _ 3 (Value.bool (greatList l)) = _; rw [← hb]; rfl, .refl _⟩
    have big : (40 < n ∧ n ≤ 1000) ∨ 1010 < n → greatList l = true := fun h => by
      unfold greatList
      rw [← hn, decide_eq_true h]; rfl
    have small : ¬ ((40 < n ∧ n ≤ 1000) ∨ 1010 < n) → greatList l = anyGreat l := fun h => by
      unfold greatList
      rw [← hn, decide_eq_false h]; rfl
    have ev : PL.val (some (l, c)) = .slice (some ⟨0, 0, none⟩) n c := by rw [hn]; rfl
    have eb : greatListS.blks (some (l, c)) = [.flat false n 6 g] := by rw [hn, hg]; rfl
    rw [eb] at fin
    conv => whnf
    rw [ev, show (l, c).fst.length = n from hn.symm, show List.map some (greatListS.blks (some (l, c))) = [some (.flat false n 6 g)] from by rw [eb]; rfl]
    by_cases h1 : 40 < n
    · rw [show decide (((n : Nat) : Int) > 40) = true from decide_eq_true (by omega)]
      conv => whnf
      by_cases h2 : n ≤ 1000
      · rw [show decide (((n : Nat) : Int) ≤ 1000) = true from decide_eq_true (by omega)]
        conv => whnf
        exact fin true (big (.inl ⟨h1, h2⟩)).symm
      · rw [show decide (((n : Nat) : Int) ≤ 1000) = false from decide_eq_false (by omega)]
        conv => whnf
        by_cases h3 : 1010 < n
        · rw [show decide (((n : Nat) : Int) > 1010) = true from decide_eq_true (by omega)]
          conv => whnf
          exact fin true (big (.inr h3)).symm
        · rw [show decide (((n : Nat) : Int) > 1010) = false from decide_eq_false (by omega)]
          have hs := small (by omega)
          rw [hs] at fin
          conv => whnf
          refine .inl ⟨fun mm tz hz => ∃ (i : Nat), Pat [some (.slice (some ⟨0, 0, none⟩) n c), none, none, some (.int .i64 i), none, none, none, none, none, none, none, none, none, none, none, none, none, none, none, none, none, none, none, none, none, none, none, none] tz ∧ hz = [some (.flat false n 6 g)] ∧ n - i = mm ∧ (i ≤ n ∧ noneGreat l i), .inr ⟨[0], [0, 3], ?_⟩, ?_⟩
          · conv => whnf
            intro _
            conv => whnf
            refine ⟨_, 0, (.keep (.skip (.skip (.keep (.skip (.skip (.skip (.skip (.skip (.skip (.skip (.skip (.skip (.skip (.skip (.skip (.skip (.skip (.skip (.skip (.skip (.skip (.skip (.skip (.skip (.skip (.skip (.skip (.nil))))))))))))))))))))))))))))), rfl, rfl, ?_⟩
            exact ⟨Nat.zero_le _, noneGreat_start _⟩
          rintro mm tms _ ⟨i, hpat, rfl, rfl, ⟨hi, hN⟩⟩
          obtain ⟨az, rfl⟩ : ∃ az : Nat → Value, tms = [.slice (some ⟨0, 0, none⟩) n c, az 1, az 2, .int .i64 i, az 4, az 5, az 6, az 7, az 8, az 9, az 10, az 11, az 12, az 13, az 14, az 15, az 16, az 17, az 18, az 19, az 20, az 21, az 22, az 23, az 24, az 25, az 26, az 27] := pat_fill hpat
          clear hpat
          conv => whnf
          refine br_intro (fun h5 => ?_) (fun h5 => ?_)
          · have h5 : i < n := by
              have := of_decide_eq_true h5
              omega
            obtain ⟨p, hpl, hpm, hrow⟩ := rowsP_get (l := l) (i := i) (by omega)
            rw [← hg] at hrow
            have e7 : IntKind.i64.wrap ((i : Int) + 1) = ((i + 1 : Nat) : Int) := by rw [wrapi64 (by omega) (by omega)]; rfl
            conv => whnf
            refine ⟨⟨by omega, by omega⟩, ?_⟩
            simp only [toNat_cast, rowAdd_eq, Nat.zero_add]
            conv => whnf
            refine ⟨by show i < n; omega, ?_⟩
            conv => whnf
            rw [hrow]
            conv => whnf
            refine ⟨p, rfl, trivial, ?_⟩
            by_cases h6 : p.great
            · rw [show vgreatS.val p = .bool true from by show Value.bool (decide p.great) = _; rw [decide_eq_true h6]]
              conv => whnf
              exact fin true (anyGreat_true hpm h6).symm
            · rw [show vgreatS.val p = .bool false from by show Value.bool (decide p.great) = _; rw [decide_eq_false h6]]
              conv => whnf
              rw [e7]
              refine .inr ⟨[0], [0, 3], ?_⟩
              conv => whnf
              intro _
              conv => whnf
              refine ⟨_, ?_, i + 1, (.keep (.skip (.skip (.keep (.skip (.skip (.skip (.skip (.skip (.skip (.skip (.skip (.skip (.skip (.skip (.skip (.skip (.skip (.skip (.skip (.skip (.skip (.skip (.skip (.skip (.skip (.skip (.skip (.nil))))))))))))))))))))))))))))), rfl, rfl, ?_⟩
              · omega
              · exact ⟨by omega, noneGreat_step hN hpl h6⟩
          · have h5 : i = n := by
              have := of_decide_eq_false h5
              omega
            have hN : noneGreat l l.length := by rw [← hn, ← h5]; exact hN
            conv => whnf
            exact fin false (noneGreat_end hN).symm
    · rw [show decide (((n : Nat) : Int) > 40) = false from decide_eq_false (by omega)]
      conv => whnf
      rw [show decide (((n : Nat) : Int) > 1010) = false from decide_eq_false (by omega)]
      have hs := small (by omega)
      rw [hs] at fin
      conv => whnf
      refine .inl ⟨fun mm tz hz => ∃ (i : Nat), Pat [some (.slice (some ⟨0, 0, none⟩) n c), none, none, some (.int .i64 i), none, none, none, none, none, none, none, none, none, none, none, none, none, none, none, none, none, none, none, none, none, none, none, none] tz ∧ hz = [some (.flat false n 6 g)] ∧ n - i = mm ∧ (i ≤ n ∧ noneGreat l i), .inr ⟨[0], [0, 3], ?_⟩, ?_⟩
      · conv => whnf
        intro _
        conv => whnf
        refine ⟨_, 0, (.keep (.skip (.skip (.keep (.skip (.skip (.skip (.skip (.skip (.skip (.skip (.skip (.skip (.skip (.skip (.skip (.skip (.skip (.skip (.skip (.skip (.skip (.skip (.skip (.skip (.skip (.skip (.skip (.nil))))))))))))))))))))))))))))), rfl, rfl, ?_⟩
        exact ⟨Nat.zero_le _, noneGreat_start _⟩
      rintro mm tms _ ⟨i, hpat, rfl, rfl, ⟨hi, hN⟩⟩
      obtain ⟨az, rfl⟩ : ∃ az : Nat → Value, tms = [.slice (some ⟨0, 0, none⟩) n c, az 1, az 2, .int .i64 i, az 4, az 5, az 6, az 7, az 8, az 9, az 10, az 11, az 12, az 13, az 14, az 15, az 16, az 17, az 18, az 19, az 20, az 21, az 22, az 23, az 24, az 25, az 26, az 27] := pat_fill hpat
      clear hpat
      conv => whnf
      refine br_intro (fun h5 => ?_) (fun h5 => ?_)
      · have h5 : i < n := by
          have := of_decide_eq_true h5
          omega
        obtain ⟨p, hpl, hpm, hrow⟩ := rowsP_get (l := l) (i := i) (by omega)
        rw [← hg] at hrow
        have e7 : IntKind.i64.wrap ((i : Int) + 1) = ((i + 1 : Nat) : Int) := by rw [wrapi64 (by omega) (by omega)]; rfl
        conv => whnf
        refine ⟨⟨by omega, by omega⟩, ?_⟩
        simp only [toNat_cast, rowAdd_eq, Nat.zero_add]
        conv => whnf
        refine ⟨by show i < n; omega, ?_⟩
        conv => whnf
        rw [hrow]
        conv => whnf
        refine ⟨p, rfl, trivial, ?_⟩
        by_cases h6 : p.great
        · rw [show vgreatS.val p = .bool true from by show Value.bool (decide p.great) = _; rw [decide_eq_true h6]]
          conv => whnf
          exact fin true (anyGreat_true hpm h6).symm
        · rw [show vgreatS.val p = .bool false from by show Value.bool (decide p.great) = _; rw [decide_eq_false h6]]
          conv => whnf
          rw [e7]
          refine .inr ⟨[0], [0, 3], ?_⟩
          conv => whnf
          intro _
          conv => whnf
          refine ⟨_, ?_, i + 1, (.keep (.skip (.skip (.keep (.skip (.skip (.skip (.skip (.skip (.skip (.skip (.skip (.skip (.skip (.skip (.skip (.skip (.skip (.skip (.skip (.skip (.skip (.skip (.skip (.skip (.skip (.skip (.skip (.nil))))))))))))))))))))))))))))), rfl, rfl, ?_⟩
          · omega
          · exact ⟨by omega, noneGreat_step hN hpl h6⟩
      · have h5 : i = n := by
          have := of_decide_eq_false h5
          omega
        have hN : noneGreat l l.length := by rw [← hn, ← h5]; exact hN
        conv => whnf
        exact fin false (noneGreat_end hN).symm
end Go.Proofs.Ytppeponndkfbkaa
/- Contracts of vector: the bound of a list of points. -/
set_option linter.unusedVariables false
set_option linter.unusedSimpArgs false
set_option maxRecDepth 20000
set_option maxHeartbeats 2000000
namespace Go.Proofs.Ytppeponndkfbkaa
open Go Go.Ae

theorem cl2_ok : QSnd Try.prog 46 cl2S := by
  refine qsnd_of Evlok Dok Try.func46 (enters_of Try.func46 (by kernel_rfl) rfl) ?_ ?_ ?_
  · intro i b hb; simp [cl2S] at hb; rw [hb]; rfl
  · intro i b hb; simp [cl2S] at hb
  intro ⟨⟨a, b⟩, s⟩ hp
  have hp : a.ok ∧ b.ok := hp
  obtain ⟨o, ho⟩ : ∃ o, o = extF s a b := ⟨_, rfl⟩
  conv => whnf
  refine ⟨by decide, ?_⟩
  conv => whnf
  refine ⟨((s, [a, b]), 2), [4], rfl, ⟨(fun h => by cases h), fun r hr => ?_, Nat.le_refl _, by show 2 ≤ 1099511627776; decide⟩, ?_⟩
  · simp only [List.mem_cons, List.mem_nil_iff, or_false] at hr
    rcases hr with rfl | rfl
    · exact hp.1
    · exact hp.2
  conv => whnf
  refine ⟨blk_rows rfl (fun r hr => ?_) (fun r hr => rfl), ?_⟩
  · have : r = 0 ∨ r = 1 := by
      have hr : r < 2 := hr
      omega
    rcases this with rfl | rfl <;> rfl
  conv => whnf
  refine ⟨o.v, by rw [show extremeS.val ((s, [a, b]), 2) = o.v from by show (extV s [a, b]).v = _; rw [ext2, ho]]; rfl, ?_⟩
  conv => whnf
  exact ⟨o.v, by rw [show cl2S.val ((a, b), s) = o.v from by show (extF s a b).v = _; rw [ho]]; rfl, .refl _⟩

def Evo : Env := { tt := tt, eqs := [], Φ := fun g => match g with
  | 46 => some (.q cl2S)
  | _ => none }
theorem Evook : EnvOk Try.prog Evo := ⟨tt_ok, fun t h => by simp [Evo] at h, (fun g S h => by
  simp only [Evo] at h
  split at h
  · cases h; exact cl2_ok
  · cases h), fun g F h => by simp [Evo] at h⟩
theorem each2_ft : FTOk Try.prog 45 (fnK Evo drawT Try.f45) := by
  exact ft_of Evook Dok Try.func45 (enters_of Try.func45 (by kernel_rfl) rfl)
def EvpW : FuncId → Option FT := fun g => match g with
  | 45 => some (fnK Evo drawT Try.f45)
  | _ => none
def Evp : Env := { tt := tt, eqs := [], Ψ := EvpW, Φ := fun g => match g with
  | 31 => some (.p vaddS)
  | _ => none }
theorem Evpok : EnvOk Try.prog Evp := ⟨tt_ok, fun t h => by simp [Evp] at h, (fun g S h => by
  simp only [Evp] at h
  split at h
  · cases h; exact vadd_ok
  · cases h), (fun g F h => by
  simp only [Evp, EvpW] at h
  split at h
  · cases h; exact each2_ft
  · cases h)⟩
theorem corner_ft : FTOk Try.prog 44 (fnK Evp drawT Try.f44) := by
  exact ft_of Evpok Dok Try.func44 (enters_of Try.func44 (by kernel_rfl) rfl)
def EvqW : FuncId → Option FT := fun g => match g with
  | 44 => some (fnK Evp drawT Try.f44)
  | _ => none
def Evq : Env := { tt := tt, eqs := [], Ψ := EvqW, Φ := fun g => match g with
  | _ => none }
theorem Evqok : EnvOk Try.prog Evq := ⟨tt_ok, fun t h => by simp [Evq] at h, (fun g S h => by
  change none = some S at h
  cases h), (fun g F h => by
  simp only [Evq, EvqW] at h
  split at h
  · cases h; exact corner_ft
  · cases h)⟩

theorem bound_ok : QSnd Try.prog 11 boundS := by
  refine qsnd_of Evqok Dok Try.func11 (enters_of Try.func11 (by kernel_rfl) rfl) ?_ ?_ ?_
  · intro i b hb
    cases i with
    | none => simp [boundS, PL.blks] at hb
    | some i => simp [boundS, PL.blks] at hb; rw [hb]; rfl
  · intro i b hb; simp [boundS] at hb
  intro i hp
  cases i with
  | none =>
    conv => whnf
    exact ⟨_, rfl, .refl _⟩
  | some i =>
    obtain ⟨l, c⟩ := i
    have hp : l.length ≤ 9223372036854775807 ∧ ∀ p ∈ l, PV.sz 1048576 p := hp
    obtain ⟨hlen, hsz⟩ := hp
    obtain ⟨n, hn⟩ : ∃ n, n = l.length := ⟨_, rfl⟩
    obtain ⟨g, hg⟩ : ∃ g, g = rowsP l := ⟨_, rfl⟩
    have ev : PL.val (some (l, c)) = .slice (some ⟨0, 0, none⟩) n c := by rw [hn]; rfl
    have eb : boundS.blks (some (l, c)) = [.flat false n 6 g] := by rw [hn, hg]; rfl
    obtain ⟨w, hw⟩ : ∃ w, w = boundV l := ⟨_, rfl⟩
    have fin : ∀ (x : XV) (e : Int), w = (x, e) → ∃ v', renV (List.range (boundS.blks (some (l, c))).length) 3 (boundS.val (some (l, c))) = some v' ∧ VLe (Value.tuple ⟨[x.v, .int .i64 e]⟩) v' := fun x e h =>
      ⟨.tuple ⟨[x.v, .int .i64 e]⟩, by
        rw [show boundS.val (some (l, c)) = .tuple ⟨[x.v, .int .i64 e]⟩ from by
          show Value.tuple ⟨[(boundV l).1.v, .int .i64 (boundV l).2]⟩ = _
          rw [← hw, h]]
        rfl, .refl _⟩
    rw [eb, show boundS.args (some (l, c)) = [.slice (some ⟨0, 0, none⟩) n c] from by rw [hn]; rfl]
    conv => whnf
    by_cases h1 : n = 0
    · subst h1
      have hl : l = [] := List.length_eq_zero_iff.1 hn.symm
      subst hl
      conv => whnf
      exact fin zeroX 11 hw
    · refine br_intro (fun h => absurd (by simpa using h) h1) (fun _ => ?_)
      obtain ⟨a, l, rfl⟩ : ∃ a l', l = a :: l' := List.exists_cons_of_ne_nil (fun e => h1 (by rw [hn, e]; rfl))
      have hk : n = l.length + 1 := hn
      conv => whnf
      refine br_intro (fun h2 => ?_) (fun h2 => ?_)
      · have h2 : 1000 < n := by
          have := of_decide_eq_true h2
          omega
        conv => whnf
        exact fin zeroX 4 (by rw [hw]; show (if 1000 < l.length + 1 then _ else _) = _; rw [if_pos (by omega)])
      · have h2 : n ≤ 1000 := by
          have := of_decide_eq_false h2
          omega
        have hw : w = (boundX a l, 0) := by rw [hw]; show (if 1000 < l.length + 1 then _ else _) = _; rw [if_neg (by omega)]
        have hg0 : g 0 = a.cells := by rw [hg]; rfl
        conv => whnf
        refine ⟨⟨by omega, by omega⟩, ?_⟩
        conv => whnf
        refine ⟨by show 0 < n; omega, ?_⟩
        conv => whnf
        rw [show rowAdd 0 (Int.toNat 0) = 0 from rfl, hg0]
        conv => whnf
        refine .inl ⟨fun mm tz hz => ∃ (j : Nat) (o : PV), Pat [none, some (.pointer (some ⟨1, 0, none⟩)), some (.pointer (some ⟨3, 0, none⟩)), some (.pointer (some ⟨4, 0, none⟩)), some (.pointer (some ⟨5, 0, none⟩)), none, none, none, none, none, some (.slice (some ⟨0, 0, none⟩) n c), some (.int .i64 n), some (.int .i64 j), none, none, none, none, none, none, none, none, none, none, none] tz ∧ hz = [some (.flat false n 6 g), some (.expl true 1 [[.slice (some ⟨0, 0, none⟩) n c]]), some (.expl true 12 [[.bool false, .string ⟨#[]⟩, .string ⟨#[]⟩, .bool false, .string ⟨#[]⟩, .string ⟨#[]⟩, .bool false, .string ⟨#[]⟩, .string ⟨#[]⟩, .bool false, .string ⟨#[]⟩, .string ⟨#[]⟩]]), some (.expl true 1 [[.int .i64 (-1)]]), some (.expl true 6 [[.bool false, .string ⟨#[]⟩, .string ⟨#[]⟩, .bool false, .string ⟨#[]⟩, .string ⟨#[]⟩]]), some (.expl true 6 [o.cells])] ∧ n - j = mm ∧ (j ≤ n ∧ o.sz 1048576 ∧ o.1.q = foldQ minQ pX a ((a :: l).take j) ∧ o.2.q = foldQ minQ pY a ((a :: l).take j)), .inr ⟨[0, 1, 2, 3, 4, 5], [1, 2, 3, 4, 10, 11, 12], ?_⟩, ?_⟩
        · conv => whnf
          intro _
          conv => whnf
          refine ⟨_, 0, a, (.skip (.keep (.keep (.keep (.keep (.skip (.skip (.skip (.skip (.skip (.keep (.keep (.keep (.skip (.skip (.skip (.skip (.skip (.skip (.skip (.skip (.skip (.skip (.skip (.nil))))))))))))))))))))))))), rfl, rfl, ?_⟩
          exact ⟨Nat.zero_le _, hsz a List.mem_cons_self, rfl, rfl⟩
        rintro mm tms _ ⟨j, o, hpat, rfl, rfl, ⟨hj, hos, hox, hoy⟩⟩
        obtain ⟨az, rfl⟩ : ∃ az : Nat → Value, tms = [az 0, .pointer (some ⟨1, 0, none⟩), .pointer (some ⟨3, 0, none⟩), .pointer (some ⟨4, 0, none⟩), .pointer (some ⟨5, 0, none⟩), az 5, az 6, az 7, az 8, az 9, .slice (some ⟨0, 0, none⟩) n c, .int .i64 n, .int .i64 j, az 13, az 14, az 15, az 16, az 17, az 18, az 19, az 20, az 21, az 22, az 23] := pat_fill hpat
        clear hpat
        conv => whnf
        refine br_intro (fun h3 => ?_) (fun h3 => ?_)
        · have h3 : j < n := by
            have := of_decide_eq_true h3
            omega
          obtain ⟨p, hpl, hpm, hrow⟩ := rowsP_get (l := a :: l) (i := j) (by omega)
          rw [← hg] at hrow
          have hps := hsz p hpm
          have e7 : IntKind.i64.wrap ((j : Int) + 1) = ((j + 1 : Nat) : Int) := by rw [wrapi64 (by omega) (by omega)]; rfl
          obtain ⟨x, hx⟩ : ∃ x, x = extF (-1) o.1 p.1 := ⟨_, rfl⟩
          obtain ⟨y, hy⟩ : ∃ x, x = extF (-1) o.2 p.2 := ⟨_, rfl⟩
          have hxs : x.sz 1048576 := by rw [hx]; exact extF_sz hos.1 hps.1
          have hys : y.sz 1048576 := by rw [hy]; exact extF_sz hos.2 hps.2
          have hxq : x.q = foldQ minQ pX a ((a :: l).take (j + 1)) := by rw [hx, extF_q_min, foldQ_snoc minQ pX a p _ hpl, hox]; rfl
          have hyq : y.q = foldQ minQ pY a ((a :: l).take (j + 1)) := by rw [hy, extF_q_min, foldQ_snoc minQ pY a p _ hpl, hoy]; rfl
          conv => whnf
          refine ⟨⟨by omega, by omega⟩, ?_⟩
          simp only [toNat_cast, rowAdd_eq, Nat.zero_add]
          conv => whnf
          refine ⟨by show j < n; omega, ?_⟩
          conv => whnf
          rw [hrow]
          conv => whnf
          refine .inl ⟨11, [[], [], [1], [], [3], [0, 1, 2, 3, 4], [], [], [7], [], [9], [0, 1, 2, 3, 4, 5, 6, 7, 8, 9, 10], [0, 1, 2, 3, 4, 5, 6, 7, 8, 9, 10, 11], [0, 1, 2, 3, 4, 5, 6, 7, 8, 9, 10, 11, 12]], by kernel_rfl, ?_⟩
          conv => whnf
          refine ⟨((o.1, p.1), (-1)), [3], rfl, ⟨RV.sz_ok hos.1 (by decide), RV.sz_ok hps.1 (by decide)⟩, ?_⟩
          rw [show cl2S.blks ((o.1, p.1), (-1)) = [.flat false 1 1 (fun _ => [.int .i64 (-1)])] from rfl, show cl2S.val ((o.1, p.1), (-1)) = x.v from by rw [hx]; rfl, show cl2S.new ((o.1, p.1), (-1)) = none from rfl]
          conv => whnf
          refine ⟨sign_blk _, ?_⟩
          conv => whnf
          refine ⟨x.v, rfl, ?_⟩
          conv => whnf
          refine ⟨((o.2, p.2), (-1)), [3], rfl, ⟨RV.sz_ok hos.2 (by decide), RV.sz_ok hps.2 (by decide)⟩, ?_⟩
          rw [show cl2S.blks ((o.2, p.2), (-1)) = [.flat false 1 1 (fun _ => [.int .i64 (-1)])] from rfl, show cl2S.val ((o.2, p.2), (-1)) = y.v from by rw [hy]; rfl, show cl2S.new ((o.2, p.2), (-1)) = none from rfl]
          conv => whnf
          refine ⟨sign_blk _, ?_⟩
          conv => whnf
          refine ⟨y.v, rfl, ?_⟩
          conv => whnf
          rw [e7]
          refine .inr ⟨[0, 1, 2, 3, 4, 5], [1, 2, 3, 4, 10, 11, 12], ?_⟩
          conv => whnf
          intro _
          conv => whnf
          refine ⟨_, ?_, j + 1, (x, y), (.skip (.keep (.keep (.keep (.keep (.skip (.skip (.skip (.skip (.skip (.keep (.keep (.keep (.skip (.skip (.skip (.skip (.skip (.skip (.skip (.skip (.skip (.skip (.skip (.nil))))))))))))))))))))))))), rfl, rfl, ?_⟩
          · omega
          · exact ⟨by omega, ⟨hxs, hys⟩, hxq, hyq⟩
        · have h3 : j = n := by
            have := of_decide_eq_false h3
            omega
          have ee := corner_end (a := a) (l := l) (o := o) (g := minQ) minQ_self (by rw [← hn, ← h3]; exact hox) (by rw [← hn, ← h3]; exact hoy)
          conv => whnf
          refine ⟨(o, (zeroR, zeroR)), rfl, ⟨PV.sz_mono hos (by decide), zeroR_sz _, zeroR_sz _⟩, ?_⟩
          rw [ee]
          obtain ⟨X, hX⟩ : ∃ X, X = RV.of (foldQ minQ pX a l) := ⟨_, rfl⟩
          obtain ⟨Y, hY⟩ : ∃ Y, Y = RV.of (foldQ minQ pY a l) := ⟨_, rfl⟩
          rw [← hX, ← hY]
          clear ee hox hoy
          obtain ⟨om, hom⟩ : ∃ om, om = o := ⟨_, rfl⟩
          rw [← hom]
          conv => whnf
          refine ⟨⟨by omega, by omega⟩, ?_⟩
          conv => whnf
          refine ⟨by show 0 < n; omega, ?_⟩
          conv => whnf
          rw [show rowAdd 0 (Int.toNat 0) = 0 from rfl, hg0]
          conv => whnf
          refine .inl ⟨fun mm tz hz => ∃ (j : Nat) (o : PV), Pat [none, some (.pointer (some ⟨1, 0, none⟩)), some (.pointer (some ⟨6, 0, none⟩)), some (.pointer (some ⟨7, 0, none⟩)), some (.pointer (some ⟨8, 0, none⟩)), none, none, none, none, none, some (.slice (some ⟨0, 0, none⟩) n c), some (.int .i64 n), some (.int .i64 j), none, none, none, none, none, none, none, none, none, none, none] tz ∧ hz = [some (.flat false n 6 g), some (.expl true 1 [[.slice (some ⟨0, 0, none⟩) n c]]), some (.expl true 12 [[.bool false, .string ⟨#[]⟩, .string ⟨#[]⟩, .bool false, .string ⟨#[]⟩, .string ⟨#[]⟩, .bool false, .string ⟨#[]⟩, .string ⟨#[]⟩, .bool false, .string ⟨#[]⟩, .string ⟨#[]⟩]]), some (.expl true 1 [[.int .i64 (-1)]]), some (.expl true 6 [(PV.cells (X, Y))]), some (.expl true 6 [om.cells]), some (.expl true 1 [[.int .i64 1]]), some (.expl true 6 [[.bool false, .string ⟨#[]⟩, .string ⟨#[]⟩, .bool false, .string ⟨#[]⟩, .string ⟨#[]⟩]]), some (.expl true 6 [o.cells])] ∧ n - j = mm ∧ (j ≤ n ∧ o.sz 1048576 ∧ o.1.q = foldQ maxQ pX a ((a :: l).take j) ∧ o.2.q = foldQ maxQ pY a ((a :: l).take j)), .inr ⟨[0, 1, 2, 3, 4, 5, 6, 7, 8], [1, 2, 3, 4, 10, 11, 12], ?_⟩, ?_⟩
          · conv => whnf
            intro _
            conv => whnf
            refine ⟨_, 0, a, (.skip (.keep (.keep (.keep (.keep (.skip (.skip (.skip (.skip (.skip (.keep (.keep (.keep (.skip (.skip (.skip (.skip (.skip (.skip (.skip (.skip (.skip (.skip (.skip (.nil))))))))))))))))))))))))), rfl, rfl, ?_⟩
            exact ⟨Nat.zero_le _, hsz a List.mem_cons_self, rfl, rfl⟩
          rintro mm tms _ ⟨j, o, hpat, rfl, rfl, ⟨hj, hos, hox, hoy⟩⟩
          obtain ⟨az, rfl⟩ : ∃ az : Nat → Value, tms = [az 0, .pointer (some ⟨1, 0, none⟩), .pointer (some ⟨6, 0, none⟩), .pointer (some ⟨7, 0, none⟩), .pointer (some ⟨8, 0, none⟩), az 5, az 6, az 7, az 8, az 9, .slice (some ⟨0, 0, none⟩) n c, .int .i64 n, .int .i64 j, az 13, az 14, az 15, az 16, az 17, az 18, az 19, az 20, az 21, az 22, az 23] := pat_fill hpat
          clear hpat
          conv => whnf
          refine br_intro (fun h3 => ?_) (fun h3 => ?_)
          · have h3 : j < n := by
              have := of_decide_eq_true h3
              omega
            obtain ⟨p, hpl, hpm, hrow⟩ := rowsP_get (l := a :: l) (i := j) (by omega)
            rw [← hg] at hrow
            have hps := hsz p hpm
            have e7 : IntKind.i64.wrap ((j : Int) + 1) = ((j + 1 : Nat) : Int) := by rw [wrapi64 (by omega) (by omega)]; rfl
            obtain ⟨x, hx⟩ : ∃ x, x = extF 1 o.1 p.1 := ⟨_, rfl⟩
            obtain ⟨y, hy⟩ : ∃ x, x = extF 1 o.2 p.2 := ⟨_, rfl⟩
            have hxs : x.sz 1048576 := by rw [hx]; exact extF_sz hos.1 hps.1
            have hys : y.sz 1048576 := by rw [hy]; exact extF_sz hos.2 hps.2
            have hxq : x.q = foldQ maxQ pX a ((a :: l).take (j + 1)) := by rw [hx, extF_q_max, foldQ_snoc maxQ pX a p _ hpl, hox]; rfl
            have hyq : y.q = foldQ maxQ pY a ((a :: l).take (j + 1)) := by rw [hy, extF_q_max, foldQ_snoc maxQ pY a p _ hpl, hoy]; rfl
            conv => whnf
            refine ⟨⟨by omega, by omega⟩, ?_⟩
            simp only [toNat_cast, rowAdd_eq, Nat.zero_add]
            conv => whnf
            refine ⟨by show j < n; omega, ?_⟩
            conv => whnf
            rw [hrow]
            conv => whnf
            refine .inl ⟨11, [[], [], [1], [], [3], [0, 1, 2, 3, 4], [], [], [7], [], [9], [0, 1, 2, 3, 4, 5, 6, 7, 8, 9, 10], [0, 1, 2, 3, 4, 5, 6, 7, 8, 9, 10, 11], [0, 1, 2, 3, 4, 5, 6, 7, 8, 9, 10, 11, 12]], by kernel_rfl, ?_⟩
            conv => whnf
            refine ⟨((o.1, p.1), 1), [6], rfl, ⟨RV.sz_ok hos.1 (by decide), RV.sz_ok hps.1 (by decide)⟩, ?_⟩
            rw [show cl2S.blks ((o.1, p.1), 1) = [.flat false 1 1 (fun _ => [.int .i64 1])] from rfl, show cl2S.val ((o.1, p.1), 1) = x.v from by rw [hx]; rfl, show cl2S.new ((o.1, p.1), 1) = none from rfl]
            conv => whnf
            refine ⟨sign_blk _, ?_⟩
            conv => whnf
            refine ⟨x.v, rfl, ?_⟩
            conv => whnf
            refine ⟨((o.2, p.2), 1), [6], rfl, ⟨RV.sz_ok hos.2 (by decide), RV.sz_ok hps.2 (by decide)⟩, ?_⟩
            rw [show cl2S.blks ((o.2, p.2), 1) = [.flat false 1 1 (fun _ => [.int .i64 1])] from rfl, show cl2S.val ((o.2, p.2), 1) = y.v from by rw [hy]; rfl, show cl2S.new ((o.2, p.2), 1) = none from rfl]
            conv => whnf
            refine ⟨sign_blk _, ?_⟩
            conv => whnf
            refine ⟨y.v, rfl, ?_⟩
            conv => whnf
            rw [e7]
            refine .inr ⟨[0, 1, 2, 3, 4, 5, 6, 7, 8], [1, 2, 3, 4, 10, 11, 12], ?_⟩
            conv => whnf
            intro _
            conv => whnf
            refine ⟨_, ?_, j + 1, (x, y), (.skip (.keep (.keep (.keep (.keep (.skip (.skip (.skip (.skip (.skip (.keep (.keep (.keep (.skip (.skip (.skip (.skip (.skip (.skip (.skip (.skip (.skip (.skip (.skip (.nil))))))))))))))))))))))))), rfl, rfl, ?_⟩
            · omega
            · exact ⟨by omega, ⟨hxs, hys⟩, hxq, hyq⟩
          · have h3 : j = n := by
              have := of_decide_eq_false h3
              omega
            have ee := corner_end (a := a) (l := l) (o := o) (g := maxQ) maxQ_self (by rw [← hn, ← h3]; exact hox) (by rw [← hn, ← h3]; exact hoy)
            conv => whnf
            refine ⟨(o, (zeroR, zeroR)), rfl, ⟨PV.sz_mono hos (by decide), zeroR_sz _, zeroR_sz _⟩, ?_⟩
            rw [ee]
            obtain ⟨X2, hX2⟩ : ∃ X, X = RV.of (foldQ maxQ pX a l) := ⟨_, rfl⟩
            obtain ⟨Y2, hY2⟩ : ∃ Y, Y = RV.of (foldQ maxQ pY a l) := ⟨_, rfl⟩
            rw [← hX2, ← hY2]
            conv => whnf
            exact fin ((X, Y), (X2, Y2)) 0 (by rw [hw, hX, hY, hX2, hY2]; rfl)
end Go.Proofs.Ytppeponndkfbkaa
