import Derived.Test.YtppeponndkfbkaaRows
import Derived.Test.YtppeponndkfbkaaRI
set_option linter.unusedVariables false
set_option linter.unusedSimpArgs false
/- What the laws of line call: equal lists, sizes. -/
set_option maxRecDepth 20000
set_option maxHeartbeats 4000000
namespace Go.Proofs.Ytppeponndkfbkaa
open Go Go.Ae
def Edz : Env := { tt := tt, eqs := eqsL, Φ := fun g => match g with
 | 39 => some (.p qofS)
 | _ => none }
theorem Edzok : EnvOk Try.prog Edz := ⟨tt_ok, eqs_ok, (fun g S h => by
 simp only [Edz] at h
 split at h
 ·cases h; exact qof_ok
 ·cases h), fun g F h => by simp [Edz] at h⟩
theorem equal_ok : QSnd Try.prog 27 sameS := by
 refine qsnd_of Edzok Dok Try.func27 (enters_of Try.func27 (by kernel_rfl) rfl) ?_ ?_ ?_
 ·intro ⟨i, j⟩ b hb
  cases i <;> cases j <;> simp [sameS, PL.blks] at hb <;> (try rcases hb with rfl | rfl) <;> (try subst hb) <;> first | rfl | skip
 ·intro i b hb; simp [sameS] at hb
 intro ⟨i, j⟩ hp
 have hp : i.list.length ≤ 1099511627776 ∧ j.list.length ≤ 1099511627776 := hp
 obtain ⟨hpi, hpj⟩ := hp
 cases i with
 | none =>
  cases j with
  | none =>
   conv => whnf
   refine .inr ⟨1, ?_⟩
   conv => whnf
   exact ⟨.bool true, rfl, .refl _⟩
  | some j =>
   obtain ⟨m, c⟩ := j
   obtain ⟨n, hn⟩ : ∃ n, n = m.length := ⟨_, rfl⟩
   obtain ⟨g, hg⟩ : ∃ g, g = rowsP m := ⟨_, rfl⟩
   have fin : ∀ b : Bool, b = decide ([] = m) → ∃ v', renV (List.range 1) 3 (sameS.val (none, some (m, c))) = some v' ∧ VLe (.bool b) v' := fun b h => ⟨.bool b, by rw [h]; rfl, .refl _⟩
   rw [show sameS.blks (none, some (m, c)) = [.flat false n 6 g] from by rw [hn, hg]; rfl, show sameS.args (none, some (m, c)) = [.slice none 0 0, .slice (some ⟨0, 0, none⟩) n c] from by rw [hn]; rfl]
   by_cases h0 : n = 0
   ·have hm : m = [] := List.length_eq_zero_iff.1 (hn.symm.trans h0)
    subst h0
    conv => whnf
    refine .inr ⟨1, ?_⟩
    conv => whnf
    exact fin true (by rw [hm]; rfl)
   ·conv => whnf
    rw [show (((0 : Nat) : Int) != ((n : Nat) : Int)) = true from by simp; omega]
    conv => whnf
    exact fin false (by cases m with | nil => exact absurd hn h0 | cons a m => rfl)
 | some i =>
  obtain ⟨l, c⟩ := i
  obtain ⟨k, hk⟩ : ∃ n, n = l.length := ⟨_, rfl⟩
  obtain ⟨f, hf⟩ : ∃ g, g = rowsP l := ⟨_, rfl⟩
  have hpi : k ≤ 1099511627776 := by rw [hk]; exact hpi
  cases j with
  | none =>
   have fin : ∀ b : Bool, b = decide (l = []) → ∃ v', renV (List.range 1) 3 (sameS.val (some (l, c), none)) = some v' ∧ VLe (.bool b) v' := fun b h => ⟨.bool b, by rw [h]; rfl, .refl _⟩
   rw [show sameS.blks (some (l, c), none) = [.flat false k 6 f] from by rw [hk, hf]; rfl, show sameS.args (some (l, c), none) = [.slice (some ⟨0, 0, none⟩) k c, .slice none 0 0] from by rw [hk]; rfl]
   by_cases h0 : k = 0
   ·have hm : l = [] := List.length_eq_zero_iff.1 (hk.symm.trans h0)
    subst h0
    conv => whnf
    refine .inr ⟨1, ?_⟩
    conv => whnf
    exact fin true (by rw [hm]; rfl)
   ·conv => whnf
    rw [show (((k : Nat) : Int) != ((0 : Nat) : Int)) = true from by simp; omega]
    conv => whnf
    exact fin false (by cases l with | nil => exact absurd hk h0 | cons a m => rfl)
  | some j =>
   obtain ⟨m, d⟩ := j
   obtain ⟨n, hn⟩ : ∃ n, n = m.length := ⟨_, rfl⟩
   obtain ⟨g, hg⟩ : ∃ g, g = rowsP m := ⟨_, rfl⟩
   have fin : ∀ b : Bool, b = decide (l = m) → ∃ v', renV (List.range 2) 3 (sameS.val (some (l, c), some (m, d))) = some v' ∧ VLe (.bool b) v' := fun b h => ⟨.bool b, by rw [h]; rfl, .refl _⟩
   rw [show sameS.blks (some (l, c), some (m, d)) = [.flat false k 6 f, .flat false n 6 g] from by rw [hk, hf, hn, hg]; rfl, show sameS.args (some (l, c), some (m, d)) = [.slice (some ⟨0, 0, none⟩) k c, .slice (some ⟨1, 0, none⟩) n d] from by rw [hk, hn]; rfl]
   by_cases h0 : k = n
   ·obtain rfl := h0
    conv => whnf
    rw [show ((k : Int) != (k : Int)) = false from by simp]
    conv => whnf
    refine .inl ⟨fun mm tz hz => ∃ (i : Nat), Pat [some (.slice (some ⟨0, 0, none⟩) k c), some (.slice (some ⟨1, 0, none⟩) k d), none, none, none, none, none, none, none, none, none, none, some (.int .i64 k), some (.int .i64 i), none, none, none, none, none, none, none, none, none, none, none, none] tz ∧ hz = [some (.flat false k 6 f), some (.flat false k 6 g)] ∧ k - i = mm ∧ (i ≤ k ∧ eqUp l m i), .inr ⟨[0, 1], [0, 1, 12, 13], ?_⟩, ?_⟩
    ·conv => whnf
     intro _
     conv => whnf
     refine ⟨_, 0, (.keep (.keep (.s8 (.skip (.skip (.keep (.keep (.s8 (.skip (.skip (.skip (.skip (.nil))))))))))))), rfl, rfl, ?_⟩
     exact ⟨Nat.zero_le _, eqUp_start _ _⟩
    rintro mm tms _ ⟨i, hpat, rfl, rfl, ⟨hi, hN⟩⟩
    obtain ⟨az, rfl⟩ : ∃ az : Nat → Value, tms = [.slice (some ⟨0, 0, none⟩) k c, .slice (some ⟨1, 0, none⟩) k d, az 2, az 3, az 4, az 5, az 6, az 7, az 8, az 9, az 10, az 11, .int .i64 k, .int .i64 i, az 14, az 15, az 16, az 17, az 18, az 19, az 20, az 21, az 22, az 23, az 24, az 25] := pat_fill hpat
    clear hpat
    conv => whnf
    refine br_intro (fun h1 => ?_) (fun h1 => ?_)
    ·have h1 : i < k := by
      have := of_decide_eq_true h1
      omega
     obtain ⟨p, hpl, _, hrow⟩ := rowsP_get (l := l) (i := i) (by omega)
     obtain ⟨q, hql, _, hrow2⟩ := rowsP_get (l := m) (i := i) (by omega)
     rw [← hf] at hrow
     rw [← hg] at hrow2
     have e7 : IntKind.i64.wrap ((i : Int) + 1) = ((i + 1 : Nat) : Int) := by rw [wrapi64 (by omega) (by omega)]; rfl
     conv => whnf
     refine .inl ⟨8, [[], [], [0, 1], [0, 1, 2], [], [], [4, 5], [4, 5, 6], [0, 1, 2, 3, 4, 5, 6, 7]], by kernel_rfl, ?_⟩
     conv => whnf
     refine ⟨⟨by omega, by omega⟩, ?_⟩
     simp only [toNat_cast, rowAdd_eq, Nat.zero_add]
     conv => whnf
     refine ⟨by show i < k; omega, ?_⟩
     conv => whnf
     rw [hrow]
     conv => whnf
     refine ⟨⟨by omega, by omega⟩, ?_⟩
     simp only [toNat_cast, rowAdd_eq, Nat.zero_add]
     conv => whnf
     refine ⟨by show i < k; omega, ?_⟩
     conv => whnf
     rw [hrow2]
     conv => whnf
     rw [eqPQ p q]
     by_cases h2 : p = q
     ·rw [decide_eq_true h2]
      conv => whnf
      rw [e7]
      refine .inr ⟨[0, 1], [0, 1, 12, 13], ?_⟩
      conv => whnf
      intro _
      conv => whnf
      refine ⟨_, ?_, i + 1, (.keep (.keep (.s8 (.skip (.skip (.keep (.keep (.s8 (.skip (.skip (.skip (.skip (.nil))))))))))))), rfl, rfl, ?_⟩
      ·omega
      ·exact ⟨by omega, eqUp_step hN hpl hql h2⟩
     ·rw [decide_eq_false h2]
      conv => whnf
      exact fin false (decide_eq_false (ne_at hpl hql h2)).symm
    ·have h1 : i = k := by
      have := of_decide_eq_false h1
      omega
     subst h1
     conv => whnf
     exact fin true (decide_eq_true (eqUp_end (by rw [← hk]; exact hN) (hk.symm.trans hn))).symm
   ·conv => whnf
    rw [show ((k : Int) != (n : Int)) = true from by simp; omega]
    conv => whnf
    exact fin false (decide_eq_false (fun e => h0 (by rw [hk, hn, e]))).symm
theorem long_ok : Snd Try.prog 88 longS := by
 refine snd_of Edzok Dok Try.func88 (enters_of Try.func88 (by kernel_rfl) rfl) (fun _ => rfl) (fun _ => rfl) ?_
 intro (a : RV) hp
 have fin : ∀ (z : Bool), z = decide a.long → Value.bool z = longS.val a := fun z h => by rw [h]; rfl
 conv => whnf
 by_cases h1 : 20 < a.2.1.size
 ·rw [show decide ((a.2.1.size : Int) > 20) = true from decide_eq_true (by omega)]
  conv => whnf
  exact fin _ (decide_eq_true (.inl h1)).symm
 ·rw [show decide ((a.2.1.size : Int) > 20) = false from decide_eq_false (by omega)]
  conv => whnf
  refine fin _ ?_
  by_cases h2 : 20 < a.2.2.size
  ·rw [show decide ((a.2.2.size : Int) > 20) = true from decide_eq_true (by omega)]
   exact (decide_eq_true (.inr h2)).symm
  ·rw [show decide ((a.2.2.size : Int) > 20) = false from decide_eq_false (by omega)]
   exact (decide_eq_false (fun e => e.elim h1 h2)).symm
def Edy : Env := { tt := tt, eqs := [], Φ := fun g => match g with
 | 88 => some (.p longS)
 | _ => none }
theorem Edyok : EnvOk Try.prog Edy := ⟨tt_ok, fun t h => by simp [Edy] at h, (fun g S h => by
 simp only [Edy] at h
 split at h
 ·cases h; exact long_ok
 ·cases h), fun g F h => by simp [Edy] at h⟩
theorem llong_ok : Snd Try.prog 57 llongS := by
 refine snd_of Edyok Dok Try.func57 (enters_of Try.func57 (by kernel_rfl) rfl) (fun _ => rfl) (fun _ => rfl) ?_
 intro ⟨a, b, c⟩ hp
 have fin : ∀ (z : Bool), z = decide (R3.long (a, b, c)) → Value.bool z = llongS.val (a, b, c) := fun z h => by rw [h]; rfl
 conv => whnf
 refine ⟨a, rfl, trivial, ?_⟩
 by_cases h1 : a.long
 ·rw [show longS.val a = .bool true from congrArg Value.bool (decide_eq_true h1)]
  conv => whnf
  exact fin _ (decide_eq_true (.inl h1)).symm
 ·rw [show longS.val a = .bool false from congrArg Value.bool (decide_eq_false h1)]
  conv => whnf
  refine ⟨b, rfl, trivial, ?_⟩
  by_cases h2 : b.long
  ·rw [show longS.val b = .bool true from congrArg Value.bool (decide_eq_true h2)]
   conv => whnf
   exact fin _ (decide_eq_true (.inr (.inl h2))).symm
  ·rw [show longS.val b = .bool false from congrArg Value.bool (decide_eq_false h2)]
   conv => whnf
   refine ⟨c, rfl, trivial, ?_⟩
   by_cases h3 : c.long
   ·rw [show longS.val c = .bool true from congrArg Value.bool (decide_eq_true h3)]
    conv => whnf
    exact fin _ (decide_eq_true (.inr (.inr h3))).symm
   ·rw [show longS.val c = .bool false from congrArg Value.bool (decide_eq_false h3)]
    conv => whnf
    exact fin _ (decide_eq_false (fun e => e.elim h1 (fun e => e.elim h2 h3))).symm
theorem plong_ok : Snd Try.prog 59 plongS := by
 refine snd_of Edyok Dok Try.func59 (enters_of Try.func59 (by kernel_rfl) rfl) (fun _ => rfl) (fun _ => rfl) ?_
 intro ⟨a, b⟩ hp
 have fin : ∀ (z : Bool), z = decide (PV.long (a, b)) → Value.bool z = plongS.val (a, b) := fun z h => by rw [h]; rfl
 conv => whnf
 refine ⟨a, rfl, trivial, ?_⟩
 by_cases h1 : a.long
 ·rw [show longS.val a = .bool true from congrArg Value.bool (decide_eq_true h1)]
  conv => whnf
  exact fin _ (decide_eq_true (.inl h1)).symm
 ·rw [show longS.val a = .bool false from congrArg Value.bool (decide_eq_false h1)]
  conv => whnf
  refine ⟨b, rfl, trivial, ?_⟩
  by_cases h2 : b.long
  ·rw [show longS.val b = .bool true from congrArg Value.bool (decide_eq_true h2)]
   conv => whnf
   exact fin _ (decide_eq_true (.inr h2)).symm
  ·rw [show longS.val b = .bool false from congrArg Value.bool (decide_eq_false h2)]
   conv => whnf
   exact fin _ (decide_eq_false (fun e => e.elim h1 h2)).symm
def Edx : Env := { tt := tt, eqs := [], Φ := fun g => match g with
 | 57 => some (.p llongS)
 | 59 => some (.p plongS)
 | _ => none }
theorem Edxok : EnvOk Try.prog Edx := ⟨tt_ok, fun t h => by simp [Edx] at h, (fun g S h => by
 simp only [Edx] at h
 split at h
 ·cases h; exact llong_ok
 ·cases h; exact plong_ok
 ·cases h), fun g F h => by simp [Edx] at h⟩
theorem lindex2_ft : FTOk Try.prog 87 (fnK Edx drawT Try.f87) := by
 exact ft_of Edxok Dok Try.func87 (enters_of Try.func87 (by kernel_rfl) rfl)
theorem pindex2_ft : FTOk Try.prog 89 (fnK Edx drawT Try.f89) := by
 exact ft_of Edxok Dok Try.func89 (enters_of Try.func89 (by kernel_rfl) rfl)
def EdwW : FuncId → Option FT := fun g => match g with
 | 87 => some (fnK Edx drawT Try.f87)
 | 89 => some (fnK Edx drawT Try.f89)
 | _ => none
def Edw : Env := { tt := tt, eqs := [], Ψ := EdwW, Φ := fun g => match g with
 | _ => none }
theorem Edwok : EnvOk Try.prog Edw := ⟨tt_ok, fun t h => by simp [Edw] at h, (fun g S h => by
 change none = some S at h
 cases h), (fun g F h => by
 simp only [Edw, EdwW] at h
 split at h
 ·cases h; exact lindex2_ft
 ·cases h; exact pindex2_ft
 ·cases h)⟩
theorem lany_ok : QSnd Try.prog 56 (anyLS 57 longL) := by
 refine qsnd_of Edwok Dok Try.func56 (enters_of Try.func56 (by kernel_rfl) rfl) ?_ ?_ ?_
 ·intro i b hb
  cases i with
  | none => simp [anyLS, LL.blks] at hb
  | some i => simp [anyLS, LL.blks] at hb; rw [hb]; rfl
 ·intro i b hb; simp [anyLS] at hb
 intro i hp
 have hp : i.list.length ≤ 1099511627776 := hp
 cases i with
 | none =>
  conv => whnf
  refine .inr ⟨1, ?_⟩
  conv => whnf
  exact ⟨.bool false, rfl, .refl _⟩
 | some i =>
  obtain ⟨l, c⟩ := i
  obtain ⟨n, hn⟩ : ∃ n, n = l.length := ⟨_, rfl⟩
  obtain ⟨g, hg⟩ : ∃ g, g = rowsLn l := ⟨_, rfl⟩
  have hp : n ≤ 1099511627776 := by rw [hn]; exact hp
  have fin : ∀ b : Bool, l.any longL = b → ∃ v', renV (List.range 1) 3 ((anyLS 57 longL).val (some (l, c))) = some v' ∧ VLe (.bool b) v' := fun b h => ⟨.bool b, by rw [← h]; rfl, .refl _⟩
  rw [show (anyLS 57 longL).blks (some (l, c)) = [.flat false n 9 g] from by rw [hn, hg]; rfl, show (anyLS 57 longL).args (some (l, c)) = [.slice (some ⟨0, 0, none⟩) n c, .func (.func 57) #[] #[]] from by rw [hn]; rfl]
  conv => whnf
  refine .inl ⟨fun mm tz hz => ∃ (i : Nat), Pat [some (.slice (some ⟨0, 0, none⟩) n c), some (.func (.func 57) #[] #[]), none, none, none, none, none, some (.int .i64 n), some (.int .i64 i), none, none, none, none, none, none, none, none, none, none] tz ∧ hz = [some (.flat false n 9 g)] ∧ n - i = mm ∧ (i ≤ n ∧ noneUp longL l i), .inr ⟨[0], [0, 1, 7, 8], ?_⟩, ?_⟩
  ·conv => whnf
   intro _
   conv => whnf
   refine ⟨_, 0, (.keep (.keep (.skip (.skip (.skip (.skip (.skip (.keep (.keep (.s8 (.skip (.skip (.nil))))))))))))), rfl, rfl, ?_⟩
   exact ⟨Nat.zero_le _, noneUp_start _ _⟩
  rintro mm tms _ ⟨i, hpat, rfl, rfl, ⟨hi, hN⟩⟩
  obtain ⟨az, rfl⟩ : ∃ az : Nat → Value, tms = [.slice (some ⟨0, 0, none⟩) n c, .func (.func 57) #[] #[], az 2, az 3, az 4, az 5, az 6, .int .i64 n, .int .i64 i, az 9, az 10, az 11, az 12, az 13, az 14, az 15, az 16, az 17, az 18] := pat_fill hpat
  clear hpat
  conv => whnf
  refine br_intro (fun h1 => ?_) (fun h1 => ?_)
  ·have h1 : i < n := by
    have := of_decide_eq_true h1
    omega
   obtain ⟨p, hpl, hpm, hrow⟩ := rowsLn_get (l := l) (k := i) (by omega)
   rw [← hg] at hrow
   have e7 : IntKind.i64.wrap ((i : Int) + 1) = ((i + 1 : Nat) : Int) := by rw [wrapi64 (by omega) (by omega)]; rfl
   conv => whnf
   refine ⟨⟨by omega, by omega⟩, ?_⟩
   simp only [toNat_cast, rowAdd_eq, Nat.zero_add]
   conv => whnf
   refine ⟨by show i < n; omega, ?_⟩
   conv => whnf
   rw [hrow]
   conv => whnf
   refine ⟨p, rfl, trivial, ?_⟩
   cases h2 : longL p with
   | true =>
    rw [show llongS.val p = .bool true from congrArg Value.bool h2]
    conv => whnf
    exact fin true (any_of hpm h2)
   | false =>
    rw [show llongS.val p = .bool false from congrArg Value.bool h2]
    conv => whnf
    rw [e7]
    refine .inr ⟨[0], [0, 1, 7, 8], ?_⟩
    conv => whnf
    intro _
    conv => whnf
    refine ⟨_, ?_, i + 1, (.keep (.keep (.skip (.skip (.skip (.skip (.skip (.keep (.keep (.s8 (.skip (.skip (.nil))))))))))))), rfl, rfl, ?_⟩
    ·omega
    ·exact ⟨by omega, noneUp_step hN hpl h2⟩
  ·have h1 : i = n := by
    have := of_decide_eq_false h1
    omega
   subst h1
   conv => whnf
   exact fin false (noneUp_end (by rw [← hn]; exact hN))
theorem pany_ok : QSnd Try.prog 58 (anyPS 59 longP) := by
 refine qsnd_of Edwok Dok Try.func58 (enters_of Try.func58 (by kernel_rfl) rfl) ?_ ?_ ?_
 ·intro i b hb
  cases i with
  | none => simp [anyPS, PL.blks] at hb
  | some i => simp [anyPS, PL.blks] at hb; rw [hb]; rfl
 ·intro i b hb; simp [anyPS] at hb
 intro i hp
 have hp : i.list.length ≤ 1099511627776 := hp
 cases i with
 | none =>
  conv => whnf
  refine .inr ⟨1, ?_⟩
  conv => whnf
  exact ⟨.bool false, rfl, .refl _⟩
 | some i =>
  obtain ⟨l, c⟩ := i
  obtain ⟨n, hn⟩ : ∃ n, n = l.length := ⟨_, rfl⟩
  obtain ⟨g, hg⟩ : ∃ g, g = rowsP l := ⟨_, rfl⟩
  have hp : n ≤ 1099511627776 := by rw [hn]; exact hp
  have fin : ∀ b : Bool, l.any longP = b → ∃ v', renV (List.range 1) 3 ((anyPS 59 longP).val (some (l, c))) = some v' ∧ VLe (.bool b) v' := fun b h => ⟨.bool b, by rw [← h]; rfl, .refl _⟩
  rw [show (anyPS 59 longP).blks (some (l, c)) = [.flat false n 6 g] from by rw [hn, hg]; rfl, show (anyPS 59 longP).args (some (l, c)) = [.slice (some ⟨0, 0, none⟩) n c, .func (.func 59) #[] #[]] from by rw [hn]; rfl]
  conv => whnf
  refine .inl ⟨fun mm tz hz => ∃ (i : Nat), Pat [some (.slice (some ⟨0, 0, none⟩) n c), some (.func (.func 59) #[] #[]), none, none, none, none, none, some (.int .i64 n), some (.int .i64 i), none, none, none, none, none, none, none, none, none, none] tz ∧ hz = [some (.flat false n 6 g)] ∧ n - i = mm ∧ (i ≤ n ∧ noneUp longP l i), .inr ⟨[0], [0, 1, 7, 8], ?_⟩, ?_⟩
  ·conv => whnf
   intro _
   conv => whnf
   refine ⟨_, 0, (.keep (.keep (.skip (.skip (.skip (.skip (.skip (.keep (.keep (.s8 (.skip (.skip (.nil))))))))))))), rfl, rfl, ?_⟩
   exact ⟨Nat.zero_le _, noneUp_start _ _⟩
  rintro mm tms _ ⟨i, hpat, rfl, rfl, ⟨hi, hN⟩⟩
  obtain ⟨az, rfl⟩ : ∃ az : Nat → Value, tms = [.slice (some ⟨0, 0, none⟩) n c, .func (.func 59) #[] #[], az 2, az 3, az 4, az 5, az 6, .int .i64 n, .int .i64 i, az 9, az 10, az 11, az 12, az 13, az 14, az 15, az 16, az 17, az 18] := pat_fill hpat
  clear hpat
  conv => whnf
  refine br_intro (fun h1 => ?_) (fun h1 => ?_)
  ·have h1 : i < n := by
    have := of_decide_eq_true h1
    omega
   obtain ⟨p, hpl, hpm, hrow⟩ := rowsP_get2 (l := l) (k := i) (by omega)
   rw [← hg] at hrow
   have e7 : IntKind.i64.wrap ((i : Int) + 1) = ((i + 1 : Nat) : Int) := by rw [wrapi64 (by omega) (by omega)]; rfl
   conv => whnf
   refine ⟨⟨by omega, by omega⟩, ?_⟩
   simp only [toNat_cast, rowAdd_eq, Nat.zero_add]
   conv => whnf
   refine ⟨by show i < n; omega, ?_⟩
   conv => whnf
   rw [hrow]
   conv => whnf
   refine ⟨p, rfl, trivial, ?_⟩
   cases h2 : longP p with
   | true =>
    rw [show plongS.val p = .bool true from congrArg Value.bool h2]
    conv => whnf
    exact fin true (any_of hpm h2)
   | false =>
    rw [show plongS.val p = .bool false from congrArg Value.bool h2]
    conv => whnf
    rw [e7]
    refine .inr ⟨[0], [0, 1, 7, 8], ?_⟩
    conv => whnf
    intro _
    conv => whnf
    refine ⟨_, ?_, i + 1, (.keep (.keep (.skip (.skip (.skip (.skip (.skip (.keep (.keep (.s8 (.skip (.skip (.nil))))))))))))), rfl, rfl, ?_⟩
    ·omega
    ·exact ⟨by omega, noneUp_step hN hpl h2⟩
  ·have h1 : i = n := by
    have := of_decide_eq_false h1
    omega
   subst h1
   conv => whnf
   exact fin false (noneUp_end (by rw [← hn]; exact hN))
def Edv : Env := { tt := tt, eqs := [], Φ := fun g => match g with
 | 56 => some (.q (anyLS 57 longL))
 | 58 => some (.q (anyPS 59 longP))
 | _ => none }
theorem Edvok : EnvOk Try.prog Edv := ⟨tt_ok, fun t h => by simp [Edv] at h, (fun g S h => by
 simp only [Edv] at h
 split at h
 ·cases h; exact lany_ok
 ·cases h; exact pany_ok
 ·cases h), fun g F h => by simp [Edv] at h⟩
theorem greatL_ok : QSnd Try.prog 17 greatLS := by
 refine qsnd_of Edvok Dok Try.func17 (enters_of Try.func17 (by kernel_rfl) rfl) ?_ ?_ ?_
 ·intro ⟨i, j⟩ b hb
  cases i <;> cases j <;> simp [greatLS, PL.blks, LL.blks] at hb <;> (try rcases hb with rfl | rfl) <;> (try subst hb) <;> first | rfl | skip
 ·intro i b hb; simp [greatLS] at hb
 intro ⟨i, j⟩ hp
 have hp : i.list.length ≤ 9223372036854775807 ∧ j.list.length ≤ 1099511627776 := hp
 obtain ⟨hpi, hpj⟩ := hp
 cases i with
 | none =>
  cases j with
  | none =>
   have fin : ∀ b : Bool, greatL [] [] = b → ∃ v', renV (List.range 0) 3 (greatLS.val (none, none)) = some v' ∧ VLe (.bool b) v' := fun b h => ⟨.bool b, by rw [← h]; rfl, .refl _⟩
   conv => whnf
   refine ⟨none, [], rfl, Nat.zero_le _, ?_⟩
   conv => whnf
   refine ⟨_, rfl, ?_⟩
   conv => whnf
   refine ⟨none, [], rfl, Nat.zero_le _, ?_⟩
   conv => whnf
   refine ⟨_, rfl, ?_⟩
   conv => whnf
   exact fin _ rfl
  | some j =>
   have fin : ∀ b : Bool, greatL [] j.1 = b → ∃ v', renV (List.range 1) 3 (greatLS.val (none, some j)) = some v' ∧ VLe (.bool b) v' := fun b h => ⟨.bool b, by rw [← h]; rfl, .refl _⟩
   conv => whnf
   refine ⟨none, [], rfl, Nat.zero_le _, ?_⟩
   conv => whnf
   refine ⟨_, rfl, ?_⟩
   conv => whnf
   obtain ⟨ps, d⟩ := j
   obtain ⟨y, hy⟩ : ∃ y, y = ps.any longP := ⟨_, rfl⟩
   refine ⟨some (ps, d), [0], rfl, hpj, ?_⟩
   rw [show (anyPS 59 longP).val (some (ps, d)) = .bool y from by rw [hy]; rfl]
   conv => whnf
   refine ⟨BlkLe.flat_flat (fun h => h) (fun r hr => rfl), ?_⟩
   conv => whnf
   refine ⟨_, rfl, ?_⟩
   conv => whnf
   exact fin _ (by rw [hy]; rfl)
 | some i =>
  cases j with
  | none =>
   obtain ⟨l, c⟩ := i
   obtain ⟨n, hn⟩ : ∃ n, n = l.length := ⟨_, rfl⟩
   obtain ⟨g, hg⟩ : ∃ g, g = rowsLn l := ⟨_, rfl⟩
   have fin : ∀ b : Bool, greatL l (PL.list none) = b → ∃ v', renV (List.range 1) 3 (greatLS.val (some (l, c), none)) = some v' ∧ VLe (.bool b) v' := fun b h => ⟨.bool b, by rw [← h]; rfl, .refl _⟩
   unfold qRes
   rw [show greatLS.blks (some (l, c), none) = .flat false n 9 g :: [] from by rw [hn, hg]; rfl, show greatLS.args (some (l, c), none) = [.slice (some ⟨0, 0, none⟩) n c, PL.valAt none 1] from by rw [hn]; rfl, show greatLS.new (some (l, c), none) = none from rfl]
   conv => whnf
   by_cases h8 : 8 < n
   ·rw [show decide ((n : Int) > 8) = true from decide_eq_true (by omega)]
    conv => whnf
    exact fin true (by unfold greatL; rw [decide_eq_true (by omega)]; rfl)
   ·rw [show decide ((n : Int) > 8) = false from decide_eq_false (by omega)]
    have h8' : decide (8 < l.length) = false := decide_eq_false (by omega)
    conv => whnf
    obtain ⟨x, hx⟩ : ∃ x, x = l.any longL := ⟨_, rfl⟩
    refine ⟨some (l, c), [0], by rw [show (anyLS 57 longL).args (some (l, c)) = [.slice (some ⟨0, 0, none⟩) n c, .func (.func 57) #[] #[]] from by rw [hn]; rfl]; rfl, by show l.length ≤ _; omega, ?_⟩
    rw [show (anyLS 57 longL).val (some (l, c)) = .bool x from by rw [hx]; rfl, show (anyLS 57 longL).blks (some (l, c)) = [.flat false n 9 g] from by rw [hn, hg]; rfl]
    conv => whnf
    refine ⟨BlkLe.flat_flat (fun h => h) (fun r hr => by rw [hg]; rfl), ?_⟩
    conv => whnf
    refine ⟨_, rfl, ?_⟩
    cases x with
    | true =>
     conv => whnf
     exact fin true (by unfold greatL; rw [← hx]; simp)
    | false =>
     have fin : ∀ b : Bool, (PL.list none).any longP = b → ∃ v', renV (List.range 1) 3 (greatLS.val (some (l, c), none)) = some v' ∧ VLe (.bool b) v' := fun b h => fin b (by unfold greatL; rw [← hx, h8', h]; rfl)
     conv => whnf
     refine ⟨none, [], rfl, Nat.zero_le _, ?_⟩
     conv => whnf
     refine ⟨_, rfl, ?_⟩
     conv => whnf
     exact fin _ rfl
  | some j =>
   obtain ⟨l, c⟩ := i
   obtain ⟨n, hn⟩ : ∃ n, n = l.length := ⟨_, rfl⟩
   obtain ⟨g, hg⟩ : ∃ g, g = rowsLn l := ⟨_, rfl⟩
   have fin : ∀ b : Bool, greatL l (PL.list (some j)) = b → ∃ v', renV (List.range 2) 3 (greatLS.val (some (l, c), (some j))) = some v' ∧ VLe (.bool b) v' := fun b h => ⟨.bool b, by rw [← h]; rfl, .refl _⟩
   unfold qRes
   rw [show greatLS.blks (some (l, c), (some j)) = .flat false n 9 g :: [.flat false j.1.length 6 (rowsP j.1)] from by rw [hn, hg]; rfl, show greatLS.args (some (l, c), (some j)) = [.slice (some ⟨0, 0, none⟩) n c, PL.valAt (some j) 1] from by rw [hn]; rfl, show greatLS.new (some (l, c), (some j)) = none from rfl]
   conv => whnf
   by_cases h8 : 8 < n
   ·rw [show decide ((n : Int) > 8) = true from decide_eq_true (by omega)]
    conv => whnf
    exact fin true (by unfold greatL; rw [decide_eq_true (by omega)]; rfl)
   ·rw [show decide ((n : Int) > 8) = false from decide_eq_false (by omega)]
    have h8' : decide (8 < l.length) = false := decide_eq_false (by omega)
    conv => whnf
    obtain ⟨x, hx⟩ : ∃ x, x = l.any longL := ⟨_, rfl⟩
    refine ⟨some (l, c), [0], by rw [show (anyLS 57 longL).args (some (l, c)) = [.slice (some ⟨0, 0, none⟩) n c, .func (.func 57) #[] #[]] from by rw [hn]; rfl]; rfl, by show l.length ≤ _; omega, ?_⟩
    rw [show (anyLS 57 longL).val (some (l, c)) = .bool x from by rw [hx]; rfl, show (anyLS 57 longL).blks (some (l, c)) = [.flat false n 9 g] from by rw [hn, hg]; rfl]
    conv => whnf
    refine ⟨BlkLe.flat_flat (fun h => h) (fun r hr => by rw [hg]; rfl), ?_⟩
    conv => whnf
    refine ⟨_, rfl, ?_⟩
    cases x with
    | true =>
     conv => whnf
     exact fin true (by unfold greatL; rw [← hx]; simp)
    | false =>
     have fin : ∀ b : Bool, (PL.list (some j)).any longP = b → ∃ v', renV (List.range 2) 3 (greatLS.val (some (l, c), (some j))) = some v' ∧ VLe (.bool b) v' := fun b h => fin b (by unfold greatL; rw [← hx, h8', h]; rfl)
     conv => whnf
     obtain ⟨ps, d⟩ := j
     obtain ⟨y, hy⟩ : ∃ y, y = ps.any longP := ⟨_, rfl⟩
     refine ⟨some (ps, d), [1], rfl, hpj, ?_⟩
     rw [show (anyPS 59 longP).val (some (ps, d)) = .bool y from by rw [hy]; rfl]
     conv => whnf
     refine ⟨BlkLe.flat_flat (fun h => h) (fun r hr => rfl), ?_⟩
     conv => whnf
     refine ⟨_, rfl, ?_⟩
     conv => whnf
     exact fin _ (by rw [hy]; rfl)
end Go.Proofs.Ytppeponndkfbkaa
/- The example of the chapter on lines. -/
set_option maxRecDepth 20000
set_option maxHeartbeats 4000000
namespace Go.Proofs.Ytppeponndkfbkaa
open Go Go.Ae
def Edu : Env := { tt := tt, eqs := eqsL, Φ := fun g => match g with
 | 37 => some (.p vofS)
 | 39 => some (.p qofS)
 | 19 => some (.p throughS)
 | 21 => some (.p sideS)
 | 28 => some (.p (footS 1))
 | 25 => some (.q commonS)
 | 27 => some (.q sameS)
 | _ => none }
theorem Eduok : EnvOk Try.prog Edu := ⟨tt_ok, eqs_ok, (fun g S h => by
 simp only [Edu] at h
 split at h
 ·cases h; exact vof_ok
 ·cases h; exact qof_ok
 ·cases h; exact through_ok
 ·cases h; exact side_ok
 ·cases h; exact foot_ok
 ·cases h; exact common_ok
 ·cases h; exact equal_ok
 ·cases h), fun g F h => by simp [Edu] at h⟩
theorem awake9_ok : Snd Try.prog 18 awakeS := by
 refine snd_of Eduok Dok Try.func18 (enters_of Try.func18 (by kernel_rfl) rfl) (fun _ => rfl) (fun _ => rfl) ?_
 intro _ hp
 conv => whnf
 obtain ⟨o, co, eo, po, so, qo⟩ := hidePc (ofsz (0) (0) (by decide) (by decide))
 refine ⟨(((0 : Int), (0 : Int)) : Int × Int), rfl, ⟨⟨by decide, by decide⟩, ⟨by decide, by decide⟩⟩, ?_⟩
 rw [show vofS.val (((0 : Int), (0 : Int)) : Int × Int) = o.v from eo]
 conv => whnf
 obtain ⟨t, ct, et, pt, st, qt⟩ := hidePc (ofsz (2) (2) (by decide) (by decide))
 refine ⟨(((2 : Int), (2 : Int)) : Int × Int), rfl, ⟨⟨by decide, by decide⟩, ⟨by decide, by decide⟩⟩, ?_⟩
 rw [show vofS.val (((2 : Int), (2 : Int)) : Int × Int) = t.v from et]
 conv => whnf
 obtain ⟨l, e, el, pl, sl, ql⟩ := hideLE (thrV_sz qo qt)
 refine ⟨(o, t), rfl, ⟨PV.sz_mono so (by decide), PV.sz_mono st (by decide)⟩, ?_⟩
 rw [show throughS.val (o, t) = .tuple ⟨[l.v, .int .i64 e]⟩ from el]
 conv => whnf
 rw [po, pt, ex_thr] at pl
 obtain ⟨cl, rfl⟩ : linV exL = l ∧ (0 : Int) = e := ⟨congrArg Prod.fst pl, congrArg Prod.snd pl⟩
 have hl : l.q = exL := by rw [← cl, linV_q]
 refine .inl ⟨7, [[], [], [0, 1], [0, 1, 2], [0, 1, 2, 3], [0, 1, 2, 3], [0, 1, 2, 3, 4], [0, 1, 2, 3, 4, 5, 6]], by kernel_rfl, ?_⟩
 conv => whnf
 obtain ⟨a, ca, ea, pa, sa, qa⟩ := hidePc (ofsz (0) (1) (by decide) (by decide))
 refine ⟨(((0 : Int), (1 : Int)) : Int × Int), rfl, ⟨⟨by decide, by decide⟩, ⟨by decide, by decide⟩⟩, ?_⟩
 rw [show vofS.val (((0 : Int), (1 : Int)) : Int × Int) = a.v from ea]
 conv => whnf
 obtain ⟨s, f, es, ps⟩ := hideZE (sidV l.q a.p)
 refine ⟨(l, a), rfl, ⟨R3.sz_mono sl (by decide), PV.sz_mono sa (by decide)⟩, ?_⟩
 rw [show sideS.val (l, a) = .tuple ⟨[.int .i64 s, .int .i64 f]⟩ from es]
 conv => whnf
 rw [hl, pa, ex_sid] at ps
 obtain ⟨rfl, rfl⟩ : (1 : Int) = s ∧ (0 : Int) = f := ⟨congrArg Prod.fst ps, congrArg Prod.snd ps⟩
 refine .inr (.inr (.inl ⟨7, 1, [[], [], [0, 1], [0, 1, 2], [0, 1, 2, 3], [0, 1, 2, 3], [], [0, 1, 2, 3, 4, 6], [0, 1, 2, 3, 4, 5, 6, 7]], [5], by kernel_rfl, ?_⟩))
 conv => whnf
 obtain ⟨b, cb, eb, pb, sb, qb⟩ := hidePc (ofsz (0) (2) (by decide) (by decide))
 refine ⟨(((0 : Int), (2 : Int)) : Int × Int), rfl, ⟨⟨by decide, by decide⟩, ⟨by decide, by decide⟩⟩, ?_⟩
 rw [show vofS.val (((0 : Int), (2 : Int)) : Int × Int) = b.v from eb]
 conv => whnf
 obtain ⟨u, f, eu, pu, su, qu⟩ := hidePE (footV_sz (qb1 (Nat.le_refl 1)) ql qb)
 refine ⟨(l, b), rfl, ⟨R3.sz_mono sl (by decide), PV.sz_mono sb (by decide)⟩, ?_⟩
 rw [show (footS 1).val (l, b) = .tuple ⟨[u.v, .int .i64 f]⟩ from eu]
 conv => whnf
 rw [hl, pb, ex_foot] at pu
 obtain ⟨cu1, rfl⟩ : ptV (((1 : Int) : Rat), ((1 : Int) : Rat)) = u ∧ (0 : Int) = f := ⟨congrArg Prod.fst pu, congrArg Prod.snd pu⟩
 refine .inl ⟨9, [[], [0], [], [2], [0, 1, 2, 3], [0, 1, 2, 3, 4], [0, 1, 2, 3, 4, 5], [0, 1, 2, 3, 4, 5], [0, 1, 2, 3, 4, 5, 6], [0, 1, 2, 3, 4, 5, 6, 7, 8]], by kernel_rfl, ?_⟩
 conv => whnf
 obtain ⟨m, cm, em, pm, sm, qm⟩ := hidePc (ofsz (4) (4) (by decide) (by decide))
 refine ⟨(((4 : Int), (4 : Int)) : Int × Int), rfl, ⟨⟨by decide, by decide⟩, ⟨by decide, by decide⟩⟩, ?_⟩
 rw [show vofS.val (((4 : Int), (4 : Int)) : Int × Int) = m.v from em]
 conv => whnf
 have hok := ex_ok pm sm hl (R3.sz_mono sl (by decide))
 obtain ⟨f1, f2⟩ := common_new (b := (zeroP, m)) (i := some ([l], 1)) (P := exR) (M := 3) (by rw [show XV.p (zeroP, m) = exB from by show (zeroP.p, m.p) = _; rw [zeroP_p, pm]; rfl, show qs (LL.list (some ([l], 1))) = [exL] from by show [l.q] = _; rw [hl]]; exact ex_E) (by rw [show XV.p (zeroP, m) = exB from by show (zeroP.p, m.p) = _; rw [zeroP_p, pm]; rfl, show qs (LL.list (some ([l], 1))) = [exL] from by show [l.q] = _; rw [hl]]; exact ex_P) rfl rfl
 obtain ⟨cu, hcu⟩ : ∃ cu, cu = capU := ⟨_, rfl⟩
 obtain ⟨gs, hgs⟩ : ∃ g, g = rowsQ exR := ⟨_, rfl⟩
 rw [← hgs] at f1
 rw [← hcu] at f2
 refine ⟨((zeroP, m), some ([l], 1)), [18], rfl, hok, ?_⟩
 rw [f1, f2, show commonS.blks ((zeroP, m), some ([l], 1)) = [.flat false 1 9 (rowsLn [l])] from rfl]
 conv => whnf
 refine ⟨lit_blkL [l], ?_⟩
 conv => whnf
 refine ⟨_, rfl, ?_⟩
 conv => whnf
 refine .inl ⟨35, [[], [0], [0, 1], [0, 1, 2], [0, 1, 2, 3], [0, 1, 2, 3, 4], [0, 1, 2, 3, 4, 5], [0, 1, 2, 3, 4, 5, 6], [0, 1, 2, 3, 4, 5, 6, 7], [0, 1, 2, 3, 4, 5, 6, 7, 8], [0, 1, 2, 3, 4, 5, 6, 7, 8, 9], [0, 1, 2, 3, 4, 5, 6, 7, 8, 9, 10], [0, 1, 2, 3, 4, 5, 6, 7, 8, 9, 10, 11], [0, 1, 2, 3, 4, 5, 6, 7, 8, 9, 10, 11, 12], [0, 1, 2, 3, 4, 5, 6, 7, 8, 9, 10, 11, 12, 13], [0, 1, 2, 3, 4, 5, 6, 7, 8, 9, 10, 11, 12, 13, 14], [0, 1, 2, 3, 4, 5, 6, 7, 8, 9, 10, 11, 12, 13, 14, 15], [0, 1, 2, 3, 4, 5, 6, 7, 8, 9, 10, 11, 12, 13, 14, 15, 16], [0, 1, 2, 3, 4, 5, 6, 7, 8, 9, 10, 11, 12, 13, 14, 15, 16, 17], [0, 1, 2, 3, 4, 5, 6, 7, 8, 9, 10, 11, 12, 13, 14, 15, 16, 17, 18], [0, 1, 2, 3, 4, 5, 6, 7, 8, 9, 10, 11, 12, 13, 14, 15, 16, 17, 18], [0, 1, 2, 3, 4, 5, 6, 7, 8, 9, 10, 11, 12, 13, 14, 15, 16, 17, 18, 19, 20], [0, 1, 2, 3, 4, 5, 6, 7, 8, 9, 10, 11, 12, 13, 14, 15, 16, 17, 18, 19, 20, 21], [0, 1, 2, 3, 4, 5, 6, 7, 8, 9, 10, 11, 12, 13, 14, 15, 16, 17, 18, 19, 20, 21, 22], [0, 1, 2, 3, 4, 5, 6, 7, 8, 9, 10, 11, 12, 13, 14, 15, 16, 17, 18, 19, 20, 21, 22, 23], [0, 1, 2, 3, 4, 5, 6, 7, 8, 9, 10, 11, 12, 13, 14, 15, 16, 17, 18, 19, 20, 21, 22, 23, 24], [0, 1, 2, 3, 4, 5, 6, 7, 8, 9, 10, 11, 12, 13, 14, 15, 16, 17, 18, 19, 20, 21, 22, 23], [0, 1, 2, 3, 4, 5, 6, 7, 8, 9, 10, 11, 12, 13, 14, 15, 16, 17, 18, 19, 20, 21, 22, 23, 24, 25, 26], [0, 1, 2, 3, 4, 5, 6, 7, 8, 9, 10, 11, 12, 13, 14, 15, 16, 17, 18, 19, 20, 21, 22, 23, 24, 25, 26, 27], [0, 1, 2, 3, 4, 5, 6, 7, 8, 9, 10, 11, 12, 13, 14, 15, 16, 17, 18, 19, 20, 21, 22, 23, 24, 25, 26, 27, 28], [0, 1, 2, 3, 4, 5, 6, 7, 8, 9, 10, 11, 12, 13, 14, 15, 16, 17, 18, 19, 20, 21, 22, 23, 24, 25, 26, 27, 28, 29], [0, 1, 2, 3, 4, 5, 6, 7, 8, 9, 10, 11, 12, 13, 14, 15, 16, 17, 18, 19, 20, 21, 22, 23, 24, 25, 26, 27, 28, 29], [0, 1, 2, 3, 4, 5, 6, 7, 8, 9, 10, 11, 12, 13, 14, 15, 16, 17, 18, 19, 20, 21, 22, 23, 24, 25, 26, 27, 28, 29, 31], [0, 1, 2, 3, 4, 5, 6, 7, 8, 9, 10, 11, 12, 13, 14, 15, 16, 17, 18, 19, 20, 21, 22, 23, 24, 25, 26, 27, 28, 29, 31, 32], [0, 1, 2, 3, 4, 5, 6, 7, 8, 9, 10, 11, 12, 13, 14, 15, 16, 17, 18, 19, 20, 21, 22, 23, 24, 25, 26, 27, 28, 29, 31, 32, 33], [0, 1, 2, 3, 4, 5, 6, 7, 8, 9, 10, 11, 12, 13, 14, 15, 16, 17, 18, 19, 20, 21, 22, 23, 24, 25, 26, 27, 28, 29, 30, 31, 32, 33, 34], [0, 1, 2, 3, 4, 5, 6, 7, 8, 9, 10, 11, 12, 13, 14, 15, 16, 17, 18, 19, 20, 21, 22, 23, 24, 25, 26, 27, 28, 29, 30, 31, 32, 33, 34, 35], [0, 1, 2, 3, 4, 5, 6, 7, 8, 9, 10, 11, 12, 13, 14, 15, 16, 17, 18, 19, 20, 21, 22, 23, 24, 25, 26, 27, 28, 29, 30, 31, 32, 33, 34, 35, 36]], by kernel_rfl, ?_⟩
 conv => whnf
 obtain ⟨v, cv, ev, pv, sv, qv⟩ := hidePc (ofsz (1) (1) (by decide) (by decide))
 refine ⟨(((1 : Int), (1 : Int)) : Int × Int), rfl, ⟨⟨by decide, by decide⟩, ⟨by decide, by decide⟩⟩, ?_⟩
 rw [show vofS.val (((1 : Int), (1 : Int)) : Int × Int) = v.v from ev]
 conv => whnf
 rw [eqPQ u v, show decide (u = v) = true from decide_eq_true (cu1.symm.trans cv.symm)]
 conv => whnf
 obtain ⟨r, cr, er, pr, sr, qr⟩ := hideRc (q := ((-2 : Int) : Rat)) (QB.of_int (n := -2) (k := 1) (nby_le (show Int.natAbs (-2) < C ^ 1 by decide)) (by decide))
 refine ⟨(-2 : Int), rfl, ⟨by decide, by decide⟩, ?_⟩
 rw [show qofS.val (-2 : Int) = r.v from er]
 conv => whnf
 rw [eqCells_rat l.1 r, show decide (l.1 = r) = true from decide_eq_true (by rw [cr, ← cl]; rfl)]
 conv => whnf
 obtain ⟨w1, cw1, ew1, pw1, sw1, qw1⟩ := hidePc (ofsz (0) (0) (by decide) (by decide))
 refine ⟨(((0 : Int), (0 : Int)) : Int × Int), rfl, ⟨⟨by decide, by decide⟩, ⟨by decide, by decide⟩⟩, ?_⟩
 rw [show vofS.val (((0 : Int), (0 : Int)) : Int × Int) = w1.v from ew1]
 conv => whnf
 obtain ⟨w2, cw2, ew2, pw2, sw2, qw2⟩ := hidePc (ofsz (4) (4) (by decide) (by decide))
 refine ⟨(((4 : Int), (4 : Int)) : Int × Int), rfl, ⟨⟨by decide, by decide⟩, ⟨by decide, by decide⟩⟩, ?_⟩
 rw [show vofS.val (((4 : Int), (4 : Int)) : Int × Int) = w2.v from ew2]
 conv => whnf
 obtain ⟨w3, cw3, ew3, pw3, sw3, qw3⟩ := hidePc (ofsz (0) (4) (by decide) (by decide))
 refine ⟨(((0 : Int), (4 : Int)) : Int × Int), rfl, ⟨⟨by decide, by decide⟩, ⟨by decide, by decide⟩⟩, ?_⟩
 rw [show vofS.val (((0 : Int), (4 : Int)) : Int × Int) = w3.v from ew3]
 conv => whnf
 have hR : pvs exR = [w1, w2, w3] := by rw [cw1, cw2, cw3]; rfl
 refine ⟨(some (pvs exR, cu), some ([w1, w2, w3], 3)), [19, 58], rfl, ⟨by show 3 ≤ 1099511627776; decide, by show 3 ≤ 1099511627776; decide⟩, ?_⟩
 rw [show sameS.blks (some (pvs exR, cu), some ([w1, w2, w3], 3)) = [.flat false 3 6 (rowsP (pvs exR)), .flat false 3 6 (rowsP [w1, w2, w3])] from rfl, show sameS.val (some (pvs exR, cu), some ([w1, w2, w3], 3)) = .bool true from congrArg Value.bool (decide_eq_true hR), show sameS.new (some (pvs exR, cu), some ([w1, w2, w3], 3)) = none from rfl]
 conv => whnf
 refine ⟨BlkLe.flat_rows (fun h => by cases h) (fun r hr => by rw [hgs]; rfl) (fun r hr => rfl), lit_blk [w1, w2, w3], ?_⟩
 conv => whnf
 refine ⟨.bool true, rfl, ?_⟩
 conv => whnf
 rfl
end Go.Proofs.Ytppeponndkfbkaa
/- Laws of lines that do without the reference. -/
set_option maxRecDepth 20000
set_option maxHeartbeats 4000000
namespace Go.Proofs.Ytppeponndkfbkaa
open Go Go.Ae
end Go.Proofs.Ytppeponndkfbkaa
/- Lines: what the laws about rings call. -/
set_option maxRecDepth 20000
set_option maxHeartbeats 4000000
namespace Go.Proofs.Ytppeponndkfbkaa
open Go Go.Ae
def Ehin : Env := { tt := tt, eqs := [], Φ := fun g => match g with
 | 23 => some (.p orientS)
 | _ => none }
theorem Ehinok : EnvOk Try.prog Ehin := ⟨tt_ok, fun t h => by simp [Ehin] at h, (fun g S h => by
 simp only [Ehin] at h
 split at h
 ·cases h; exact orient_ok
 ·cases h), fun g F h => by simp [Ehin] at h⟩
theorem rins_ok : QSnd Try.prog 26 rinsS := by
 refine qsnd_of Ehinok Dok Try.func26 (enters_of Try.func26 (by kernel_rfl) rfl) ?_ ?_ ?_
 ·intro i b hb; simp [rinsS] at hb; rw [hb]; rfl
 ·intro i b hb; simp [rinsS] at hb
 intro ⟨⟨L, c⟩, v⟩ hp
 have hp : L.length ≤ 1099511627776 ∧ (∀ v ∈ L, Q2.sz 1048576 v) ∧ v.sz 1048576 := hp
 obtain ⟨hlen, hsz, sv⟩ := hp
 obtain ⟨n, hn⟩ : ∃ n, n = L.length := ⟨_, rfl⟩
 obtain ⟨g, hg⟩ : ∃ g, g = rowsQ L := ⟨_, rfl⟩
 have fin : ∀ b : Bool, b = decide (rinB L v.p ∧ 2 < L.length) → ∃ v', renV (List.range 1) 3 (rinsS.val ((L, c), v)) = some v' ∧ VLe (.bool b) v' := fun b h => ⟨.bool b, by rw [h]; rfl, .refl _⟩
 rw [show rinsS.blks ((L, c), v) = [.flat false n 6 g] from by rw [hn, hg]; rfl, show rinsS.args ((L, c), v) = [.slice (some ⟨0, 0, none⟩) n c, v.v] from by rw [hn]; rfl]
 rw [← hn] at hlen
 conv => whnf
 refine .inl ⟨fun mm tz hz => ∃ (k : Nat), Pat [some (.slice (some ⟨0, 0, none⟩) n c), none, none, some (.pointer (some ⟨1, 0, none⟩)), none, none, none, some (.slice (some ⟨0, 0, none⟩) n c), some (.int .i64 n), some (.int .i64 k), none, none, none, none, none, none, none, none, none, none, none, none, none, none, none, none, none, none, none, none] tz ∧ hz = [some (.flat false n 6 g), some (.expl true 6 [v.cells])] ∧ n - k = mm ∧ (k ≤ n ∧ ∀ j, j < k → 0 ≤ orR (at2 L j) (at2 L (nxt L.length j)) v.p), .inr ⟨[0, 1], [0, 3, 7, 8, 9], ?_⟩, ?_⟩
 ·conv => whnf
  intro _
  conv => whnf
  refine ⟨_, 0, (.keep (.skip (.skip (.keep (.skip (.skip (.skip (.keep (.keep (.keep (.s8 (.s8 (.skip (.skip (.skip (.skip (.nil))))))))))))))))), rfl, rfl, ?_⟩
  exact ⟨Nat.zero_le _, fun j hj => absurd hj (by omega)⟩
 rintro mm tms _ ⟨k, hpat, rfl, rfl, ⟨hk, hup⟩⟩
 obtain ⟨az, rfl⟩ : ∃ az : Nat → Value, tms = [.slice (some ⟨0, 0, none⟩) n c, az 1, az 2, .pointer (some ⟨1, 0, none⟩), az 4, az 5, az 6, .slice (some ⟨0, 0, none⟩) n c, .int .i64 n, .int .i64 k, az 10, az 11, az 12, az 13, az 14, az 15, az 16, az 17, az 18, az 19, az 20, az 21, az 22, az 23, az 24, az 25, az 26, az 27, az 28, az 29] := pat_fill hpat
 clear hpat
 conv => whnf
 refine br_intro (fun h1 => ?_) (fun h1 => ?_)
 ·have h1 : k < n := by
   have := of_decide_eq_true h1
   omega
  obtain ⟨p, cp, rp, pp, sp, qp⟩ := hideAt (L := L) (k := k) (by omega) hsz
  obtain ⟨q, cq, rq, pq, sq, qq⟩ := hideAt (L := L) (k := nxt n k) (by rw [← hn]; exact nxt_lt (by omega)) hsz
  have hnx := nxt_i h1 (by omega)
  have hnl := nxt_lt h1
  obtain ⟨j, hj⟩ : ∃ j, j = nxt n k := ⟨_, rfl⟩
  rw [← hj] at hnx hnl rq
  rw [← hg] at rp rq
  have e7 : IntKind.i64.wrap ((k : Int) + 1) = ((k + 1 : Nat) : Int) := by rw [wrapi64 (by omega) (by omega)]; rfl
  conv => whnf
  refine ⟨⟨by omega, by omega⟩, ?_⟩
  simp only [toNat_cast, rowAdd_eq, Nat.zero_add]
  conv => whnf
  refine ⟨by show k < n; omega, ?_⟩
  conv => whnf
  rw [rp]
  conv => whnf
  refine .inl ⟨10, [[], [], [], [2], [], [4], [2, 3, 4, 5], [1, 2, 3, 4, 5, 6], [1, 2, 3, 4, 5, 6, 7], [], [0, 1, 2, 3, 4, 5, 6, 7, 8, 9], [0, 1, 2, 3, 4, 5, 6, 7, 8, 9, 10]], by kernel_rfl, ?_⟩
  conv => whnf
  rw [show decide ((n : Int) ≠ 0) = true from decide_eq_true (by omega)]
  conv => whnf
  rw [hnx]
  refine ⟨⟨by omega, by omega⟩, ?_⟩
  simp only [toNat_cast, rowAdd_eq, Nat.zero_add]
  conv => whnf
  refine ⟨by show j < n; omega, ?_⟩
  conv => whnf
  rw [rq]
  conv => whnf
  obtain ⟨z, ez, pz⟩ := hideZ (cmpQ (orR p.p q.p v.p) 0)
  refine ⟨(p, q, v), rfl, ⟨PV.sz_mono sp (by decide), PV.sz_mono sq (by decide), PV.sz_mono sv (by decide)⟩, ?_⟩
  rw [show orientS.val (p, q, v) = .int .i64 z from ez]
  conv => whnf
  rw [pp, pq] at pz
  refine br_intro (fun h2 => ?_) (fun h2 => ?_)
  ·have h2 : z < 0 := of_decide_eq_true h2
   conv => whnf
   refine fin false (decide_eq_false fun ⟨h3, _⟩ => ?_).symm
   have := cmpQ_ge.2 (h3 k (by omega))
   rw [← hn, ← pz] at this
   omega
  ·have h2 : ¬ z < 0 := of_decide_eq_false h2
   conv => whnf
   rw [e7]
   refine .inr ⟨[0, 1], [0, 3, 7, 8, 9], ?_⟩
   conv => whnf
   intro _
   conv => whnf
   refine ⟨_, ?_, k + 1, (.keep (.skip (.skip (.keep (.skip (.skip (.skip (.keep (.keep (.keep (.s8 (.s8 (.skip (.skip (.skip (.skip (.nil))))))))))))))))), rfl, rfl, ?_⟩
   ·omega
   ·refine ⟨by omega, fun i hi => ?_⟩
    rcases Nat.lt_or_ge i k with h | h
    ·exact hup i h
    ·obtain rfl : i = k := by omega
     rw [← hn]
     exact cmpQ_ge.1 (by rw [← pz]; omega)
 ·have h1 : k = n := by
   have := of_decide_eq_false h1
   omega
  subst h1
  have hin : rinB L v.p := fun j hj => hup j (by omega)
  conv => whnf
  refine fin _ ?_
  rcases Nat.lt_or_ge 2 k with h | h
  ·rw [decide_eq_true (show (k : Int) > 2 by omega), decide_eq_true (show rinB L v.p ∧ 2 < L.length from ⟨hin, by omega⟩)]
  ·rw [decide_eq_false (show ¬ (k : Int) > 2 by omega), decide_eq_false (show ¬ (rinB L v.p ∧ 2 < L.length) from fun h => by omega)]
def Ehlc : Env := { tt := tt, eqs := [], Φ := fun g => match g with
 | 39 => some (.p qofS)
 | _ => none }
theorem Ehlcok : EnvOk Try.prog Ehlc := ⟨tt_ok, fun t h => by simp [Ehlc] at h, (fun g S h => by
 simp only [Ehlc] at h
 split at h
 ·cases h; exact qof_ok
 ·cases h), fun g F h => by simp [Ehlc] at h⟩
theorem lclone_ok : QSnd Try.prog 24 lcloneS := by
 refine qsnd_of Ehlcok Dok Try.func24 (enters_of Try.func24 (by kernel_rfl) rfl) ?_ ?_ ?_
 ·intro i b hb
  cases i with
  | none => simp [lcloneS, LL.blks] at hb
  | some i => simp [lcloneS, LL.blks] at hb; rw [hb]; rfl
 ·intro i b hb
  cases i with
  | none => simp [lcloneS] at hb
  | some i => simp [lcloneS] at hb; rw [← hb]; rfl
 intro i hp
 cases i with
 | none =>
  conv => whnf
  exact ⟨_, rfl, .refl _⟩
 | some i =>
  obtain ⟨l, c⟩ := i
  have hp : l.length * 120 ≤ 140737488355328 := hp
  obtain ⟨n, hn⟩ : ∃ n, n = l.length := ⟨_, rfl⟩
  obtain ⟨g, hg⟩ : ∃ g, g = rowsLn l := ⟨_, rfl⟩
  have hs : ∀ r, r < n → allS (g r) = true := fun r hr => by rw [hg]; rfl
  rw [← hn] at hp
  unfold qRes
  rw [show lcloneS.new (some (l, c)) = some (.flat true n 9 g) from by rw [hn, hg]; rfl, show lcloneS.val (some (l, c)) = .slice (some ⟨1, 0, none⟩) n capU from by rw [hn]; rfl, show lcloneS.blks (some (l, c)) = [.flat false n 9 g] from by rw [hn, hg]; rfl, show lcloneS.args (some (l, c)) = [.slice (some ⟨0, 0, none⟩) n c] from by rw [hn]; rfl]
  clear hg hn
  conv => whnf
  refine ⟨by omega, ?_⟩
  conv => whnf
  refine br_intro (fun h => ?_) (fun h => ?_)
  ·have h : n ≤ 0 := by
    have := Nat.le_of_ble_eq_true h
    have : 0 + n ≤ 0 := this
    omega
   obtain rfl : n = 0 := by omega
   refine ⟨rfl, ?_⟩
   conv => whnf
   refine ⟨1, ?_⟩
   conv => whnf
   exact ⟨⟨rfl, BlkLe.flat_rows (fun h => h) (fun r hr => absurd hr (Nat.not_lt_zero r)) (fun r hr => absurd hr (Nat.not_lt_zero r))⟩, .slice (some ⟨2 - 1, 0, none⟩) 0 capU, rfl, .cap _ _ _ rfl⟩
  ·refine ⟨⟨Nat.le_refl _, by show (0 + n) * 120 ≤ 140737488355328; omega⟩, ?_⟩
   conv => whnf
   rw [show (0 + (Src.fl n fun j => g (rowAdd 0 j)).m) = n from Nat.zero_add n, show 0 + n = n from Nat.zero_add n]
   refine ⟨2, ?_⟩
   conv => whnf
   exact ⟨⟨rfl, BlkLe.flat_rows (fun h => h) (fun r hr => by rw [appGet_hi (Nat.zero_le _)]; simp [rowAdd_eq]) hs⟩, _, rfl, .refl _⟩
end Go.Proofs.Ytppeponndkfbkaa
/- The law LineFewer. -/
set_option maxRecDepth 20000
set_option maxHeartbeats 4000000
namespace Go.Proofs.Ytppeponndkfbkaa
open Go Go.Ae
def Efw : Env := { tt := tt, eqs := eqsL, Φ := fun g => match g with
 | 17 => some (.q greatLS)
 | 18 => some (.p awakeS)
 | 19 => some (.p throughS)
 | 22 => some (.p lcheckS)
 | 25 => some (.q commonS)
 | 27 => some (.q sameS)
 | 26 => some (.q rinsS)
 | 24 => some (.q lcloneS)
 | _ => none }
theorem Efwok : EnvOk Try.prog Efw := ⟨tt_ok, eqs_ok, (fun g S h => by
 simp only [Efw] at h
 split at h
 ·cases h; exact greatL_ok
 ·cases h; exact awake9_ok
 ·cases h; exact through_ok
 ·cases h; exact lcheck_ok
 ·cases h; exact common_ok
 ·cases h; exact equal_ok
 ·cases h; exact rins_ok
 ·cases h; exact lclone_ok
 ·cases h), fun g F h => by simp [Efw] at h⟩
theorem fewer_ok : QSnd Try.prog 5 fewerS := by
 refine qsnd_of Efwok Dok Try.func5 (enters_of Try.func5 (by kernel_rfl) rfl) ?_ ?_ ?_
 ·intro ⟨⟨b, i⟩, _⟩ B hb
  cases i with
  | none => simp [fewerS, LL.blks] at hb
  | some i => simp [fewerS, LL.blks] at hb; rw [hb]; rfl
 ·intro i B hb; simp [fewerS] at hb
 intro ⟨⟨⟨⟨x1, y1⟩, ⟨x2, y2⟩⟩, i⟩, m, at0⟩ hp
 have hp : i.list.length * 120 ≤ 140737488351232 ∧ at0 < 256 := hp
 obtain ⟨hlen, hat⟩ := hp
 cases i with
 | none =>
  obtain ⟨cu, hcu⟩ : ∃ cu, cu = capU := ⟨_, rfl⟩
  have fin : ∃ v', renV (List.range 1) 3 (fewerS.val ((((x1, y1), (x2, y2)), none), (m, at0))) = some v' ∧ VLe (.bool true) v' := ⟨.bool true, rfl, .refl _⟩
  rw [show fewerS.blks ((((x1, y1), (x2, y2)), none), (m, at0)) = [] from rfl, show fewerS.args ((((x1, y1), (x2, y2)), none), (m, at0)) = [XV.v ((x1, y1), (x2, y2)), .slice none 0 0, m.v, .int .u8 at0] from rfl]
  conv => whnf
  refine .inr (.inr (.inr ⟨16, [[], [0], [], [2], [0, 1, 2, 3], [], [5], [], [7], [5, 6, 7, 8], [0, 2, 3, 4, 5, 6, 7, 8, 9], [0, 2, 3, 4, 5, 6, 7, 8, 9, 10], [0, 2, 3, 4, 5, 6, 7, 8, 9, 10, 11], [0, 2, 3, 4, 5, 6, 7, 8, 9, 10, 11, 12], [0, 2, 3, 4, 5, 6, 7, 8, 9, 10, 11, 12, 13], [0, 2, 3, 4, 5, 6, 7, 8, 9, 10, 11, 12, 13, 14]], by kernel_rfl, ?_⟩))
  conv => whnf
  refine ⟨none, [], rfl, by show 0 * 120 ≤ 140737488355328; decide, ?_⟩
  conv => whnf
  refine ⟨_, rfl, ?_⟩
  conv => whnf
  refine ⟨by show (0 + 1) * 120 ≤ 140737488355328; decide, ?_⟩
  conv => whnf
  rw [← hcu]
  obtain ⟨G, hG⟩ : ∃ G, G = greatL [m] [(x1, y1), (x2, y2)] := ⟨_, rfl⟩
  refine ⟨(some ([m], cu), some ([(x1, y1), (x2, y2)], 2)), [6, 11], by rw [show greatLS.args (some ([m], cu), some ([(x1, y1), (x2, y2)], 2)) = [.slice (some ⟨0, 0, none⟩) 1 cu, .slice (some ⟨1, 0, none⟩) 2 2] from rfl]; rfl, ⟨by show 1 ≤ 9223372036854775807; decide, by show 2 ≤ 1099511627776; decide⟩, ?_⟩
  rw [show greatLS.blks (some ([m], cu), some ([(x1, y1), (x2, y2)], 2)) = [.flat false 1 9 (rowsLn [m]), .flat false 2 6 (rowsP [(x1, y1), (x2, y2)])] from rfl, show greatLS.val (some ([m], cu), some ([(x1, y1), (x2, y2)], 2)) = .bool G from by rw [hG]; rfl, show greatLS.new (some ([m], cu), some ([(x1, y1), (x2, y2)], 2)) = none from rfl]
  conv => whnf
  refine ⟨BlkLe.flat_rows (fun h => by cases h) (one_rowLn m rfl) (fun r hr => rfl), lit_blk [(x1, y1), (x2, y2)], ?_⟩
  conv => whnf
  refine ⟨.bool G, rfl, ?_⟩
  conv => whnf
  have hgr := fun h => great_false (hG.symm.trans h)
  have hgl := fun h => great_len (hG.symm.trans h)
  clear hG
  cases hG2 : G
  ·obtain ⟨hls, hps⟩ := hgr hG2
   have hn8 := hgl hG2
   have sm : R3.sz 20 m := hls m (by simp)
   have qm := R3.qsz sm (by decide)
   have sb1 : PV.sz 20 (x1, y1) := hps _ (by simp)
   have sb2 : PV.sz 20 (x2, y2) := hps _ (by simp)
   conv => whnf
   obtain ⟨e, ee, pe⟩ := hideZ (chkV m.q)
   refine ⟨m, rfl, R3.sz_mono sm (by decide), ?_⟩
   rw [show lcheckS.val m = .int .i64 e from ee]
   conv => whnf
   by_cases il : isL m.q
   ·rw [chkV_ok il] at pe
    subst pe
    rw [show ((0 : Int) != 0) = false from rfl]
    have hok : comOk ((x1, y1), (x2, y2)) [] := com_ok sb1 sb2 (fun r hr => by cases hr) (by decide) (.inl (by decide))
    obtain ⟨E, hE⟩ : ∃ E, comE (XV.p ((x1, y1), (x2, y2))) [] = E := ⟨_, rfl⟩
    conv => whnf
    have hl1' : ([] : List Q3).length + 1 ≤ 60 := by decide
    have slm : ∀ r ∈ [m], r.sz 20 := hls
    have hokB : comOk ((x1, y1), (x2, y2)) [m] := com_ok sb1 sb2 slm (by show 1 ≤ 1099511627776; decide) (.inl (by show 1 ≤ 36; decide))
    obtain ⟨B, hB⟩ : ∃ B, B = XV.p ((x1, y1), (x2, y2)) := ⟨_, rfl⟩
    obtain ⟨E2, hE2⟩ : ∃ E, comE (XV.p ((x1, y1), (x2, y2))) (qs [m]) = E := ⟨_, rfl⟩
    by_cases h0 : E = 0
    ·have c := com_ring (hE.trans h0)
     obtain ⟨P, hP⟩ : ∃ P, comP (XV.p ((x1, y1), (x2, y2))) [] = P := ⟨_, rfl⟩
     obtain ⟨M, hM⟩ : ∃ M, P.length = M := ⟨_, rfl⟩
     obtain ⟨gs, hgs⟩ : ∃ g, g = rowsQ P := ⟨_, rfl⟩
     obtain ⟨f1, f2⟩ := common_new (b := ((x1, y1), (x2, y2))) (i := none) (hE.trans h0) hP hM hgs
     rw [← hcu] at f2
     refine ⟨(((x1, y1), (x2, y2)), none), [], rfl, hok, ?_⟩
     rw [f1, f2, show commonS.blks (((x1, y1), (x2, y2)), none) = [] from rfl]
     conv => whnf
     refine ⟨_, rfl, ?_⟩
     conv => whnf
     obtain ⟨hMb, hz⟩ := com_bound hok (by decide)
     rw [show qs [] = [] from rfl] at hMb hz
     have hzs : ∀ v ∈ P, Q2.sz 200 v := by rw [← hP]; exact com_small (l := []) sb1 sb2 (fun r hr => by cases hr)
     rw [hP] at hMb hz
     rw [hM] at hMb
     have hM3 : 3 ≤ M := by have := (com_three c).2.2; rw [hP, hM] at this; exact this
     by_cases h2 : E2 = 0
     ·obtain ⟨P2, hP2⟩ : ∃ P, comP (XV.p ((x1, y1), (x2, y2))) (qs [m]) = P := ⟨_, rfl⟩
      obtain ⟨M2, hM2⟩ : ∃ M, P2.length = M := ⟨_, rfl⟩
      obtain ⟨gs2, hgs2⟩ : ∃ g, g = rowsQ P2 := ⟨_, rfl⟩
      obtain ⟨g1, g2⟩ := common_new (b := ((x1, y1), (x2, y2))) (i := some ([m], cu)) (hE2.trans h2) hP2 hM2 hgs2
      rw [← hcu] at g2
      refine .inr (.inr (.inr ⟨12, [[], [], [1], [], [3], [1, 2, 3, 4], [0, 1, 3, 4, 5], [0, 1, 3, 4, 5, 6], [0, 1, 3, 4, 5, 6, 7], [0, 1, 3, 4, 5, 6, 7], [0, 1, 3, 4, 5, 6, 7, 8], [0, 1, 3, 4, 5, 6, 7, 8, 9, 10]], by kernel_rfl, ?_⟩))
      conv => whnf
      refine ⟨none, [], rfl, by show 0 * 120 ≤ 140737488355328; decide, ?_⟩
      conv => whnf
      refine ⟨_, rfl, ?_⟩
      conv => whnf
      refine ⟨by show (0 + 1) * 120 ≤ 140737488355328; decide, ?_⟩
      conv => whnf
      rw [← hcu]
      refine ⟨(((x1, y1), (x2, y2)), some ([m], cu)), [24], by rw [show commonS.args (((x1, y1), (x2, y2)), some ([m], cu)) = [XV.v ((x1, y1), (x2, y2)), .slice (some ⟨0, 0, none⟩) 1 cu] from rfl]; rfl, hokB, ?_⟩
      rw [g1, g2, show commonS.blks (((x1, y1), (x2, y2)), some ([m], cu)) = [.flat false 1 9 (rowsLn [m])] from rfl]
      conv => whnf
      refine ⟨BlkLe.flat_rows (fun h => by cases h) (one_rowLn m rfl) (fun r hr => rfl), ?_⟩
      conv => whnf
      refine ⟨_, rfl, ?_⟩
      conv => whnf
      rw [show decide ((M : Int) < 3) = false from decide_eq_false (by omega)]
      conv => whnf
      obtain ⟨hM2b, hz2⟩ := com_bound hokB (by show 1 ≤ 60; decide)
      rw [hP2] at hM2b hz2
      rw [hM2] at hM2b
      refine .inl ⟨fun mm tz hz => ∃ (k : Nat), Pat [none, some (.slice none 0 0), none, some (.int .u8 at0), some (.pointer (some ⟨0, 0, none⟩)), none, none, none, some (.bool false), some (.slice (some ⟨1, 0, none⟩) M cu), none, none, some (.int .i64 0), none, none, none, none, none, none, none, none, none, none, none, none, none, none, none, none, none, none, none, none, none, none, none, none, none, none, none, none, none, none, none, none, none, none, none, none, none, none, none, none, none, none, none, none, none, none, none, none, none, none, none, none, none, none, none, none, none, none, none, some (.slice (some ⟨2, 0, none⟩) M2 cu), some (.int .i64 M2), some (.int .i64 k), none, none, none, none, none, none, none, none, none, none, none, none, none, none, none, none, none, none, none, none, none, none, none, none, none, none, none, none, none, none, none, none, none, none, none, none, none, none, none, none, none, none, none, none, none, none, none, none, none, none, none, none, none, none, none, none, none, none, none, none, none, none, none, none, none] tz ∧ hz = [some (.expl true 12 [XV.cells ((x1, y1), (x2, y2))]), some (.flat true M 6 gs), some (.flat true M2 6 gs2)] ∧ M2 - k = mm ∧ (k ≤ M2), .inr ⟨[0, 18, 25], [1, 3, 4, 8, 9, 12, 72, 73, 74], ?_⟩, ?_⟩
      ·conv => whnf
       intro _
       conv => whnf
       refine ⟨_, 0, (.skip (.keep (.skip (.keep (.keep (.skip (.skip (.skip (.keep (.keep (.skip (.skip (.keep (.s8 (.s8 (.s8 (.s8 (.s8 (.s8 (.s8 (.skip (.skip (.skip (.keep (.keep (.keep (.s8 (.s8 (.s8 (.s8 (.s8 (.s8 (.s8 (.s8 (.skip (.nil)))))))))))))))))))))))))))))))))))), rfl, rfl, ?_⟩
       exact Nat.zero_le _
      rintro mm tms _ ⟨k, hpat, rfl, rfl, hk⟩
      obtain ⟨az, rfl⟩ : ∃ az : Nat → Value, tms = [az 0, .slice none 0 0, az 2, .int .u8 at0, .pointer (some ⟨0, 0, none⟩), az 5, az 6, az 7, .bool false, .slice (some ⟨1, 0, none⟩) M cu, az 10, az 11, .int .i64 0, az 13, az 14, az 15, az 16, az 17, az 18, az 19, az 20, az 21, az 22, az 23, az 24, az 25, az 26, az 27, az 28, az 29, az 30, az 31, az 32, az 33, az 34, az 35, az 36, az 37, az 38, az 39, az 40, az 41, az 42, az 43, az 44, az 45, az 46, az 47, az 48, az 49, az 50, az 51, az 52, az 53, az 54, az 55, az 56, az 57, az 58, az 59, az 60, az 61, az 62, az 63, az 64, az 65, az 66, az 67, az 68, az 69, az 70, az 71, .slice (some ⟨2, 0, none⟩) M2 cu, .int .i64 M2, .int .i64 k, az 75, az 76, az 77, az 78, az 79, az 80, az 81, az 82, az 83, az 84, az 85, az 86, az 87, az 88, az 89, az 90, az 91, az 92, az 93, az 94, az 95, az 96, az 97, az 98, az 99, az 100, az 101, az 102, az 103, az 104, az 105, az 106, az 107, az 108, az 109, az 110, az 111, az 112, az 113, az 114, az 115, az 116, az 117, az 118, az 119, az 120, az 121, az 122, az 123, az 124, az 125, az 126, az 127, az 128, az 129, az 130, az 131, az 132, az 133, az 134, az 135, az 136, az 137, az 138, az 139] := pat_fill hpat
      clear hpat
      conv => whnf
      refine br_intro (fun h3 => ?_) (fun h3 => ?_)
      ·have h3 : k < M2 := by
        have := of_decide_eq_true h3
        omega
       obtain ⟨v, cv, rv, pv, sv, qv⟩ := hideAt (L := P2) (k := k) (by omega) hz2
       have hvin : v.p ∈ P2 := by rw [pv]; exact at2_mem (by omega)
       rw [← hgs2] at rv
       have e7 : IntKind.i64.wrap ((k : Int) + 1) = ((k + 1 : Nat) : Int) := by rw [wrapi64 (by omega) (by omega)]; rfl
       have hins : rinB P v.p ∧ 2 < P.length := ⟨by rw [← hP]; exact fewer_in (m := m.q) c (by rw [show [] ++ [m.q] = qs [m] from rfl, hP2]; exact hvin), by omega⟩
       conv => whnf
       refine ⟨⟨by omega, by omega⟩, ?_⟩
       simp only [toNat_cast, rowAdd_eq, Nat.zero_add]
       conv => whnf
       refine ⟨by show k < M2; omega, ?_⟩
       conv => whnf
       rw [rv]
       conv => whnf
       refine ⟨((P, cu), v), [1], by rw [show rinsS.args ((P, cu), v) = [.slice (some ⟨0, 0, none⟩) M cu, v.v] from by rw [← hM]; rfl]; rfl, ⟨by show P.length ≤ 1099511627776; omega, fun u hu => Q2.mono (hz u hu) (by decide), PV.sz_mono sv (by decide)⟩, ?_⟩
       rw [show rinsS.blks ((P, cu), v) = [.flat false M 6 gs] from by rw [← hM, hgs]; rfl, show rinsS.val ((P, cu), v) = .bool true from congrArg Value.bool (decide_eq_true hins), show rinsS.new ((P, cu), v) = none from rfl]
       conv => whnf
       refine ⟨BlkLe.flat_flat (fun h => by cases h) (fun r hr => by rw [hgs]; rfl), ?_⟩
       conv => whnf
       refine ⟨.bool true, rfl, ?_⟩
       conv => whnf
       rw [e7]
       refine .inr ⟨[0, 1, 2], [1, 3, 4, 8, 9, 12, 72, 73, 74], ?_⟩
       conv => whnf
       intro _
       conv => whnf
       refine ⟨_, ?_, k + 1, (.skip (.keep (.skip (.keep (.keep (.skip (.skip (.skip (.keep (.keep (.skip (.skip (.keep (.s8 (.s8 (.s8 (.s8 (.s8 (.s8 (.s8 (.skip (.skip (.skip (.keep (.keep (.keep (.s8 (.s8 (.s8 (.s8 (.s8 (.s8 (.s8 (.s8 (.skip (.nil)))))))))))))))))))))))))))))))))))), rfl, rfl, ?_⟩
       ·omega
       ·omega
      ·conv => whnf
       skip
       rw [show decide ((M : Int) ≠ 0) = true from decide_eq_true (by omega)]
       conv => whnf
       obtain ⟨k, hk⟩ : ∃ k, k = at0 % M := ⟨_, rfl⟩
       have hkM : k < M := by rw [hk]; exact Nat.mod_lt _ (by omega)
       have htm : Int.tmod (IntKind.i64.wrap (at0 : Int)) (M : Int) = (k : Int) := by
        rw [wrapi64 (by omega) (by omega), hk]; rfl
       rw [htm]
       obtain ⟨p, cp, rp, pp, sp, qp⟩ := hideAt (L := P) (k := k) (by omega) hzs
       obtain ⟨q, cq, rq, pq, sq, qq⟩ := hideAt (L := P) (k := nxt M k) (by rw [hM]; exact nxt_lt (by omega)) hzs
       have hnx := nxt_i hkM (by omega)
       have hnl := nxt_lt hkM
       obtain ⟨j, hj⟩ : ∃ j, j = nxt M k := ⟨_, rfl⟩
       rw [← hj] at hnx hnl rq
       rw [← hgs] at rp rq
       refine .inr (.inr (.inl ⟨17, 1, [[], [], [0, 1], [0, 1, 2], [], [], [5], [], [7], [5, 6, 7, 8], [4, 5, 6, 7, 8, 9], [4, 5, 6, 7, 8, 9, 10], [0, 1, 2, 3, 4, 5, 6, 7, 8, 9, 10, 11], [0, 1, 2, 3, 4, 5, 6, 7, 8, 9, 10, 11, 12], [0, 1, 2, 3, 4, 5, 6, 7, 8, 9, 10, 11, 12, 13], [0, 1, 2, 3, 4, 5, 6, 7, 8, 9, 10, 11, 12, 13], [], [0, 1, 2, 3, 4, 5, 6, 7, 8, 9, 10, 11, 12, 13, 14, 16], [0, 1, 2, 3, 4, 5, 6, 7, 8, 9, 10, 11, 12, 13, 14, 15, 16, 17]], [15], by kernel_rfl, ?_⟩))
       conv => whnf
       refine ⟨⟨by omega, by omega⟩, ?_⟩
       simp only [toNat_cast, rowAdd_eq, Nat.zero_add]
       conv => whnf
       refine ⟨by show k < M; omega, ?_⟩
       conv => whnf
       rw [rp]
       conv => whnf
       rw [show decide ((M : Int) ≠ 0) = true from decide_eq_true (by omega)]
       conv => whnf
       rw [hnx]
       refine ⟨⟨by omega, by omega⟩, ?_⟩
       simp only [toNat_cast, rowAdd_eq, Nat.zero_add]
       conv => whnf
       refine ⟨by show j < M; omega, ?_⟩
       conv => whnf
       rw [rq]
       conv => whnf
       have hkP : k < P.length := by omega
       have ene := edge_ne c (k := k) (by rw [hP]; exact hkP)
       rw [hP, hM] at ene
       have hpq : p.p ≠ q.p := by rw [pp, pq]; exact ene
       obtain ⟨ed, ee, eed, ped, sed, qed⟩ := hideLE (thrV_sz qp qq)
       refine ⟨(p, q), rfl, ⟨PV.sz_mono sp (by decide), PV.sz_mono sq (by decide)⟩, ?_⟩
       rw [show throughS.val (p, q) = .tuple ⟨[ed.v, .int .i64 ee]⟩ from eed]
       conv => whnf
       rw [thrV_ne (fun e => hpq (cmpR_eq0.1 e))] at ped
       obtain ⟨ced, rfl⟩ : linV (thrR p.p q.p) = ed ∧ (0 : Int) = ee := ⟨congrArg Prod.fst ped, congrArg Prod.snd ped⟩
       have hed : ed.q = thrR p.p q.p := by rw [← ced, linV_q]
       conv => whnf
       refine .inr (.inr (.inr ⟨12, [[], [], [1], [], [3], [1, 2, 3, 4], [0, 1, 3, 4, 5], [0, 1, 3, 4, 5, 6], [0, 1, 3, 4, 5, 6, 7], [0, 1, 3, 4, 5, 6, 7], [0, 1, 3, 4, 5, 6, 7, 8], [0, 1, 3, 4, 5, 6, 7, 8, 9, 10]], by kernel_rfl, ?_⟩))
       conv => whnf
       refine ⟨none, [], rfl, by show 0 * 120 ≤ 140737488355328; decide, ?_⟩
       conv => whnf
       refine ⟨_, rfl, ?_⟩
       conv => whnf
       refine ⟨by show (0 + 1) * 120 ≤ 140737488355328; decide, ?_⟩
       conv => whnf
       rw [← hcu]
       obtain ⟨k1, k2⟩ := com_edge c hl1' (k := k) (by rw [hP]; exact hkP) (m := ed.q) (by rw [hed, pp, pq, hP, hM])
       have k3 : partR B ([ed.q]) = partR B [] := by
        have := part_edge c (k := k) (by rw [hP]; exact hkP)
        rw [hP, hM, ← pp, ← pq, ← hed] at this
        rw [hB]; exact this
       have hokC : comOk ((x1, y1), (x2, y2)) [ed] := com_ok_edge (l := []) hok (by decide) (R3.sz_mono sed (by decide)) (by rw [← hB]; exact k3)
       obtain ⟨j1, j2⟩ := common_new (b := ((x1, y1), (x2, y2))) (i := some ([ed], cu)) k1 (k2.trans hP) hM hgs
       rw [← hcu] at j2
       refine ⟨(((x1, y1), (x2, y2)), some ([ed], cu)), [25], by rw [show commonS.args (((x1, y1), (x2, y2)), some ([ed], cu)) = [XV.v ((x1, y1), (x2, y2)), .slice (some ⟨0, 0, none⟩) 1 cu] from rfl]; rfl, hokC, ?_⟩
       rw [j1, j2, show commonS.blks (((x1, y1), (x2, y2)), some ([ed], cu)) = [.flat false 1 9 (rowsLn [ed])] from rfl]
       conv => whnf
       refine ⟨BlkLe.flat_rows (fun h => by cases h) (one_rowLn ed rfl) (fun r hr => rfl), ?_⟩
       conv => whnf
       refine ⟨_, rfl, ?_⟩
       conv => whnf
       obtain ⟨Lp, hLp⟩ : ∃ L, L = pvs P := ⟨_, rfl⟩
       have hLl : Lp.length = M := by rw [hLp, pvs_length, hM]
       refine ⟨(some (Lp, cu), some (Lp, cu)), [26, 1], by rw [show sameS.args (some (Lp, cu), some (Lp, cu)) = [.slice (some ⟨0, 0, none⟩) M cu, .slice (some ⟨1, 0, none⟩) M cu] from by rw [← hLl]; rfl]; rfl, ⟨by show Lp.length ≤ _; omega, by show Lp.length ≤ _; omega⟩, ?_⟩
       rw [show sameS.blks (some (Lp, cu), some (Lp, cu)) = [.flat false M 6 gs, .flat false M 6 gs] from by rw [← hLl, hgs, hLp]; rfl, show sameS.val (some (Lp, cu), some (Lp, cu)) = .bool true from congrArg Value.bool (decide_eq_true rfl), show sameS.new (some (Lp, cu), some (Lp, cu)) = none from rfl]
       conv => whnf
       refine ⟨BlkLe.flat_flat (fun h => by cases h) (fun r hr => by rw [hgs]; rfl), BlkLe.flat_flat (fun h => by cases h) (fun r hr => by rw [hgs]; rfl), ?_⟩
       conv => whnf
       refine ⟨.bool true, rfl, ?_⟩
       conv => whnf
       refine ⟨(), rfl, trivial, ?_⟩
       conv => whnf
       exact fin
     ·obtain ⟨g1, g2⟩ := common_err (b := ((x1, y1), (x2, y2))) (i := some ([m], cu)) hE2 h2
      have h11 : E2 = 11 ∨ E2 = 12 := by
       have := fewer_codes c il hl1'
       rw [show [] ++ [m.q] = qs [m] from rfl, hE2] at this
       exact this.resolve_left h2
      refine .inr (.inr (.inr ⟨12, [[], [], [1], [], [3], [1, 2, 3, 4], [0, 1, 3, 4, 5], [0, 1, 3, 4, 5, 6], [0, 1, 3, 4, 5, 6, 7], [0, 1, 3, 4, 5, 6, 7], [0, 1, 3, 4, 5, 6, 7, 8], [0, 1, 3, 4, 5, 6, 7, 8, 9, 10]], by kernel_rfl, ?_⟩))
      conv => whnf
      refine ⟨none, [], rfl, by show 0 * 120 ≤ 140737488355328; decide, ?_⟩
      conv => whnf
      refine ⟨_, rfl, ?_⟩
      conv => whnf
      refine ⟨by show (0 + 1) * 120 ≤ 140737488355328; decide, ?_⟩
      conv => whnf
      rw [← hcu]
      refine ⟨(((x1, y1), (x2, y2)), some ([m], cu)), [24], by rw [show commonS.args (((x1, y1), (x2, y2)), some ([m], cu)) = [XV.v ((x1, y1), (x2, y2)), .slice (some ⟨0, 0, none⟩) 1 cu] from rfl]; rfl, hokB, ?_⟩
      rw [g1, g2, show commonS.blks (((x1, y1), (x2, y2)), some ([m], cu)) = [.flat false 1 9 (rowsLn [m])] from rfl]
      conv => whnf
      refine ⟨BlkLe.flat_rows (fun h => by cases h) (one_rowLn m rfl) (fun r hr => rfl), ?_⟩
      conv => whnf
      refine ⟨_, rfl, ?_⟩
      conv => whnf
      rw [show decide ((M : Int) < 3) = false from decide_eq_false (by omega)]
      conv => whnf
      refine .inr ⟨1, ?_⟩
      conv => whnf
      rw [show decide ((M : Int) ≠ 0) = true from decide_eq_true (by omega)]
      conv => whnf
      obtain ⟨k, hk⟩ : ∃ k, k = at0 % M := ⟨_, rfl⟩
      have hkM : k < M := by rw [hk]; exact Nat.mod_lt _ (by omega)
      have htm : Int.tmod (IntKind.i64.wrap (at0 : Int)) (M : Int) = (k : Int) := by
       rw [wrapi64 (by omega) (by omega), hk]; rfl
      rw [htm]
      obtain ⟨p, cp, rp, pp, sp, qp⟩ := hideAt (L := P) (k := k) (by omega) hzs
      obtain ⟨q, cq, rq, pq, sq, qq⟩ := hideAt (L := P) (k := nxt M k) (by rw [hM]; exact nxt_lt (by omega)) hzs
      have hnx := nxt_i hkM (by omega)
      have hnl := nxt_lt hkM
      obtain ⟨j, hj⟩ : ∃ j, j = nxt M k := ⟨_, rfl⟩
      rw [← hj] at hnx hnl rq
      rw [← hgs] at rp rq
      refine .inr (.inr (.inl ⟨17, 1, [[], [], [0, 1], [0, 1, 2], [], [], [5], [], [7], [5, 6, 7, 8], [4, 5, 6, 7, 8, 9], [4, 5, 6, 7, 8, 9, 10], [0, 1, 2, 3, 4, 5, 6, 7, 8, 9, 10, 11], [0, 1, 2, 3, 4, 5, 6, 7, 8, 9, 10, 11, 12], [0, 1, 2, 3, 4, 5, 6, 7, 8, 9, 10, 11, 12, 13], [0, 1, 2, 3, 4, 5, 6, 7, 8, 9, 10, 11, 12, 13], [], [0, 1, 2, 3, 4, 5, 6, 7, 8, 9, 10, 11, 12, 13, 14, 16], [0, 1, 2, 3, 4, 5, 6, 7, 8, 9, 10, 11, 12, 13, 14, 15, 16, 17]], [15], by kernel_rfl, ?_⟩))
      conv => whnf
      refine ⟨⟨by omega, by omega⟩, ?_⟩
      simp only [toNat_cast, rowAdd_eq, Nat.zero_add]
      conv => whnf
      refine ⟨by show k < M; omega, ?_⟩
      conv => whnf
      rw [rp]
      conv => whnf
      rw [show decide ((M : Int) ≠ 0) = true from decide_eq_true (by omega)]
      conv => whnf
      rw [hnx]
      refine ⟨⟨by omega, by omega⟩, ?_⟩
      simp only [toNat_cast, rowAdd_eq, Nat.zero_add]
      conv => whnf
      refine ⟨by show j < M; omega, ?_⟩
      conv => whnf
      rw [rq]
      conv => whnf
      have hkP : k < P.length := by omega
      have ene := edge_ne c (k := k) (by rw [hP]; exact hkP)
      rw [hP, hM] at ene
      have hpq : p.p ≠ q.p := by rw [pp, pq]; exact ene
      obtain ⟨ed, ee, eed, ped, sed, qed⟩ := hideLE (thrV_sz qp qq)
      refine ⟨(p, q), rfl, ⟨PV.sz_mono sp (by decide), PV.sz_mono sq (by decide)⟩, ?_⟩
      rw [show throughS.val (p, q) = .tuple ⟨[ed.v, .int .i64 ee]⟩ from eed]
      conv => whnf
      rw [thrV_ne (fun e => hpq (cmpR_eq0.1 e))] at ped
      obtain ⟨ced, rfl⟩ : linV (thrR p.p q.p) = ed ∧ (0 : Int) = ee := ⟨congrArg Prod.fst ped, congrArg Prod.snd ped⟩
      have hed : ed.q = thrR p.p q.p := by rw [← ced, linV_q]
      conv => whnf
      refine .inr (.inr (.inr ⟨12, [[], [], [1], [], [3], [1, 2, 3, 4], [0, 1, 3, 4, 5], [0, 1, 3, 4, 5, 6], [0, 1, 3, 4, 5, 6, 7], [0, 1, 3, 4, 5, 6, 7], [0, 1, 3, 4, 5, 6, 7, 8], [0, 1, 3, 4, 5, 6, 7, 8, 9, 10]], by kernel_rfl, ?_⟩))
      conv => whnf
      refine ⟨none, [], rfl, by show 0 * 120 ≤ 140737488355328; decide, ?_⟩
      conv => whnf
      refine ⟨_, rfl, ?_⟩
      conv => whnf
      refine ⟨by show (0 + 1) * 120 ≤ 140737488355328; decide, ?_⟩
      conv => whnf
      rw [← hcu]
      obtain ⟨k1, k2⟩ := com_edge c hl1' (k := k) (by rw [hP]; exact hkP) (m := ed.q) (by rw [hed, pp, pq, hP, hM])
      have k3 : partR B ([ed.q]) = partR B [] := by
       have := part_edge c (k := k) (by rw [hP]; exact hkP)
       rw [hP, hM, ← pp, ← pq, ← hed] at this
       rw [hB]; exact this
      have hokC : comOk ((x1, y1), (x2, y2)) [ed] := com_ok_edge (l := []) hok (by decide) (R3.sz_mono sed (by decide)) (by rw [← hB]; exact k3)
      obtain ⟨j1, j2⟩ := common_new (b := ((x1, y1), (x2, y2))) (i := some ([ed], cu)) k1 (k2.trans hP) hM hgs
      rw [← hcu] at j2
      refine ⟨(((x1, y1), (x2, y2)), some ([ed], cu)), [53], by rw [show commonS.args (((x1, y1), (x2, y2)), some ([ed], cu)) = [XV.v ((x1, y1), (x2, y2)), .slice (some ⟨0, 0, none⟩) 1 cu] from rfl]; rfl, hokC, ?_⟩
      rw [j1, j2, show commonS.blks (((x1, y1), (x2, y2)), some ([ed], cu)) = [.flat false 1 9 (rowsLn [ed])] from rfl]
      conv => whnf
      refine ⟨BlkLe.flat_rows (fun h => by cases h) (one_rowLn ed rfl) (fun r hr => rfl), ?_⟩
      conv => whnf
      refine ⟨_, rfl, ?_⟩
      conv => whnf
      rcases h11 with rfl | rfl
      ·conv => whnf
       obtain ⟨Lp, hLp⟩ : ∃ L, L = pvs P := ⟨_, rfl⟩
       have hLl : Lp.length = M := by rw [hLp, pvs_length, hM]
       refine ⟨(some (Lp, cu), some (Lp, cu)), [54, 18], by rw [show sameS.args (some (Lp, cu), some (Lp, cu)) = [.slice (some ⟨0, 0, none⟩) M cu, .slice (some ⟨1, 0, none⟩) M cu] from by rw [← hLl]; rfl]; rfl, ⟨by show Lp.length ≤ _; omega, by show Lp.length ≤ _; omega⟩, ?_⟩
       rw [show sameS.blks (some (Lp, cu), some (Lp, cu)) = [.flat false M 6 gs, .flat false M 6 gs] from by rw [← hLl, hgs, hLp]; rfl, show sameS.val (some (Lp, cu), some (Lp, cu)) = .bool true from congrArg Value.bool (decide_eq_true rfl), show sameS.new (some (Lp, cu), some (Lp, cu)) = none from rfl]
       conv => whnf
       refine ⟨BlkLe.flat_flat (fun h => by cases h) (fun r hr => by rw [hgs]; rfl), BlkLe.flat_flat (fun h => by cases h) (fun r hr => by rw [hgs]; rfl), ?_⟩
       conv => whnf
       refine ⟨.bool true, rfl, ?_⟩
       conv => whnf
       refine ⟨(), rfl, trivial, ?_⟩
       conv => whnf
       exact fin
      ·conv => whnf
       obtain ⟨Lp, hLp⟩ : ∃ L, L = pvs P := ⟨_, rfl⟩
       have hLl : Lp.length = M := by rw [hLp, pvs_length, hM]
       refine ⟨(some (Lp, cu), some (Lp, cu)), [54, 18], by rw [show sameS.args (some (Lp, cu), some (Lp, cu)) = [.slice (some ⟨0, 0, none⟩) M cu, .slice (some ⟨1, 0, none⟩) M cu] from by rw [← hLl]; rfl]; rfl, ⟨by show Lp.length ≤ _; omega, by show Lp.length ≤ _; omega⟩, ?_⟩
       rw [show sameS.blks (some (Lp, cu), some (Lp, cu)) = [.flat false M 6 gs, .flat false M 6 gs] from by rw [← hLl, hgs, hLp]; rfl, show sameS.val (some (Lp, cu), some (Lp, cu)) = .bool true from congrArg Value.bool (decide_eq_true rfl), show sameS.new (some (Lp, cu), some (Lp, cu)) = none from rfl]
       conv => whnf
       refine ⟨BlkLe.flat_flat (fun h => by cases h) (fun r hr => by rw [hgs]; rfl), BlkLe.flat_flat (fun h => by cases h) (fun r hr => by rw [hgs]; rfl), ?_⟩
       conv => whnf
       refine ⟨.bool true, rfl, ?_⟩
       conv => whnf
       refine ⟨(), rfl, trivial, ?_⟩
       conv => whnf
       exact fin
    ·obtain ⟨f1, f2⟩ := common_err (b := ((x1, y1), (x2, y2))) (i := none) hE h0
     refine ⟨(((x1, y1), (x2, y2)), none), [], rfl, hok, ?_⟩
     rw [f1, f2, show commonS.blks (((x1, y1), (x2, y2)), none) = [] from rfl]
     conv => whnf
     refine ⟨_, rfl, ?_⟩
     conv => whnf
     have hne : comE (XV.p ((x1, y1), (x2, y2))) [] ≠ 0 := by rw [hE]; exact h0
     obtain ⟨k1, k2⟩ := fewer_err (m := m.q) il hl1' hne
     rw [show [] ++ [m.q] = qs [m] from rfl, hE2, hE] at k2
     rw [show [] ++ [m.q] = qs [m] from rfl, hE2] at k1
     obtain ⟨g1, g2⟩ := common_err (b := ((x1, y1), (x2, y2))) (i := some ([m], cu)) hE2 k1
     refine .inr (.inr (.inr ⟨12, [[], [], [1], [], [3], [1, 2, 3, 4], [0, 1, 3, 4, 5], [0, 1, 3, 4, 5, 6], [0, 1, 3, 4, 5, 6, 7], [0, 1, 3, 4, 5, 6, 7], [0, 1, 3, 4, 5, 6, 7, 8], [0, 1, 3, 4, 5, 6, 7, 8, 9, 10]], by kernel_rfl, ?_⟩))
     conv => whnf
     refine ⟨none, [], rfl, by show 0 * 120 ≤ 140737488355328; decide, ?_⟩
     conv => whnf
     refine ⟨_, rfl, ?_⟩
     conv => whnf
     refine ⟨by show (0 + 1) * 120 ≤ 140737488355328; decide, ?_⟩
     conv => whnf
     rw [← hcu]
     refine ⟨(((x1, y1), (x2, y2)), some ([m], cu)), [23], by rw [show commonS.args (((x1, y1), (x2, y2)), some ([m], cu)) = [XV.v ((x1, y1), (x2, y2)), .slice (some ⟨0, 0, none⟩) 1 cu] from rfl]; rfl, hokB, ?_⟩
     rw [g1, g2, show commonS.blks (((x1, y1), (x2, y2)), some ([m], cu)) = [.flat false 1 9 (rowsLn [m])] from rfl]
     conv => whnf
     refine ⟨BlkLe.flat_rows (fun h => by cases h) (one_rowLn m rfl) (fun r hr => rfl), ?_⟩
     conv => whnf
     refine ⟨_, rfl, ?_⟩
     conv => whnf
     rw [show (E != 0) = true from by simp [h0]]
     conv => whnf
     rw [show (E2 != 0) = true from by simp [k1]]
     conv => whnf
     by_cases k3 : E = 12
     ·rw [show (E == 12) = true from by simp [k3]]
      conv => whnf
      conv => whnf
      refine ⟨(), rfl, trivial, ?_⟩
      conv => whnf
      exact fin
     ·rw [show (E == 12) = false from by simp [k3]]
      conv => whnf
      rw [show (E2 == E) = true from by simp [k2.resolve_left k3]]
      conv => whnf
      conv => whnf
      refine ⟨(), rfl, trivial, ?_⟩
      conv => whnf
      exact fin
   ·rw [chkV_no il] at pe
    subst pe
    rw [show ((12 : Int) != 0) = true from rfl]
    conv => whnf
    conv => whnf
    refine ⟨(), rfl, trivial, ?_⟩
    conv => whnf
    exact fin
  ·conv => whnf
   conv => whnf
   refine ⟨(), rfl, trivial, ?_⟩
   conv => whnf
   exact fin
 | some i =>
  obtain ⟨l, c0⟩ := i
  have hlen : l.length * 120 ≤ 140737488351232 := hlen
  obtain ⟨n, hn⟩ : ∃ n, n = l.length := ⟨_, rfl⟩
  obtain ⟨g, hg⟩ : ∃ g, g = rowsLn l := ⟨_, rfl⟩
  obtain ⟨cu, hcu⟩ : ∃ cu, cu = capU := ⟨_, rfl⟩
  rw [← hn] at hlen
  have fin : ∃ v', renV (List.range 1) 3 (fewerS.val ((((x1, y1), (x2, y2)), some (l, c0)), (m, at0))) = some v' ∧ VLe (.bool true) v' := ⟨.bool true, rfl, .refl _⟩
  rw [show fewerS.blks ((((x1, y1), (x2, y2)), some (l, c0)), (m, at0)) = [.flat false n 9 g] from by rw [hn, hg]; rfl, show fewerS.args ((((x1, y1), (x2, y2)), some (l, c0)), (m, at0)) = [XV.v ((x1, y1), (x2, y2)), .slice (some ⟨0, 0, none⟩) n c0, m.v, .int .u8 at0] from by rw [hn]; rfl]
  conv => whnf
  refine .inr (.inr (.inr ⟨16, [[], [0], [], [2], [0, 1, 2, 3], [], [5], [], [7], [5, 6, 7, 8], [0, 2, 3, 4, 5, 6, 7, 8, 9], [0, 2, 3, 4, 5, 6, 7, 8, 9, 10], [0, 2, 3, 4, 5, 6, 7, 8, 9, 10, 11], [0, 2, 3, 4, 5, 6, 7, 8, 9, 10, 11, 12], [0, 2, 3, 4, 5, 6, 7, 8, 9, 10, 11, 12, 13], [0, 2, 3, 4, 5, 6, 7, 8, 9, 10, 11, 12, 13, 14]], by kernel_rfl, ?_⟩))
  conv => whnf
  refine ⟨some (l, c0), [0], by rw [show lcloneS.args (some (l, c0)) = [.slice (some ⟨0, 0, none⟩) n c0] from by rw [hn]; rfl]; rfl, by show l.length * 120 ≤ 140737488355328; omega, ?_⟩
  rw [show lcloneS.blks (some (l, c0)) = [.flat false n 9 g] from by rw [hn, hg]; rfl, show lcloneS.val (some (l, c0)) = .slice (some ⟨1, 0, none⟩) n cu from by rw [hn, hcu]; rfl, show lcloneS.new (some (l, c0)) = some (.flat true n 9 g) from by rw [hn, hg]; rfl]
  conv => whnf
  refine ⟨BlkLe.flat_flat (fun h => h) (fun r hr => by rw [hg]; rfl), ?_⟩
  conv => whnf
  refine ⟨_, rfl, ?_⟩
  conv => whnf
  refine ⟨⟨hcu, rfl, by show (n + 1) * 120 ≤ 140737488355328; omega⟩, ?_⟩
  rw [← hcu]
  conv => whnf
  rw [Src.fl_m]
  refine ⟨by kernel_rfl, ?_⟩
  conv => whnf
  obtain ⟨G, hG⟩ : ∃ G, G = greatL (l ++ [m]) [(x1, y1), (x2, y2)] := ⟨_, rfl⟩
  have hl1 : (l ++ [m]).length = n + 1 := by rw [List.length_append, hn]; rfl
  refine ⟨(some (l ++ [m], cu), some ([(x1, y1), (x2, y2)], 2)), [7, 12], by rw [show greatLS.args (some (l ++ [m], cu), some ([(x1, y1), (x2, y2)], 2)) = [.slice (some ⟨0, 0, none⟩) (n + 1) cu, .slice (some ⟨1, 0, none⟩) 2 2] from by rw [← hl1]; rfl]; rfl, ⟨by show (l ++ [m]).length ≤ _; omega, by show 2 ≤ 1099511627776; decide⟩, ?_⟩
  rw [show greatLS.blks (some (l ++ [m], cu), some ([(x1, y1), (x2, y2)], 2)) = [.flat false (n + 1) 9 (rowsLn (l ++ [m])), .flat false 2 6 (rowsP [(x1, y1), (x2, y2)])] from by rw [← hl1]; rfl, show greatLS.val (some (l ++ [m], cu), some ([(x1, y1), (x2, y2)], 2)) = .bool G from by rw [hG]; rfl, show greatLS.new (some (l ++ [m], cu), some ([(x1, y1), (x2, y2)], 2)) = none from rfl]
  conv => whnf
  refine ⟨BlkLe.flat_rows (fun h => by cases h) (fun r hr => by rw [hg]; refine rowsLn_app (m := m) hn ?_ r hr; rfl) (fun r hr => rfl), lit_blk [(x1, y1), (x2, y2)], ?_⟩
  conv => whnf
  refine ⟨.bool G, rfl, ?_⟩
  conv => whnf
  have hgr := fun h => great_false (hG.symm.trans h)
  have hgl := fun h => great_len (hG.symm.trans h)
  clear hG
  cases hG2 : G
  ·obtain ⟨hls, hps⟩ := hgr hG2
   have hn8 := hgl hG2
   rw [hl1] at hn8
   have sm : R3.sz 20 m := hls m (by simp)
   have qm := R3.qsz sm (by decide)
   have sb1 : PV.sz 20 (x1, y1) := hps _ (by simp)
   have sb2 : PV.sz 20 (x2, y2) := hps _ (by simp)
   have sls : ∀ r ∈ l, r.sz 20 := fun r hr => hls r (List.mem_append_left _ hr)
   conv => whnf
   obtain ⟨e, ee, pe⟩ := hideZ (chkV m.q)
   refine ⟨m, rfl, R3.sz_mono sm (by decide), ?_⟩
   rw [show lcheckS.val m = .int .i64 e from ee]
   conv => whnf
   by_cases il : isL m.q
   ·rw [chkV_ok il] at pe
    subst pe
    rw [show ((0 : Int) != 0) = false from rfl]
    have hok : comOk ((x1, y1), (x2, y2)) l := com_ok sb1 sb2 sls (by omega) (.inl (by omega))
    obtain ⟨E, hE⟩ : ∃ E, comE (XV.p ((x1, y1), (x2, y2))) (qs l) = E := ⟨_, rfl⟩
    conv => whnf
    have hl1' : (qs l).length + 1 ≤ 60 := by rw [qs_len]; omega
    have slm : ∀ r ∈ l ++ [m], r.sz 20 := hls
    have hokB : comOk ((x1, y1), (x2, y2)) (l ++ [m]) := com_ok sb1 sb2 slm (by omega) (.inl (by omega))
    obtain ⟨B, hB⟩ : ∃ B, B = XV.p ((x1, y1), (x2, y2)) := ⟨_, rfl⟩
    obtain ⟨E2, hE2⟩ : ∃ E, comE (XV.p ((x1, y1), (x2, y2))) (qs (l ++ [m])) = E := ⟨_, rfl⟩
    by_cases h0 : E = 0
    ·have c := com_ring (hE.trans h0)
     obtain ⟨P, hP⟩ : ∃ P, comP (XV.p ((x1, y1), (x2, y2))) (qs l) = P := ⟨_, rfl⟩
     obtain ⟨M, hM⟩ : ∃ M, P.length = M := ⟨_, rfl⟩
     obtain ⟨gs, hgs⟩ : ∃ g, g = rowsQ P := ⟨_, rfl⟩
     obtain ⟨f1, f2⟩ := common_new (b := ((x1, y1), (x2, y2))) (i := some (l, c0)) (hE.trans h0) hP hM hgs
     rw [← hcu] at f2
     refine ⟨(((x1, y1), (x2, y2)), some (l, c0)), [0], by rw [show commonS.args (((x1, y1), (x2, y2)), some (l, c0)) = [XV.v ((x1, y1), (x2, y2)), .slice (some ⟨0, 0, none⟩) n c0] from by rw [hn]; rfl]; rfl, hok, ?_⟩
     rw [f1, f2, show commonS.blks (((x1, y1), (x2, y2)), some (l, c0)) = [.flat false n 9 g] from by rw [hn, hg]; rfl]
     conv => whnf
     refine ⟨BlkLe.flat_flat (fun h => h) (fun r hr => by rw [hg]; rfl), ?_⟩
     conv => whnf
     refine ⟨_, rfl, ?_⟩
     conv => whnf
     obtain ⟨hMb, hz⟩ := com_bound hok (by omega)
     have hzs : ∀ v ∈ P, Q2.sz 200 v := by rw [← hP]; exact com_small sb1 sb2 sls
     rw [hP] at hMb hz
     rw [hM] at hMb
     have hM3 : 3 ≤ M := by have := (com_three c).2.2; rw [hP, hM] at this; exact this
     by_cases h2 : E2 = 0
     ·obtain ⟨P2, hP2⟩ : ∃ P, comP (XV.p ((x1, y1), (x2, y2))) (qs (l ++ [m])) = P := ⟨_, rfl⟩
      obtain ⟨M2, hM2⟩ : ∃ M, P2.length = M := ⟨_, rfl⟩
      obtain ⟨gs2, hgs2⟩ : ∃ g, g = rowsQ P2 := ⟨_, rfl⟩
      obtain ⟨g1, g2⟩ := common_new (b := ((x1, y1), (x2, y2))) (i := some (l ++ [m], cu)) (hE2.trans h2) hP2 hM2 hgs2
      rw [← hcu] at g2
      refine .inr (.inr (.inr ⟨12, [[], [], [1], [], [3], [1, 2, 3, 4], [0, 1, 3, 4, 5], [0, 1, 3, 4, 5, 6], [0, 1, 3, 4, 5, 6, 7], [0, 1, 3, 4, 5, 6, 7], [0, 1, 3, 4, 5, 6, 7, 8], [0, 1, 3, 4, 5, 6, 7, 8, 9, 10]], by kernel_rfl, ?_⟩))
      conv => whnf
      refine ⟨some (l, c0), [0], by rw [show lcloneS.args (some (l, c0)) = [.slice (some ⟨0, 0, none⟩) n c0] from by rw [hn]; rfl]; rfl, by show l.length * 120 ≤ 140737488355328; omega, ?_⟩
      rw [show lcloneS.blks (some (l, c0)) = [.flat false n 9 g] from by rw [hn, hg]; rfl, show lcloneS.val (some (l, c0)) = .slice (some ⟨1, 0, none⟩) n cu from by rw [hn, hcu]; rfl, show lcloneS.new (some (l, c0)) = some (.flat true n 9 g) from by rw [hn, hg]; rfl]
      conv => whnf
      refine ⟨BlkLe.flat_flat (fun h => h) (fun r hr => by rw [hg]; rfl), ?_⟩
      conv => whnf
      refine ⟨_, rfl, ?_⟩
      conv => whnf
      refine ⟨⟨hcu, rfl, by show (n + 1) * 120 ≤ 140737488355328; omega⟩, ?_⟩
      rw [← hcu]
      conv => whnf
      rw [Src.fl_m]
      refine ⟨by kernel_rfl, ?_⟩
      conv => whnf
      refine ⟨(((x1, y1), (x2, y2)), some (l ++ [m], cu)), [25], by rw [show commonS.args (((x1, y1), (x2, y2)), some (l ++ [m], cu)) = [XV.v ((x1, y1), (x2, y2)), .slice (some ⟨0, 0, none⟩) (n + 1) cu] from by rw [← hl1]; rfl]; rfl, hokB, ?_⟩
      rw [g1, g2, show commonS.blks (((x1, y1), (x2, y2)), some (l ++ [m], cu)) = [.flat false (n + 1) 9 (rowsLn (l ++ [m]))] from by rw [← hl1]; rfl]
      conv => whnf
      refine ⟨BlkLe.flat_rows (fun h => by cases h) (fun r hr => by rw [hg]; refine rowsLn_app (m := m) hn ?_ r hr; rfl) (fun r hr => rfl), ?_⟩
      conv => whnf
      refine ⟨_, rfl, ?_⟩
      conv => whnf
      rw [show decide ((M : Int) < 3) = false from decide_eq_false (by omega)]
      conv => whnf
      obtain ⟨hM2b, hz2⟩ := com_bound hokB (by omega)
      rw [hP2] at hM2b hz2
      rw [hM2] at hM2b
      refine .inl ⟨fun mm tz hz => ∃ (k : Nat), Pat [none, some (.slice (some ⟨0, 0, none⟩) n c0), none, some (.int .u8 at0), some (.pointer (some ⟨1, 0, none⟩)), none, none, none, some (.bool false), some (.slice (some ⟨2, 0, none⟩) M cu), none, none, some (.int .i64 0), none, none, none, none, none, none, none, none, none, none, none, none, none, none, none, none, none, none, none, none, none, none, none, none, none, none, none, none, none, none, none, none, none, none, none, none, none, none, none, none, none, none, none, none, none, none, none, none, none, none, none, none, none, none, none, none, none, none, none, some (.slice (some ⟨3, 0, none⟩) M2 cu), some (.int .i64 M2), some (.int .i64 k), none, none, none, none, none, none, none, none, none, none, none, none, none, none, none, none, none, none, none, none, none, none, none, none, none, none, none, none, none, none, none, none, none, none, none, none, none, none, none, none, none, none, none, none, none, none, none, none, none, none, none, none, none, none, none, none, none, none, none, none, none, none, none, none, none] tz ∧ hz = [some (.flat false n 9 g), some (.expl true 12 [XV.cells ((x1, y1), (x2, y2))]), some (.flat true M 6 gs), some (.flat true M2 6 gs2)] ∧ M2 - k = mm ∧ (k ≤ M2), .inr ⟨[0, 1, 19, 26], [1, 3, 4, 8, 9, 12, 72, 73, 74], ?_⟩, ?_⟩
      ·conv => whnf
       intro _
       conv => whnf
       refine ⟨_, 0, (.skip (.keep (.skip (.keep (.keep (.skip (.skip (.skip (.keep (.keep (.skip (.skip (.keep (.s8 (.s8 (.s8 (.s8 (.s8 (.s8 (.s8 (.skip (.skip (.skip (.keep (.keep (.keep (.s8 (.s8 (.s8 (.s8 (.s8 (.s8 (.s8 (.s8 (.skip (.nil)))))))))))))))))))))))))))))))))))), rfl, rfl, ?_⟩
       exact Nat.zero_le _
      rintro mm tms _ ⟨k, hpat, rfl, rfl, hk⟩
      obtain ⟨az, rfl⟩ : ∃ az : Nat → Value, tms = [az 0, .slice (some ⟨0, 0, none⟩) n c0, az 2, .int .u8 at0, .pointer (some ⟨1, 0, none⟩), az 5, az 6, az 7, .bool false, .slice (some ⟨2, 0, none⟩) M cu, az 10, az 11, .int .i64 0, az 13, az 14, az 15, az 16, az 17, az 18, az 19, az 20, az 21, az 22, az 23, az 24, az 25, az 26, az 27, az 28, az 29, az 30, az 31, az 32, az 33, az 34, az 35, az 36, az 37, az 38, az 39, az 40, az 41, az 42, az 43, az 44, az 45, az 46, az 47, az 48, az 49, az 50, az 51, az 52, az 53, az 54, az 55, az 56, az 57, az 58, az 59, az 60, az 61, az 62, az 63, az 64, az 65, az 66, az 67, az 68, az 69, az 70, az 71, .slice (some ⟨3, 0, none⟩) M2 cu, .int .i64 M2, .int .i64 k, az 75, az 76, az 77, az 78, az 79, az 80, az 81, az 82, az 83, az 84, az 85, az 86, az 87, az 88, az 89, az 90, az 91, az 92, az 93, az 94, az 95, az 96, az 97, az 98, az 99, az 100, az 101, az 102, az 103, az 104, az 105, az 106, az 107, az 108, az 109, az 110, az 111, az 112, az 113, az 114, az 115, az 116, az 117, az 118, az 119, az 120, az 121, az 122, az 123, az 124, az 125, az 126, az 127, az 128, az 129, az 130, az 131, az 132, az 133, az 134, az 135, az 136, az 137, az 138, az 139] := pat_fill hpat
      clear hpat
      conv => whnf
      refine br_intro (fun h3 => ?_) (fun h3 => ?_)
      ·have h3 : k < M2 := by
        have := of_decide_eq_true h3
        omega
       obtain ⟨v, cv, rv, pv, sv, qv⟩ := hideAt (L := P2) (k := k) (by omega) hz2
       have hvin : v.p ∈ P2 := by rw [pv]; exact at2_mem (by omega)
       rw [← hgs2] at rv
       have e7 : IntKind.i64.wrap ((k : Int) + 1) = ((k + 1 : Nat) : Int) := by rw [wrapi64 (by omega) (by omega)]; rfl
       have hins : rinB P v.p ∧ 2 < P.length := ⟨by rw [← hP]; exact fewer_in (m := m.q) c (by rw [← qs_app, hP2]; exact hvin), by omega⟩
       conv => whnf
       refine ⟨⟨by omega, by omega⟩, ?_⟩
       simp only [toNat_cast, rowAdd_eq, Nat.zero_add]
       conv => whnf
       refine ⟨by show k < M2; omega, ?_⟩
       conv => whnf
       rw [rv]
       conv => whnf
       refine ⟨((P, cu), v), [2], by rw [show rinsS.args ((P, cu), v) = [.slice (some ⟨0, 0, none⟩) M cu, v.v] from by rw [← hM]; rfl]; rfl, ⟨by show P.length ≤ 1099511627776; omega, fun u hu => Q2.mono (hz u hu) (by decide), PV.sz_mono sv (by decide)⟩, ?_⟩
       rw [show rinsS.blks ((P, cu), v) = [.flat false M 6 gs] from by rw [← hM, hgs]; rfl, show rinsS.val ((P, cu), v) = .bool true from congrArg Value.bool (decide_eq_true hins), show rinsS.new ((P, cu), v) = none from rfl]
       conv => whnf
       refine ⟨BlkLe.flat_flat (fun h => by cases h) (fun r hr => by rw [hgs]; rfl), ?_⟩
       conv => whnf
       refine ⟨.bool true, rfl, ?_⟩
       conv => whnf
       rw [e7]
       refine .inr ⟨[0, 1, 2, 3], [1, 3, 4, 8, 9, 12, 72, 73, 74], ?_⟩
       conv => whnf
       intro _
       conv => whnf
       refine ⟨_, ?_, k + 1, (.skip (.keep (.skip (.keep (.keep (.skip (.skip (.skip (.keep (.keep (.skip (.skip (.keep (.s8 (.s8 (.s8 (.s8 (.s8 (.s8 (.s8 (.skip (.skip (.skip (.keep (.keep (.keep (.s8 (.s8 (.s8 (.s8 (.s8 (.s8 (.s8 (.s8 (.skip (.nil)))))))))))))))))))))))))))))))))))), rfl, rfl, ?_⟩
       ·omega
       ·omega
      ·conv => whnf
       skip
       rw [show decide ((M : Int) ≠ 0) = true from decide_eq_true (by omega)]
       conv => whnf
       obtain ⟨k, hk⟩ : ∃ k, k = at0 % M := ⟨_, rfl⟩
       have hkM : k < M := by rw [hk]; exact Nat.mod_lt _ (by omega)
       have htm : Int.tmod (IntKind.i64.wrap (at0 : Int)) (M : Int) = (k : Int) := by
        rw [wrapi64 (by omega) (by omega), hk]; rfl
       rw [htm]
       obtain ⟨p, cp, rp, pp, sp, qp⟩ := hideAt (L := P) (k := k) (by omega) hzs
       obtain ⟨q, cq, rq, pq, sq, qq⟩ := hideAt (L := P) (k := nxt M k) (by rw [hM]; exact nxt_lt (by omega)) hzs
       have hnx := nxt_i hkM (by omega)
       have hnl := nxt_lt hkM
       obtain ⟨j, hj⟩ : ∃ j, j = nxt M k := ⟨_, rfl⟩
       rw [← hj] at hnx hnl rq
       rw [← hgs] at rp rq
       refine .inr (.inr (.inl ⟨17, 1, [[], [], [0, 1], [0, 1, 2], [], [], [5], [], [7], [5, 6, 7, 8], [4, 5, 6, 7, 8, 9], [4, 5, 6, 7, 8, 9, 10], [0, 1, 2, 3, 4, 5, 6, 7, 8, 9, 10, 11], [0, 1, 2, 3, 4, 5, 6, 7, 8, 9, 10, 11, 12], [0, 1, 2, 3, 4, 5, 6, 7, 8, 9, 10, 11, 12, 13], [0, 1, 2, 3, 4, 5, 6, 7, 8, 9, 10, 11, 12, 13], [], [0, 1, 2, 3, 4, 5, 6, 7, 8, 9, 10, 11, 12, 13, 14, 16], [0, 1, 2, 3, 4, 5, 6, 7, 8, 9, 10, 11, 12, 13, 14, 15, 16, 17]], [15], by kernel_rfl, ?_⟩))
       conv => whnf
       refine ⟨⟨by omega, by omega⟩, ?_⟩
       simp only [toNat_cast, rowAdd_eq, Nat.zero_add]
       conv => whnf
       refine ⟨by show k < M; omega, ?_⟩
       conv => whnf
       rw [rp]
       conv => whnf
       rw [show decide ((M : Int) ≠ 0) = true from decide_eq_true (by omega)]
       conv => whnf
       rw [hnx]
       refine ⟨⟨by omega, by omega⟩, ?_⟩
       simp only [toNat_cast, rowAdd_eq, Nat.zero_add]
       conv => whnf
       refine ⟨by show j < M; omega, ?_⟩
       conv => whnf
       rw [rq]
       conv => whnf
       have hkP : k < P.length := by omega
       have ene := edge_ne c (k := k) (by rw [hP]; exact hkP)
       rw [hP, hM] at ene
       have hpq : p.p ≠ q.p := by rw [pp, pq]; exact ene
       obtain ⟨ed, ee, eed, ped, sed, qed⟩ := hideLE (thrV_sz qp qq)
       refine ⟨(p, q), rfl, ⟨PV.sz_mono sp (by decide), PV.sz_mono sq (by decide)⟩, ?_⟩
       rw [show throughS.val (p, q) = .tuple ⟨[ed.v, .int .i64 ee]⟩ from eed]
       conv => whnf
       rw [thrV_ne (fun e => hpq (cmpR_eq0.1 e))] at ped
       obtain ⟨ced, rfl⟩ : linV (thrR p.p q.p) = ed ∧ (0 : Int) = ee := ⟨congrArg Prod.fst ped, congrArg Prod.snd ped⟩
       have hed : ed.q = thrR p.p q.p := by rw [← ced, linV_q]
       conv => whnf
       refine .inr (.inr (.inr ⟨12, [[], [], [1], [], [3], [1, 2, 3, 4], [0, 1, 3, 4, 5], [0, 1, 3, 4, 5, 6], [0, 1, 3, 4, 5, 6, 7], [0, 1, 3, 4, 5, 6, 7], [0, 1, 3, 4, 5, 6, 7, 8], [0, 1, 3, 4, 5, 6, 7, 8, 9, 10]], by kernel_rfl, ?_⟩))
       conv => whnf
       refine ⟨some (l, c0), [0], by rw [show lcloneS.args (some (l, c0)) = [.slice (some ⟨0, 0, none⟩) n c0] from by rw [hn]; rfl]; rfl, by show l.length * 120 ≤ 140737488355328; omega, ?_⟩
       rw [show lcloneS.blks (some (l, c0)) = [.flat false n 9 g] from by rw [hn, hg]; rfl, show lcloneS.val (some (l, c0)) = .slice (some ⟨1, 0, none⟩) n cu from by rw [hn, hcu]; rfl, show lcloneS.new (some (l, c0)) = some (.flat true n 9 g) from by rw [hn, hg]; rfl]
       conv => whnf
       refine ⟨BlkLe.flat_flat (fun h => h) (fun r hr => by rw [hg]; rfl), ?_⟩
       conv => whnf
       refine ⟨_, rfl, ?_⟩
       conv => whnf
       refine ⟨⟨hcu, rfl, by show (n + 1) * 120 ≤ 140737488355328; omega⟩, ?_⟩
       rw [← hcu]
       conv => whnf
       rw [Src.fl_m]
       refine ⟨by kernel_rfl, ?_⟩
       conv => whnf
       have hl2 : (l ++ [ed]).length = n + 1 := by rw [List.length_append, hn]; rfl
       obtain ⟨k1, k2⟩ := com_edge c hl1' (k := k) (by rw [hP]; exact hkP) (m := ed.q) (by rw [hed, pp, pq, hP, hM])
       have k3 : partR B (qs l ++ [ed.q]) = partR B (qs l) := by
        have := part_edge c (k := k) (by rw [hP]; exact hkP)
        rw [hP, hM, ← pp, ← pq, ← hed] at this
        rw [hB]; exact this
       have hokC : comOk ((x1, y1), (x2, y2)) (l ++ [ed]) := com_ok_edge hok (by omega) (R3.sz_mono sed (by decide)) (by rw [← hB]; exact k3)
       obtain ⟨j1, j2⟩ := common_new (b := ((x1, y1), (x2, y2))) (i := some (l ++ [ed], cu)) (by rw [show qs (LL.list (some (l ++ [ed], cu))) = qs l ++ [ed.q] from qs_app l ed]; exact k1) (by rw [show qs (LL.list (some (l ++ [ed], cu))) = qs l ++ [ed.q] from qs_app l ed]; exact k2.trans hP) hM hgs
       rw [← hcu] at j2
       refine ⟨(((x1, y1), (x2, y2)), some (l ++ [ed], cu)), [26], by rw [show commonS.args (((x1, y1), (x2, y2)), some (l ++ [ed], cu)) = [XV.v ((x1, y1), (x2, y2)), .slice (some ⟨0, 0, none⟩) (n + 1) cu] from by rw [← hl2]; rfl]; rfl, hokC, ?_⟩
       rw [j1, j2, show commonS.blks (((x1, y1), (x2, y2)), some (l ++ [ed], cu)) = [.flat false (n + 1) 9 (rowsLn (l ++ [ed]))] from by rw [← hl2]; rfl]
       conv => whnf
       refine ⟨BlkLe.flat_rows (fun h => by cases h) (fun r hr => by rw [hg]; refine rowsLn_app (m := ed) hn ?_ r hr; rfl) (fun r hr => rfl), ?_⟩
       conv => whnf
       refine ⟨_, rfl, ?_⟩
       conv => whnf
       obtain ⟨Lp, hLp⟩ : ∃ L, L = pvs P := ⟨_, rfl⟩
       have hLl : Lp.length = M := by rw [hLp, pvs_length, hM]
       refine ⟨(some (Lp, cu), some (Lp, cu)), [27, 2], by rw [show sameS.args (some (Lp, cu), some (Lp, cu)) = [.slice (some ⟨0, 0, none⟩) M cu, .slice (some ⟨1, 0, none⟩) M cu] from by rw [← hLl]; rfl]; rfl, ⟨by show Lp.length ≤ _; omega, by show Lp.length ≤ _; omega⟩, ?_⟩
       rw [show sameS.blks (some (Lp, cu), some (Lp, cu)) = [.flat false M 6 gs, .flat false M 6 gs] from by rw [← hLl, hgs, hLp]; rfl, show sameS.val (some (Lp, cu), some (Lp, cu)) = .bool true from congrArg Value.bool (decide_eq_true rfl), show sameS.new (some (Lp, cu), some (Lp, cu)) = none from rfl]
       conv => whnf
       refine ⟨BlkLe.flat_flat (fun h => by cases h) (fun r hr => by rw [hgs]; rfl), BlkLe.flat_flat (fun h => by cases h) (fun r hr => by rw [hgs]; rfl), ?_⟩
       conv => whnf
       refine ⟨.bool true, rfl, ?_⟩
       conv => whnf
       refine ⟨(), rfl, trivial, ?_⟩
       conv => whnf
       exact fin
     ·obtain ⟨g1, g2⟩ := common_err (b := ((x1, y1), (x2, y2))) (i := some (l ++ [m], cu)) hE2 h2
      have h11 : E2 = 11 ∨ E2 = 12 := by
       have := fewer_codes c il hl1'
       rw [← qs_app, hE2] at this
       exact this.resolve_left h2
      refine .inr (.inr (.inr ⟨12, [[], [], [1], [], [3], [1, 2, 3, 4], [0, 1, 3, 4, 5], [0, 1, 3, 4, 5, 6], [0, 1, 3, 4, 5, 6, 7], [0, 1, 3, 4, 5, 6, 7], [0, 1, 3, 4, 5, 6, 7, 8], [0, 1, 3, 4, 5, 6, 7, 8, 9, 10]], by kernel_rfl, ?_⟩))
      conv => whnf
      refine ⟨some (l, c0), [0], by rw [show lcloneS.args (some (l, c0)) = [.slice (some ⟨0, 0, none⟩) n c0] from by rw [hn]; rfl]; rfl, by show l.length * 120 ≤ 140737488355328; omega, ?_⟩
      rw [show lcloneS.blks (some (l, c0)) = [.flat false n 9 g] from by rw [hn, hg]; rfl, show lcloneS.val (some (l, c0)) = .slice (some ⟨1, 0, none⟩) n cu from by rw [hn, hcu]; rfl, show lcloneS.new (some (l, c0)) = some (.flat true n 9 g) from by rw [hn, hg]; rfl]
      conv => whnf
      refine ⟨BlkLe.flat_flat (fun h => h) (fun r hr => by rw [hg]; rfl), ?_⟩
      conv => whnf
      refine ⟨_, rfl, ?_⟩
      conv => whnf
      refine ⟨⟨hcu, rfl, by show (n + 1) * 120 ≤ 140737488355328; omega⟩, ?_⟩
      rw [← hcu]
      conv => whnf
      rw [Src.fl_m]
      refine ⟨by kernel_rfl, ?_⟩
      conv => whnf
      refine ⟨(((x1, y1), (x2, y2)), some (l ++ [m], cu)), [25], by rw [show commonS.args (((x1, y1), (x2, y2)), some (l ++ [m], cu)) = [XV.v ((x1, y1), (x2, y2)), .slice (some ⟨0, 0, none⟩) (n + 1) cu] from by rw [← hl1]; rfl]; rfl, hokB, ?_⟩
      rw [g1, g2, show commonS.blks (((x1, y1), (x2, y2)), some (l ++ [m], cu)) = [.flat false (n + 1) 9 (rowsLn (l ++ [m]))] from by rw [← hl1]; rfl]
      conv => whnf
      refine ⟨BlkLe.flat_rows (fun h => by cases h) (fun r hr => by rw [hg]; refine rowsLn_app (m := m) hn ?_ r hr; rfl) (fun r hr => rfl), ?_⟩
      conv => whnf
      refine ⟨_, rfl, ?_⟩
      conv => whnf
      rw [show decide ((M : Int) < 3) = false from decide_eq_false (by omega)]
      conv => whnf
      refine .inr ⟨1, ?_⟩
      conv => whnf
      rw [show decide ((M : Int) ≠ 0) = true from decide_eq_true (by omega)]
      conv => whnf
      obtain ⟨k, hk⟩ : ∃ k, k = at0 % M := ⟨_, rfl⟩
      have hkM : k < M := by rw [hk]; exact Nat.mod_lt _ (by omega)
      have htm : Int.tmod (IntKind.i64.wrap (at0 : Int)) (M : Int) = (k : Int) := by
       rw [wrapi64 (by omega) (by omega), hk]; rfl
      rw [htm]
      obtain ⟨p, cp, rp, pp, sp, qp⟩ := hideAt (L := P) (k := k) (by omega) hzs
      obtain ⟨q, cq, rq, pq, sq, qq⟩ := hideAt (L := P) (k := nxt M k) (by rw [hM]; exact nxt_lt (by omega)) hzs
      have hnx := nxt_i hkM (by omega)
      have hnl := nxt_lt hkM
      obtain ⟨j, hj⟩ : ∃ j, j = nxt M k := ⟨_, rfl⟩
      rw [← hj] at hnx hnl rq
      rw [← hgs] at rp rq
      refine .inr (.inr (.inl ⟨17, 1, [[], [], [0, 1], [0, 1, 2], [], [], [5], [], [7], [5, 6, 7, 8], [4, 5, 6, 7, 8, 9], [4, 5, 6, 7, 8, 9, 10], [0, 1, 2, 3, 4, 5, 6, 7, 8, 9, 10, 11], [0, 1, 2, 3, 4, 5, 6, 7, 8, 9, 10, 11, 12], [0, 1, 2, 3, 4, 5, 6, 7, 8, 9, 10, 11, 12, 13], [0, 1, 2, 3, 4, 5, 6, 7, 8, 9, 10, 11, 12, 13], [], [0, 1, 2, 3, 4, 5, 6, 7, 8, 9, 10, 11, 12, 13, 14, 16], [0, 1, 2, 3, 4, 5, 6, 7, 8, 9, 10, 11, 12, 13, 14, 15, 16, 17]], [15], by kernel_rfl, ?_⟩))
      conv => whnf
      refine ⟨⟨by omega, by omega⟩, ?_⟩
      simp only [toNat_cast, rowAdd_eq, Nat.zero_add]
      conv => whnf
      refine ⟨by show k < M; omega, ?_⟩
      conv => whnf
      rw [rp]
      conv => whnf
      rw [show decide ((M : Int) ≠ 0) = true from decide_eq_true (by omega)]
      conv => whnf
      rw [hnx]
      refine ⟨⟨by omega, by omega⟩, ?_⟩
      simp only [toNat_cast, rowAdd_eq, Nat.zero_add]
      conv => whnf
      refine ⟨by show j < M; omega, ?_⟩
      conv => whnf
      rw [rq]
      conv => whnf
      have hkP : k < P.length := by omega
      have ene := edge_ne c (k := k) (by rw [hP]; exact hkP)
      rw [hP, hM] at ene
      have hpq : p.p ≠ q.p := by rw [pp, pq]; exact ene
      obtain ⟨ed, ee, eed, ped, sed, qed⟩ := hideLE (thrV_sz qp qq)
      refine ⟨(p, q), rfl, ⟨PV.sz_mono sp (by decide), PV.sz_mono sq (by decide)⟩, ?_⟩
      rw [show throughS.val (p, q) = .tuple ⟨[ed.v, .int .i64 ee]⟩ from eed]
      conv => whnf
      rw [thrV_ne (fun e => hpq (cmpR_eq0.1 e))] at ped
      obtain ⟨ced, rfl⟩ : linV (thrR p.p q.p) = ed ∧ (0 : Int) = ee := ⟨congrArg Prod.fst ped, congrArg Prod.snd ped⟩
      have hed : ed.q = thrR p.p q.p := by rw [← ced, linV_q]
      conv => whnf
      refine .inr (.inr (.inr ⟨12, [[], [], [1], [], [3], [1, 2, 3, 4], [0, 1, 3, 4, 5], [0, 1, 3, 4, 5, 6], [0, 1, 3, 4, 5, 6, 7], [0, 1, 3, 4, 5, 6, 7], [0, 1, 3, 4, 5, 6, 7, 8], [0, 1, 3, 4, 5, 6, 7, 8, 9, 10]], by kernel_rfl, ?_⟩))
      conv => whnf
      refine ⟨some (l, c0), [0], by rw [show lcloneS.args (some (l, c0)) = [.slice (some ⟨0, 0, none⟩) n c0] from by rw [hn]; rfl]; rfl, by show l.length * 120 ≤ 140737488355328; omega, ?_⟩
      rw [show lcloneS.blks (some (l, c0)) = [.flat false n 9 g] from by rw [hn, hg]; rfl, show lcloneS.val (some (l, c0)) = .slice (some ⟨1, 0, none⟩) n cu from by rw [hn, hcu]; rfl, show lcloneS.new (some (l, c0)) = some (.flat true n 9 g) from by rw [hn, hg]; rfl]
      conv => whnf
      refine ⟨BlkLe.flat_flat (fun h => h) (fun r hr => by rw [hg]; rfl), ?_⟩
      conv => whnf
      refine ⟨_, rfl, ?_⟩
      conv => whnf
      refine ⟨⟨hcu, rfl, by show (n + 1) * 120 ≤ 140737488355328; omega⟩, ?_⟩
      rw [← hcu]
      conv => whnf
      rw [Src.fl_m]
      refine ⟨by kernel_rfl, ?_⟩
      conv => whnf
      have hl2 : (l ++ [ed]).length = n + 1 := by rw [List.length_append, hn]; rfl
      obtain ⟨k1, k2⟩ := com_edge c hl1' (k := k) (by rw [hP]; exact hkP) (m := ed.q) (by rw [hed, pp, pq, hP, hM])
      have k3 : partR B (qs l ++ [ed.q]) = partR B (qs l) := by
       have := part_edge c (k := k) (by rw [hP]; exact hkP)
       rw [hP, hM, ← pp, ← pq, ← hed] at this
       rw [hB]; exact this
      have hokC : comOk ((x1, y1), (x2, y2)) (l ++ [ed]) := com_ok_edge hok (by omega) (R3.sz_mono sed (by decide)) (by rw [← hB]; exact k3)
      obtain ⟨j1, j2⟩ := common_new (b := ((x1, y1), (x2, y2))) (i := some (l ++ [ed], cu)) (by rw [show qs (LL.list (some (l ++ [ed], cu))) = qs l ++ [ed.q] from qs_app l ed]; exact k1) (by rw [show qs (LL.list (some (l ++ [ed], cu))) = qs l ++ [ed.q] from qs_app l ed]; exact k2.trans hP) hM hgs
      rw [← hcu] at j2
      refine ⟨(((x1, y1), (x2, y2)), some (l ++ [ed], cu)), [54], by rw [show commonS.args (((x1, y1), (x2, y2)), some (l ++ [ed], cu)) = [XV.v ((x1, y1), (x2, y2)), .slice (some ⟨0, 0, none⟩) (n + 1) cu] from by rw [← hl2]; rfl]; rfl, hokC, ?_⟩
      rw [j1, j2, show commonS.blks (((x1, y1), (x2, y2)), some (l ++ [ed], cu)) = [.flat false (n + 1) 9 (rowsLn (l ++ [ed]))] from by rw [← hl2]; rfl]
      conv => whnf
      refine ⟨BlkLe.flat_rows (fun h => by cases h) (fun r hr => by rw [hg]; refine rowsLn_app (m := ed) hn ?_ r hr; rfl) (fun r hr => rfl), ?_⟩
      conv => whnf
      refine ⟨_, rfl, ?_⟩
      conv => whnf
      rcases h11 with rfl | rfl
      ·conv => whnf
       obtain ⟨Lp, hLp⟩ : ∃ L, L = pvs P := ⟨_, rfl⟩
       have hLl : Lp.length = M := by rw [hLp, pvs_length, hM]
       refine ⟨(some (Lp, cu), some (Lp, cu)), [55, 19], by rw [show sameS.args (some (Lp, cu), some (Lp, cu)) = [.slice (some ⟨0, 0, none⟩) M cu, .slice (some ⟨1, 0, none⟩) M cu] from by rw [← hLl]; rfl]; rfl, ⟨by show Lp.length ≤ _; omega, by show Lp.length ≤ _; omega⟩, ?_⟩
       rw [show sameS.blks (some (Lp, cu), some (Lp, cu)) = [.flat false M 6 gs, .flat false M 6 gs] from by rw [← hLl, hgs, hLp]; rfl, show sameS.val (some (Lp, cu), some (Lp, cu)) = .bool true from congrArg Value.bool (decide_eq_true rfl), show sameS.new (some (Lp, cu), some (Lp, cu)) = none from rfl]
       conv => whnf
       refine ⟨BlkLe.flat_flat (fun h => by cases h) (fun r hr => by rw [hgs]; rfl), BlkLe.flat_flat (fun h => by cases h) (fun r hr => by rw [hgs]; rfl), ?_⟩
       conv => whnf
       refine ⟨.bool true, rfl, ?_⟩
       conv => whnf
       refine ⟨(), rfl, trivial, ?_⟩
       conv => whnf
       exact fin
      ·conv => whnf
       obtain ⟨Lp, hLp⟩ : ∃ L, L = pvs P := ⟨_, rfl⟩
       have hLl : Lp.length = M := by rw [hLp, pvs_length, hM]
       refine ⟨(some (Lp, cu), some (Lp, cu)), [55, 19], by rw [show sameS.args (some (Lp, cu), some (Lp, cu)) = [.slice (some ⟨0, 0, none⟩) M cu, .slice (some ⟨1, 0, none⟩) M cu] from by rw [← hLl]; rfl]; rfl, ⟨by show Lp.length ≤ _; omega, by show Lp.length ≤ _; omega⟩, ?_⟩
       rw [show sameS.blks (some (Lp, cu), some (Lp, cu)) = [.flat false M 6 gs, .flat false M 6 gs] from by rw [← hLl, hgs, hLp]; rfl, show sameS.val (some (Lp, cu), some (Lp, cu)) = .bool true from congrArg Value.bool (decide_eq_true rfl), show sameS.new (some (Lp, cu), some (Lp, cu)) = none from rfl]
       conv => whnf
       refine ⟨BlkLe.flat_flat (fun h => by cases h) (fun r hr => by rw [hgs]; rfl), BlkLe.flat_flat (fun h => by cases h) (fun r hr => by rw [hgs]; rfl), ?_⟩
       conv => whnf
       refine ⟨.bool true, rfl, ?_⟩
       conv => whnf
       refine ⟨(), rfl, trivial, ?_⟩
       conv => whnf
       exact fin
    ·obtain ⟨f1, f2⟩ := common_err (b := ((x1, y1), (x2, y2))) (i := some (l, c0)) hE h0
     refine ⟨(((x1, y1), (x2, y2)), some (l, c0)), [0], by rw [show commonS.args (((x1, y1), (x2, y2)), some (l, c0)) = [XV.v ((x1, y1), (x2, y2)), .slice (some ⟨0, 0, none⟩) n c0] from by rw [hn]; rfl]; rfl, hok, ?_⟩
     rw [f1, f2, show commonS.blks (((x1, y1), (x2, y2)), some (l, c0)) = [.flat false n 9 g] from by rw [hn, hg]; rfl]
     conv => whnf
     refine ⟨BlkLe.flat_flat (fun h => h) (fun r hr => by rw [hg]; rfl), ?_⟩
     conv => whnf
     refine ⟨_, rfl, ?_⟩
     conv => whnf
     have hne : comE (XV.p ((x1, y1), (x2, y2))) (qs l) ≠ 0 := by rw [hE]; exact h0
     obtain ⟨k1, k2⟩ := fewer_err (m := m.q) il hl1' hne
     rw [← qs_app, hE2, hE] at k2
     rw [← qs_app, hE2] at k1
     obtain ⟨g1, g2⟩ := common_err (b := ((x1, y1), (x2, y2))) (i := some (l ++ [m], cu)) hE2 k1
     refine .inr (.inr (.inr ⟨12, [[], [], [1], [], [3], [1, 2, 3, 4], [0, 1, 3, 4, 5], [0, 1, 3, 4, 5, 6], [0, 1, 3, 4, 5, 6, 7], [0, 1, 3, 4, 5, 6, 7], [0, 1, 3, 4, 5, 6, 7, 8], [0, 1, 3, 4, 5, 6, 7, 8, 9, 10]], by kernel_rfl, ?_⟩))
     conv => whnf
     refine ⟨some (l, c0), [0], by rw [show lcloneS.args (some (l, c0)) = [.slice (some ⟨0, 0, none⟩) n c0] from by rw [hn]; rfl]; rfl, by show l.length * 120 ≤ 140737488355328; omega, ?_⟩
     rw [show lcloneS.blks (some (l, c0)) = [.flat false n 9 g] from by rw [hn, hg]; rfl, show lcloneS.val (some (l, c0)) = .slice (some ⟨1, 0, none⟩) n cu from by rw [hn, hcu]; rfl, show lcloneS.new (some (l, c0)) = some (.flat true n 9 g) from by rw [hn, hg]; rfl]
     conv => whnf
     refine ⟨BlkLe.flat_flat (fun h => h) (fun r hr => by rw [hg]; rfl), ?_⟩
     conv => whnf
     refine ⟨_, rfl, ?_⟩
     conv => whnf
     refine ⟨⟨hcu, rfl, by show (n + 1) * 120 ≤ 140737488355328; omega⟩, ?_⟩
     rw [← hcu]
     conv => whnf
     rw [Src.fl_m]
     refine ⟨by kernel_rfl, ?_⟩
     conv => whnf
     refine ⟨(((x1, y1), (x2, y2)), some (l ++ [m], cu)), [24], by rw [show commonS.args (((x1, y1), (x2, y2)), some (l ++ [m], cu)) = [XV.v ((x1, y1), (x2, y2)), .slice (some ⟨0, 0, none⟩) (n + 1) cu] from by rw [← hl1]; rfl]; rfl, hokB, ?_⟩
     rw [g1, g2, show commonS.blks (((x1, y1), (x2, y2)), some (l ++ [m], cu)) = [.flat false (n + 1) 9 (rowsLn (l ++ [m]))] from by rw [← hl1]; rfl]
     conv => whnf
     refine ⟨BlkLe.flat_rows (fun h => by cases h) (fun r hr => by rw [hg]; refine rowsLn_app (m := m) hn ?_ r hr; rfl) (fun r hr => rfl), ?_⟩
     conv => whnf
     refine ⟨_, rfl, ?_⟩
     conv => whnf
     rw [show (E != 0) = true from by simp [h0]]
     conv => whnf
     rw [show (E2 != 0) = true from by simp [k1]]
     conv => whnf
     by_cases k3 : E = 12
     ·rw [show (E == 12) = true from by simp [k3]]
      conv => whnf
      conv => whnf
      refine ⟨(), rfl, trivial, ?_⟩
      conv => whnf
      exact fin
     ·rw [show (E == 12) = false from by simp [k3]]
      conv => whnf
      rw [show (E2 == E) = true from by simp [k2.resolve_left k3]]
      conv => whnf
      conv => whnf
      refine ⟨(), rfl, trivial, ?_⟩
      conv => whnf
      exact fin
   ·rw [chkV_no il] at pe
    subst pe
    rw [show ((12 : Int) != 0) = true from rfl]
    conv => whnf
    conv => whnf
    refine ⟨(), rfl, trivial, ?_⟩
    conv => whnf
    exact fin
  ·conv => whnf
   conv => whnf
   refine ⟨(), rfl, trivial, ?_⟩
   conv => whnf
   exact fin
end Go.Proofs.Ytppeponndkfbkaa
/- The statement LineFewer. -/
namespace Go.Proofs.Ytppeponndkfbkaa
open Go Go.Ae Go.ChangeShapes Go.WideShapes Go.ChangeAt Go.RowKit
theorem own : ownKnob Try.prog.godebug = none := by kernel_rfl
theorem laidOut : laidOutB Try.prog = true := by kernel_rfl
def zL : Value := .agg #[.bool false, .string ⟨#[]⟩, .string ⟨#[]⟩, .bool false, .string ⟨#[]⟩, .string ⟨#[]⟩, .bool false, .string ⟨#[]⟩, .string ⟨#[]⟩]
def zX : Value := .agg #[.bool false, .string ⟨#[]⟩, .string ⟨#[]⟩, .bool false, .string ⟨#[]⟩, .string ⟨#[]⟩, .bool false, .string ⟨#[]⟩, .string ⟨#[]⟩, .bool false, .string ⟨#[]⟩, .string ⟨#[]⟩]
set_option maxRecDepth 100000 in
theorem open_aline {w : World} {r : Reach} {base : Nat} {v : Value} (h : Value.okWide Try.prog w r base 41 v) : ∃ p : R3, v = p.v :=
 open_ln Try.underlying41 (b := 4) (s := 9) (by kernel_rfl) (by kernel_rfl) Try.underlying4 Try.underlying9 h
set_option maxRecDepth 100000 in
theorem open_abox {w : World} {r : Reach} {base : Nat} {v : Value} (h : Value.okWide Try.prog w r base 30 v) : ∃ p : XV, v = p.v :=
 open_box Try.underlying30 (b := 4) (s := 9) (by kernel_rfl) (by kernel_rfl) Try.underlying4 Try.underlying9 h
set_option maxRecDepth 100000 in
theorem ptTy : PtTy Try.prog 26 28 4 9 :=
 ⟨⟨_, _, _, Try.underlying26, ⟨rfl, rfl⟩, ⟨rfl, rfl⟩, rfl, rfl⟩, ⟨_, _, Try.underlying28, ⟨rfl, rfl⟩, rfl, rfl⟩, Try.underlying4, Try.underlying9, by kernel_rfl, by kernel_rfl, by kernel_rfl, by kernel_rfl⟩
set_option maxRecDepth 100000 in
theorem lnTy : LnTy Try.prog 26 41 :=
 ⟨⟨_, _, _, Try.underlying41, ⟨rfl, rfl⟩, ⟨rfl, rfl⟩, rfl, rfl⟩, by kernel_rfl⟩
set_option maxRecDepth 100000 in
theorem lineFewer_lifted (os : Os) (started : os.Started) (H : Type) (enc : TypeId × Value → H) :
  ReturnsInHanded {} Try.checked os 5 .any (Rows.lineFewerSpec.pre6 enc Try.prog Try.f5 Rows.lineFewerRow.domain false) (Rows.lineFewerSpec.post enc Try.prog Try.f5 false true false false) := by
 refine returnsInHanded_of_change_sized (C := Try.checked) own started (by kernel_rfl) Try.func5
  (ChangeSpec.witness6 (enc := enc) (C := Try.checked) false ⟨#[], #[zX, .slice none 0 0, zL, .int .u8 0], []⟩ 8 (by kernel_rfl) (by kernel_rfl) (by kernel_rfl) (by kernel_rfl)) ?_
 intro W base args ds gs before hval0 hW hcnd hz0 _
 have hval : ∀ (j : Nat) t v, Try.f5.params[j]? = some t → args[j]? = some v → Value.okWide Try.prog W .any base t v := hval0
 have hW' := hW
 obtain ⟨p, q, hA0, hV, rfl, hfz, hnd⟩ := hW
 have hA : DataW.TrodAll enc Try.prog W 0 (fun _ => true) true Try.f5.params.toList args.toList ds p := hA0
 have hz : (DataW.weightsEach Try.prog (Try.f5.params.toList ++ Rows.lineFewerSpec.plain.varTypes Try.prog) (ds ++ gs)).all (· ≤ reachBytes) = true := hz0
 rw [Try.params5] at hA hval hz
 obtain ⟨v0, vs0, d0, ds0, p0, q0, hargs, rfl, rfl, h0, r0⟩ := trodAll_cons hA
 obtain ⟨v1, vs1, d1, ds1, p1, q1, rfl, rfl, rfl, h1, r1⟩ := trodAll_cons r0
 obtain ⟨v2, vs2, d2, ds2, p2, q2, rfl, rfl, rfl, h2, r2⟩ := trodAll_cons r1
 obtain ⟨v3, vs3, d3, ds3, p3, q3, rfl, rfl, rfl, h3, r3⟩ := trodAll_cons r2
 obtain ⟨rfl, rfl, rfl⟩ := trodAll_nil r3
 obtain rfl : args = #[v0, v1, v2, v3] := by cases args; simp_all
 obtain ⟨rfl, rfl⟩ := trodVars_none hV
 obtain ⟨a0, rfl⟩ := open_abox (hval 0 30 v0 rfl rfl)
 obtain ⟨a1, ν1, i1, z1, hv1, hH1, hν1⟩ := open_lines ptTy lnTy Try.underlying50 (hval 1 50 v1 rfl rfl) h1
 have z1 := z1 120 reachBytes (fun elems spare e => sized_slice (e := 41) hz (j := 1) (t := 50) rfl (by rw [e]; rfl) Try.underlying50)
 obtain ⟨a2, rfl⟩ := open_aline (hval 2 41 v2 rfl rfl)
 obtain ⟨a3, rfl, rfl, rfl, w3⟩ := open_int Try.underlying5 (hval 3 5 v3 rfl rfl) h3
 obtain ⟨a3, rfl⟩ : ∃ k : Nat, a3 = (k : Int) := ⟨a3.toNat, (Int.toNat_of_nonneg (wf_u8 w3).1).symm⟩
 have lt0 : ∀ x ∈ p0, x.block < W.heap.size := by obtain ⟨m, hm⟩ := h0; exact DataW.trod_lt m _ _ _ hm
 have lt1 : ∀ x ∈ p1, x.block < W.heap.size := by obtain ⟨m, hm⟩ := h1; exact DataW.trod_lt m _ _ _ hm
 have lt2 : ∀ x ∈ p2, x.block < W.heap.size := by obtain ⟨m, hm⟩ := h2; exact DataW.trod_lt m _ _ _ hm
 clear hA0 hval0
 have hargs2 : LRel ν1 (fewerS.args ((((a0, a1), (a2, a3)) : (XV × LL) × (R3 × Nat)))) [a0.v, v1, a2.v, .int .u8 a3] := .cons ((plain2_spec (v := XV.v a0) rfl).1 ν1) (.cons hv1 (.cons ((plain2_spec (v := R3.v a2) rfl).1 ν1) (.cons ((plain2_spec (v := .int .u8 a3) rfl).1 ν1) (.nil ν1))))
 refine (calls_of_qsnd fewer_ok (i := (((a0, a1), (a2, a3)) : (XV × LL) × (R3 × Nat))) (⟨z1, by have := (wf_u8 w3).2; show a3 < 256; omega⟩) hargs2 hH1 hν1 (b := true) rfl).mono fun e W' ⟨he, bel⟩ => ?_
 subst he
 exact ⟨_, rfl, _, _, _, [], _, [], hW', trodAll_mk1 (shut_bool Try.underlying4 _), (trodAll_cons_mk (Below.trod laidOut (by kernel_rfl) (of_decide_eq_true (by kernel_rfl)) h0 bel lt0) (trodAll_cons_mk (Below.trod laidOut (by kernel_rfl) (of_decide_eq_true (by kernel_rfl)) h1 bel lt1) (trodAll_cons_mk (Below.trod laidOut (by kernel_rfl) (of_decide_eq_true (by kernel_rfl)) h2 bel lt2) (trodAll_cons_mk (shut_int Try.underlying5 w3) trodAll_mk0)))), rfl, bel.frame _, fun h => by cases h⟩
theorem lineFewer_holds : Rows.lineFewerRow.holds Try.pinned (OpenSpec.ofChange Rows.lineFewerSpec) :=
 OpenClaim.holds_of_wide 5 Try.f5 rfl rfl rfl rfl rfl rfl rfl ⟨rfl, rfl, rfl, rfl, rfl⟩ rfl rfl rfl rfl rfl (by kernel_rfl) Try.func5 (by kernel_rfl)
  (of_decide_eq_true (by kernel_rfl)) (by unfold Func.isWrapper; first | (rw [if_pos (by decide +kernel)]; kernel_rfl) | (rw [if_neg (by decide +kernel)]; exact ⟨rfl, rfl⟩))
  (fun os started H enc _ => lineFewer_lifted os started H enc)
theorem lineFewer_proved : Rows.LineFewerSaid := lineFewer_holds
end Go.Proofs.Ytppeponndkfbkaa
