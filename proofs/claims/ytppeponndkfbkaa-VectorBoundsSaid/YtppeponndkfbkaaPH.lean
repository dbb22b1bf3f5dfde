import Derived.Test.YtppeponndkfbkaaRows
import Derived.Test.YtppeponndkfbkaaPG
/- The laws of vectors: the bound of a list that is turned around. -/
set_option linter.unusedVariables false
set_option linter.unusedSimpArgs false
set_option maxRecDepth 20000
set_option maxHeartbeats 4000000
namespace Go.Proofs.Ytppeponndkfbkaa
open Go Go.Ae

def Eld : Env := { tt := tt, eqs := [], Φ := fun g => match g with
  | 14 => some (.p vcheckS)
  | _ => none }
theorem Eldok : EnvOk Try.prog Eld := ⟨tt_ok, fun t h => by simp [Eld] at h, (fun g S h => by
  simp only [Eld] at h
  split at h
  · cases h; exact vcheck_ok
  · cases h), fun g F h => by simp [Eld] at h⟩
theorem clone_ok : QSnd Try.prog 12 cloneS := by
  refine qsnd_of Eldok Dok Try.func12 (enters_of Try.func12 (by kernel_rfl) rfl) ?_ ?_ ?_
  · intro i b hb
    cases i with
    | none => simp [cloneS, PL.blks] at hb
    | some i => simp [cloneS, PL.blks] at hb; rw [hb]; rfl
  · intro i b hb
    cases i with
    | none => simp [cloneS] at hb
    | some i => simp [cloneS] at hb; rw [← hb]; rfl
  intro i hp
  cases i with
  | none =>
    conv => whnf
    exact ⟨_, rfl, .refl _⟩
  | some i =>
    obtain ⟨l, c⟩ := i
    have hp : l.length ≤ 1099511627776 := hp
    obtain ⟨n, hn⟩ : ∃ n, n = l.length := ⟨_, rfl⟩
    obtain ⟨g, hg⟩ : ∃ g, g = rowsP l := ⟨_, rfl⟩
    have hs : ∀ r, r < n → allS (g r) = true := fun r hr => by rw [hg]; rfl
    rw [← hn] at hp
    unfold qRes
    rw [show cloneS.new (some (l, c)) = some (.flat true n 6 g) from by rw [hn, hg]; rfl, show cloneS.val (some (l, c)) = .slice (some ⟨1, 0, none⟩) n capU from by rw [hn]; rfl, show cloneS.blks (some (l, c)) = [.flat false n 6 g] from by rw [hn, hg]; rfl, show cloneS.args (some (l, c)) = [.slice (some ⟨0, 0, none⟩) n c] from by rw [hn]; rfl]
    clear hg hn
    conv => whnf
    refine ⟨by omega, ?_⟩
    conv => whnf
    refine br_intro (fun h => ?_) (fun h => ?_)
    · have h : n ≤ 0 := by
        have := Nat.le_of_ble_eq_true h
        have : 0 + n ≤ 0 := this
        omega
      obtain rfl : n = 0 := by omega
      refine ⟨rfl, ?_⟩
      conv => whnf
      refine ⟨1, ?_⟩
      conv => whnf
      exact ⟨⟨rfl, BlkLe.flat_rows (fun h => h) (fun r hr => absurd hr (Nat.not_lt_zero r)) (fun r hr => absurd hr (Nat.not_lt_zero r))⟩, .slice (some ⟨2 - 1, 0, none⟩) 0 capU, rfl, .cap _ _ _ rfl⟩
    · refine ⟨⟨Nat.le_refl _, Nat.le_trans (Nat.mul_le_mul_right _ (show 0 + n ≤ 1099511627776 by omega)) (by decide)⟩, ?_⟩
      conv => whnf
      rw [show (0 + (Src.fl n fun j => g (rowAdd 0 j)).m) = n from Nat.zero_add n, show 0 + n = n from Nat.zero_add n]
      refine ⟨2, ?_⟩
      conv => whnf
      exact ⟨⟨rfl, BlkLe.flat_rows (fun h => h) (fun r hr => by rw [appGet_hi (Nat.zero_le _)]; simp [rowAdd_eq]) hs⟩, _, rfl, .refl _⟩
theorem reverse_ok : FTOk Try.prog 13 (wFT revS) := by
  refine wft_of Eldok Dok Try.func13 (enters_of Try.func13 (by kernel_rfl) rfl) ?_
  intro ⟨l, c⟩ hp
  have hp : l.length ≤ 1099511627776 := hp
  obtain ⟨n, hn⟩ : ∃ n, n = l.length := ⟨_, rfl⟩
  obtain ⟨g, hg⟩ : ∃ g, g = rowsP l := ⟨_, rfl⟩
  rw [← hn] at hp
  rw [show revS.blks (l, c) = [.flat true n 6 g] from by rw [hn, hg]; rfl, show revS.args (l, c) = [.slice (some ⟨0, 0, none⟩) n c] from by rw [hn]; rfl]
  conv => whnf
  rw [show IntKind.i64.wrap ((n : Int) - 1) = (n : Int) - 1 - ((0 : Nat) : Int) from by rw [wrapi64 (by omega) (by omega)]; simp]
  refine .inl ⟨fun mm tz hz => ∃ (i : Nat) (f : Nat → List Value), Pat [some (.slice (some ⟨0, 0, none⟩) n c), none, some (.int .i64 i), some (.int .i64 ((n : Int) - 1 - (i : Int))), none, none, none, none, none, none, none, none, none, none, none, none, none, none, none, none, none, none, none, none, none, none, none, none] tz ∧ hz = [some (.flat true n 6 f)] ∧ n - i = mm ∧ (i + i ≤ n ∧ RevRows l i f), .inr ⟨[0], [0, 2, 3], ?_⟩, ?_⟩
  · conv => whnf
    intro _
    conv => whnf
    refine ⟨_, 0, g, (.keep (.skip (.keep (.keep (.skip (.skip (.skip (.skip (.skip (.skip (.skip (.skip (.skip (.skip (.skip (.skip (.skip (.skip (.skip (.skip (.skip (.skip (.skip (.skip (.skip (.skip (.skip (.skip (.nil))))))))))))))))))))))))))))), rfl, rfl, ?_⟩
    exact ⟨by omega, rev_start fun r hr => by rw [hg]⟩
  rintro mm tms _ ⟨i, f, hpat, rfl, rfl, ⟨hi, hR⟩⟩
  obtain ⟨az, rfl⟩ : ∃ az : Nat → Value, tms = [.slice (some ⟨0, 0, none⟩) n c, az 1, .int .i64 i, .int .i64 ((n : Int) - 1 - (i : Int)), az 4, az 5, az 6, az 7, az 8, az 9, az 10, az 11, az 12, az 13, az 14, az 15, az 16, az 17, az 18, az 19, az 20, az 21, az 22, az 23, az 24, az 25, az 26, az 27] := pat_fill hpat
  clear hpat
  conv => whnf
  refine br_intro (fun h3 => ?_) (fun h3 => ?_)
  · have h3 : i + i + 1 < n := by
      have := of_decide_eq_true h3
      omega
    obtain ⟨j, hj⟩ : ∃ j, j = n - 1 - i := ⟨_, rfl⟩
    rw [show (n : Int) - 1 - (i : Int) = (j : Int) from by omega]
    obtain ⟨r1, r2⟩ := rev_get hR (by omega)
    rw [show l.length - 1 - i = j from by omega] at r2
    obtain ⟨p, _, _, hrp⟩ := rowsP_get (l := l) (i := i) (by omega)
    obtain ⟨q, _, _, hrq⟩ := rowsP_get (l := l) (i := j) (by omega)
    conv => whnf
    refine .inr (.inr ⟨13, 1, [[], [], [], [], [], [], [4, 5], [4, 5, 6], [], [], [8, 9], [8, 9, 10], [0, 1, 4, 5, 6, 7, 8, 9, 10, 11], [0, 1, 4, 5, 6, 7, 8, 9, 10, 11, 12], [0, 1, 2, 3, 4, 5, 6, 7, 8, 9, 10, 11, 12, 13], [0, 1, 2, 3, 4, 5, 6, 7, 8, 9, 10, 11, 12, 13, 14]], [2, 3], by kernel_rfl, ?_⟩)
    conv => whnf
    refine ⟨⟨by omega, by omega⟩, ?_⟩
    simp only [toNat_cast, rowAdd_eq, Nat.zero_add]
    conv => whnf
    refine ⟨by show j < n; omega, ?_⟩
    conv => whnf
    rw [r2, hrq]
    conv => whnf
    refine ⟨⟨by omega, by omega⟩, ?_⟩
    simp only [toNat_cast, rowAdd_eq, Nat.zero_add]
    conv => whnf
    refine ⟨by show i < n; omega, ?_⟩
    conv => whnf
    rw [r1, hrp]
    conv => whnf
    refine ⟨⟨by omega, by omega⟩, ?_⟩
    simp only [toNat_cast, rowAdd_eq, Nat.zero_add]
    conv => whnf
    refine ⟨by show i < n; omega, ?_⟩
    conv => whnf
    rw [r1, hrp]
    conv => whnf
    refine ⟨⟨by omega, by omega⟩, ?_⟩
    simp only [toNat_cast, rowAdd_eq, Nat.zero_add]
    conv => whnf
    refine ⟨by show j < n; omega, ?_⟩
    conv => whnf
    show putK (if j = i then _ else f j) _ _ _
    rw [if_neg (show ¬ j = i by omega), r2, hrq]
    conv => whnf
    rw [show IntKind.i64.wrap ((i : Int) + 1) = ((i + 1 : Nat) : Int) from by rw [wrapi64 (by omega) (by omega)]; rfl, show IntKind.i64.wrap ((j : Int) - 1) = (n : Int) - 1 - ((i + 1 : Nat) : Int) from by rw [wrapi64 (by omega) (by omega)]; omega]
    refine .inr ⟨[0], [0, 2, 3], ?_⟩
    conv => whnf
    intro _
    conv => whnf
    refine ⟨_, ?_, i + 1, _, (.keep (.skip (.keep (.keep (.skip (.skip (.skip (.skip (.skip (.skip (.skip (.skip (.skip (.skip (.skip (.skip (.skip (.skip (.skip (.skip (.skip (.skip (.skip (.skip (.skip (.skip (.skip (.skip (.nil))))))))))))))))))))))))))))), rfl, rfl, ?_⟩
    · omega
    · exact ⟨by omega, rev_step hR (by omega) (fun r => by rw [show l.length - 1 - i = j from by omega, hrp, hrq]; rfl)⟩
  · have h3 : n ≤ i + i + 1 := by
      have := of_decide_eq_false h3
      omega
    have hE := rev_end hR (by omega)
    conv => whnf
    exact wres_rev hn hE
def EleW : FuncId → Option FT := fun g => match g with
  | 13 => some (wFT revS)
  | _ => none
def Ele : Env := { tt := tt, eqs := eqsL, Ψ := EleW, Φ := fun g => match g with
  | 10 => some (.p awakeS)
  | 9 => some (.q greatListS)
  | 11 => some (.q boundS)
  | 12 => some (.q cloneS)
  | 14 => some (.p vcheckS)
  | 15 => some (.p vwithinS)
  | 16 => some (.p qcmpS)
  | _ => none }
theorem Eleok : EnvOk Try.prog Ele := ⟨tt_ok, eqs_ok, (fun g S h => by
  simp only [Ele] at h
  split at h
  · cases h; exact awake_ok
  · cases h; exact greatList_ok
  · cases h; exact bound_ok
  · cases h; exact clone_ok
  · cases h; exact vcheck_ok
  · cases h; exact vwithin_ok
  · cases h; exact qcmp_ok
  · cases h), (fun g F h => by
  simp only [Ele, EleW] at h
  split at h
  · cases h; exact reverse_ok
  · cases h)⟩

theorem bounds_ok : QSnd Try.prog 3 boundsS := by
  refine qsnd_of Eleok Dok Try.func3 (enters_of Try.func3 (by kernel_rfl) rfl) ?_ ?_ ?_
  · intro i b hb
    cases i with
    | none => simp [boundsS, PL.blks] at hb
    | some i => simp [boundsS, PL.blks] at hb; rw [hb]; rfl
  · intro i b hb; simp [boundsS] at hb
  intro i hp
  have hp : i.ok := hp
  obtain ⟨G, hG⟩ : ∃ G, G = greatList i.list := ⟨_, rfl⟩
  have eG : greatListS.val i = .bool G := by rw [hG]; rfl
  have hpts := fun h : G = false => greatList_pts (l := i.list) (by rw [← hG, h])
  cases i with
  | none =>
    conv => whnf
    refine ⟨none, [], rfl, hp, ?_⟩
    conv => whnf
    rw [eG]
    refine ⟨.bool G, rfl, ?_⟩
    cases hG2 : G
    · conv => whnf
      refine ⟨(), rfl, trivial, ?_⟩
      conv => whnf
      exact ⟨.bool true, rfl, .refl _⟩
    · conv => whnf
      refine ⟨(), rfl, trivial, ?_⟩
      conv => whnf
      exact ⟨.bool true, rfl, .refl _⟩
  | some i =>
    obtain ⟨l, c⟩ := i
    have hp : l.length ≤ 9223372036854775807 := hp
    obtain ⟨n, hn⟩ : ∃ n, n = l.length := ⟨_, rfl⟩
    obtain ⟨g, hg⟩ : ∃ g, g = rowsP l := ⟨_, rfl⟩
    have e1 : greatListS.blks (some (l, c)) = [.flat false n 6 g] := by rw [hn, hg]; rfl
    have e2 : boundS.blks (some (l, c)) = [.flat false n 6 g] := by rw [hn, hg]; rfl
    have a1 : greatListS.args (some (l, c)) = [.slice (some ⟨0, 0, none⟩) n c] := by rw [hn]; rfl
    have a2 : boundS.args (some (l, c)) = [.slice (some ⟨0, 0, none⟩) n c] := by rw [hn]; rfl
    rw [show boundsS.blks (some (l, c)) = [.flat false n 6 g] from by rw [hn, hg]; rfl, show boundsS.args (some (l, c)) = [.slice (some ⟨0, 0, none⟩) n c] from by rw [hn]; rfl]
    conv => whnf
    refine ⟨some (l, c), [0], by rw [a1]; rfl, hp, ?_⟩
    rw [e1]
    conv => whnf
    refine ⟨list_blk hg, ?_⟩
    conv => whnf
    rw [eG]
    refine ⟨.bool G, rfl, ?_⟩
    cases hG2 : G
    · have hpt := hpts hG2
      conv => whnf
      by_cases h1 : 40 < n
      · rw [show decide (((n : Nat) : Int) > 40) = true from decide_eq_true (by omega)]
        conv => whnf
        refine ⟨(), rfl, trivial, ?_⟩
        conv => whnf
        exact ⟨.bool true, rfl, .refl _⟩
      · rw [show decide (((n : Nat) : Int) > 40) = false from decide_eq_false (by omega)]
        conv => whnf
        by_cases h2 : n = 0
        · subst h2
          conv => whnf
          refine ⟨(), rfl, trivial, ?_⟩
          conv => whnf
          exact ⟨.bool true, rfl, .refl _⟩
        · refine br_intro (fun h => absurd (by simpa using h) h2) (fun h => ?_)
          clear h
          have hB : ∃ X, boundV l = (X, 0) ∧ Bounds l X := by
            cases l with
            | nil => exact absurd hn h2
            | cons a l => exact ⟨boundX a l, by show (if 1000 < l.length + 1 then _ else _) = _; rw [if_neg (by simp at hn; omega)], bounds_of hpt⟩
          obtain ⟨X, hX, hBd⟩ := hB
          have eB : boundS.val (some (l, c)) = .tuple ⟨[X.v, .int .i64 0]⟩ := by
            show Value.tuple ⟨[(boundV l).1.v, .int .i64 (boundV l).2]⟩ = _
            rw [hX]
          have eB2 : ∀ c', boundS.val (some (l.reverse, c')) = .tuple ⟨[X.v, .int .i64 0]⟩ := fun c' => by
            show Value.tuple ⟨[(boundV l.reverse).1.v, .int .i64 (boundV l.reverse).2]⟩ = _
            rw [boundV_reverse, hX]
          conv => whnf
          refine ⟨some (l, c), [0], by rw [a2]; rfl, ⟨hp, fun p hp => PV.sz_mono (hpt p hp) (by decide)⟩, ?_⟩
          rw [e2]
          conv => whnf
          refine ⟨list_blk hg, ?_⟩
          conv => whnf
          rw [eB]
          refine ⟨.tuple ⟨[X.v, .int .i64 0]⟩, rfl, ?_⟩
          conv => whnf
          obtain ⟨cu, hcu⟩ : ∃ cu, cu = capU := ⟨_, rfl⟩
          refine ⟨some (l, c), [0], by rw [show cloneS.args (some (l, c)) = [.slice (some ⟨0, 0, none⟩) n c] from by rw [hn]; rfl]; rfl, by show l.length ≤ 1099511627776; omega, ?_⟩
          rw [show cloneS.blks (some (l, c)) = [.flat false n 6 g] from by rw [hn, hg]; rfl, show cloneS.val (some (l, c)) = .slice (some ⟨1, 0, none⟩) n cu from by rw [hn, hcu]; rfl, show cloneS.new (some (l, c)) = some (.flat true n 6 g) from by rw [hn, hg]; rfl]
          conv => whnf
          refine ⟨list_blk hg, ?_⟩
          conv => whnf
          refine ⟨_, rfl, ?_⟩
          conv => whnf
          refine ⟨(l, cu), [2], by rw [show revS.args (l, cu) = [.slice (some ⟨0, 0, none⟩) n cu] from by rw [hn]; rfl]; rfl, by show l.length ≤ 1099511627776; omega, by decide, ?_⟩
          obtain ⟨gr, hgr⟩ : ∃ gr, gr = rowsP l.reverse := ⟨_, rfl⟩
          have hrl : l.reverse.length = n := by rw [List.length_reverse, hn]
          rw [show revS.blks (l, cu) = [.flat true n 6 g] from by rw [hn, hg]; rfl, show revS.post (l, cu) = [.flat true n 6 gr] from by rw [hn, hgr]; rfl, show revS.val (l, cu) = .tuple ⟨[]⟩ from rfl, show revS.new (l, cu) = [] from rfl]
          conv => whnf
          refine ⟨BlkLe.flat_flat (fun h => h) (fun r hr => by rw [hg]; rfl), ?_⟩
          conv => whnf
          refine ⟨_, rfl, ?_⟩
          conv => whnf
          refine ⟨some (l.reverse, cu), [2], by rw [show boundS.args (some (l.reverse, cu)) = [.slice (some ⟨0, 0, none⟩) n cu] from by rw [← hrl]; rfl]; rfl, ⟨by show l.reverse.length ≤ _; omega, fun p hp => PV.sz_mono (hpt p (List.mem_reverse.1 hp)) (by decide)⟩, ?_⟩
          rw [show boundS.blks (some (l.reverse, cu)) = [.flat false n 6 gr] from by rw [← hrl, hgr]; rfl]
          conv => whnf
          refine ⟨BlkLe.flat_flat (fun h => by cases h) (fun r hr => by rw [hgr]; rfl), ?_⟩
          conv => whnf
          rw [eB2]
          refine ⟨.tuple ⟨[X.v, .int .i64 0]⟩, rfl, ?_⟩
          conv => whnf
          rw [eqX X]
          conv => whnf
          refine ⟨X.1, rfl, PV.sz_mono hBd.sz.1 (by decide), ?_⟩
          rw [hBd.c1]
          conv => whnf
          refine ⟨X.2, rfl, PV.sz_mono hBd.sz.2 (by decide), ?_⟩
          rw [hBd.c2]
          conv => whnf
          refine .inl ⟨fun mm tz hz => ∃ (j : Nat) (b1 : Bool) (b2 : Bool) (b3 : Bool) (b4 : Bool), Pat [some (.slice (some ⟨0, 0, none⟩) n c), none, none, some (.pointer (some ⟨1, 0, none⟩)), none, none, none, none, some (.bool b1), some (.bool b2), some (.bool b3), some (.bool b4), none, none, none, none, none, none, none, none, none, none, none, none, none, none, none, none, none, none, none, none, none, none, none, none, none, none, none, none, none, none, none, none, none, none, none, none, none, none, none, none, none, none, none, none, none, none, none, none, none, none, none, none, some (.slice (some ⟨0, 0, none⟩) n c), some (.int .i64 n), some (.int .i64 j), none, none, none, none, none, none, none, none, none, none, none, none, none, none, none, none, none, none, none, none, none, none, none, none, none, none, none, none, none, none, none, none, none, none, none, none, none, none, none, none, none, none, none, none, none, none, none, none, none, none, none, none, none, none, none, none, none, none, none, none, none] tz ∧ hz = [some (.flat false n 6 g), some (.expl true 12 [X.cells])] ∧ n - j = mm ∧ (j ≤ n ∧ hitB pX X.1.1.q l j b1 ∧ hitB pX X.2.1.q l j b2 ∧ hitB pY X.1.2.q l j b3 ∧ hitB pY X.2.2.q l j b4), .inr ⟨[0, 1], [0, 3, 8, 9, 10, 11, 64, 65, 66], ?_⟩, ?_⟩
          · conv => whnf
            intro _
            conv => whnf
            refine ⟨_, 0, false, false, false, false, (.keep (.skip (.skip (.keep (.skip (.skip (.skip (.skip (.keep (.keep (.keep (.keep (.skip (.skip (.skip (.skip (.skip (.skip (.skip (.skip (.skip (.skip (.skip (.skip (.skip (.skip (.skip (.skip (.skip (.skip (.skip (.skip (.skip (.skip (.skip (.skip (.skip (.skip (.skip (.skip (.skip (.skip (.skip (.skip (.skip (.skip (.skip (.skip (.skip (.skip (.skip (.skip (.skip (.skip (.skip (.skip (.skip (.skip (.skip (.skip (.skip (.skip (.skip (.skip (.keep (.keep (.keep (.skip (.skip (.skip (.skip (.skip (.skip (.skip (.skip (.skip (.skip (.skip (.skip (.skip (.skip (.skip (.skip (.skip (.skip (.skip (.skip (.skip (.skip (.skip (.skip (.skip (.skip (.skip (.skip (.skip (.skip (.skip (.skip (.skip (.skip (.skip (.skip (.skip (.skip (.skip (.skip (.skip (.skip (.skip (.skip (.skip (.skip (.skip (.skip (.skip (.skip (.skip (.skip (.skip (.skip (.skip (.skip (.skip (.skip (.skip (.skip (.skip (.nil))))))))))))))))))))))))))))))))))))))))))))))))))))))))))))))))))))))))))))))))))))))))))))))))))))))))))))))))))))))))))))))))), rfl, rfl, ?_⟩
            exact ⟨Nat.zero_le _, hit_start _ _ _, hit_start _ _ _, hit_start _ _ _, hit_start _ _ _⟩
          rintro mm tms _ ⟨j, b1, b2, b3, b4, hpat, rfl, rfl, ⟨hj, f1, f2, f3, f4⟩⟩
          obtain ⟨az, rfl⟩ : ∃ az : Nat → Value, tms = [.slice (some ⟨0, 0, none⟩) n c, az 1, az 2, .pointer (some ⟨1, 0, none⟩), az 4, az 5, az 6, az 7, .bool b1, .bool b2, .bool b3, .bool b4, az 12, az 13, az 14, az 15, az 16, az 17, az 18, az 19, az 20, az 21, az 22, az 23, az 24, az 25, az 26, az 27, az 28, az 29, az 30, az 31, az 32, az 33, az 34, az 35, az 36, az 37, az 38, az 39, az 40, az 41, az 42, az 43, az 44, az 45, az 46, az 47, az 48, az 49, az 50, az 51, az 52, az 53, az 54, az 55, az 56, az 57, az 58, az 59, az 60, az 61, az 62, az 63, .slice (some ⟨0, 0, none⟩) n c, .int .i64 n, .int .i64 j, az 67, az 68, az 69, az 70, az 71, az 72, az 73, az 74, az 75, az 76, az 77, az 78, az 79, az 80, az 81, az 82, az 83, az 84, az 85, az 86, az 87, az 88, az 89, az 90, az 91, az 92, az 93, az 94, az 95, az 96, az 97, az 98, az 99, az 100, az 101, az 102, az 103, az 104, az 105, az 106, az 107, az 108, az 109, az 110, az 111, az 112, az 113, az 114, az 115, az 116, az 117, az 118, az 119, az 120, az 121, az 122, az 123, az 124, az 125, az 126, az 127] := pat_fill hpat
          clear hpat
          conv => whnf
          refine br_intro (fun h3 => ?_) (fun h3 => ?_)
          · have h3 : j < n := by
              have := of_decide_eq_true h3
              omega
            obtain ⟨p, hpl, hpm, hrow⟩ := rowsP_get (l := l) (i := j) (by omega)
            rw [← hg] at hrow
            have hps := hpt p hpm
            have e7 : IntKind.i64.wrap ((j : Int) + 1) = ((j + 1 : Nat) : Int) := by rw [wrapi64 (by omega) (by omega)]; rfl
            conv => whnf
            refine ⟨⟨by omega, by omega⟩, ?_⟩
            simp only [toNat_cast, rowAdd_eq, Nat.zero_add]
            conv => whnf
            refine ⟨by show j < n; omega, ?_⟩
            conv => whnf
            rw [hrow]
            conv => whnf
            refine ⟨(X, p), rfl, ⟨hBd.sz, PV.sz_mono hps (by decide)⟩, ?_⟩
            rw [hBd.inb p hpm]
            conv => whnf
            cases b1
            · have k1 := hit_test f1 hpl
              obtain ⟨z1, hz1⟩ : ∃ z, z = cmpQ (pX p) X.1.1.q := ⟨_, rfl⟩
              rw [← hz1] at k1
              conv => whnf
              refine ⟨(p.1, X.1.1), rfl, ⟨RV.sz_ok hps.1 (by decide), RV.sz_ok hBd.sz.1.1 (by decide)⟩, ?_⟩
              rw [show qcmpS.val (p.1, X.1.1) = .int .i64 z1 from by rw [hz1]; rfl]
              conv => whnf
              cases b2
              · have k2 := hit_test f2 hpl
                obtain ⟨z2, hz2⟩ : ∃ z, z = cmpQ (pX p) X.2.1.q := ⟨_, rfl⟩
                rw [← hz2] at k2
                conv => whnf
                refine ⟨(p.1, X.2.1), rfl, ⟨RV.sz_ok hps.1 (by decide), RV.sz_ok hBd.sz.2.1 (by decide)⟩, ?_⟩
                rw [show qcmpS.val (p.1, X.2.1) = .int .i64 z2 from by rw [hz2]; rfl]
                conv => whnf
                cases b3
                · have k3 := hit_test f3 hpl
                  obtain ⟨z3, hz3⟩ : ∃ z, z = cmpQ (pY p) X.1.2.q := ⟨_, rfl⟩
                  rw [← hz3] at k3
                  conv => whnf
                  refine ⟨(p.2, X.1.2), rfl, ⟨RV.sz_ok hps.2 (by decide), RV.sz_ok hBd.sz.1.2 (by decide)⟩, ?_⟩
                  rw [show qcmpS.val (p.2, X.1.2) = .int .i64 z3 from by rw [hz3]; rfl]
                  conv => whnf
                  cases b4
                  · have k4 := hit_test f4 hpl
                    obtain ⟨z4, hz4⟩ : ∃ z, z = cmpQ (pY p) X.2.2.q := ⟨_, rfl⟩
                    rw [← hz4] at k4
                    conv => whnf
                    refine ⟨(p.2, X.2.2), rfl, ⟨RV.sz_ok hps.2 (by decide), RV.sz_ok hBd.sz.2.2 (by decide)⟩, ?_⟩
                    rw [show qcmpS.val (p.2, X.2.2) = .int .i64 z4 from by rw [hz4]; rfl]
                    conv => whnf
                    rw [e7]
                    refine .inr ⟨[0, 1], [0, 3, 8, 9, 10, 11, 64, 65, 66], ?_⟩
                    conv => whnf
                    intro _
                    conv => whnf
                    refine ⟨_, ?_, j + 1, _, _, _, _, (.keep (.skip (.skip (.keep (.skip (.skip (.skip (.skip (.keep (.keep (.keep (.keep (.skip (.skip (.skip (.skip (.skip (.skip (.skip (.skip (.skip (.skip (.skip (.skip (.skip (.skip (.skip (.skip (.skip (.skip (.skip (.skip (.skip (.skip (.skip (.skip (.skip (.skip (.skip (.skip (.skip (.skip (.skip (.skip (.skip (.skip (.skip (.skip (.skip (.skip (.skip (.skip (.skip (.skip (.skip (.skip (.skip (.skip (.skip (.skip (.skip (.skip (.skip (.skip (.keep (.keep (.keep (.skip (.skip (.skip (.skip (.skip (.skip (.skip (.skip (.skip (.skip (.skip (.skip (.skip (.skip (.skip (.skip (.skip (.skip (.skip (.skip (.skip (.skip (.skip (.skip (.skip (.skip (.skip (.skip (.skip (.skip (.skip (.skip (.skip (.skip (.skip (.skip (.skip (.skip (.skip (.skip (.skip (.skip (.skip (.skip (.skip (.skip (.skip (.skip (.skip (.skip (.skip (.skip (.skip (.skip (.skip (.skip (.skip (.skip (.skip (.skip (.skip (.nil))))))))))))))))))))))))))))))))))))))))))))))))))))))))))))))))))))))))))))))))))))))))))))))))))))))))))))))))))))))))))))))))), rfl, rfl, ?_⟩
                    · omega
                    · exact ⟨by omega, k1, k2, k3, k4⟩
                  · have k4 := hit_true f4 hpl
                    conv => whnf
                    rw [e7]
                    refine .inr ⟨[0, 1], [0, 3, 8, 9, 10, 11, 64, 65, 66], ?_⟩
                    conv => whnf
                    intro _
                    conv => whnf
                    refine ⟨_, ?_, j + 1, _, _, _, _, (.keep (.skip (.skip (.keep (.skip (.skip (.skip (.skip (.keep (.keep (.keep (.keep (.skip (.skip (.skip (.skip (.skip (.skip (.skip (.skip (.skip (.skip (.skip (.skip (.skip (.skip (.skip (.skip (.skip (.skip (.skip (.skip (.skip (.skip (.skip (.skip (.skip (.skip (.skip (.skip (.skip (.skip (.skip (.skip (.skip (.skip (.skip (.skip (.skip (.skip (.skip (.skip (.skip (.skip (.skip (.skip (.skip (.skip (.skip (.skip (.skip (.skip (.skip (.skip (.keep (.keep (.keep (.skip (.skip (.skip (.skip (.skip (.skip (.skip (.skip (.skip (.skip (.skip (.skip (.skip (.skip (.skip (.skip (.skip (.skip (.skip (.skip (.skip (.skip (.skip (.skip (.skip (.skip (.skip (.skip (.skip (.skip (.skip (.skip (.skip (.skip (.skip (.skip (.skip (.skip (.skip (.skip (.skip (.skip (.skip (.skip (.skip (.skip (.skip (.skip (.skip (.skip (.skip (.skip (.skip (.skip (.skip (.skip (.skip (.skip (.skip (.skip (.skip (.nil))))))))))))))))))))))))))))))))))))))))))))))))))))))))))))))))))))))))))))))))))))))))))))))))))))))))))))))))))))))))))))))))), rfl, rfl, ?_⟩
                    · omega
                    · exact ⟨by omega, k1, k2, k3, k4⟩
                · have k3 := hit_true f3 hpl
                  conv => whnf
                  cases b4
                  · have k4 := hit_test f4 hpl
                    obtain ⟨z4, hz4⟩ : ∃ z, z = cmpQ (pY p) X.2.2.q := ⟨_, rfl⟩
                    rw [← hz4] at k4
                    conv => whnf
                    refine ⟨(p.2, X.2.2), rfl, ⟨RV.sz_ok hps.2 (by decide), RV.sz_ok hBd.sz.2.2 (by decide)⟩, ?_⟩
                    rw [show qcmpS.val (p.2, X.2.2) = .int .i64 z4 from by rw [hz4]; rfl]
                    conv => whnf
                    rw [e7]
                    refine .inr ⟨[0, 1], [0, 3, 8, 9, 10, 11, 64, 65, 66], ?_⟩
                    conv => whnf
                    intro _
                    conv => whnf
                    refine ⟨_, ?_, j + 1, _, _, _, _, (.keep (.skip (.skip (.keep (.skip (.skip (.skip (.skip (.keep (.keep (.keep (.keep (.skip (.skip (.skip (.skip (.skip (.skip (.skip (.skip (.skip (.skip (.skip (.skip (.skip (.skip (.skip (.skip (.skip (.skip (.skip (.skip (.skip (.skip (.skip (.skip (.skip (.skip (.skip (.skip (.skip (.skip (.skip (.skip (.skip (.skip (.skip (.skip (.skip (.skip (.skip (.skip (.skip (.skip (.skip (.skip (.skip (.skip (.skip (.skip (.skip (.skip (.skip (.skip (.keep (.keep (.keep (.skip (.skip (.skip (.skip (.skip (.skip (.skip (.skip (.skip (.skip (.skip (.skip (.skip (.skip (.skip (.skip (.skip (.skip (.skip (.skip (.skip (.skip (.skip (.skip (.skip (.skip (.skip (.skip (.skip (.skip (.skip (.skip (.skip (.skip (.skip (.skip (.skip (.skip (.skip (.skip (.skip (.skip (.skip (.skip (.skip (.skip (.skip (.skip (.skip (.skip (.skip (.skip (.skip (.skip (.skip (.skip (.skip (.skip (.skip (.skip (.skip (.nil))))))))))))))))))))))))))))))))))))))))))))))))))))))))))))))))))))))))))))))))))))))))))))))))))))))))))))))))))))))))))))))))), rfl, rfl, ?_⟩
                    · omega
                    · exact ⟨by omega, k1, k2, k3, k4⟩
                  · have k4 := hit_true f4 hpl
                    conv => whnf
                    rw [e7]
                    refine .inr ⟨[0, 1], [0, 3, 8, 9, 10, 11, 64, 65, 66], ?_⟩
                    conv => whnf
                    intro _
                    conv => whnf
                    refine ⟨_, ?_, j + 1, _, _, _, _, (.keep (.skip (.skip (.keep (.skip (.skip (.skip (.skip (.keep (.keep (.keep (.keep (.skip (.skip (.skip (.skip (.skip (.skip (.skip (.skip (.skip (.skip (.skip (.skip (.skip (.skip (.skip (.skip (.skip (.skip (.skip (.skip (.skip (.skip (.skip (.skip (.skip (.skip (.skip (.skip (.skip (.skip (.skip (.skip (.skip (.skip (.skip (.skip (.skip (.skip (.skip (.skip (.skip (.skip (.skip (.skip (.skip (.skip (.skip (.skip (.skip (.skip (.skip (.skip (.keep (.keep (.keep (.skip (.skip (.skip (.skip (.skip (.skip (.skip (.skip (.skip (.skip (.skip (.skip (.skip (.skip (.skip (.skip (.skip (.skip (.skip (.skip (.skip (.skip (.skip (.skip (.skip (.skip (.skip (.skip (.skip (.skip (.skip (.skip (.skip (.skip (.skip (.skip (.skip (.skip (.skip (.skip (.skip (.skip (.skip (.skip (.skip (.skip (.skip (.skip (.skip (.skip (.skip (.skip (.skip (.skip (.skip (.skip (.skip (.skip (.skip (.skip (.skip (.nil))))))))))))))))))))))))))))))))))))))))))))))))))))))))))))))))))))))))))))))))))))))))))))))))))))))))))))))))))))))))))))))))), rfl, rfl, ?_⟩
                    · omega
                    · exact ⟨by omega, k1, k2, k3, k4⟩
              · have k2 := hit_true f2 hpl
                conv => whnf
                cases b3
                · have k3 := hit_test f3 hpl
                  obtain ⟨z3, hz3⟩ : ∃ z, z = cmpQ (pY p) X.1.2.q := ⟨_, rfl⟩
                  rw [← hz3] at k3
                  conv => whnf
                  refine ⟨(p.2, X.1.2), rfl, ⟨RV.sz_ok hps.2 (by decide), RV.sz_ok hBd.sz.1.2 (by decide)⟩, ?_⟩
                  rw [show qcmpS.val (p.2, X.1.2) = .int .i64 z3 from by rw [hz3]; rfl]
                  conv => whnf
                  cases b4
                  · have k4 := hit_test f4 hpl
                    obtain ⟨z4, hz4⟩ : ∃ z, z = cmpQ (pY p) X.2.2.q := ⟨_, rfl⟩
                    rw [← hz4] at k4
                    conv => whnf
                    refine ⟨(p.2, X.2.2), rfl, ⟨RV.sz_ok hps.2 (by decide), RV.sz_ok hBd.sz.2.2 (by decide)⟩, ?_⟩
                    rw [show qcmpS.val (p.2, X.2.2) = .int .i64 z4 from by rw [hz4]; rfl]
                    conv => whnf
                    rw [e7]
                    refine .inr ⟨[0, 1], [0, 3, 8, 9, 10, 11, 64, 65, 66], ?_⟩
                    conv => whnf
                    intro _
                    conv => whnf
                    refine ⟨_, ?_, j + 1, _, _, _, _, (.keep (.skip (.skip (.keep (.skip (.skip (.skip (.skip (.keep (.keep (.keep (.keep (.skip (.skip (.skip (.skip (.skip (.skip (.skip (.skip (.skip (.skip (.skip (.skip (.skip (.skip (.skip (.skip (.skip (.skip (.skip (.skip (.skip (.skip (.skip (.skip (.skip (.skip (.skip (.skip (.skip (.skip (.skip (.skip (.skip (.skip (.skip (.skip (.skip (.skip (.skip (.skip (.skip (.skip (.skip (.skip (.skip (.skip (.skip (.skip (.skip (.skip (.skip (.skip (.keep (.keep (.keep (.skip (.skip (.skip (.skip (.skip (.skip (.skip (.skip (.skip (.skip (.skip (.skip (.skip (.skip (.skip (.skip (.skip (.skip (.skip (.skip (.skip (.skip (.skip (.skip (.skip (.skip (.skip (.skip (.skip (.skip (.skip (.skip (.skip (.skip (.skip (.skip (.skip (.skip (.skip (.skip (.skip (.skip (.skip (.skip (.skip (.skip (.skip (.skip (.skip (.skip (.skip (.skip (.skip (.skip (.skip (.skip (.skip (.skip (.skip (.skip (.skip (.nil))))))))))))))))))))))))))))))))))))))))))))))))))))))))))))))))))))))))))))))))))))))))))))))))))))))))))))))))))))))))))))))))), rfl, rfl, ?_⟩
                    · omega
                    · exact ⟨by omega, k1, k2, k3, k4⟩
                  · have k4 := hit_true f4 hpl
                    conv => whnf
                    rw [e7]
                    refine .inr ⟨[0, 1], [0, 3, 8, 9, 10, 11, 64, 65, 66], ?_⟩
                    conv => whnf
                    intro _
                    conv => whnf
                    refine ⟨_, ?_, j + 1, _, _, _, _, (.keep (.skip (.skip (.keep (.skip (.skip (.skip (.skip (.keep (.keep (.keep (.keep (.skip (.skip (.skip (.skip (.skip (.skip (.skip (.skip (.skip (.skip (.skip (.skip (.skip (.skip (.skip (.skip (.skip (.skip (.skip (.skip (.skip (.skip (.skip (.skip (.skip (.skip (.skip (.skip (.skip (.skip (.skip (.skip (.skip (.skip (.skip (.skip (.skip (.skip (.skip (.skip (.skip (.skip (.skip (.skip (.skip (.skip (.skip (.skip (.skip (.skip (.skip (.skip (.keep (.keep (.keep (.skip (.skip (.skip (.skip (.skip (.skip (.skip (.skip (.skip (.skip (.skip (.skip (.skip (.skip (.skip (.skip (.skip (.skip (.skip (.skip (.skip (.skip (.skip (.skip (.skip (.skip (.skip (.skip (.skip (.skip (.skip (.skip (.skip (.skip (.skip (.skip (.skip (.skip (.skip (.skip (.skip (.skip (.skip (.skip (.skip (.skip (.skip (.skip (.skip (.skip (.skip (.skip (.skip (.skip (.skip (.skip (.skip (.skip (.skip (.skip (.skip (.nil))))))))))))))))))))))))))))))))))))))))))))))))))))))))))))))))))))))))))))))))))))))))))))))))))))))))))))))))))))))))))))))))), rfl, rfl, ?_⟩
                    · omega
                    · exact ⟨by omega, k1, k2, k3, k4⟩
                · have k3 := hit_true f3 hpl
                  conv => whnf
                  cases b4
                  · have k4 := hit_test f4 hpl
                    obtain ⟨z4, hz4⟩ : ∃ z, z = cmpQ (pY p) X.2.2.q := ⟨_, rfl⟩
                    rw [← hz4] at k4
                    conv => whnf
                    refine ⟨(p.2, X.2.2), rfl, ⟨RV.sz_ok hps.2 (by decide), RV.sz_ok hBd.sz.2.2 (by decide)⟩, ?_⟩
                    rw [show qcmpS.val (p.2, X.2.2) = .int .i64 z4 from by rw [hz4]; rfl]
                    conv => whnf
                    rw [e7]
                    refine .inr ⟨[0, 1], [0, 3, 8, 9, 10, 11, 64, 65, 66], ?_⟩
                    conv => whnf
                    intro _
                    conv => whnf
                    refine ⟨_, ?_, j + 1, _, _, _, _, (.keep (.skip (.skip (.keep (.skip (.skip (.skip (.skip (.keep (.keep (.keep (.keep (.skip (.skip (.skip (.skip (.skip (.skip (.skip (.skip (.skip (.skip (.skip (.skip (.skip (.skip (.skip (.skip (.skip (.skip (.skip (.skip (.skip (.skip (.skip (.skip (.skip (.skip (.skip (.skip (.skip (.skip (.skip (.skip (.skip (.skip (.skip (.skip (.skip (.skip (.skip (.skip (.skip (.skip (.skip (.skip (.skip (.skip (.skip (.skip (.skip (.skip (.skip (.skip (.keep (.keep (.keep (.skip (.skip (.skip (.skip (.skip (.skip (.skip (.skip (.skip (.skip (.skip (.skip (.skip (.skip (.skip (.skip (.skip (.skip (.skip (.skip (.skip (.skip (.skip (.skip (.skip (.skip (.skip (.skip (.skip (.skip (.skip (.skip (.skip (.skip (.skip (.skip (.skip (.skip (.skip (.skip (.skip (.skip (.skip (.skip (.skip (.skip (.skip (.skip (.skip (.skip (.skip (.skip (.skip (.skip (.skip (.skip (.skip (.skip (.skip (.skip (.skip (.nil))))))))))))))))))))))))))))))))))))))))))))))))))))))))))))))))))))))))))))))))))))))))))))))))))))))))))))))))))))))))))))))))), rfl, rfl, ?_⟩
                    · omega
                    · exact ⟨by omega, k1, k2, k3, k4⟩
                  · have k4 := hit_true f4 hpl
                    conv => whnf
                    rw [e7]
                    refine .inr ⟨[0, 1], [0, 3, 8, 9, 10, 11, 64, 65, 66], ?_⟩
                    conv => whnf
                    intro _
                    conv => whnf
                    refine ⟨_, ?_, j + 1, _, _, _, _, (.keep (.skip (.skip (.keep (.skip (.skip (.skip (.skip (.keep (.keep (.keep (.keep (.skip (.skip (.skip (.skip (.skip (.skip (.skip (.skip (.skip (.skip (.skip (.skip (.skip (.skip (.skip (.skip (.skip (.skip (.skip (.skip (.skip (.skip (.skip (.skip (.skip (.skip (.skip (.skip (.skip (.skip (.skip (.skip (.skip (.skip (.skip (.skip (.skip (.skip (.skip (.skip (.skip (.skip (.skip (.skip (.skip (.skip (.skip (.skip (.skip (.skip (.skip (.skip (.keep (.keep (.keep (.skip (.skip (.skip (.skip (.skip (.skip (.skip (.skip (.skip (.skip (.skip (.skip (.skip (.skip (.skip (.skip (.skip (.skip (.skip (.skip (.skip (.skip (.skip (.skip (.skip (.skip (.skip (.skip (.skip (.skip (.skip (.skip (.skip (.skip (.skip (.skip (.skip (.skip (.skip (.skip (.skip (.skip (.skip (.skip (.skip (.skip (.skip (.skip (.skip (.skip (.skip (.skip (.skip (.skip (.skip (.skip (.skip (.skip (.skip (.skip (.skip (.nil))))))))))))))))))))))))))))))))))))))))))))))))))))))))))))))))))))))))))))))))))))))))))))))))))))))))))))))))))))))))))))))))), rfl, rfl, ?_⟩
                    · omega
                    · exact ⟨by omega, k1, k2, k3, k4⟩
            · have k1 := hit_true f1 hpl
              conv => whnf
              cases b2
              · have k2 := hit_test f2 hpl
                obtain ⟨z2, hz2⟩ : ∃ z, z = cmpQ (pX p) X.2.1.q := ⟨_, rfl⟩
                rw [← hz2] at k2
                conv => whnf
                refine ⟨(p.1, X.2.1), rfl, ⟨RV.sz_ok hps.1 (by decide), RV.sz_ok hBd.sz.2.1 (by decide)⟩, ?_⟩
                rw [show qcmpS.val (p.1, X.2.1) = .int .i64 z2 from by rw [hz2]; rfl]
                conv => whnf
                cases b3
                · have k3 := hit_test f3 hpl
                  obtain ⟨z3, hz3⟩ : ∃ z, z = cmpQ (pY p) X.1.2.q := ⟨_, rfl⟩
                  rw [← hz3] at k3
                  conv => whnf
                  refine ⟨(p.2, X.1.2), rfl, ⟨RV.sz_ok hps.2 (by decide), RV.sz_ok hBd.sz.1.2 (by decide)⟩, ?_⟩
                  rw [show qcmpS.val (p.2, X.1.2) = .int .i64 z3 from by rw [hz3]; rfl]
                  conv => whnf
                  cases b4
                  · have k4 := hit_test f4 hpl
                    obtain ⟨z4, hz4⟩ : ∃ z, z = cmpQ (pY p) X.2.2.q := ⟨_, rfl⟩
                    rw [← hz4] at k4
                    conv => whnf
                    refine ⟨(p.2, X.2.2), rfl, ⟨RV.sz_ok hps.2 (by decide), RV.sz_ok hBd.sz.2.2 (by decide)⟩, ?_⟩
                    rw [show qcmpS.val (p.2, X.2.2) = .int .i64 z4 from by rw [hz4]; rfl]
                    conv => whnf
                    rw [e7]
                    refine .inr ⟨[0, 1], [0, 3, 8, 9, 10, 11, 64, 65, 66], ?_⟩
                    conv => whnf
                    intro _
                    conv => whnf
                    refine ⟨_, ?_, j + 1, _, _, _, _, (.keep (.skip (.skip (.keep (.skip (.skip (.skip (.skip (.keep (.keep (.keep (.keep (.skip (.skip (.skip (.skip (.skip (.skip (.skip (.skip (.skip (.skip (.skip (.skip (.skip (.skip (.skip (.skip (.skip (.skip (.skip (.skip (.skip (.skip (.skip (.skip (.skip (.skip (.skip (.skip (.skip (.skip (.skip (.skip (.skip (.skip (.skip (.skip (.skip (.skip (.skip (.skip (.skip (.skip (.skip (.skip (.skip (.skip (.skip (.skip (.skip (.skip (.skip (.skip (.keep (.keep (.keep (.skip (.skip (.skip (.skip (.skip (.skip (.skip (.skip (.skip (.skip (.skip (.skip (.skip (.skip (.skip (.skip (.skip (.skip (.skip (.skip (.skip (.skip (.skip (.skip (.skip (.skip (.skip (.skip (.skip (.skip (.skip (.skip (.skip (.skip (.skip (.skip (.skip (.skip (.skip (.skip (.skip (.skip (.skip (.skip (.skip (.skip (.skip (.skip (.skip (.skip (.skip (.skip (.skip (.skip (.skip (.skip (.skip (.skip (.skip (.skip (.skip (.nil))))))))))))))))))))))))))))))))))))))))))))))))))))))))))))))))))))))))))))))))))))))))))))))))))))))))))))))))))))))))))))))))), rfl, rfl, ?_⟩
                    · omega
                    · exact ⟨by omega, k1, k2, k3, k4⟩
                  · have k4 := hit_true f4 hpl
                    conv => whnf
                    rw [e7]
                    refine .inr ⟨[0, 1], [0, 3, 8, 9, 10, 11, 64, 65, 66], ?_⟩
                    conv => whnf
                    intro _
                    conv => whnf
                    refine ⟨_, ?_, j + 1, _, _, _, _, (.keep (.skip (.skip (.keep (.skip (.skip (.skip (.skip (.keep (.keep (.keep (.keep (.skip (.skip (.skip (.skip (.skip (.skip (.skip (.skip (.skip (.skip (.skip (.skip (.skip (.skip (.skip (.skip (.skip (.skip (.skip (.skip (.skip (.skip (.skip (.skip (.skip (.skip (.skip (.skip (.skip (.skip (.skip (.skip (.skip (.skip (.skip (.skip (.skip (.skip (.skip (.skip (.skip (.skip (.skip (.skip (.skip (.skip (.skip (.skip (.skip (.skip (.skip (.skip (.keep (.keep (.keep (.skip (.skip (.skip (.skip (.skip (.skip (.skip (.skip (.skip (.skip (.skip (.skip (.skip (.skip (.skip (.skip (.skip (.skip (.skip (.skip (.skip (.skip (.skip (.skip (.skip (.skip (.skip (.skip (.skip (.skip (.skip (.skip (.skip (.skip (.skip (.skip (.skip (.skip (.skip (.skip (.skip (.skip (.skip (.skip (.skip (.skip (.skip (.skip (.skip (.skip (.skip (.skip (.skip (.skip (.skip (.skip (.skip (.skip (.skip (.skip (.skip (.nil))))))))))))))))))))))))))))))))))))))))))))))))))))))))))))))))))))))))))))))))))))))))))))))))))))))))))))))))))))))))))))))))), rfl, rfl, ?_⟩
                    · omega
                    · exact ⟨by omega, k1, k2, k3, k4⟩
                · have k3 := hit_true f3 hpl
                  conv => whnf
                  cases b4
                  · have k4 := hit_test f4 hpl
                    obtain ⟨z4, hz4⟩ : ∃ z, z = cmpQ (pY p) X.2.2.q := ⟨_, rfl⟩
                    rw [← hz4] at k4
                    conv => whnf
                    refine ⟨(p.2, X.2.2), rfl, ⟨RV.sz_ok hps.2 (by decide), RV.sz_ok hBd.sz.2.2 (by decide)⟩, ?_⟩
                    rw [show qcmpS.val (p.2, X.2.2) = .int .i64 z4 from by rw [hz4]; rfl]
                    conv => whnf
                    rw [e7]
                    refine .inr ⟨[0, 1], [0, 3, 8, 9, 10, 11, 64, 65, 66], ?_⟩
                    conv => whnf
                    intro _
                    conv => whnf
                    refine ⟨_, ?_, j + 1, _, _, _, _, (.keep (.skip (.skip (.keep (.skip (.skip (.skip (.skip (.keep (.keep (.keep (.keep (.skip (.skip (.skip (.skip (.skip (.skip (.skip (.skip (.skip (.skip (.skip (.skip (.skip (.skip (.skip (.skip (.skip (.skip (.skip (.skip (.skip (.skip (.skip (.skip (.skip (.skip (.skip (.skip (.skip (.skip (.skip (.skip (.skip (.skip (.skip (.skip (.skip (.skip (.skip (.skip (.skip (.skip (.skip (.skip (.skip (.skip (.skip (.skip (.skip (.skip (.skip (.skip (.keep (.keep (.keep (.skip (.skip (.skip (.skip (.skip (.skip (.skip (.skip (.skip (.skip (.skip (.skip (.skip (.skip (.skip (.skip (.skip (.skip (.skip (.skip (.skip (.skip (.skip (.skip (.skip (.skip (.skip (.skip (.skip (.skip (.skip (.skip (.skip (.skip (.skip (.skip (.skip (.skip (.skip (.skip (.skip (.skip (.skip (.skip (.skip (.skip (.skip (.skip (.skip (.skip (.skip (.skip (.skip (.skip (.skip (.skip (.skip (.skip (.skip (.skip (.skip (.nil))))))))))))))))))))))))))))))))))))))))))))))))))))))))))))))))))))))))))))))))))))))))))))))))))))))))))))))))))))))))))))))))), rfl, rfl, ?_⟩
                    · omega
                    · exact ⟨by omega, k1, k2, k3, k4⟩
                  · have k4 := hit_true f4 hpl
                    conv => whnf
                    rw [e7]
                    refine .inr ⟨[0, 1], [0, 3, 8, 9, 10, 11, 64, 65, 66], ?_⟩
                    conv => whnf
                    intro _
                    conv => whnf
                    refine ⟨_, ?_, j + 1, _, _, _, _, (.keep (.skip (.skip (.keep (.skip (.skip (.skip (.skip (.keep (.keep (.keep (.keep (.skip (.skip (.skip (.skip (.skip (.skip (.skip (.skip (.skip (.skip (.skip (.skip (.skip (.skip (.skip (.skip (.skip (.skip (.skip (.skip (.skip (.skip (.skip (.skip (.skip (.skip (.skip (.skip (.skip (.skip (.skip (.skip (.skip (.skip (.skip (.skip (.skip (.skip (.skip (.skip (.skip (.skip (.skip (.skip (.skip (.skip (.skip (.skip (.skip (.skip (.skip (.skip (.keep (.keep (.keep (.skip (.skip (.skip (.skip (.skip (.skip (.skip (.skip (.skip (.skip (.skip (.skip (.skip (.skip (.skip (.skip (.skip (.skip (.skip (.skip (.skip (.skip (.skip (.skip (.skip (.skip (.skip (.skip (.skip (.skip (.skip (.skip (.skip (.skip (.skip (.skip (.skip (.skip (.skip (.skip (.skip (.skip (.skip (.skip (.skip (.skip (.skip (.skip (.skip (.skip (.skip (.skip (.skip (.skip (.skip (.skip (.skip (.skip (.skip (.skip (.skip (.nil))))))))))))))))))))))))))))))))))))))))))))))))))))))))))))))))))))))))))))))))))))))))))))))))))))))))))))))))))))))))))))))))), rfl, rfl, ?_⟩
                    · omega
                    · exact ⟨by omega, k1, k2, k3, k4⟩
              · have k2 := hit_true f2 hpl
                conv => whnf
                cases b3
                · have k3 := hit_test f3 hpl
                  obtain ⟨z3, hz3⟩ : ∃ z, z = cmpQ (pY p) X.1.2.q := ⟨_, rfl⟩
                  rw [← hz3] at k3
                  conv => whnf
                  refine ⟨(p.2, X.1.2), rfl, ⟨RV.sz_ok hps.2 (by decide), RV.sz_ok hBd.sz.1.2 (by decide)⟩, ?_⟩
                  rw [show qcmpS.val (p.2, X.1.2) = .int .i64 z3 from by rw [hz3]; rfl]
                  conv => whnf
                  cases b4
                  · have k4 := hit_test f4 hpl
                    obtain ⟨z4, hz4⟩ : ∃ z, z = cmpQ (pY p) X.2.2.q := ⟨_, rfl⟩
                    rw [← hz4] at k4
                    conv => whnf
                    refine ⟨(p.2, X.2.2), rfl, ⟨RV.sz_ok hps.2 (by decide), RV.sz_ok hBd.sz.2.2 (by decide)⟩, ?_⟩
                    rw [show qcmpS.val (p.2, X.2.2) = .int .i64 z4 from by rw [hz4]; rfl]
                    conv => whnf
                    rw [e7]
                    refine .inr ⟨[0, 1], [0, 3, 8, 9, 10, 11, 64, 65, 66], ?_⟩
                    conv => whnf
                    intro _
                    conv => whnf
                    refine ⟨_, ?_, j + 1, _, _, _, _, (.keep (.skip (.skip (.keep (.skip (.skip (.skip (.skip (.keep (.keep (.keep (.keep (.skip (.skip (.skip (.skip (.skip (.skip (.skip (.skip (.skip (.skip (.skip (.skip (.skip (.skip (.skip (.skip (.skip (.skip (.skip (.skip (.skip (.skip (.skip (.skip (.skip (.skip (.skip (.skip (.skip (.skip (.skip (.skip (.skip (.skip (.skip (.skip (.skip (.skip (.skip (.skip (.skip (.skip (.skip (.skip (.skip (.skip (.skip (.skip (.skip (.skip (.skip (.skip (.keep (.keep (.keep (.skip (.skip (.skip (.skip (.skip (.skip (.skip (.skip (.skip (.skip (.skip (.skip (.skip (.skip (.skip (.skip (.skip (.skip (.skip (.skip (.skip (.skip (.skip (.skip (.skip (.skip (.skip (.skip (.skip (.skip (.skip (.skip (.skip (.skip (.skip (.skip (.skip (.skip (.skip (.skip (.skip (.skip (.skip (.skip (.skip (.skip (.skip (.skip (.skip (.skip (.skip (.skip (.skip (.skip (.skip (.skip (.skip (.skip (.skip (.skip (.skip (.nil))))))))))))))))))))))))))))))))))))))))))))))))))))))))))))))))))))))))))))))))))))))))))))))))))))))))))))))))))))))))))))))))), rfl, rfl, ?_⟩
                    · omega
                    · exact ⟨by omega, k1, k2, k3, k4⟩
                  · have k4 := hit_true f4 hpl
                    conv => whnf
                    rw [e7]
                    refine .inr ⟨[0, 1], [0, 3, 8, 9, 10, 11, 64, 65, 66], ?_⟩
                    conv => whnf
                    intro _
                    conv => whnf
                    refine ⟨_, ?_, j + 1, _, _, _, _, (.keep (.skip (.skip (.keep (.skip (.skip (.skip (.skip (.keep (.keep (.keep (.keep (.skip (.skip (.skip (.skip (.skip (.skip (.skip (.skip (.skip (.skip (.skip (.skip (.skip (.skip (.skip (.skip (.skip (.skip (.skip (.skip (.skip (.skip (.skip (.skip (.skip (.skip (.skip (.skip (.skip (.skip (.skip (.skip (.skip (.skip (.skip (.skip (.skip (.skip (.skip (.skip (.skip (.skip (.skip (.skip (.skip (.skip (.skip (.skip (.skip (.skip (.skip (.skip (.keep (.keep (.keep (.skip (.skip (.skip (.skip (.skip (.skip (.skip (.skip (.skip (.skip (.skip (.skip (.skip (.skip (.skip (.skip (.skip (.skip (.skip (.skip (.skip (.skip (.skip (.skip (.skip (.skip (.skip (.skip (.skip (.skip (.skip (.skip (.skip (.skip (.skip (.skip (.skip (.skip (.skip (.skip (.skip (.skip (.skip (.skip (.skip (.skip (.skip (.skip (.skip (.skip (.skip (.skip (.skip (.skip (.skip (.skip (.skip (.skip (.skip (.skip (.skip (.nil))))))))))))))))))))))))))))))))))))))))))))))))))))))))))))))))))))))))))))))))))))))))))))))))))))))))))))))))))))))))))))))))), rfl, rfl, ?_⟩
                    · omega
                    · exact ⟨by omega, k1, k2, k3, k4⟩
                · have k3 := hit_true f3 hpl
                  conv => whnf
                  cases b4
                  · have k4 := hit_test f4 hpl
                    obtain ⟨z4, hz4⟩ : ∃ z, z = cmpQ (pY p) X.2.2.q := ⟨_, rfl⟩
                    rw [← hz4] at k4
                    conv => whnf
                    refine ⟨(p.2, X.2.2), rfl, ⟨RV.sz_ok hps.2 (by decide), RV.sz_ok hBd.sz.2.2 (by decide)⟩, ?_⟩
                    rw [show qcmpS.val (p.2, X.2.2) = .int .i64 z4 from by rw [hz4]; rfl]
                    conv => whnf
                    rw [e7]
                    refine .inr ⟨[0, 1], [0, 3, 8, 9, 10, 11, 64, 65, 66], ?_⟩
                    conv => whnf
                    intro _
                    conv => whnf
                    refine ⟨_, ?_, j + 1, _, _, _, _, (.keep (.skip (.skip (.keep (.skip (.skip (.skip (.skip (.keep (.keep (.keep (.keep (.skip (.skip (.skip (.skip (.skip (.skip (.skip (.skip (.skip (.skip (.skip (.skip (.skip (.skip (.skip (.skip (.skip (.skip (.skip (.skip (.skip (.skip (.skip (.skip (.skip (.skip (.skip (.skip (.skip (.skip (.skip (.skip (.skip (.skip (.skip (.skip (.skip (.skip (.skip (.skip (.skip (.skip (.skip (.skip (.skip (.skip (.skip (.skip (.skip (.skip (.skip (.skip (.keep (.keep (.keep (.skip (.skip (.skip (.skip (.skip (.skip (.skip (.skip (.skip (.skip (.skip (.skip (.skip (.skip (.skip (.skip (.skip (.skip (.skip (.skip (.skip (.skip (.skip (.skip (.skip (.skip (.skip (.skip (.skip (.skip (.skip (.skip (.skip (.skip (.skip (.skip (.skip (.skip (.skip (.skip (.skip (.skip (.skip (.skip (.skip (.skip (.skip (.skip (.skip (.skip (.skip (.skip (.skip (.skip (.skip (.skip (.skip (.skip (.skip (.skip (.skip (.nil))))))))))))))))))))))))))))))))))))))))))))))))))))))))))))))))))))))))))))))))))))))))))))))))))))))))))))))))))))))))))))))))), rfl, rfl, ?_⟩
                    · omega
                    · exact ⟨by omega, k1, k2, k3, k4⟩
                  · have k4 := hit_true f4 hpl
                    conv => whnf
                    rw [e7]
                    refine .inr ⟨[0, 1], [0, 3, 8, 9, 10, 11, 64, 65, 66], ?_⟩
                    conv => whnf
                    intro _
                    conv => whnf
                    refine ⟨_, ?_, j + 1, _, _, _, _, (.keep (.skip (.skip (.keep (.skip (.skip (.skip (.skip (.keep (.keep (.keep (.keep (.skip (.skip (.skip (.skip (.skip (.skip (.skip (.skip (.skip (.skip (.skip (.skip (.skip (.skip (.skip (.skip (.skip (.skip (.skip (.skip (.skip (.skip (.skip (.skip (.skip (.skip (.skip (.skip (.skip (.skip (.skip (.skip (.skip (.skip (.skip (.skip (.skip (.skip (.skip (.skip (.skip (.skip (.skip (.skip (.skip (.skip (.skip (.skip (.skip (.skip (.skip (.skip (.keep (.keep (.keep (.skip (.skip (.skip (.skip (.skip (.skip (.skip (.skip (.skip (.skip (.skip (.skip (.skip (.skip (.skip (.skip (.skip (.skip (.skip (.skip (.skip (.skip (.skip (.skip (.skip (.skip (.skip (.skip (.skip (.skip (.skip (.skip (.skip (.skip (.skip (.skip (.skip (.skip (.skip (.skip (.skip (.skip (.skip (.skip (.skip (.skip (.skip (.skip (.skip (.skip (.skip (.skip (.skip (.skip (.skip (.skip (.skip (.skip (.skip (.skip (.skip (.nil))))))))))))))))))))))))))))))))))))))))))))))))))))))))))))))))))))))))))))))))))))))))))))))))))))))))))))))))))))))))))))))))), rfl, rfl, ?_⟩
                    · omega
                    · exact ⟨by omega, k1, k2, k3, k4⟩
          · have h3 : j = n := by
              have := of_decide_eq_false h3
              omega
            rw [h3, hn] at f1 f2 f3 f4
            obtain rfl : b1 = true := hit_end f1 hBd.l1
            obtain rfl : b2 = true := hit_end f2 hBd.l2
            obtain rfl : b3 = true := hit_end f3 hBd.l3
            obtain rfl : b4 = true := hit_end f4 hBd.l4
            conv => whnf
            refine ⟨(), rfl, trivial, ?_⟩
            conv => whnf
            exact ⟨.bool true, rfl, .refl _⟩
    · conv => whnf
      refine ⟨(), rfl, trivial, ?_⟩
      conv => whnf
      exact ⟨.bool true, rfl, .refl _⟩
end Go.Proofs.Ytppeponndkfbkaa
/- The statement VectorBounds. -/
set_option linter.unusedVariables false
namespace Go.Proofs.Ytppeponndkfbkaa
open Go Go.Ae Go.ChangeShapes Go.WideShapes Go.ChangeAt Go.RowKit

theorem own : ownKnob Try.prog.godebug = none := by kernel_rfl
theorem laidOut : laidOutB Try.prog = true := by kernel_rfl
set_option maxRecDepth 100000 in
theorem ptTy : PtTy Try.prog 26 28 4 9 :=
  ⟨⟨_, _, _, Try.underlying26, ⟨rfl, rfl⟩, ⟨rfl, rfl⟩, rfl, rfl⟩, ⟨_, _, Try.underlying28, ⟨rfl, rfl⟩, rfl, rfl⟩, Try.underlying4, Try.underlying9, by kernel_rfl, by kernel_rfl, by kernel_rfl, by kernel_rfl⟩

set_option maxRecDepth 100000 in
theorem vectorBounds_lifted (os : Os) (started : os.Started) (H : Type) (enc : TypeId × Value → H) :
    ReturnsInHanded {} Try.checked os 3 .any (Rows.vectorBoundsSpec.pre6 enc Try.prog Try.f3 Rows.vectorBoundsRow.domain false) (Rows.vectorBoundsSpec.post enc Try.prog Try.f3 false true false false) := by
  refine returnsInHanded_of_change (C := Try.checked) own started (by kernel_rfl) Try.func3
    (ChangeSpec.witness6 (enc := enc) (C := Try.checked) false ⟨#[], #[.slice none 0 0], []⟩ 8 (by kernel_rfl) (by kernel_rfl) (by kernel_rfl) (by kernel_rfl)) ?_
  intro W base args ds gs before hval0 hW hcnd _
  have hval : ∀ (j : Nat) t v, Try.f3.params[j]? = some t → args[j]? = some v → Value.okWide Try.prog W .any base t v := hval0
  have hW' := hW
  obtain ⟨p, q, hA0, hV, rfl, hfz, hnd⟩ := hW
  have hA : DataW.TrodAll enc Try.prog W 0 (fun _ => true) true Try.f3.params.toList args.toList ds p := hA0
  rw [Try.params3] at hA hval
  obtain ⟨v0, vs0, d0, ds0, p0, q0, hargs, rfl, rfl, h0, r0⟩ := trodAll_cons hA
  obtain ⟨rfl, rfl, rfl⟩ := trodAll_nil r0
  obtain rfl : args = #[v0] := by cases args; simp_all
  obtain ⟨rfl, rfl⟩ := trodVars_none hV
  obtain ⟨a0, ν, hi, hv0, hH, hν⟩ := open_points ptTy Try.underlying22 (hval 0 22 v0 rfl rfl) h0
  have lt0 : ∀ x ∈ p0, x.block < W.heap.size := by obtain ⟨m, hm⟩ := h0; exact DataW.trod_lt m _ _ _ hm
  clear hA0 hval0
  have hargs2 : LRel ν (boundsS.args a0) [v0] := .cons hv0 (.nil ν)
  refine (calls_of_qsnd bounds_ok (i := a0) hi hargs2 hH hν (b := true) rfl).mono fun e W' ⟨he, bel⟩ => ?_
  subst he
  exact ⟨_, rfl, _, _, _, [], _, [], hW', trodAll_mk1 (shut_bool Try.underlying4 _), (trodAll_cons_mk (Below.trod laidOut (by kernel_rfl) (of_decide_eq_true (by kernel_rfl)) h0 bel lt0) trodAll_mk0), rfl, bel.frame _, fun h => by cases h⟩

theorem vectorBounds_holds : Rows.vectorBoundsRow.holds Try.pinned (OpenSpec.ofChange Rows.vectorBoundsSpec) :=
  OpenClaim.holds_of_wide 3 Try.f3 rfl rfl rfl rfl rfl rfl rfl ⟨rfl, rfl, rfl, rfl, rfl⟩ rfl rfl rfl rfl rfl (by kernel_rfl) Try.func3 (by kernel_rfl)
    (of_decide_eq_true (by kernel_rfl)) (by unfold Func.isWrapper; first | (rw [if_pos (by decide +kernel)]; kernel_rfl) | (rw [if_neg (by decide +kernel)]; exact ⟨rfl, rfl⟩))
    (fun os started H enc _ => vectorBounds_lifted os started H enc)
theorem vectorBounds_proved : Rows.VectorBoundsSaid := vectorBounds_holds
end Go.Proofs.Ytppeponndkfbkaa
