import Derived.Test.YtgakcbdahbagkaaRows
import Derived.Test.YtgakcbdahbagkaaPI
/- The laws of predicates: sorted directions. -/
set_option linter.unusedVariables false
set_option linter.unusedSimpArgs false
set_option maxRecDepth 20000
set_option maxHeartbeats 8000000
namespace Go.Proofs.Ytgakcbdahbagkaa
open Go Go.Ae

theorem pSorted_ok : QSnd Try.prog 7 lawLS := by
  refine qsnd_of Eplok Dok Try.func7 (enters_of Try.func7 (by kernel_rfl) rfl) ?_ ?_ ?_
  · intro i b hb
    cases i with
    | none => simp [lawLS, PL.blks] at hb
    | some i => simp [lawLS, PL.blks] at hb; rw [hb]; rfl
  · intro i b hb; simp [lawLS] at hb
  intro i hp
  have hp : i.ok := hp
  obtain ⟨cu, hcu⟩ : ∃ cu, cu = capU := ⟨_, rfl⟩
  cases i with
  | none =>
    conv => whnf
    refine ⟨none, [], rfl, by show 0 ≤ 1099511627776; decide, ?_⟩
    conv => whnf
    refine ⟨.bool false, rfl, ?_⟩
    conv => whnf
    obtain ⟨gz, hgz⟩ : ∃ gz, gz = rowsP (sortR []) := ⟨_, rfl⟩
    refine ⟨none, [], rfl, ⟨.inl (by decide), by decide, fun p hp => (by cases hp)⟩, ?_⟩
    rw [show predSortS.blks none = [] from rfl, show predSortS.val none = .tuple ⟨[.slice (some ⟨0, 0, none⟩) 0 cu, .int .i64 0]⟩ from by rw [hcu]; rfl, show predSortS.new none = some (.flat true 0 6 gz) from by rw [hgz]; rfl]
    conv => whnf
    refine ⟨_, rfl, ?_⟩
    conv => whnf
    obtain ⟨o, co, eo, po, so, qo⟩ := hidePc (ofsz (0) (0) (by decide) (by decide))
    refine ⟨(((0 : Int), (0 : Int)) : Int × Int), rfl, ⟨⟨by decide, by decide⟩, ⟨by decide, by decide⟩⟩, ?_⟩
    rw [show vofS.val (((0 : Int), (0 : Int)) : Int × Int) = o.v from eo]
    conv => whnf
    refine .inr ⟨1, ?_⟩
    conv => whnf
    refine .inr ⟨1, ?_⟩
    conv => whnf
    refine ⟨(), rfl, trivial, ?_⟩
    conv => whnf
    exact ⟨.bool true, rfl, .refl _⟩
  | some i =>
    obtain ⟨l, c⟩ := i
    have hp : l.length ≤ 9223372036854775807 := hp
    obtain ⟨n, hn⟩ : ∃ n, n = l.length := ⟨_, rfl⟩
    obtain ⟨g, hg⟩ : ∃ g, g = rowsP l := ⟨_, rfl⟩
    obtain ⟨M, hM⟩ : ∃ M, M = sortR l := ⟨_, rfl⟩
    obtain ⟨gs, hgs⟩ : ∃ gs, gs = rowsP M := ⟨_, rfl⟩
    have hMn : M.length = n := by rw [hM, sortR_length, hn]
    rw [show lawLS.blks (some (l, c)) = [.flat false n 6 g] from by rw [hn, hg]; rfl, show lawLS.args (some (l, c)) = [.slice (some ⟨0, 0, none⟩) n c] from by rw [hn]; rfl]
    have e1 : (bigS 12).blks (some (l, c)) = [.flat false n 6 g] := by rw [hn, hg]; rfl
    have e2 : (bigS 12).args (some (l, c)) = [.slice (some ⟨0, 0, none⟩) n c] := by rw [hn]; rfl
    have e3 : predSortS.blks (some (l, c)) = [.flat false n 6 g] := by rw [hn, hg]; rfl
    have e4 : predSortS.args (some (l, c)) = [.slice (some ⟨0, 0, none⟩) n c] := by rw [hn]; rfl
    conv => whnf
    by_cases h1 : 12 < n
    · rw [show decide (((n : Nat) : Int) > 12) = true from decide_eq_true (by omega)]
      conv => whnf
      refine ⟨(), rfl, trivial, ?_⟩
      conv => whnf
      exact ⟨.bool true, rfl, .refl _⟩
    · rw [show decide (((n : Nat) : Int) > 12) = false from decide_eq_false (by omega)]
      conv => whnf
      obtain ⟨G, hG⟩ : ∃ G, G = anyBig 12 l := ⟨_, rfl⟩
      refine ⟨some (l, c), [0], by rw [e2]; rfl, by show l.length ≤ 1099511627776; omega, ?_⟩
      rw [e1, show (bigS 12).val (some (l, c)) = .bool G from by rw [hG]; rfl, show (bigS 12).new (some (l, c)) = none from rfl]
      conv => whnf
      refine ⟨list_blk hg, ?_⟩
      conv => whnf
      refine ⟨.bool G, rfl, ?_⟩
      cases hG2 : G
      · have hsz := anyBig_false (hG.symm.trans hG2)
        have hMs : ∀ p ∈ M, p.sz 12 := by rw [hM]; exact sortR_sz (by decide) hsz
        conv => whnf
        refine ⟨some (l, c), [0], by rw [e4]; rfl, ⟨.inl (by show l.length ≤ 12; omega), by show l.length ≤ 1099511627776; omega, fun p hp => PV.sz_mono (hsz p hp) (by decide)⟩, ?_⟩
        rw [e3, show predSortS.val (some (l, c)) = .tuple ⟨[.slice (some ⟨1, 0, none⟩) n cu, .int .i64 0]⟩ from by
          show (if 1000 < l.length then _ else _) = _
          rw [if_neg (by omega), hn, hcu]; rfl, show predSortS.new (some (l, c)) = some (.flat true n 6 gs) from by
          show (if 1000 < l.length then _ else _) = _
          rw [if_neg (by omega), hn, hgs, hM]; rfl]
        conv => whnf
        refine ⟨list_blk hg, ?_⟩
        conv => whnf
        refine ⟨_, rfl, ?_⟩
        conv => whnf
        rw [show (((n : Nat) : Int) != ((n : Nat) : Int)) = false from by simp]
        conv => whnf
        obtain ⟨o, co, eo, po, so, qo⟩ := hidePc (ofsz (0) (0) (by decide) (by decide))
        refine ⟨(((0 : Int), (0 : Int)) : Int × Int), rfl, ⟨⟨by decide, by decide⟩, ⟨by decide, by decide⟩⟩, ?_⟩
        rw [show vofS.val (((0 : Int), (0 : Int)) : Int × Int) = o.v from eo]
        conv => whnf
        refine .inl ⟨fun mm tz hz => ∃ (i : Nat), Pat [some (.slice (some ⟨0, 0, none⟩) n c), none, none, some (.slice (some ⟨1, 0, none⟩) n cu), none, some (.pointer (some ⟨2, 0, none⟩)), some (.int .i64 i), none, none, none, none, none, none, none, none, none, none, none, none, none, none, none, none, none, none, none, none, none, none, none, none, none, none, none, none, none, none, none, none, none, none, none, none, none, none, none, none, none, none, none, none, none, none, none, none, none, none, none, none, none, none, none, none, none, none, none, none, none, none, none, none, none, none, none, none, none, none, none, none, none, none, none, none, none, none, none, none, none, none, none, none, none, none, none, none, none, none, none, none, none, none, none, none, none, none, none, none, none, none, none, none, none, none] tz ∧ hz = [some (.flat false n 6 g), some (.flat true n 6 gs), some (.expl true 6 [o.cells])] ∧ n + 1 - i = mm ∧ (1 ≤ i ∧ i ≤ n + 1), .inr ⟨[0, 1, 2], [0, 3, 5, 6], ?_⟩, ?_⟩
        · conv => whnf
          intro _
          conv => whnf
          refine ⟨_, 1, (.keep (.skip (.skip (.keep (.skip (.keep (.keep (.skip (.skip (.skip (.skip (.skip (.skip (.skip (.skip (.skip (.skip (.skip (.skip (.skip (.skip (.skip (.skip (.skip (.skip (.skip (.skip (.skip (.skip (.skip (.skip (.skip (.skip (.skip (.skip (.skip (.skip (.skip (.skip (.skip (.skip (.skip (.skip (.skip (.skip (.skip (.skip (.skip (.skip (.skip (.skip (.skip (.skip (.skip (.skip (.skip (.skip (.skip (.skip (.skip (.skip (.skip (.skip (.skip (.skip (.skip (.skip (.skip (.skip (.skip (.skip (.skip (.skip (.skip (.skip (.skip (.skip (.skip (.skip (.skip (.skip (.skip (.skip (.skip (.skip (.skip (.skip (.skip (.skip (.skip (.skip (.skip (.skip (.skip (.skip (.skip (.skip (.skip (.skip (.skip (.skip (.skip (.skip (.skip (.skip (.skip (.skip (.skip (.skip (.skip (.skip (.skip (.skip (.nil)))))))))))))))))))))))))))))))))))))))))))))))))))))))))))))))))))))))))))))))))))))))))))))))))))))))))))))))))), rfl, rfl, ?_⟩
          exact ⟨Nat.le_refl _, by omega⟩
        rintro mm tms _ ⟨i, hpat, rfl, rfl, ⟨hi1, hi2⟩⟩
        obtain ⟨az, rfl⟩ : ∃ az : Nat → Value, tms = [.slice (some ⟨0, 0, none⟩) n c, az 1, az 2, .slice (some ⟨1, 0, none⟩) n cu, az 4, .pointer (some ⟨2, 0, none⟩), .int .i64 i, az 7, az 8, az 9, az 10, az 11, az 12, az 13, az 14, az 15, az 16, az 17, az 18, az 19, az 20, az 21, az 22, az 23, az 24, az 25, az 26, az 27, az 28, az 29, az 30, az 31, az 32, az 33, az 34, az 35, az 36, az 37, az 38, az 39, az 40, az 41, az 42, az 43, az 44, az 45, az 46, az 47, az 48, az 49, az 50, az 51, az 52, az 53, az 54, az 55, az 56, az 57, az 58, az 59, az 60, az 61, az 62, az 63, az 64, az 65, az 66, az 67, az 68, az 69, az 70, az 71, az 72, az 73, az 74, az 75, az 76, az 77, az 78, az 79, az 80, az 81, az 82, az 83, az 84, az 85, az 86, az 87, az 88, az 89, az 90, az 91, az 92, az 93, az 94, az 95, az 96, az 97, az 98, az 99, az 100, az 101, az 102, az 103, az 104, az 105, az 106, az 107, az 108, az 109, az 110, az 111, az 112] := pat_fill hpat
        clear hpat
        conv => whnf
        refine br_intro (fun h3 => ?_) (fun h3 => ?_)
        · have h3 : i < n := by
            have := of_decide_eq_true h3
            omega
          obtain ⟨j, hj⟩ : ∃ j, i = j + 1 := ⟨i - 1, by omega⟩
          obtain ⟨x, hxl, hxm, hrx⟩ := rowsP_get (l := M) (i := j) (by omega)
          obtain ⟨y, hyl, hym, hry⟩ := rowsP_get (l := M) (i := i) (by omega)
          rw [← hgs] at hrx hry
          have sx := hMs x hxm
          have sy := hMs y hym
          have qx := PV.psz sx (by decide)
          have qy := PV.psz sy (by decide)
          obtain ⟨k1, k2⟩ := cmpV_le (sortR_next (l := l) (by rw [← hM]; exact hxl) (by rw [← hM, ← hj]; exact hyl))
          have ej : IntKind.i64.wrap ((i : Int) - 1) = (j : Int) := by rw [wrapi64 (by omega) (by omega)]; omega
          have e7 : IntKind.i64.wrap ((i : Int) + 1) = ((i + 1 : Nat) : Int) := by rw [wrapi64 (by omega) (by omega)]; rfl
          conv => whnf
          refine .inl ⟨9, [[], [], [1], [0, 1, 2], [0, 1, 2, 3], [], [], [5, 6], [5, 6, 7], [0, 1, 2, 3, 4, 5, 6, 7, 8], [0, 1, 2, 3, 4, 5, 6, 7, 8, 9]], by kernel_rfl, ?_⟩
          conv => whnf
          rw [ej]
          refine ⟨⟨by omega, by omega⟩, ?_⟩
          simp only [toNat_cast, rowAdd_eq, Nat.zero_add]
          conv => whnf
          refine ⟨by show j < n; omega, ?_⟩
          conv => whnf
          rw [hrx]
          conv => whnf
          refine ⟨⟨by omega, by omega⟩, ?_⟩
          simp only [toNat_cast, rowAdd_eq, Nat.zero_add]
          conv => whnf
          refine ⟨by show i < n; omega, ?_⟩
          conv => whnf
          rw [hry]
          conv => whnf
          obtain ⟨a, ea, pa⟩ := hideZ (angR x.p y.p)
          refine ⟨(x, y), rfl, ⟨PV.sz_mono sx (by decide), PV.sz_mono sy (by decide)⟩, ?_⟩
          rw [show angleS.val (x, y) = .int .i64 a from ea]
          conv => whnf
          refine .inl ⟨18, [[], [0], [0, 1], [0, 1, 2], [0, 1, 2, 3], [0, 1, 2, 3, 4], [0, 1, 2, 3, 4, 5], [0, 1, 2, 3, 4, 5], [0, 1, 2, 3, 4, 5], [0, 1, 2, 3, 4, 5, 8], [0, 1, 2, 3, 4, 5, 7, 8, 9], [0, 1, 2, 3, 4, 5, 7, 8, 9, 10], [0, 1, 2, 3, 4, 5, 6, 7, 8, 9, 10, 11], [0, 1, 2, 3, 4, 5], [0, 1, 2, 3, 4, 5], [0, 1, 2, 3, 4, 5], [0, 1, 2, 3, 4, 5, 14, 15], [0, 1, 2, 3, 4, 5, 14, 15, 16], [0, 1, 2, 3, 4, 5, 6, 7, 8, 9, 10, 11, 12, 13, 14, 15, 16, 17], [0, 1, 2, 3, 4, 5, 6, 7, 8, 9, 10, 11, 12, 13, 14, 15, 16, 17, 18], [0, 1, 2, 3, 4, 5, 6, 7, 8, 9, 10, 11, 12, 13, 14, 15, 16, 17, 18, 19], [0, 1, 2, 3, 4, 5, 6, 7, 8, 9, 10, 11, 12, 13, 14, 15, 16, 17, 18, 19, 20], [0, 1, 2, 3, 4, 5, 6, 7, 8, 9, 10, 11, 12, 13, 14, 15, 16, 17, 18, 19, 20, 21]], by kernel_rfl, ?_⟩
          conv => whnf
          rw [show decide (a > 0) = false from decide_eq_false (by omega)]
          conv => whnf
          by_cases ha : a = 0
          · have hd := k2 (pa.symm.trans ha)
            rw [show (a == 0) = true from by simp [ha]]
            conv => whnf
            rw [ej]
            refine ⟨⟨by omega, by omega⟩, ?_⟩
            simp only [toNat_cast, rowAdd_eq, Nat.zero_add]
            conv => whnf
            refine ⟨by show j < n; omega, ?_⟩
            conv => whnf
            rw [hrx]
            conv => whnf
            obtain ⟨d1, ed1, pd1, sd1, qd1⟩ := hideR (dst_sz qo qx)
            refine ⟨(o, x), rfl, ⟨PV.sz_mono so (by decide), PV.sz_mono sx (by decide)⟩, ?_⟩
            rw [show vdistS.val (o, x) = d1.v from (dist_val o x).trans ed1]
            conv => whnf
            refine ⟨⟨by omega, by omega⟩, ?_⟩
            simp only [toNat_cast, rowAdd_eq, Nat.zero_add]
            conv => whnf
            refine ⟨by show i < n; omega, ?_⟩
            conv => whnf
            rw [hry]
            conv => whnf
            obtain ⟨d2, ed2, pd2, sd2, qd2⟩ := hideR (dst_sz qo qy)
            refine ⟨(o, y), rfl, ⟨PV.sz_mono so (by decide), PV.sz_mono sy (by decide)⟩, ?_⟩
            rw [show vdistS.val (o, y) = d2.v from (dist_val o y).trans ed2]
            conv => whnf
            obtain ⟨d, ed, pd⟩ := hideZ (cmpQ d1.q d2.q)
            refine ⟨(d1, d2), rfl, ⟨RV.sz_ok sd1 (by decide), RV.sz_ok sd2 (by decide)⟩, ?_⟩
            rw [show qcmpS.val (d1, d2) = .int .i64 d from ed]
            conv => whnf
            rw [show decide (d > 0) = false from decide_eq_false (by
              have : d ≤ 0 := by rw [pd, pd1, pd2, dst_zero po, dst_zero po]; exact cmpQ_le.2 hd
              omega)]
            conv => whnf
            rw [e7]
            refine .inr ⟨[0, 1, 2], [0, 3, 5, 6], ?_⟩
            conv => whnf
            intro _
            conv => whnf
            refine ⟨_, ?_, i + 1, (.keep (.skip (.skip (.keep (.skip (.keep (.keep (.skip (.skip (.skip (.skip (.skip (.skip (.skip (.skip (.skip (.skip (.skip (.skip (.skip (.skip (.skip (.skip (.skip (.skip (.skip (.skip (.skip (.skip (.skip (.skip (.skip (.skip (.skip (.skip (.skip (.skip (.skip (.skip (.skip (.skip (.skip (.skip (.skip (.skip (.skip (.skip (.skip (.skip (.skip (.skip (.skip (.skip (.skip (.skip (.skip (.skip (.skip (.skip (.skip (.skip (.skip (.skip (.skip (.skip (.skip (.skip (.skip (.skip (.skip (.skip (.skip (.skip (.skip (.skip (.skip (.skip (.skip (.skip (.skip (.skip (.skip (.skip (.skip (.skip (.skip (.skip (.skip (.skip (.skip (.skip (.skip (.skip (.skip (.skip (.skip (.skip (.skip (.skip (.skip (.skip (.skip (.skip (.skip (.skip (.skip (.skip (.skip (.skip (.skip (.skip (.skip (.skip (.nil)))))))))))))))))))))))))))))))))))))))))))))))))))))))))))))))))))))))))))))))))))))))))))))))))))))))))))))))))), rfl, rfl, ?_⟩
            · omega
            · exact ⟨by omega, by omega⟩
          · rw [show (a == 0) = false from by simp [ha]]
            conv => whnf
            rw [e7]
            refine .inr ⟨[0, 1, 2], [0, 3, 5, 6], ?_⟩
            conv => whnf
            intro _
            conv => whnf
            refine ⟨_, ?_, i + 1, (.keep (.skip (.skip (.keep (.skip (.keep (.keep (.skip (.skip (.skip (.skip (.skip (.skip (.skip (.skip (.skip (.skip (.skip (.skip (.skip (.skip (.skip (.skip (.skip (.skip (.skip (.skip (.skip (.skip (.skip (.skip (.skip (.skip (.skip (.skip (.skip (.skip (.skip (.skip (.skip (.skip (.skip (.skip (.skip (.skip (.skip (.skip (.skip (.skip (.skip (.skip (.skip (.skip (.skip (.skip (.skip (.skip (.skip (.skip (.skip (.skip (.skip (.skip (.skip (.skip (.skip (.skip (.skip (.skip (.skip (.skip (.skip (.skip (.skip (.skip (.skip (.skip (.skip (.skip (.skip (.skip (.skip (.skip (.skip (.skip (.skip (.skip (.skip (.skip (.skip (.skip (.skip (.skip (.skip (.skip (.skip (.skip (.skip (.skip (.skip (.skip (.skip (.skip (.skip (.skip (.skip (.skip (.skip (.skip (.skip (.skip (.skip (.skip (.nil)))))))))))))))))))))))))))))))))))))))))))))))))))))))))))))))))))))))))))))))))))))))))))))))))))))))))))))))))), rfl, rfl, ?_⟩
            · omega
            · exact ⟨by omega, by omega⟩
        · have h3 : n ≤ i := by
            have := of_decide_eq_false h3
            omega
          conv => whnf
          skip
          refine .inl ⟨fun mm tz hz => ∃ (j : Nat), Pat [some (.slice (some ⟨0, 0, none⟩) n c), none, none, some (.slice (some ⟨1, 0, none⟩) n cu), none, none, none, none, none, none, none, none, none, none, none, none, none, none, none, none, none, none, none, none, none, none, none, none, none, none, none, none, none, none, none, none, none, none, none, none, none, none, none, none, none, none, none, none, none, none, none, none, none, none, none, none, none, none, none, none, none, none, none, none, none, none, none, none, none, none, none, none, none, none, none, none, none, some (.slice (some ⟨0, 0, none⟩) n c), some (.int .i64 n), some (.int .i64 j), none, none, none, none, none, none, none, none, none, none, none, none, none, none, none, none, none, none, none, none, none, none, none, none, none, none, none, none, none, none, none, none, none] tz ∧ hz = [some (.flat false n 6 g), some (.flat true n 6 gs)] ∧ n - j = mm ∧ (j ≤ n), .inr ⟨[0, 1], [0, 3, 77, 78, 79], ?_⟩, ?_⟩
          · conv => whnf
            intro _
            conv => whnf
            refine ⟨_, 0, (.keep (.skip (.skip (.keep (.skip (.skip (.skip (.skip (.skip (.skip (.skip (.skip (.skip (.skip (.skip (.skip (.skip (.skip (.skip (.skip (.skip (.skip (.skip (.skip (.skip (.skip (.skip (.skip (.skip (.skip (.skip (.skip (.skip (.skip (.skip (.skip (.skip (.skip (.skip (.skip (.skip (.skip (.skip (.skip (.skip (.skip (.skip (.skip (.skip (.skip (.skip (.skip (.skip (.skip (.skip (.skip (.skip (.skip (.skip (.skip (.skip (.skip (.skip (.skip (.skip (.skip (.skip (.skip (.skip (.skip (.skip (.skip (.skip (.skip (.skip (.skip (.skip (.keep (.keep (.keep (.skip (.skip (.skip (.skip (.skip (.skip (.skip (.skip (.skip (.skip (.skip (.skip (.skip (.skip (.skip (.skip (.skip (.skip (.skip (.skip (.skip (.skip (.skip (.skip (.skip (.skip (.skip (.skip (.skip (.skip (.skip (.skip (.skip (.nil)))))))))))))))))))))))))))))))))))))))))))))))))))))))))))))))))))))))))))))))))))))))))))))))))))))))))))))))))), rfl, rfl, ?_⟩
            exact Nat.zero_le _
          rintro mm tms _ ⟨j, hpat, rfl, rfl, hj⟩
          obtain ⟨az, rfl⟩ : ∃ az : Nat → Value, tms = [.slice (some ⟨0, 0, none⟩) n c, az 1, az 2, .slice (some ⟨1, 0, none⟩) n cu, az 4, az 5, az 6, az 7, az 8, az 9, az 10, az 11, az 12, az 13, az 14, az 15, az 16, az 17, az 18, az 19, az 20, az 21, az 22, az 23, az 24, az 25, az 26, az 27, az 28, az 29, az 30, az 31, az 32, az 33, az 34, az 35, az 36, az 37, az 38, az 39, az 40, az 41, az 42, az 43, az 44, az 45, az 46, az 47, az 48, az 49, az 50, az 51, az 52, az 53, az 54, az 55, az 56, az 57, az 58, az 59, az 60, az 61, az 62, az 63, az 64, az 65, az 66, az 67, az 68, az 69, az 70, az 71, az 72, az 73, az 74, az 75, az 76, .slice (some ⟨0, 0, none⟩) n c, .int .i64 n, .int .i64 j, az 80, az 81, az 82, az 83, az 84, az 85, az 86, az 87, az 88, az 89, az 90, az 91, az 92, az 93, az 94, az 95, az 96, az 97, az 98, az 99, az 100, az 101, az 102, az 103, az 104, az 105, az 106, az 107, az 108, az 109, az 110, az 111, az 112] := pat_fill hpat
          clear hpat
          conv => whnf
          refine br_intro (fun h4 => ?_) (fun h4 => ?_)
          · have h4 : j < n := by
              have := of_decide_eq_true h4
              omega
            obtain ⟨p, hpl, hpm, hrp⟩ := rowsP_get (l := l) (i := j) (by omega)
            rw [← hg] at hrp
            have sp := hsz p hpm
            have e7 : IntKind.i64.wrap ((j : Int) + 1) = ((j + 1 : Nat) : Int) := by rw [wrapi64 (by omega) (by omega)]; rfl
            conv => whnf
            refine ⟨⟨by omega, by omega⟩, ?_⟩
            simp only [toNat_cast, rowAdd_eq, Nat.zero_add]
            conv => whnf
            refine ⟨by show j < n; omega, ?_⟩
            conv => whnf
            rw [hrp]
            conv => whnf
            refine .inl ⟨fun mm tz hz => ∃ (k : Nat), Pat [some (.slice (some ⟨0, 0, none⟩) n c), none, none, some (.slice (some ⟨1, 0, none⟩) n cu), none, none, none, none, none, some (.pointer (some ⟨2, 0, none⟩)), some (.int .i64 (cnt p (M.take k))), none, none, none, none, none, none, none, none, none, none, none, none, none, none, none, none, none, none, none, none, none, none, none, none, none, none, none, none, none, none, none, none, none, none, none, none, none, none, none, none, none, none, none, none, none, none, none, none, none, none, none, none, none, none, none, none, none, none, none, none, none, none, none, none, none, none, some (.slice (some ⟨0, 0, none⟩) n c), some (.int .i64 n), some (.int .i64 j), none, none, none, some (.slice (some ⟨1, 0, none⟩) n cu), some (.int .i64 n), some (.int .i64 k), none, none, none, none, none, none, none, none, none, none, none, none, none, none, none, none, none, none, none, none, none, none, none, none, none, none, none] tz ∧ hz = [some (.flat false n 6 g), some (.flat true n 6 gs), some (.expl true 6 [p.cells])] ∧ n - k = mm ∧ (k ≤ n), .inr ⟨[0, 1, 2], [0, 3, 9, 10, 77, 78, 79, 83, 84, 85], ?_⟩, ?_⟩
            · conv => whnf
              intro _
              conv => whnf
              refine ⟨_, 0, (.keep (.skip (.skip (.keep (.skip (.skip (.skip (.skip (.skip (.keep (.keep (.skip (.skip (.skip (.skip (.skip (.skip (.skip (.skip (.skip (.skip (.skip (.skip (.skip (.skip (.skip (.skip (.skip (.skip (.skip (.skip (.skip (.skip (.skip (.skip (.skip (.skip (.skip (.skip (.skip (.skip (.skip (.skip (.skip (.skip (.skip (.skip (.skip (.skip (.skip (.skip (.skip (.skip (.skip (.skip (.skip (.skip (.skip (.skip (.skip (.skip (.skip (.skip (.skip (.skip (.skip (.skip (.skip (.skip (.skip (.skip (.skip (.skip (.skip (.skip (.skip (.skip (.keep (.keep (.keep (.skip (.skip (.skip (.keep (.keep (.keep (.skip (.skip (.skip (.skip (.skip (.skip (.skip (.skip (.skip (.skip (.skip (.skip (.skip (.skip (.skip (.skip (.skip (.skip (.skip (.skip (.skip (.skip (.skip (.skip (.skip (.skip (.skip (.nil)))))))))))))))))))))))))))))))))))))))))))))))))))))))))))))))))))))))))))))))))))))))))))))))))))))))))))))))))), rfl, rfl, ?_⟩
              exact Nat.zero_le _
            rintro mm tms _ ⟨k, hpat, rfl, rfl, hk⟩
            obtain ⟨az, rfl⟩ : ∃ az : Nat → Value, tms = [.slice (some ⟨0, 0, none⟩) n c, az 1, az 2, .slice (some ⟨1, 0, none⟩) n cu, az 4, az 5, az 6, az 7, az 8, .pointer (some ⟨2, 0, none⟩), .int .i64 (cnt p (M.take k)), az 11, az 12, az 13, az 14, az 15, az 16, az 17, az 18, az 19, az 20, az 21, az 22, az 23, az 24, az 25, az 26, az 27, az 28, az 29, az 30, az 31, az 32, az 33, az 34, az 35, az 36, az 37, az 38, az 39, az 40, az 41, az 42, az 43, az 44, az 45, az 46, az 47, az 48, az 49, az 50, az 51, az 52, az 53, az 54, az 55, az 56, az 57, az 58, az 59, az 60, az 61, az 62, az 63, az 64, az 65, az 66, az 67, az 68, az 69, az 70, az 71, az 72, az 73, az 74, az 75, az 76, .slice (some ⟨0, 0, none⟩) n c, .int .i64 n, .int .i64 j, az 80, az 81, az 82, .slice (some ⟨1, 0, none⟩) n cu, .int .i64 n, .int .i64 k, az 86, az 87, az 88, az 89, az 90, az 91, az 92, az 93, az 94, az 95, az 96, az 97, az 98, az 99, az 100, az 101, az 102, az 103, az 104, az 105, az 106, az 107, az 108, az 109, az 110, az 111, az 112] := pat_fill hpat
            clear hpat
            conv => whnf
            refine br_intro (fun h5 => ?_) (fun h5 => ?_)
            · have h5 : k < n := by
                have := of_decide_eq_true h5
                omega
              obtain ⟨q, hql, hqm, hrq⟩ := rowsP_get (l := M) (i := k) (by omega)
              rw [← hgs] at hrq
              have sq := hMs q hqm
              have hst := cnt_step (p := p) hql
              have hbd := cnt_take_le p M k
              have e8 : IntKind.i64.wrap ((k : Int) + 1) = ((k + 1 : Nat) : Int) := by rw [wrapi64 (by omega) (by omega)]; rfl
              obtain ⟨ck, hck⟩ : ∃ ck, ck = cnt p (M.take k) := ⟨_, rfl⟩
              rw [← hck] at hst hbd ⊢
              conv => whnf
              refine ⟨⟨by omega, by omega⟩, ?_⟩
              simp only [toNat_cast, rowAdd_eq, Nat.zero_add]
              conv => whnf
              refine ⟨by show k < n; omega, ?_⟩
              conv => whnf
              rw [hrq]
              conv => whnf
              obtain ⟨r, er, pr⟩ := hideZ (cmpR p.p q.p)
              refine ⟨(p, q), rfl, ⟨PV.sz_mono sp (by decide), PV.sz_mono sq (by decide)⟩, ?_⟩
              rw [show vcmpS.val (p, q) = .int .i64 r from er]
              conv => whnf
              by_cases hr : r = 0
              · rw [if_pos (pr.symm.trans hr)] at hst
                rw [show (r == 0) = true from by simp [hr]]
                conv => whnf
                rw [e8, show IntKind.i64.wrap (((ck : Nat) : Int) + 1) = ((cnt p (M.take (k + 1)) : Nat) : Int) from by rw [hst, wrapi64 (by omega) (by omega)]; rfl]
                refine .inr ⟨[0, 1, 2], [0, 3, 9, 10, 77, 78, 79, 83, 84, 85], ?_⟩
                conv => whnf
                intro _
                conv => whnf
                refine ⟨_, ?_, k + 1, (.keep (.skip (.skip (.keep (.skip (.skip (.skip (.skip (.skip (.keep (.keep (.skip (.skip (.skip (.skip (.skip (.skip (.skip (.skip (.skip (.skip (.skip (.skip (.skip (.skip (.skip (.skip (.skip (.skip (.skip (.skip (.skip (.skip (.skip (.skip (.skip (.skip (.skip (.skip (.skip (.skip (.skip (.skip (.skip (.skip (.skip (.skip (.skip (.skip (.skip (.skip (.skip (.skip (.skip (.skip (.skip (.skip (.skip (.skip (.skip (.skip (.skip (.skip (.skip (.skip (.skip (.skip (.skip (.skip (.skip (.skip (.skip (.skip (.skip (.skip (.skip (.skip (.keep (.keep (.keep (.skip (.skip (.skip (.keep (.keep (.keep (.skip (.skip (.skip (.skip (.skip (.skip (.skip (.skip (.skip (.skip (.skip (.skip (.skip (.skip (.skip (.skip (.skip (.skip (.skip (.skip (.skip (.skip (.skip (.skip (.skip (.skip (.skip (.nil)))))))))))))))))))))))))))))))))))))))))))))))))))))))))))))))))))))))))))))))))))))))))))))))))))))))))))))))))), rfl, rfl, ?_⟩
                · omega
                · omega
              · rw [if_neg (fun h => hr (pr.trans h))] at hst
                rw [show (r == 0) = false from by simp [hr]]
                conv => whnf
                rw [e8, show ck = cnt p (M.take (k + 1)) from hst.symm]
                refine .inr ⟨[0, 1, 2], [0, 3, 9, 10, 77, 78, 79, 83, 84, 85], ?_⟩
                conv => whnf
                intro _
                conv => whnf
                refine ⟨_, ?_, k + 1, (.keep (.skip (.skip (.keep (.skip (.skip (.skip (.skip (.skip (.keep (.keep (.skip (.skip (.skip (.skip (.skip (.skip (.skip (.skip (.skip (.skip (.skip (.skip (.skip (.skip (.skip (.skip (.skip (.skip (.skip (.skip (.skip (.skip (.skip (.skip (.skip (.skip (.skip (.skip (.skip (.skip (.skip (.skip (.skip (.skip (.skip (.skip (.skip (.skip (.skip (.skip (.skip (.skip (.skip (.skip (.skip (.skip (.skip (.skip (.skip (.skip (.skip (.skip (.skip (.skip (.skip (.skip (.skip (.skip (.skip (.skip (.skip (.skip (.skip (.skip (.skip (.skip (.keep (.keep (.keep (.skip (.skip (.skip (.keep (.keep (.keep (.skip (.skip (.skip (.skip (.skip (.skip (.skip (.skip (.skip (.skip (.skip (.skip (.skip (.skip (.skip (.skip (.skip (.skip (.skip (.skip (.skip (.skip (.skip (.skip (.skip (.skip (.skip (.nil)))))))))))))))))))))))))))))))))))))))))))))))))))))))))))))))))))))))))))))))))))))))))))))))))))))))))))))))))), rfl, rfl, ?_⟩
                · omega
                · omega
            · have h5 : k = n := by
                have := of_decide_eq_false h5
                omega
              subst h5
              have hcM : cnt p (M.take k) = cnt p l := by rw [← hMn, List.take_length, hM, cnt_sort]
              rw [hcM]
              conv => whnf
              skip
              refine .inl ⟨fun mm tz hz => ∃ (m : Nat), Pat [some (.slice (some ⟨0, 0, none⟩) k c), none, none, some (.slice (some ⟨1, 0, none⟩) k cu), none, none, none, none, none, some (.pointer (some ⟨2, 0, none⟩)), some (.int .i64 ((cnt p l : Int) - (cnt p (l.take m) : Int))), none, none, none, none, none, none, none, none, none, none, none, none, none, none, none, none, none, none, none, none, none, none, none, none, none, none, none, none, none, none, none, none, none, none, none, none, none, none, none, none, none, none, none, none, none, none, none, none, none, none, none, none, none, none, none, none, none, none, none, none, none, none, none, none, none, none, some (.slice (some ⟨0, 0, none⟩) k c), some (.int .i64 k), some (.int .i64 j), none, none, none, none, none, none, none, none, none, none, none, none, none, none, none, none, some (.slice (some ⟨0, 0, none⟩) k c), some (.int .i64 k), some (.int .i64 m), none, none, none, none, none, none, none, none, none, none, none, none, none, none] tz ∧ hz = [some (.flat false k 6 g), some (.flat true k 6 gs), some (.expl true 6 [p.cells])] ∧ k - m = mm ∧ (m ≤ k), .inr ⟨[0, 1, 2], [0, 3, 9, 10, 77, 78, 79, 96, 97, 98], ?_⟩, ?_⟩
              · conv => whnf
                intro _
                conv => whnf
                refine ⟨_, 0, (.keep (.skip (.skip (.keep (.skip (.skip (.skip (.skip (.skip (.keep (.keep (.skip (.skip (.skip (.skip (.skip (.skip (.skip (.skip (.skip (.skip (.skip (.skip (.skip (.skip (.skip (.skip (.skip (.skip (.skip (.skip (.skip (.skip (.skip (.skip (.skip (.skip (.skip (.skip (.skip (.skip (.skip (.skip (.skip (.skip (.skip (.skip (.skip (.skip (.skip (.skip (.skip (.skip (.skip (.skip (.skip (.skip (.skip (.skip (.skip (.skip (.skip (.skip (.skip (.skip (.skip (.skip (.skip (.skip (.skip (.skip (.skip (.skip (.skip (.skip (.skip (.skip (.keep (.keep (.keep (.skip (.skip (.skip (.skip (.skip (.skip (.skip (.skip (.skip (.skip (.skip (.skip (.skip (.skip (.skip (.skip (.keep (.keep (.keep (.skip (.skip (.skip (.skip (.skip (.skip (.skip (.skip (.skip (.skip (.skip (.skip (.skip (.skip (.nil)))))))))))))))))))))))))))))))))))))))))))))))))))))))))))))))))))))))))))))))))))))))))))))))))))))))))))))))))), rfl, rfl, ?_⟩
                exact Nat.zero_le _
              rintro mm tms _ ⟨m, hpat, rfl, rfl, hm⟩
              obtain ⟨az, rfl⟩ : ∃ az : Nat → Value, tms = [.slice (some ⟨0, 0, none⟩) k c, az 1, az 2, .slice (some ⟨1, 0, none⟩) k cu, az 4, az 5, az 6, az 7, az 8, .pointer (some ⟨2, 0, none⟩), .int .i64 ((cnt p l : Int) - (cnt p (l.take m) : Int)), az 11, az 12, az 13, az 14, az 15, az 16, az 17, az 18, az 19, az 20, az 21, az 22, az 23, az 24, az 25, az 26, az 27, az 28, az 29, az 30, az 31, az 32, az 33, az 34, az 35, az 36, az 37, az 38, az 39, az 40, az 41, az 42, az 43, az 44, az 45, az 46, az 47, az 48, az 49, az 50, az 51, az 52, az 53, az 54, az 55, az 56, az 57, az 58, az 59, az 60, az 61, az 62, az 63, az 64, az 65, az 66, az 67, az 68, az 69, az 70, az 71, az 72, az 73, az 74, az 75, az 76, .slice (some ⟨0, 0, none⟩) k c, .int .i64 k, .int .i64 j, az 80, az 81, az 82, az 83, az 84, az 85, az 86, az 87, az 88, az 89, az 90, az 91, az 92, az 93, az 94, az 95, .slice (some ⟨0, 0, none⟩) k c, .int .i64 k, .int .i64 m, az 99, az 100, az 101, az 102, az 103, az 104, az 105, az 106, az 107, az 108, az 109, az 110, az 111, az 112] := pat_fill hpat
              clear hpat
              conv => whnf
              refine br_intro (fun h5 => ?_) (fun h5 => ?_)
              · have h5 : m < k := by
                  have := of_decide_eq_true h5
                  omega
                obtain ⟨q, hql, hqm, hrq⟩ := rowsP_get (l := l) (i := m) (by omega)
                rw [← hg] at hrq
                have sq := hsz q hqm
                have hst := cnt_step (p := p) hql
                have hbd := cnt_take_le p l m
                have hbl := cnt_le p l
                have e8 : IntKind.i64.wrap ((m : Int) + 1) = ((m + 1 : Nat) : Int) := by rw [wrapi64 (by omega) (by omega)]; rfl
                obtain ⟨ck, hck⟩ : ∃ ck : Int, ck = (cnt p l : Int) - (cnt p (l.take m) : Int) := ⟨_, rfl⟩
                rw [← hck]
                conv => whnf
                refine ⟨⟨by omega, by omega⟩, ?_⟩
                simp only [toNat_cast, rowAdd_eq, Nat.zero_add]
                conv => whnf
                refine ⟨by show m < k; omega, ?_⟩
                conv => whnf
                rw [hrq]
                conv => whnf
                obtain ⟨r, er, pr⟩ := hideZ (cmpR p.p q.p)
                refine ⟨(p, q), rfl, ⟨PV.sz_mono sp (by decide), PV.sz_mono sq (by decide)⟩, ?_⟩
                rw [show vcmpS.val (p, q) = .int .i64 r from er]
                conv => whnf
                by_cases hr : r = 0
                · rw [if_pos (pr.symm.trans hr)] at hst
                  rw [show (r == 0) = true from by simp [hr]]
                  conv => whnf
                  rw [e8, show IntKind.i64.wrap (ck - 1) = (cnt p l : Int) - (cnt p (l.take (m + 1)) : Int) from by rw [wrapi64 (by omega) (by omega)]; omega]
                  refine .inr ⟨[0, 1, 2], [0, 3, 9, 10, 77, 78, 79, 96, 97, 98], ?_⟩
                  conv => whnf
                  intro _
                  conv => whnf
                  refine ⟨_, ?_, m + 1, (.keep (.skip (.skip (.keep (.skip (.skip (.skip (.skip (.skip (.keep (.keep (.skip (.skip (.skip (.skip (.skip (.skip (.skip (.skip (.skip (.skip (.skip (.skip (.skip (.skip (.skip (.skip (.skip (.skip (.skip (.skip (.skip (.skip (.skip (.skip (.skip (.skip (.skip (.skip (.skip (.skip (.skip (.skip (.skip (.skip (.skip (.skip (.skip (.skip (.skip (.skip (.skip (.skip (.skip (.skip (.skip (.skip (.skip (.skip (.skip (.skip (.skip (.skip (.skip (.skip (.skip (.skip (.skip (.skip (.skip (.skip (.skip (.skip (.skip (.skip (.skip (.skip (.keep (.keep (.keep (.skip (.skip (.skip (.skip (.skip (.skip (.skip (.skip (.skip (.skip (.skip (.skip (.skip (.skip (.skip (.skip (.keep (.keep (.keep (.skip (.skip (.skip (.skip (.skip (.skip (.skip (.skip (.skip (.skip (.skip (.skip (.skip (.skip (.nil)))))))))))))))))))))))))))))))))))))))))))))))))))))))))))))))))))))))))))))))))))))))))))))))))))))))))))))))))), rfl, rfl, ?_⟩
                  · omega
                  · omega
                · rw [if_neg (fun h => hr (pr.trans h))] at hst
                  rw [show (r == 0) = false from by simp [hr]]
                  conv => whnf
                  rw [e8, show ck = (cnt p l : Int) - (cnt p (l.take (m + 1)) : Int) from by omega]
                  refine .inr ⟨[0, 1, 2], [0, 3, 9, 10, 77, 78, 79, 96, 97, 98], ?_⟩
                  conv => whnf
                  intro _
                  conv => whnf
                  refine ⟨_, ?_, m + 1, (.keep (.skip (.skip (.keep (.skip (.skip (.skip (.skip (.skip (.keep (.keep (.skip (.skip (.skip (.skip (.skip (.skip (.skip (.skip (.skip (.skip (.skip (.skip (.skip (.skip (.skip (.skip (.skip (.skip (.skip (.skip (.skip (.skip (.skip (.skip (.skip (.skip (.skip (.skip (.skip (.skip (.skip (.skip (.skip (.skip (.skip (.skip (.skip (.skip (.skip (.skip (.skip (.skip (.skip (.skip (.skip (.skip (.skip (.skip (.skip (.skip (.skip (.skip (.skip (.skip (.skip (.skip (.skip (.skip (.skip (.skip (.skip (.skip (.skip (.skip (.skip (.skip (.keep (.keep (.keep (.skip (.skip (.skip (.skip (.skip (.skip (.skip (.skip (.skip (.skip (.skip (.skip (.skip (.skip (.skip (.skip (.keep (.keep (.keep (.skip (.skip (.skip (.skip (.skip (.skip (.skip (.skip (.skip (.skip (.skip (.skip (.skip (.skip (.nil)))))))))))))))))))))))))))))))))))))))))))))))))))))))))))))))))))))))))))))))))))))))))))))))))))))))))))))))))), rfl, rfl, ?_⟩
                  · omega
                  · omega
              · have h5 : m = k := by
                  have := of_decide_eq_false h5
                  omega
                subst h5
                rw [show (cnt p l : Int) - (cnt p (l.take m) : Int) = 0 from by rw [hn, List.take_length]; omega]
                conv => whnf
                rw [e7]
                skip
                refine .inr ⟨[0, 1], [0, 3, 77, 78, 79], ?_⟩
                conv => whnf
                intro _
                conv => whnf
                refine ⟨_, ?_, j + 1, (.keep (.skip (.skip (.keep (.skip (.skip (.skip (.skip (.skip (.skip (.skip (.skip (.skip (.skip (.skip (.skip (.skip (.skip (.skip (.skip (.skip (.skip (.skip (.skip (.skip (.skip (.skip (.skip (.skip (.skip (.skip (.skip (.skip (.skip (.skip (.skip (.skip (.skip (.skip (.skip (.skip (.skip (.skip (.skip (.skip (.skip (.skip (.skip (.skip (.skip (.skip (.skip (.skip (.skip (.skip (.skip (.skip (.skip (.skip (.skip (.skip (.skip (.skip (.skip (.skip (.skip (.skip (.skip (.skip (.skip (.skip (.skip (.skip (.skip (.skip (.skip (.skip (.keep (.keep (.keep (.skip (.skip (.skip (.skip (.skip (.skip (.skip (.skip (.skip (.skip (.skip (.skip (.skip (.skip (.skip (.skip (.skip (.skip (.skip (.skip (.skip (.skip (.skip (.skip (.skip (.skip (.skip (.skip (.skip (.skip (.skip (.skip (.skip (.nil)))))))))))))))))))))))))))))))))))))))))))))))))))))))))))))))))))))))))))))))))))))))))))))))))))))))))))))))))), rfl, rfl, ?_⟩
                · omega
                · omega
          · have h4 : j = n := by
              have := of_decide_eq_false h4
              omega
            conv => whnf
            refine ⟨(), rfl, trivial, ?_⟩
            conv => whnf
            exact ⟨.bool true, rfl, .refl _⟩
      · conv => whnf
        refine ⟨(), rfl, trivial, ?_⟩
        conv => whnf
        exact ⟨.bool true, rfl, .refl _⟩
end Go.Proofs.Ytgakcbdahbagkaa
/- The statement PredicateSorted. -/
set_option linter.unusedVariables false
namespace Go.Proofs.Ytgakcbdahbagkaa
open Go Go.Ae Go.ChangeShapes Go.WideShapes Go.ChangeAt Go.RowKit

theorem own : ownKnob Try.prog.godebug = none := by kernel_rfl
theorem laidOut : laidOutB Try.prog = true := by kernel_rfl
set_option maxRecDepth 100000 in
theorem ptTy : PtTy Try.prog 23 25 4 9 :=
  ⟨⟨_, _, _, Try.underlying23, ⟨rfl, rfl⟩, ⟨rfl, rfl⟩, rfl, rfl⟩, ⟨_, _, Try.underlying25, ⟨rfl, rfl⟩, rfl, rfl⟩, Try.underlying4, Try.underlying9, by kernel_rfl, by kernel_rfl, by kernel_rfl, by kernel_rfl⟩

set_option maxRecDepth 100000 in
theorem predicateSorted_lifted (os : Os) (started : os.Started) (H : Type) (enc : TypeId × Value → H) :
    ReturnsInHanded {} Try.checked os 7 .any (Rows.predicateSortedSpec.pre6 enc Try.prog Try.f7 Rows.predicateSortedRow.domain false) (Rows.predicateSortedSpec.post enc Try.prog Try.f7 false true false false) := by
  refine returnsInHanded_of_change (C := Try.checked) own started (by kernel_rfl) Try.func7
    (ChangeSpec.witness6 (enc := enc) (C := Try.checked) false ⟨#[], #[.slice none 0 0], []⟩ 8 (by kernel_rfl) (by kernel_rfl) (by kernel_rfl) (by kernel_rfl)) ?_
  intro W base args ds gs before hval0 hW hcnd _
  have hval : ∀ (j : Nat) t v, Try.f7.params[j]? = some t → args[j]? = some v → Value.okWide Try.prog W .any base t v := hval0
  have hW' := hW
  obtain ⟨p, q, hA0, hV, rfl, hfz, hnd⟩ := hW
  have hA : DataW.TrodAll enc Try.prog W 0 (fun _ => true) true Try.f7.params.toList args.toList ds p := hA0
  rw [Try.params7] at hA hval
  obtain ⟨v0, vs0, d0, ds0, p0, q0, hargs, rfl, rfl, h0, r0⟩ := trodAll_cons hA
  obtain ⟨rfl, rfl, rfl⟩ := trodAll_nil r0
  obtain rfl : args = #[v0] := by cases args; simp_all
  obtain ⟨rfl, rfl⟩ := trodVars_none hV
  obtain ⟨a0, ν, hi, hv0, hH, hν⟩ := open_points ptTy Try.underlying43 (hval 0 43 v0 rfl rfl) h0
  have lt0 : ∀ x ∈ p0, x.block < W.heap.size := by obtain ⟨m, hm⟩ := h0; exact DataW.trod_lt m _ _ _ hm
  clear hA0 hval0
  have hargs2 : LRel ν (lawLS.args a0) [v0] := .cons hv0 (.nil ν)
  refine (calls_of_qsnd pSorted_ok (i := a0) hi hargs2 hH hν (b := true) rfl).mono fun e W' ⟨he, bel⟩ => ?_
  subst he
  exact ⟨_, rfl, _, _, _, [], _, [], hW', trodAll_mk1 (shut_bool Try.underlying4 _), (trodAll_cons_mk (Below.trod laidOut (by kernel_rfl) (of_decide_eq_true (by kernel_rfl)) h0 bel lt0) trodAll_mk0), rfl, bel.frame _, fun h => by cases h⟩

theorem predicateSorted_holds : Rows.predicateSortedRow.holds Try.pinned (OpenSpec.ofChange Rows.predicateSortedSpec) :=
  OpenClaim.holds_of_wide 7 Try.f7 rfl rfl rfl rfl rfl rfl rfl ⟨rfl, rfl, rfl, rfl, rfl⟩ rfl rfl rfl rfl rfl (by kernel_rfl) Try.func7 (by kernel_rfl)
    (of_decide_eq_true (by kernel_rfl)) (by unfold Func.isWrapper; first | (rw [if_pos (by decide +kernel)]; kernel_rfl) | (rw [if_neg (by decide +kernel)]; exact ⟨rfl, rfl⟩))
    (fun os started H enc _ => predicateSorted_lifted os started H enc)
theorem predicateSorted_proved : Rows.PredicateSortedSaid := predicateSorted_holds
end Go.Proofs.Ytgakcbdahbagkaa
