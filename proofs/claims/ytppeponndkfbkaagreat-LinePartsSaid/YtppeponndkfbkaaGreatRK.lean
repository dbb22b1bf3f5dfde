import Derived.Test.YtppeponndkfbkaaGreatRows
import Derived.Test.YtppeponndkfbkaaGreatRJ
set_option linter.unusedVariables false
set_option linter.unusedSimpArgs false
/- The law LineParts. -/
set_option maxRecDepth 20000
set_option maxHeartbeats 4000000
namespace Go.Proofs.YtppeponndkfbkaaGreat
open Go Go.Ae
def EpwW : FuncId → Option FT := fun g => match g with
 | 27 => some (wFT revLS)
 | _ => none
def Epw : Env := { tt := tt, eqs := eqsL, Ψ := EpwW, Φ := fun g => match g with
 | 7 => some (.q greatLS)
 | 8 => some (.p awakeS)
 | 25 => some (.q commonS)
 | 28 => some (.q sameS)
 | 32 => some (.q rinsS)
 | 26 => some (.q lcloneS)
 | 29 => some (.q leftS)
 | 30 => some (.p orientS)
 | 31 => some (.p vcmpS)
 | _ => none }
theorem Epwok : EnvOk Tryz.prog Epw := ⟨tt_ok, eqs_ok, (fun g S h => by
 simp only [Epw] at h
 split at h
 ·cases h; exact greatL_ok
 ·cases h; exact awake9_ok
 ·cases h; exact common_ok
 ·cases h; exact equal_ok
 ·cases h; exact rins_ok
 ·cases h; exact lclone_ok
 ·cases h; exact left_ok
 ·cases h; exact orient_ok
 ·cases h; exact vcmp_ok
 ·cases h), (fun g F h => by
 simp only [Epw, EpwW] at h
 split at h
 ·cases h; exact reverseL_ok
 ·cases h)⟩
theorem lparts_ok : QSnd Tryz.prog 5 lpartsS := by
 refine qsnd_of Epwok Dok Tryz.func5 (enters_of Tryz.func5 (by kernel_rfl) rfl) ?_ ?_ ?_
 ·intro ⟨⟨b, i⟩, _⟩ B hb
  cases i with
  | none => simp [lpartsS, LL.blks] at hb
  | some i => simp [lpartsS, LL.blks] at hb; rw [hb]; rfl
 ·intro i B hb; simp [lpartsS] at hb
 intro ⟨⟨⟨⟨x1, y1⟩, ⟨x2, y2⟩⟩, i⟩, v⟩ hp
 have hlen : i.list.length * 120 ≤ 140737488351232 := hp
 cases i with
 | none =>
  obtain ⟨cu, hcu⟩ : ∃ cu, cu = capU := ⟨_, rfl⟩
  have fin : ∃ v', renV (List.range 1) 3 (lpartsS.val ((((x1, y1), (x2, y2)), none), v)) = some v' ∧ VLe (.bool true) v' := ⟨.bool true, rfl, .refl _⟩
  rw [show lpartsS.blks ((((x1, y1), (x2, y2)), none), v) = [] from rfl, show lpartsS.args ((((x1, y1), (x2, y2)), none), v) = [XV.v ((x1, y1), (x2, y2)), .slice none 0 0, v.v] from rfl]
  conv => whnf
  obtain ⟨G, hG⟩ : ∃ G, G = greatL [] [(x1, y1), (x2, y2), v] := ⟨_, rfl⟩
  refine ⟨((none : LL), some ([(x1, y1), (x2, y2), v], 3)), [2], by rw [show greatLS.args ((none : LL), some ([(x1, y1), (x2, y2), v], 3)) = [.slice none 0 0, .slice (some ⟨0, 0, none⟩) 3 3] from rfl]; rfl, ⟨Nat.zero_le _, by show 3 ≤ 1099511627776; decide⟩, ?_⟩
  rw [show greatLS.blks ((none : LL), some ([(x1, y1), (x2, y2), v], 3)) = [.flat false 3 6 (rowsP [(x1, y1), (x2, y2), v])] from rfl, show greatLS.val ((none : LL), some ([(x1, y1), (x2, y2), v], 3)) = .bool G from by rw [hG]; rfl, show greatLS.new ((none : LL), some ([(x1, y1), (x2, y2), v], 3)) = none from rfl]
  conv => whnf
  refine ⟨lit_blk [(x1, y1), (x2, y2), v], ?_⟩
  conv => whnf
  refine ⟨.bool G, rfl, ?_⟩
  conv => whnf
  have hgr := fun h => great_false (hG.symm.trans h)
  have hgl := fun h => great_len (hG.symm.trans h)
  clear hG
  cases hG2 : G
  ·obtain ⟨hls, hps⟩ := hgr hG2
   have hn8 := hgl hG2
   have sb1 : PV.sz 20 (x1, y1) := hps _ (by simp)
   have sb2 : PV.sz 20 (x2, y2) := hps _ (by simp)
   have sv : PV.sz 20 v := hps _ (by simp)
   have qv := PV.psz sv (by decide)
   obtain ⟨E, hE⟩ : ∃ E, comE (XV.p ((x1, y1), (x2, y2))) (qs []) = E := ⟨_, rfl⟩
   have hok : comOk ((x1, y1), (x2, y2)) [] := com_ok sb1 sb2 (fun r hr => by cases hr) (by decide) (.inl (by decide))
   conv => whnf
   by_cases h0 : E = 0
   ·have c := com_ring (hE.trans h0)
    obtain ⟨P, hP⟩ : ∃ P, comP (XV.p ((x1, y1), (x2, y2))) (qs []) = P := ⟨_, rfl⟩
    obtain ⟨M, hM⟩ : ∃ M, P.length = M := ⟨_, rfl⟩
    obtain ⟨gs, hgs⟩ : ∃ g, g = rowsQ P := ⟨_, rfl⟩
    obtain ⟨f1, f2⟩ := common_new (b := ((x1, y1), (x2, y2))) (i := none) (hE.trans h0) hP hM hgs
    rw [← hcu] at f2
    refine ⟨(((x1, y1), (x2, y2)), none), [], by rw [show commonS.args (((x1, y1), (x2, y2)), none) = [XV.v ((x1, y1), (x2, y2)), .slice none 0 0] from rfl]; rfl, hok, ?_⟩
    rw [f1, f2, show commonS.blks (((x1, y1), (x2, y2)), none) = [] from rfl]
    conv => whnf
    refine ⟨_, rfl, ?_⟩
    conv => whnf
    refine ⟨none, [], rfl, by show 0 * 120 ≤ 140737488355328; decide, ?_⟩
    conv => whnf
    refine ⟨_, rfl, ?_⟩
    conv => whnf
    refine ⟨none, [], rfl, Nat.zero_le _, by decide, ?_⟩
    conv => whnf
    refine ⟨_, rfl, ?_⟩
    conv => whnf
    refine .inr (.inl ⟨(.br 0 (.br 1 (.br 2 (.br 3 (.br 4 (.br 5 (.br 6 (.br 7 (.br 8 (.br 9 .leaf .leaf) .leaf) (.br 8 (.br 7 (.br 9 .leaf .leaf) .leaf) .leaf)) (.br 7 (.br 6 (.br 8 (.br 9 .leaf .leaf) .leaf) .leaf) .leaf)) .leaf) .leaf) .leaf) .leaf) (.br 2 (.br 1 (.br 3 (.br 4 (.br 5 (.br 6 (.br 7 (.br 8 (.br 9 .leaf .leaf) .leaf) (.br 8 (.br 7 (.br 9 .leaf .leaf) .leaf) .leaf)) (.br 7 (.br 6 (.br 8 (.br 9 .leaf .leaf) .leaf) .leaf) .leaf)) .leaf) .leaf) .leaf) .leaf) .leaf)) (.br 1 (.br 0 (.br 2 (.br 3 (.br 4 (.br 5 (.br 6 (.br 7 (.br 8 (.br 9 .leaf .leaf) .leaf) (.br 8 (.br 7 (.br 9 .leaf .leaf) .leaf) .leaf)) (.br 7 (.br 6 (.br 8 (.br 9 .leaf .leaf) .leaf) .leaf) .leaf)) .leaf) .leaf) .leaf) .leaf) (.br 2 (.br 0 (.br 3 (.br 4 (.br 5 (.br 6 (.br 7 (.br 8 (.br 9 .leaf .leaf) .leaf) (.br 8 (.br 7 (.br 9 .leaf .leaf) .leaf) .leaf)) (.br 7 (.br 6 (.br 8 (.br 9 .leaf .leaf) .leaf) .leaf) .leaf)) .leaf) .leaf) .leaf) (.br 3 (.br 0 (.br 4 (.br 5 (.br 6 (.br 7 (.br 8 (.br 9 .leaf .leaf) .leaf) (.br 8 (.br 7 (.br 9 .leaf .leaf) .leaf) .leaf)) (.br 7 (.br 6 (.br 8 (.br 9 .leaf .leaf) .leaf) .leaf) .leaf)) .leaf) .leaf) .leaf) .leaf)) .leaf)) (.br 2 (.br 0 (.br 1 (.br 3 (.br 4 (.br 5 (.br 6 (.br 7 (.br 8 (.br 9 .leaf .leaf) .leaf) (.br 8 (.br 7 (.br 9 .leaf .leaf) .leaf) .leaf)) (.br 7 (.br 6 (.br 8 (.br 9 .leaf .leaf) .leaf) .leaf) .leaf)) .leaf) .leaf) .leaf) .leaf) (.br 1 (.br 0 (.br 3 (.br 4 (.br 5 (.br 6 (.br 7 (.br 8 (.br 9 .leaf .leaf) .leaf) (.br 8 (.br 7 (.br 9 .leaf .leaf) .leaf) .leaf)) (.br 7 (.br 6 (.br 8 (.br 9 .leaf .leaf) .leaf) .leaf) .leaf)) .leaf) .leaf) .leaf) (.br 3 (.br 0 (.br 4 (.br 5 (.br 6 (.br 7 (.br 8 (.br 9 .leaf .leaf) .leaf) (.br 8 (.br 7 (.br 9 .leaf .leaf) .leaf) .leaf)) (.br 7 (.br 6 (.br 8 (.br 9 .leaf .leaf) .leaf) .leaf) .leaf)) .leaf) .leaf) .leaf) .leaf)) .leaf)) .leaf))), by kernel_rfl, ?_⟩)
    repeat' ((conv => whnf); first | exact True.intro | refine And.intro ?_ ?_)
    all_goals conv => whnf
    all_goals refine ?nkey5
    conv => whnf
    refine ⟨(((x1, y1), (x2, y2)), none), [], rfl, hok, ?_⟩
    rw [f1, f2, show commonS.blks (((x1, y1), (x2, y2)), none) = [] from rfl]
    conv => whnf
    refine ⟨_, rfl, ?_⟩
    repeat' ((conv => whnf); first | exact True.intro | refine And.intro ?_ ?_)
    all_goals conv => whnf
    all_goals refine ?nend5
    conv => whnf
    obtain ⟨Lp, hLp⟩ : ∃ L, L = pvs P := ⟨_, rfl⟩
    have hLl : Lp.length = M := by rw [hLp, pvs_length, hM]
    obtain ⟨hMb, hz⟩ := com_bound hok (by omega)
    rw [hP] at hMb hz
    rw [hM] at hMb
    refine ⟨(some (Lp, cu), some (Lp, cu)), [3, 4], by rw [show sameS.args (some (Lp, cu), some (Lp, cu)) = [.slice (some ⟨0, 0, none⟩) M cu, .slice (some ⟨1, 0, none⟩) M cu] from by rw [← hLl]; rfl]; rfl, ⟨by show Lp.length ≤ _; omega, by show Lp.length ≤ _; omega⟩, ?_⟩
    rw [show sameS.blks (some (Lp, cu), some (Lp, cu)) = [.flat false M 6 gs, .flat false M 6 gs] from by rw [← hLl, hgs, hLp]; rfl, show sameS.val (some (Lp, cu), some (Lp, cu)) = .bool true from congrArg Value.bool (decide_eq_true rfl), show sameS.new (some (Lp, cu), some (Lp, cu)) = none from rfl]
    conv => whnf
    refine ⟨BlkLe.flat_flat (fun h => by cases h) (fun r hr => by rw [hgs]; rfl), BlkLe.flat_flat (fun h => by cases h) (fun r hr => by rw [hgs]; rfl), ?_⟩
    conv => whnf
    refine ⟨.bool true, rfl, ?_⟩
    conv => whnf
    have hM3 : 3 ≤ M := by have := (com_three c).2.2; rw [hP, hM] at this; exact this
    refine .inl ⟨fun mm tz hz => ∃ (k : Nat), Pat [none, some (.slice none 0 0), none, some (.pointer (some ⟨0, 0, none⟩)), none, some (.pointer (some ⟨1, 0, none⟩)), some (.bool false), some (.slice (some ⟨2, 0, none⟩) M cu), some (.int .i64 0), none, none, none, none, none, none, none, none, none, none, none, none, none, none, none, none, none, none, none, none, none, none, none, none, none, none, none, none, none, none, none, none, none, none, none, none, none, none, none, none, none, none, none, some (.slice (some ⟨2, 0, none⟩) M cu), some (.int .i64 M), some (.int .i64 k), none, none, none, none, none, none, none, none, none, none, none, none, none, none, none, none, none, none, none, none, none, none, none, none, none, none, none, none, none, none, none, none, none, none, none, none, none, none, none, none, none, none, none, none, none, none, none, none, none, none, none, none, none, none, none, none, none, none, none, none, none, none, none, none, none, none, none, none, none, none, none, none, none, none, none, none, none, none, none] tz ∧ hz = [some (.expl true 12 [XV.cells ((x1, y1), (x2, y2))]), some (.expl true 6 [v.cells]), some (.flat true M 6 gs)] ∧ M - k = mm ∧ (k ≤ M), .inr ⟨[0, 1, 3], [1, 3, 5, 6, 7, 8, 52, 53, 54], ?_⟩, ?_⟩
    ·conv => whnf
     intro _
     conv => whnf
     refine ⟨_, 0, (.skip (.keep (.skip (.keep (.skip (.keep (.keep (.keep (.keep (.s8 (.s8 (.s8 (.s8 (.s8 (.skip (.skip (.skip (.keep (.keep (.keep (.s8 (.s8 (.s8 (.s8 (.s8 (.s8 (.s8 (.s8 (.s8 (.skip (.skip (.skip (.skip (.skip (.skip (.skip (.nil))))))))))))))))))))))))))))))))))))), rfl, rfl, ?_⟩
     exact Nat.zero_le _
    rintro mm tms _ ⟨k, hpat, rfl, rfl, hk⟩
    obtain ⟨az, rfl⟩ : ∃ az : Nat → Value, tms = [az 0, .slice none 0 0, az 2, .pointer (some ⟨0, 0, none⟩), az 4, .pointer (some ⟨1, 0, none⟩), .bool false, .slice (some ⟨2, 0, none⟩) M cu, .int .i64 0, az 9, az 10, az 11, az 12, az 13, az 14, az 15, az 16, az 17, az 18, az 19, az 20, az 21, az 22, az 23, az 24, az 25, az 26, az 27, az 28, az 29, az 30, az 31, az 32, az 33, az 34, az 35, az 36, az 37, az 38, az 39, az 40, az 41, az 42, az 43, az 44, az 45, az 46, az 47, az 48, az 49, az 50, az 51, .slice (some ⟨2, 0, none⟩) M cu, .int .i64 M, .int .i64 k, az 55, az 56, az 57, az 58, az 59, az 60, az 61, az 62, az 63, az 64, az 65, az 66, az 67, az 68, az 69, az 70, az 71, az 72, az 73, az 74, az 75, az 76, az 77, az 78, az 79, az 80, az 81, az 82, az 83, az 84, az 85, az 86, az 87, az 88, az 89, az 90, az 91, az 92, az 93, az 94, az 95, az 96, az 97, az 98, az 99, az 100, az 101, az 102, az 103, az 104, az 105, az 106, az 107, az 108, az 109, az 110, az 111, az 112, az 113, az 114, az 115, az 116, az 117, az 118, az 119, az 120, az 121, az 122, az 123, az 124, az 125, az 126, az 127, az 128, az 129, az 130, az 131, az 132, az 133] := pat_fill hpat
    clear hpat
    conv => whnf
    refine br_intro (fun h3 => ?_) (fun h3 => ?_)
    ·have h3 : k < M := by
      have := of_decide_eq_true h3
      omega
     have e7 : IntKind.i64.wrap ((k : Int) + 1) = ((k + 1 : Nat) : Int) := by rw [wrapi64 (by omega) (by omega)]; rfl
     obtain ⟨a, ca, ra, pa, sa, qa⟩ := hideAt (L := P) (k := k) (by omega) hz
     rw [← hgs] at ra
     conv => whnf
     refine ⟨⟨by omega, by omega⟩, ?_⟩
     simp only [toNat_cast, rowAdd_eq, Nat.zero_add]
     conv => whnf
     refine ⟨by show k < M; omega, ?_⟩
     conv => whnf
     rw [ra]
     conv => whnf
     obtain ⟨b, cb, rb, pb, sb, qb⟩ := hideAt (L := P) (k := nxt M k) (by rw [hM]; exact nxt_lt (by omega)) hz
     obtain ⟨d, cd, rd, pd, sd, qd⟩ := hideAt (L := P) (k := nxt M (nxt M k)) (by rw [hM]; exact nxt_lt (nxt_lt (by omega))) hz
     have hnx := nxt_i h3 (by omega)
     have hnx2 := nxt2_i h3 (by omega)
     have hnl := nxt_lt h3
     have hnl2 := nxt_lt hnl
     have hcor := corner_next (com_rring c) (k := k) (by rw [hP, hM]; exact h3)
     rw [hP, hM, ← pa, ← pb, ← pd] at hcor
     have hin := (leftB_good c.good a.p).2 (vert_in c (by rw [hP, pa]; exact at2_mem (by omega)))
     obtain ⟨j, hj⟩ : ∃ j, j = nxt M k := ⟨_, rfl⟩
     rw [← hj] at hnx hnl hnl2 hnx2 rb rd
     obtain ⟨j2, hj2⟩ : ∃ j2, j2 = nxt M j := ⟨_, rfl⟩
     rw [← hj2] at hnl2 hnx2 rd
     rw [← hgs] at rb rd
     refine .inl ⟨34, [[], [], [], [0, 1, 2], [0, 1, 2, 3], [0, 1, 2, 3, 4], [0, 1, 2, 3, 4, 5], [0, 1, 2, 3, 4, 5], [0, 1, 2, 3, 4, 5], [0, 1, 2, 3, 4, 5, 8], [0, 1, 2, 3, 4, 5], [0, 1, 2, 3, 4, 5, 10], [0, 1, 2, 3, 4, 5, 8, 9, 10, 11], [0, 1, 2, 3, 4, 5, 7, 8, 9, 10, 11, 12], [0, 1, 2, 3, 4, 5, 7, 8, 9, 10, 11, 12, 13], [0, 1, 2, 3, 4, 5], [0, 1, 2, 3, 4, 5], [0, 1, 2, 3, 4, 5, 16], [0, 1, 2, 3, 4, 5], [0, 1, 2, 3, 4, 5, 18], [0, 1, 2, 3, 4, 5, 16, 17, 18, 19], [0, 1, 2, 3, 4, 5, 15, 16, 17, 18, 19, 20], [0, 1, 2, 3, 4, 5, 15, 16, 17, 18, 19, 20, 21], [0, 1, 2, 3, 4, 5, 6, 7, 8, 9, 10, 11, 12, 13, 14, 15, 16, 17, 18, 19, 20, 21, 22], [0, 1, 2, 3, 4, 5, 6, 7, 8, 9, 10, 11, 12, 13, 14, 15, 16, 17, 18, 19, 20, 21, 22, 23], [0, 1, 2, 3, 4, 5, 6, 7, 8, 9, 10, 11, 12, 13, 14, 15, 16, 17, 18, 19, 20, 21, 22, 23, 24], [0, 1, 2, 3, 4, 5, 6, 7, 8, 9, 10, 11, 12, 13, 14, 15, 16, 17, 18, 19, 20, 21, 22, 23, 24, 25], [0, 1, 2, 3, 4, 5, 6, 7, 8, 9, 10, 11, 12, 13, 14, 15, 16, 17, 18, 19, 20, 21, 22, 23, 24, 25, 26], [0, 1, 2, 3, 4, 5, 6, 7, 8, 9, 10, 11, 12, 13, 14, 15, 16, 17, 18, 19, 20, 21, 22, 23, 24, 25, 26, 27], [0, 1, 2, 3, 4, 5, 6, 7, 8, 9, 10, 11, 12, 13, 14, 15, 16, 17, 18, 19, 20, 21, 22, 23, 24, 25, 26, 27, 28], [0, 1, 2, 3, 4, 5, 6, 7, 8, 9, 10, 11, 12, 13, 14, 15, 16, 17, 18, 19, 20, 21, 22, 23, 24, 25, 26, 27, 28, 29], [0, 1, 2, 3, 4, 5, 6, 7, 8, 9, 10, 11, 12, 13, 14, 15, 16, 17, 18, 19, 20, 21, 22, 23, 24, 25, 26, 27, 28, 29], [0, 1, 2, 3, 4, 5, 6, 7, 8, 9, 10, 11, 12, 13, 14, 15, 16, 17, 18, 19, 20, 21, 22, 23, 24, 25, 26, 27, 28, 29, 31], [0, 1, 2, 3, 4, 5, 6, 7, 8, 9, 10, 11, 12, 13, 14, 15, 16, 17, 18, 19, 20, 21, 22, 23, 24, 25, 26, 27, 28, 29, 31, 32], [0, 1, 2, 3, 4, 5, 6, 7, 8, 9, 10, 11, 12, 13, 14, 15, 16, 17, 18, 19, 20, 21, 22, 23, 24, 25, 26, 27, 28, 29, 30, 31, 32, 33], [0, 1, 2, 3, 4, 5, 6, 7, 8, 9, 10, 11, 12, 13, 14, 15, 16, 17, 18, 19, 20, 21, 22, 23, 24, 25, 26, 27, 28, 29, 30, 31, 32, 33, 34], [0, 1, 2, 3, 4, 5, 6, 7, 8, 9, 10, 11, 12, 13, 14, 15, 16, 17, 18, 19, 20, 21, 22, 23, 24, 25, 26, 27, 28, 29, 30, 31, 32, 33, 34, 35], [0, 1, 2, 3, 4, 5, 6, 7, 8, 9, 10, 11, 12, 13, 14, 15, 16, 17, 18, 19, 20, 21, 22, 23, 24, 25, 26, 27, 28, 29, 30, 31, 32, 33, 34, 35, 36]], by kernel_rfl, ?_⟩
     conv => whnf
     refine ⟨((((x1, y1), (x2, y2)), none), a), [], by rw [show leftS.args ((((x1, y1), (x2, y2)), none), a) = [XV.v ((x1, y1), (x2, y2)), .slice none 0 0, a.v] from rfl]; rfl, ⟨⟨PV.sz_mono sb1 (by decide), PV.sz_mono sb2 (by decide)⟩, Nat.zero_le _, (fun m hm => nomatch (show m ∈ ([] : List R3) from hm)), PV.sz_mono sa (by decide)⟩, ?_⟩
     rw [show leftS.blks ((((x1, y1), (x2, y2)), none), a) = [] from rfl, show leftS.val ((((x1, y1), (x2, y2)), none), a) = .bool true from congrArg Value.bool (decide_eq_true hin), show leftS.new ((((x1, y1), (x2, y2)), none), a) = none from rfl]
     conv => whnf
     refine ⟨.bool true, rfl, ?_⟩
     conv => whnf
     rw [show decide ((M : Int) ≠ 0) = true from decide_eq_true (by omega)]
     conv => whnf
     rw [hnx]
     refine ⟨⟨by omega, by omega⟩, ?_⟩
     simp only [toNat_cast, rowAdd_eq, Nat.zero_add]
     conv => whnf
     refine ⟨by show j < M; omega, ?_⟩
     conv => whnf
     rw [rb]
     conv => whnf
     rw [show decide ((M : Int) ≠ 0) = true from decide_eq_true (by omega)]
     conv => whnf
     rw [hnx2]
     refine ⟨⟨by omega, by omega⟩, ?_⟩
     simp only [toNat_cast, rowAdd_eq, Nat.zero_add]
     conv => whnf
     refine ⟨by show j2 < M; omega, ?_⟩
     conv => whnf
     rw [rd]
     conv => whnf
     obtain ⟨z, ez, pz⟩ := hideZ (cmpQ (orR a.p b.p d.p) 0)
     refine ⟨(a, b, d), rfl, ⟨PV.sz_mono sa (by decide), PV.sz_mono sb (by decide), PV.sz_mono sd (by decide)⟩, ?_⟩
     rw [show orientS.val (a, b, d) = .int .i64 z from ez]
     conv => whnf
     have hz0 : 0 < z := by rw [pz]; exact cmpQ_pos.2 hcor
     rw [show decide (z ≤ 0) = false from decide_eq_false (by omega)]
     conv => whnf
     by_cases hk0 : k = 0
     ·rw [show decide ((k : Int) > 0) = false from decide_eq_false (by omega)]
      conv => whnf
      rw [e7]
      refine .inr ⟨[0, 1, 2], [1, 3, 5, 6, 7, 8, 52, 53, 54], ?_⟩
      conv => whnf
      intro _
      conv => whnf
      refine ⟨_, ?_, k + 1, (.skip (.keep (.skip (.keep (.skip (.keep (.keep (.keep (.keep (.s8 (.s8 (.s8 (.s8 (.s8 (.skip (.skip (.skip (.keep (.keep (.keep (.s8 (.s8 (.s8 (.s8 (.s8 (.s8 (.s8 (.s8 (.s8 (.skip (.skip (.skip (.skip (.skip (.skip (.skip (.nil))))))))))))))))))))))))))))))))))))), rfl, rfl, ?_⟩
      ·omega
      ·omega
     ·rw [show decide ((k : Int) > 0) = true from decide_eq_true (by omega)]
      conv => whnf
      obtain ⟨o, co, ro, po, so, qo⟩ := hideAt (L := P) (k := 0) (by omega) hz
      rw [← hgs] at ro
      have hlf : 0 < cmpR (at2 (comP (XV.p ((x1, y1), (x2, y2))) (qs [])) k) (at2 (comP (XV.p ((x1, y1), (x2, y2))) (qs [])) 0) := least_first c.ring (by show k < (comP (XV.p ((x1, y1), (x2, y2))) (qs [])).length; rw [hP, hM]; exact h3) (by omega)
      rw [hP, ← pa, ← po] at hlf
      have ro' : gs (Int.toNat 0) = o.cells := ro
      refine ⟨⟨by omega, by omega⟩, ?_⟩
      simp only [toNat_cast, rowAdd_eq, Nat.zero_add]
      conv => whnf
      refine ⟨by show 0 < M; omega, ?_⟩
      conv => whnf
      rw [ro']
      conv => whnf
      obtain ⟨w, ew, pw⟩ := hideZ (cmpR a.p o.p)
      refine ⟨(a, o), rfl, ⟨PV.sz_mono sa (by decide), PV.sz_mono so (by decide)⟩, ?_⟩
      rw [show vcmpS.val (a, o) = .int .i64 w from ew]
      conv => whnf
      rw [show decide (w ≤ 0) = false from decide_eq_false (by omega)]
      conv => whnf
      rw [e7]
      refine .inr ⟨[0, 1, 2], [1, 3, 5, 6, 7, 8, 52, 53, 54], ?_⟩
      conv => whnf
      intro _
      conv => whnf
      refine ⟨_, ?_, k + 1, (.skip (.keep (.skip (.keep (.skip (.keep (.keep (.keep (.keep (.s8 (.s8 (.s8 (.s8 (.s8 (.skip (.skip (.skip (.keep (.keep (.keep (.s8 (.s8 (.s8 (.s8 (.s8 (.s8 (.s8 (.s8 (.s8 (.skip (.skip (.skip (.skip (.skip (.skip (.skip (.nil))))))))))))))))))))))))))))))))))))), rfl, rfl, ?_⟩
      ·omega
      ·omega
    ·conv => whnf
     skip
     refine .inl ⟨6, [[], [], [0, 1], [], [], [], [0, 1, 2, 3, 4, 5], [0, 1, 2, 3, 4, 5, 6], [0, 1, 2, 3, 4, 5, 6, 7], [0, 1, 2, 3, 4, 5, 6, 7, 8], [0, 1, 2, 3, 4, 5, 6, 7, 8, 9], [0, 1, 2, 3, 4, 5, 6, 7, 8, 9, 10]], by kernel_rfl, ?_⟩
     conv => whnf
     obtain ⟨w, hw⟩ : ∃ w, w = decide (leftB (XV.p ((x1, y1), (x2, y2))) (qs []) v.p) := ⟨_, rfl⟩
     have hri : (rinB P v.p ∧ 2 < P.length) ↔ leftB (XV.p ((x1, y1), (x2, y2))) (qs []) v.p := by
      rw [leftB_good c.good, ← rin_iff c, hP]
      exact ⟨fun e => e.1, fun e => ⟨e, by omega⟩⟩
     refine ⟨((P, cu), v), [2], by rw [show rinsS.args ((P, cu), v) = [.slice (some ⟨0, 0, none⟩) M cu, v.v] from by rw [← hM]; rfl]; rfl, ⟨by show P.length ≤ 1099511627776; omega, fun u hu => Q2.mono (hz u hu) (by decide), PV.sz_mono sv (by decide)⟩, ?_⟩
     rw [show rinsS.blks ((P, cu), v) = [.flat false M 6 gs] from by rw [← hM, hgs]; rfl, show rinsS.val ((P, cu), v) = .bool w from by rw [hw]; exact congrArg Value.bool (decide_eq_decide.2 hri), show rinsS.new ((P, cu), v) = none from rfl]
     conv => whnf
     refine ⟨BlkLe.flat_flat (fun h => by cases h) (fun r hr => by rw [hgs]; rfl), ?_⟩
     conv => whnf
     refine ⟨.bool w, rfl, ?_⟩
     conv => whnf
     refine ⟨((((x1, y1), (x2, y2)), none), v), [], by rw [show leftS.args ((((x1, y1), (x2, y2)), none), v) = [XV.v ((x1, y1), (x2, y2)), .slice none 0 0, v.v] from rfl]; rfl, ⟨⟨PV.sz_mono sb1 (by decide), PV.sz_mono sb2 (by decide)⟩, Nat.zero_le _, (fun m hm => nomatch (show m ∈ ([] : List R3) from hm)), PV.sz_mono sv (by decide)⟩, ?_⟩
     rw [show leftS.blks ((((x1, y1), (x2, y2)), none), v) = [] from rfl, show leftS.val ((((x1, y1), (x2, y2)), none), v) = .bool w from by rw [hw]; rfl, show leftS.new ((((x1, y1), (x2, y2)), none), v) = none from rfl]
     conv => whnf
     refine ⟨.bool w, rfl, ?_⟩
     conv => whnf
     rw [show (w == w) = true from by simp]
     conv => whnf
     refine ⟨(), rfl, trivial, ?_⟩
     conv => whnf
     exact fin
   ·obtain ⟨f1, f2⟩ := common_err (b := ((x1, y1), (x2, y2))) (i := none) hE h0
    refine ⟨(((x1, y1), (x2, y2)), none), [], by rw [show commonS.args (((x1, y1), (x2, y2)), none) = [XV.v ((x1, y1), (x2, y2)), .slice none 0 0] from rfl]; rfl, hok, ?_⟩
    rw [f1, f2, show commonS.blks (((x1, y1), (x2, y2)), none) = [] from rfl]
    conv => whnf
    refine ⟨_, rfl, ?_⟩
    conv => whnf
    refine ⟨none, [], rfl, by show 0 * 120 ≤ 140737488355328; decide, ?_⟩
    conv => whnf
    refine ⟨_, rfl, ?_⟩
    conv => whnf
    refine ⟨none, [], rfl, Nat.zero_le _, by decide, ?_⟩
    conv => whnf
    refine ⟨_, rfl, ?_⟩
    conv => whnf
    refine .inr (.inl ⟨(.br 0 (.br 1 (.br 2 (.br 3 (.br 4 (.br 5 (.br 6 (.br 7 (.br 8 (.br 9 .leaf .leaf) .leaf) (.br 8 (.br 7 (.br 9 .leaf .leaf) .leaf) .leaf)) (.br 7 (.br 6 (.br 8 (.br 9 .leaf .leaf) .leaf) .leaf) .leaf)) .leaf) .leaf) .leaf) .leaf) (.br 2 (.br 1 (.br 3 (.br 4 (.br 5 (.br 6 (.br 7 (.br 8 (.br 9 .leaf .leaf) .leaf) (.br 8 (.br 7 (.br 9 .leaf .leaf) .leaf) .leaf)) (.br 7 (.br 6 (.br 8 (.br 9 .leaf .leaf) .leaf) .leaf) .leaf)) .leaf) .leaf) .leaf) .leaf) .leaf)) (.br 1 (.br 0 (.br 2 (.br 3 (.br 4 (.br 5 (.br 6 (.br 7 (.br 8 (.br 9 .leaf .leaf) .leaf) (.br 8 (.br 7 (.br 9 .leaf .leaf) .leaf) .leaf)) (.br 7 (.br 6 (.br 8 (.br 9 .leaf .leaf) .leaf) .leaf) .leaf)) .leaf) .leaf) .leaf) .leaf) (.br 2 (.br 0 (.br 3 (.br 4 (.br 5 (.br 6 (.br 7 (.br 8 (.br 9 .leaf .leaf) .leaf) (.br 8 (.br 7 (.br 9 .leaf .leaf) .leaf) .leaf)) (.br 7 (.br 6 (.br 8 (.br 9 .leaf .leaf) .leaf) .leaf) .leaf)) .leaf) .leaf) .leaf) (.br 3 (.br 0 (.br 4 (.br 5 (.br 6 (.br 7 (.br 8 (.br 9 .leaf .leaf) .leaf) (.br 8 (.br 7 (.br 9 .leaf .leaf) .leaf) .leaf)) (.br 7 (.br 6 (.br 8 (.br 9 .leaf .leaf) .leaf) .leaf) .leaf)) .leaf) .leaf) .leaf) .leaf)) .leaf)) (.br 2 (.br 0 (.br 1 (.br 3 (.br 4 (.br 5 (.br 6 (.br 7 (.br 8 (.br 9 .leaf .leaf) .leaf) (.br 8 (.br 7 (.br 9 .leaf .leaf) .leaf) .leaf)) (.br 7 (.br 6 (.br 8 (.br 9 .leaf .leaf) .leaf) .leaf) .leaf)) .leaf) .leaf) .leaf) .leaf) (.br 1 (.br 0 (.br 3 (.br 4 (.br 5 (.br 6 (.br 7 (.br 8 (.br 9 .leaf .leaf) .leaf) (.br 8 (.br 7 (.br 9 .leaf .leaf) .leaf) .leaf)) (.br 7 (.br 6 (.br 8 (.br 9 .leaf .leaf) .leaf) .leaf) .leaf)) .leaf) .leaf) .leaf) (.br 3 (.br 0 (.br 4 (.br 5 (.br 6 (.br 7 (.br 8 (.br 9 .leaf .leaf) .leaf) (.br 8 (.br 7 (.br 9 .leaf .leaf) .leaf) .leaf)) (.br 7 (.br 6 (.br 8 (.br 9 .leaf .leaf) .leaf) .leaf) .leaf)) .leaf) .leaf) .leaf) .leaf)) .leaf)) .leaf))), by kernel_rfl, ?_⟩)
    repeat' ((conv => whnf); first | exact True.intro | refine And.intro ?_ ?_)
    all_goals conv => whnf
    all_goals refine ?nkey4
    conv => whnf
    refine ⟨(((x1, y1), (x2, y2)), none), [], rfl, hok, ?_⟩
    rw [f1, f2, show commonS.blks (((x1, y1), (x2, y2)), none) = [] from rfl]
    conv => whnf
    refine ⟨_, rfl, ?_⟩
    repeat' ((conv => whnf); first | exact True.intro | refine And.intro ?_ ?_)
    all_goals conv => whnf
    all_goals refine ?nend4
    conv => whnf
    rw [show (E != E) = false from by simp]
    conv => whnf
    refine ⟨((none : PL), (none : PL)), [], rfl, ⟨Nat.zero_le _, Nat.zero_le _⟩, ?_⟩
    conv => whnf
    refine ⟨.bool true, rfl, ?_⟩
    conv => whnf
    have hpe := parts_err (l := qs []) (by decide) (by rw [hE]; exact h0)
    rw [hE] at hpe
    rcases hpe with rfl | rfl | ⟨rfl, hno⟩
    ·conv => whnf
     conv => whnf
     refine ⟨(), rfl, trivial, ?_⟩
     conv => whnf
     exact fin
    ·conv => whnf
     conv => whnf
     refine ⟨(), rfl, trivial, ?_⟩
     conv => whnf
     exact fin
    ·conv => whnf
     have hin : ¬ leftB (XV.p ((x1, y1), (x2, y2))) (qs []) v.p := fun e => hno v.p ⟨e.1, fun m hm => (e.2 m hm).2⟩
     refine ⟨((((x1, y1), (x2, y2)), none), v), [], by rw [show leftS.args ((((x1, y1), (x2, y2)), none), v) = [XV.v ((x1, y1), (x2, y2)), .slice none 0 0, v.v] from rfl]; rfl, ⟨⟨PV.sz_mono sb1 (by decide), PV.sz_mono sb2 (by decide)⟩, Nat.zero_le _, (fun m hm => nomatch (show m ∈ ([] : List R3) from hm)), PV.sz_mono sv (by decide)⟩, ?_⟩
     rw [show leftS.blks ((((x1, y1), (x2, y2)), none), v) = [] from rfl, show leftS.val ((((x1, y1), (x2, y2)), none), v) = .bool false from congrArg Value.bool (decide_eq_false hin), show leftS.new ((((x1, y1), (x2, y2)), none), v) = none from rfl]
     conv => whnf
     refine ⟨.bool false, rfl, ?_⟩
     conv => whnf
     conv => whnf
     refine ⟨(), rfl, trivial, ?_⟩
     conv => whnf
     exact fin
  ·conv => whnf
   conv => whnf
   refine ⟨(), rfl, trivial, ?_⟩
   conv => whnf
   exact fin
 | some i =>
  obtain ⟨l, c0⟩ := i
  have hlen : l.length * 120 ≤ 140737488351232 := hlen
  obtain ⟨n, hn⟩ : ∃ n, n = l.length := ⟨_, rfl⟩
  obtain ⟨g, hg⟩ : ∃ g, g = rowsLn l := ⟨_, rfl⟩
  obtain ⟨cu, hcu⟩ : ∃ cu, cu = capU := ⟨_, rfl⟩
  rw [← hn] at hlen
  have fin : ∃ v', renV (List.range 1) 3 (lpartsS.val ((((x1, y1), (x2, y2)), some (l, c0)), v)) = some v' ∧ VLe (.bool true) v' := ⟨.bool true, rfl, .refl _⟩
  rw [show lpartsS.blks ((((x1, y1), (x2, y2)), some (l, c0)), v) = [.flat false n 9 g] from by rw [hn, hg]; rfl, show lpartsS.args ((((x1, y1), (x2, y2)), some (l, c0)), v) = [XV.v ((x1, y1), (x2, y2)), .slice (some ⟨0, 0, none⟩) n c0, v.v] from by rw [hn]; rfl]
  conv => whnf
  obtain ⟨G, hG⟩ : ∃ G, G = greatL l [(x1, y1), (x2, y2), v] := ⟨_, rfl⟩
  refine ⟨(some (l, c0), some ([(x1, y1), (x2, y2), v], 3)), [0, 3], by rw [show greatLS.args (some (l, c0), some ([(x1, y1), (x2, y2), v], 3)) = [.slice (some ⟨0, 0, none⟩) n c0, .slice (some ⟨1, 0, none⟩) 3 3] from by rw [hn]; rfl]; rfl, ⟨by show l.length ≤ _; omega, by show 3 ≤ 1099511627776; decide⟩, ?_⟩
  rw [show greatLS.blks (some (l, c0), some ([(x1, y1), (x2, y2), v], 3)) = [.flat false n 9 g, .flat false 3 6 (rowsP [(x1, y1), (x2, y2), v])] from by rw [hn, hg]; rfl, show greatLS.val (some (l, c0), some ([(x1, y1), (x2, y2), v], 3)) = .bool G from by rw [hG]; rfl, show greatLS.new (some (l, c0), some ([(x1, y1), (x2, y2), v], 3)) = none from rfl]
  conv => whnf
  refine ⟨BlkLe.flat_flat (fun h => h) (fun r hr => by rw [hg]; rfl), lit_blk [(x1, y1), (x2, y2), v], ?_⟩
  conv => whnf
  refine ⟨.bool G, rfl, ?_⟩
  conv => whnf
  have hgr := fun h => great_false (hG.symm.trans h)
  have hgl := fun h => great_len (hG.symm.trans h)
  clear hG
  cases hG2 : G
  ·obtain ⟨hls, hps⟩ := hgr hG2
   have hn8 := hgl hG2
   rw [← hn] at hn8
   have sb1 : PV.sz 20 (x1, y1) := hps _ (by simp)
   have sb2 : PV.sz 20 (x2, y2) := hps _ (by simp)
   have sv : PV.sz 20 v := hps _ (by simp)
   have qv := PV.psz sv (by decide)
   obtain ⟨E, hE⟩ : ∃ E, comE (XV.p ((x1, y1), (x2, y2))) (qs l) = E := ⟨_, rfl⟩
   have hok : comOk ((x1, y1), (x2, y2)) l := com_ok sb1 sb2 hls (by omega) (.inl (by omega))
   conv => whnf
   by_cases h0 : E = 0
   ·have c := com_ring (hE.trans h0)
    obtain ⟨P, hP⟩ : ∃ P, comP (XV.p ((x1, y1), (x2, y2))) (qs l) = P := ⟨_, rfl⟩
    obtain ⟨M, hM⟩ : ∃ M, P.length = M := ⟨_, rfl⟩
    obtain ⟨gs, hgs⟩ : ∃ g, g = rowsQ P := ⟨_, rfl⟩
    obtain ⟨f1, f2⟩ := common_new (b := ((x1, y1), (x2, y2))) (i := some (l, c0)) (hE.trans h0) hP hM hgs
    rw [← hcu] at f2
    refine ⟨(((x1, y1), (x2, y2)), some (l, c0)), [0], by rw [show commonS.args (((x1, y1), (x2, y2)), some (l, c0)) = [XV.v ((x1, y1), (x2, y2)), .slice (some ⟨0, 0, none⟩) n c0] from by rw [hn]; rfl]; rfl, hok, ?_⟩
    rw [f1, f2, show commonS.blks (((x1, y1), (x2, y2)), some (l, c0)) = [.flat false n 9 g] from by rw [hn, hg]; rfl]
    conv => whnf
    refine ⟨BlkLe.flat_flat (fun h => h) (fun r hr => by rw [hg]; rfl), ?_⟩
    conv => whnf
    refine ⟨_, rfl, ?_⟩
    conv => whnf
    refine ⟨some (l, c0), [0], by rw [show lcloneS.args (some (l, c0)) = [.slice (some ⟨0, 0, none⟩) n c0] from by rw [hn]; rfl]; rfl, by show l.length * 120 ≤ 140737488355328; omega, ?_⟩
    rw [show lcloneS.blks (some (l, c0)) = [.flat false n 9 g] from by rw [hn, hg]; rfl, show lcloneS.val (some (l, c0)) = .slice (some ⟨1, 0, none⟩) n cu from by rw [hn, hcu]; rfl, show lcloneS.new (some (l, c0)) = some (.flat true n 9 g) from by rw [hn, hg]; rfl]
    conv => whnf
    refine ⟨BlkLe.flat_flat (fun h => h) (fun r hr => by rw [hg]; rfl), ?_⟩
    conv => whnf
    refine ⟨_, rfl, ?_⟩
    conv => whnf
    obtain ⟨g2, hg2⟩ : ∃ g, g = rowsLn l.reverse := ⟨_, rfl⟩
    refine ⟨some (l, cu), [5], by rw [show revLS.args (some (l, cu)) = [.slice (some ⟨0, 0, none⟩) n cu] from by rw [hn]; rfl]; rfl, by show l.length ≤ _; omega, by decide, ?_⟩
    rw [show revLS.blks (some (l, cu)) = [.flat true n 9 g] from by rw [hn, hg]; rfl]
    conv => whnf
    refine ⟨BlkLe.flat_flat (fun h => h) (fun r hr => by rw [hg]; rfl), ?_⟩
    rw [show revLS.post (some (l, cu)) = [.flat true n 9 g2] from by rw [hn, hg2]; rfl]
    conv => whnf
    refine ⟨_, rfl, ?_⟩
    conv => whnf
    refine .inr (.inl ⟨(.br 0 (.br 1 (.br 2 (.br 3 (.br 4 (.br 5 (.br 6 (.br 7 (.br 8 (.br 9 .leaf .leaf) .leaf) (.br 8 (.br 7 (.br 9 .leaf .leaf) .leaf) .leaf)) (.br 7 (.br 6 (.br 8 (.br 9 .leaf .leaf) .leaf) .leaf) .leaf)) .leaf) .leaf) .leaf) .leaf) (.br 2 (.br 1 (.br 3 (.br 4 (.br 5 (.br 6 (.br 7 (.br 8 (.br 9 .leaf .leaf) .leaf) (.br 8 (.br 7 (.br 9 .leaf .leaf) .leaf) .leaf)) (.br 7 (.br 6 (.br 8 (.br 9 .leaf .leaf) .leaf) .leaf) .leaf)) .leaf) .leaf) .leaf) .leaf) .leaf)) (.br 1 (.br 0 (.br 2 (.br 3 (.br 4 (.br 5 (.br 6 (.br 7 (.br 8 (.br 9 .leaf .leaf) .leaf) (.br 8 (.br 7 (.br 9 .leaf .leaf) .leaf) .leaf)) (.br 7 (.br 6 (.br 8 (.br 9 .leaf .leaf) .leaf) .leaf) .leaf)) .leaf) .leaf) .leaf) .leaf) (.br 2 (.br 0 (.br 3 (.br 4 (.br 5 (.br 6 (.br 7 (.br 8 (.br 9 .leaf .leaf) .leaf) (.br 8 (.br 7 (.br 9 .leaf .leaf) .leaf) .leaf)) (.br 7 (.br 6 (.br 8 (.br 9 .leaf .leaf) .leaf) .leaf) .leaf)) .leaf) .leaf) .leaf) (.br 3 (.br 0 (.br 4 (.br 5 (.br 6 (.br 7 (.br 8 (.br 9 .leaf .leaf) .leaf) (.br 8 (.br 7 (.br 9 .leaf .leaf) .leaf) .leaf)) (.br 7 (.br 6 (.br 8 (.br 9 .leaf .leaf) .leaf) .leaf) .leaf)) .leaf) .leaf) .leaf) .leaf)) .leaf)) (.br 2 (.br 0 (.br 1 (.br 3 (.br 4 (.br 5 (.br 6 (.br 7 (.br 8 (.br 9 .leaf .leaf) .leaf) (.br 8 (.br 7 (.br 9 .leaf .leaf) .leaf) .leaf)) (.br 7 (.br 6 (.br 8 (.br 9 .leaf .leaf) .leaf) .leaf) .leaf)) .leaf) .leaf) .leaf) .leaf) (.br 1 (.br 0 (.br 3 (.br 4 (.br 5 (.br 6 (.br 7 (.br 8 (.br 9 .leaf .leaf) .leaf) (.br 8 (.br 7 (.br 9 .leaf .leaf) .leaf) .leaf)) (.br 7 (.br 6 (.br 8 (.br 9 .leaf .leaf) .leaf) .leaf) .leaf)) .leaf) .leaf) .leaf) (.br 3 (.br 0 (.br 4 (.br 5 (.br 6 (.br 7 (.br 8 (.br 9 .leaf .leaf) .leaf) (.br 8 (.br 7 (.br 9 .leaf .leaf) .leaf) .leaf)) (.br 7 (.br 6 (.br 8 (.br 9 .leaf .leaf) .leaf) .leaf) .leaf)) .leaf) .leaf) .leaf) .leaf)) .leaf)) .leaf))), by kernel_rfl, ?_⟩)
    repeat' ((conv => whnf); first | exact True.intro | refine And.intro ?_ ?_)
    all_goals conv => whnf
    any_goals exact Nat.le_of_eq (Nat.zero_add n)
    all_goals rw [show decide (cu = capU) = true from decide_eq_true hcu]
    all_goals conv => whnf
    all_goals refine ⟨⟨by show 1 ≤ 5; decide, rfl, by show (n + n) * 120 ≤ 140737488355328; omega⟩, ?_⟩
    all_goals conv => whnf
    all_goals refine ⟨[1, 3, 5, 6, 7, 8, 34], ?_⟩
    all_goals conv => whnf
    all_goals intro az
    all_goals conv => whnf
    repeat' ((conv => whnf); first | exact True.intro | refine And.intro ?_ ?_)
    all_goals conv => whnf
    all_goals revert az
    all_goals refine ?key5
    intro az
    conv => whnf
    obtain ⟨l2, hl2⟩ : ∃ L, L = l.reverse ++ l := ⟨_, rfl⟩
    have hn2 : l2.length = n + n := by rw [hl2, List.length_append, List.length_reverse, hn]
    have hls2 : ∀ r ∈ l2, r.sz 20 := fun r hr => by
     rw [hl2] at hr
     exact hls r ((List.mem_append.1 hr).elim (fun h => List.mem_reverse.1 h) id)
    have hok2 : comOk ((x1, y1), (x2, y2)) l2 := com_ok sb1 sb2 hls2 (by omega) (.inl (by omega))
    obtain ⟨j1, j2⟩ := com_same (b := XV.p ((x1, y1), (x2, y2))) (l := qs l) (l' := qs l2) (fun m => by rw [hl2]; exact rev_mem l m) (by rw [qs_len]; omega) (by rw [qs_len]; omega)
    obtain ⟨f3, f4⟩ := common_new (b := ((x1, y1), (x2, y2))) (i := some (l2, cu)) (j1.symm.trans (hE.trans h0)) ((j2 (hE.trans h0)).symm.trans hP) hM hgs
    rw [← hcu] at f4
    refine ⟨(((x1, y1), (x2, y2)), some (l2, cu)), [5], by rw [show commonS.args (((x1, y1), (x2, y2)), some (l2, cu)) = [XV.v ((x1, y1), (x2, y2)), .slice (some ⟨0, 0, none⟩) (n + n) cu] from by rw [← hn2]; rfl, hcu]; rfl, hok2, ?_⟩
    rw [f3, f4, show commonS.blks (((x1, y1), (x2, y2)), some (l2, cu)) = [.flat false (n + n) 9 (rowsLn l2)] from by rw [← hn2]; rfl]
    conv => whnf
    refine ⟨BlkLe.flat_rows (fun h => by cases h) (by rw [hl2]; exact revapp_rows hn hg hg2) (fun r hr => rfl), ?_⟩
    conv => whnf
    refine ⟨_, rfl, ?_⟩
    repeat' ((conv => whnf); first | exact True.intro | refine And.intro ?_ ?_)
    all_goals conv => whnf
    all_goals refine ?end5
    conv => whnf
    obtain ⟨Lp, hLp⟩ : ∃ L, L = pvs P := ⟨_, rfl⟩
    have hLl : Lp.length = M := by rw [hLp, pvs_length, hM]
    obtain ⟨hMb, hz⟩ := com_bound hok (by omega)
    rw [hP] at hMb hz
    rw [hM] at hMb
    refine ⟨(some (Lp, cu), some (Lp, cu)), [4, 6], by rw [show sameS.args (some (Lp, cu), some (Lp, cu)) = [.slice (some ⟨0, 0, none⟩) M cu, .slice (some ⟨1, 0, none⟩) M cu] from by rw [← hLl]; rfl]; rfl, ⟨by show Lp.length ≤ _; omega, by show Lp.length ≤ _; omega⟩, ?_⟩
    rw [show sameS.blks (some (Lp, cu), some (Lp, cu)) = [.flat false M 6 gs, .flat false M 6 gs] from by rw [← hLl, hgs, hLp]; rfl, show sameS.val (some (Lp, cu), some (Lp, cu)) = .bool true from congrArg Value.bool (decide_eq_true rfl), show sameS.new (some (Lp, cu), some (Lp, cu)) = none from rfl]
    conv => whnf
    refine ⟨BlkLe.flat_flat (fun h => by cases h) (fun r hr => by rw [hgs]; rfl), BlkLe.flat_flat (fun h => by cases h) (fun r hr => by rw [hgs]; rfl), ?_⟩
    conv => whnf
    refine ⟨.bool true, rfl, ?_⟩
    conv => whnf
    have hM3 : 3 ≤ M := by have := (com_three c).2.2; rw [hP, hM] at this; exact this
    refine .inl ⟨fun mm tz hz => ∃ (k : Nat), Pat [none, some (.slice (some ⟨0, 0, none⟩) n c0), none, some (.pointer (some ⟨1, 0, none⟩)), none, some (.pointer (some ⟨2, 0, none⟩)), some (.bool false), some (.slice (some ⟨3, 0, none⟩) M cu), some (.int .i64 0), none, none, none, none, none, none, none, none, none, none, none, none, none, none, none, none, none, none, none, none, none, none, none, none, none, none, none, none, none, none, none, none, none, none, none, none, none, none, none, none, none, none, none, some (.slice (some ⟨3, 0, none⟩) M cu), some (.int .i64 M), some (.int .i64 k), none, none, none, none, none, none, none, none, none, none, none, none, none, none, none, none, none, none, none, none, none, none, none, none, none, none, none, none, none, none, none, none, none, none, none, none, none, none, none, none, none, none, none, none, none, none, none, none, none, none, none, none, none, none, none, none, none, none, none, none, none, none, none, none, none, none, none, none, none, none, none, none, none, none, none, none, none, none, none] tz ∧ hz = [some (.flat false n 9 g), some (.expl true 12 [XV.cells ((x1, y1), (x2, y2))]), some (.expl true 6 [v.cells]), some (.flat true M 6 gs)] ∧ M - k = mm ∧ (k ≤ M), .inr ⟨[0, 1, 2, 4], [1, 3, 5, 6, 7, 8, 52, 53, 54], ?_⟩, ?_⟩
    ·conv => whnf
     intro _
     conv => whnf
     refine ⟨_, 0, (.skip (.keep (.skip (.keep (.skip (.keep (.keep (.keep (.keep (.s8 (.s8 (.s8 (.s8 (.s8 (.skip (.skip (.skip (.keep (.keep (.keep (.s8 (.s8 (.s8 (.s8 (.s8 (.s8 (.s8 (.s8 (.s8 (.skip (.skip (.skip (.skip (.skip (.skip (.skip (.nil))))))))))))))))))))))))))))))))))))), rfl, rfl, ?_⟩
     exact Nat.zero_le _
    rintro mm tms _ ⟨k, hpat, rfl, rfl, hk⟩
    obtain ⟨az, rfl⟩ : ∃ az : Nat → Value, tms = [az 0, .slice (some ⟨0, 0, none⟩) n c0, az 2, .pointer (some ⟨1, 0, none⟩), az 4, .pointer (some ⟨2, 0, none⟩), .bool false, .slice (some ⟨3, 0, none⟩) M cu, .int .i64 0, az 9, az 10, az 11, az 12, az 13, az 14, az 15, az 16, az 17, az 18, az 19, az 20, az 21, az 22, az 23, az 24, az 25, az 26, az 27, az 28, az 29, az 30, az 31, az 32, az 33, az 34, az 35, az 36, az 37, az 38, az 39, az 40, az 41, az 42, az 43, az 44, az 45, az 46, az 47, az 48, az 49, az 50, az 51, .slice (some ⟨3, 0, none⟩) M cu, .int .i64 M, .int .i64 k, az 55, az 56, az 57, az 58, az 59, az 60, az 61, az 62, az 63, az 64, az 65, az 66, az 67, az 68, az 69, az 70, az 71, az 72, az 73, az 74, az 75, az 76, az 77, az 78, az 79, az 80, az 81, az 82, az 83, az 84, az 85, az 86, az 87, az 88, az 89, az 90, az 91, az 92, az 93, az 94, az 95, az 96, az 97, az 98, az 99, az 100, az 101, az 102, az 103, az 104, az 105, az 106, az 107, az 108, az 109, az 110, az 111, az 112, az 113, az 114, az 115, az 116, az 117, az 118, az 119, az 120, az 121, az 122, az 123, az 124, az 125, az 126, az 127, az 128, az 129, az 130, az 131, az 132, az 133] := pat_fill hpat
    clear hpat
    conv => whnf
    refine br_intro (fun h3 => ?_) (fun h3 => ?_)
    ·have h3 : k < M := by
      have := of_decide_eq_true h3
      omega
     have e7 : IntKind.i64.wrap ((k : Int) + 1) = ((k + 1 : Nat) : Int) := by rw [wrapi64 (by omega) (by omega)]; rfl
     obtain ⟨a, ca, ra, pa, sa, qa⟩ := hideAt (L := P) (k := k) (by omega) hz
     rw [← hgs] at ra
     conv => whnf
     refine ⟨⟨by omega, by omega⟩, ?_⟩
     simp only [toNat_cast, rowAdd_eq, Nat.zero_add]
     conv => whnf
     refine ⟨by show k < M; omega, ?_⟩
     conv => whnf
     rw [ra]
     conv => whnf
     obtain ⟨b, cb, rb, pb, sb, qb⟩ := hideAt (L := P) (k := nxt M k) (by rw [hM]; exact nxt_lt (by omega)) hz
     obtain ⟨d, cd, rd, pd, sd, qd⟩ := hideAt (L := P) (k := nxt M (nxt M k)) (by rw [hM]; exact nxt_lt (nxt_lt (by omega))) hz
     have hnx := nxt_i h3 (by omega)
     have hnx2 := nxt2_i h3 (by omega)
     have hnl := nxt_lt h3
     have hnl2 := nxt_lt hnl
     have hcor := corner_next (com_rring c) (k := k) (by rw [hP, hM]; exact h3)
     rw [hP, hM, ← pa, ← pb, ← pd] at hcor
     have hin := (leftB_good c.good a.p).2 (vert_in c (by rw [hP, pa]; exact at2_mem (by omega)))
     obtain ⟨j, hj⟩ : ∃ j, j = nxt M k := ⟨_, rfl⟩
     rw [← hj] at hnx hnl hnl2 hnx2 rb rd
     obtain ⟨j2, hj2⟩ : ∃ j2, j2 = nxt M j := ⟨_, rfl⟩
     rw [← hj2] at hnl2 hnx2 rd
     rw [← hgs] at rb rd
     refine .inl ⟨34, [[], [], [], [0, 1, 2], [0, 1, 2, 3], [0, 1, 2, 3, 4], [0, 1, 2, 3, 4, 5], [0, 1, 2, 3, 4, 5], [0, 1, 2, 3, 4, 5], [0, 1, 2, 3, 4, 5, 8], [0, 1, 2, 3, 4, 5], [0, 1, 2, 3, 4, 5, 10], [0, 1, 2, 3, 4, 5, 8, 9, 10, 11], [0, 1, 2, 3, 4, 5, 7, 8, 9, 10, 11, 12], [0, 1, 2, 3, 4, 5, 7, 8, 9, 10, 11, 12, 13], [0, 1, 2, 3, 4, 5], [0, 1, 2, 3, 4, 5], [0, 1, 2, 3, 4, 5, 16], [0, 1, 2, 3, 4, 5], [0, 1, 2, 3, 4, 5, 18], [0, 1, 2, 3, 4, 5, 16, 17, 18, 19], [0, 1, 2, 3, 4, 5, 15, 16, 17, 18, 19, 20], [0, 1, 2, 3, 4, 5, 15, 16, 17, 18, 19, 20, 21], [0, 1, 2, 3, 4, 5, 6, 7, 8, 9, 10, 11, 12, 13, 14, 15, 16, 17, 18, 19, 20, 21, 22], [0, 1, 2, 3, 4, 5, 6, 7, 8, 9, 10, 11, 12, 13, 14, 15, 16, 17, 18, 19, 20, 21, 22, 23], [0, 1, 2, 3, 4, 5, 6, 7, 8, 9, 10, 11, 12, 13, 14, 15, 16, 17, 18, 19, 20, 21, 22, 23, 24], [0, 1, 2, 3, 4, 5, 6, 7, 8, 9, 10, 11, 12, 13, 14, 15, 16, 17, 18, 19, 20, 21, 22, 23, 24, 25], [0, 1, 2, 3, 4, 5, 6, 7, 8, 9, 10, 11, 12, 13, 14, 15, 16, 17, 18, 19, 20, 21, 22, 23, 24, 25, 26], [0, 1, 2, 3, 4, 5, 6, 7, 8, 9, 10, 11, 12, 13, 14, 15, 16, 17, 18, 19, 20, 21, 22, 23, 24, 25, 26, 27], [0, 1, 2, 3, 4, 5, 6, 7, 8, 9, 10, 11, 12, 13, 14, 15, 16, 17, 18, 19, 20, 21, 22, 23, 24, 25, 26, 27, 28], [0, 1, 2, 3, 4, 5, 6, 7, 8, 9, 10, 11, 12, 13, 14, 15, 16, 17, 18, 19, 20, 21, 22, 23, 24, 25, 26, 27, 28, 29], [0, 1, 2, 3, 4, 5, 6, 7, 8, 9, 10, 11, 12, 13, 14, 15, 16, 17, 18, 19, 20, 21, 22, 23, 24, 25, 26, 27, 28, 29], [0, 1, 2, 3, 4, 5, 6, 7, 8, 9, 10, 11, 12, 13, 14, 15, 16, 17, 18, 19, 20, 21, 22, 23, 24, 25, 26, 27, 28, 29, 31], [0, 1, 2, 3, 4, 5, 6, 7, 8, 9, 10, 11, 12, 13, 14, 15, 16, 17, 18, 19, 20, 21, 22, 23, 24, 25, 26, 27, 28, 29, 31, 32], [0, 1, 2, 3, 4, 5, 6, 7, 8, 9, 10, 11, 12, 13, 14, 15, 16, 17, 18, 19, 20, 21, 22, 23, 24, 25, 26, 27, 28, 29, 30, 31, 32, 33], [0, 1, 2, 3, 4, 5, 6, 7, 8, 9, 10, 11, 12, 13, 14, 15, 16, 17, 18, 19, 20, 21, 22, 23, 24, 25, 26, 27, 28, 29, 30, 31, 32, 33, 34], [0, 1, 2, 3, 4, 5, 6, 7, 8, 9, 10, 11, 12, 13, 14, 15, 16, 17, 18, 19, 20, 21, 22, 23, 24, 25, 26, 27, 28, 29, 30, 31, 32, 33, 34, 35], [0, 1, 2, 3, 4, 5, 6, 7, 8, 9, 10, 11, 12, 13, 14, 15, 16, 17, 18, 19, 20, 21, 22, 23, 24, 25, 26, 27, 28, 29, 30, 31, 32, 33, 34, 35, 36]], by kernel_rfl, ?_⟩
     conv => whnf
     refine ⟨((((x1, y1), (x2, y2)), some (l, c0)), a), [0], by rw [show leftS.args ((((x1, y1), (x2, y2)), some (l, c0)), a) = [XV.v ((x1, y1), (x2, y2)), .slice (some ⟨0, 0, none⟩) n c0, a.v] from by rw [hn]; rfl]; rfl, ⟨⟨PV.sz_mono sb1 (by decide), PV.sz_mono sb2 (by decide)⟩, by show l.length ≤ _; omega, fun m hm => R3.sz_mono (hls m hm) (by decide), PV.sz_mono sa (by decide)⟩, ?_⟩
     rw [show leftS.blks ((((x1, y1), (x2, y2)), some (l, c0)), a) = [.flat false n 9 g] from by rw [hn, hg]; rfl, show leftS.val ((((x1, y1), (x2, y2)), some (l, c0)), a) = .bool true from congrArg Value.bool (decide_eq_true hin), show leftS.new ((((x1, y1), (x2, y2)), some (l, c0)), a) = none from rfl]
     conv => whnf
     refine ⟨BlkLe.flat_flat (fun h => h) (fun r hr => by rw [hg]; rfl), ?_⟩
     conv => whnf
     refine ⟨.bool true, rfl, ?_⟩
     conv => whnf
     rw [show decide ((M : Int) ≠ 0) = true from decide_eq_true (by omega)]
     conv => whnf
     rw [hnx]
     refine ⟨⟨by omega, by omega⟩, ?_⟩
     simp only [toNat_cast, rowAdd_eq, Nat.zero_add]
     conv => whnf
     refine ⟨by show j < M; omega, ?_⟩
     conv => whnf
     rw [rb]
     conv => whnf
     rw [show decide ((M : Int) ≠ 0) = true from decide_eq_true (by omega)]
     conv => whnf
     rw [hnx2]
     refine ⟨⟨by omega, by omega⟩, ?_⟩
     simp only [toNat_cast, rowAdd_eq, Nat.zero_add]
     conv => whnf
     refine ⟨by show j2 < M; omega, ?_⟩
     conv => whnf
     rw [rd]
     conv => whnf
     obtain ⟨z, ez, pz⟩ := hideZ (cmpQ (orR a.p b.p d.p) 0)
     refine ⟨(a, b, d), rfl, ⟨PV.sz_mono sa (by decide), PV.sz_mono sb (by decide), PV.sz_mono sd (by decide)⟩, ?_⟩
     rw [show orientS.val (a, b, d) = .int .i64 z from ez]
     conv => whnf
     have hz0 : 0 < z := by rw [pz]; exact cmpQ_pos.2 hcor
     rw [show decide (z ≤ 0) = false from decide_eq_false (by omega)]
     conv => whnf
     by_cases hk0 : k = 0
     ·rw [show decide ((k : Int) > 0) = false from decide_eq_false (by omega)]
      conv => whnf
      rw [e7]
      refine .inr ⟨[0, 1, 2, 3], [1, 3, 5, 6, 7, 8, 52, 53, 54], ?_⟩
      conv => whnf
      intro _
      conv => whnf
      refine ⟨_, ?_, k + 1, (.skip (.keep (.skip (.keep (.skip (.keep (.keep (.keep (.keep (.s8 (.s8 (.s8 (.s8 (.s8 (.skip (.skip (.skip (.keep (.keep (.keep (.s8 (.s8 (.s8 (.s8 (.s8 (.s8 (.s8 (.s8 (.s8 (.skip (.skip (.skip (.skip (.skip (.skip (.skip (.nil))))))))))))))))))))))))))))))))))))), rfl, rfl, ?_⟩
      ·omega
      ·omega
     ·rw [show decide ((k : Int) > 0) = true from decide_eq_true (by omega)]
      conv => whnf
      obtain ⟨o, co, ro, po, so, qo⟩ := hideAt (L := P) (k := 0) (by omega) hz
      rw [← hgs] at ro
      have hlf : 0 < cmpR (at2 (comP (XV.p ((x1, y1), (x2, y2))) (qs l)) k) (at2 (comP (XV.p ((x1, y1), (x2, y2))) (qs l)) 0) := least_first c.ring (by show k < (comP (XV.p ((x1, y1), (x2, y2))) (qs l)).length; rw [hP, hM]; exact h3) (by omega)
      rw [hP, ← pa, ← po] at hlf
      have ro' : gs (Int.toNat 0) = o.cells := ro
      refine ⟨⟨by omega, by omega⟩, ?_⟩
      simp only [toNat_cast, rowAdd_eq, Nat.zero_add]
      conv => whnf
      refine ⟨by show 0 < M; omega, ?_⟩
      conv => whnf
      rw [ro']
      conv => whnf
      obtain ⟨w, ew, pw⟩ := hideZ (cmpR a.p o.p)
      refine ⟨(a, o), rfl, ⟨PV.sz_mono sa (by decide), PV.sz_mono so (by decide)⟩, ?_⟩
      rw [show vcmpS.val (a, o) = .int .i64 w from ew]
      conv => whnf
      rw [show decide (w ≤ 0) = false from decide_eq_false (by omega)]
      conv => whnf
      rw [e7]
      refine .inr ⟨[0, 1, 2, 3], [1, 3, 5, 6, 7, 8, 52, 53, 54], ?_⟩
      conv => whnf
      intro _
      conv => whnf
      refine ⟨_, ?_, k + 1, (.skip (.keep (.skip (.keep (.skip (.keep (.keep (.keep (.keep (.s8 (.s8 (.s8 (.s8 (.s8 (.skip (.skip (.skip (.keep (.keep (.keep (.s8 (.s8 (.s8 (.s8 (.s8 (.s8 (.s8 (.s8 (.s8 (.skip (.skip (.skip (.skip (.skip (.skip (.skip (.nil))))))))))))))))))))))))))))))))))))), rfl, rfl, ?_⟩
      ·omega
      ·omega
    ·conv => whnf
     skip
     refine .inl ⟨6, [[], [], [0, 1], [], [], [], [0, 1, 2, 3, 4, 5], [0, 1, 2, 3, 4, 5, 6], [0, 1, 2, 3, 4, 5, 6, 7], [0, 1, 2, 3, 4, 5, 6, 7, 8], [0, 1, 2, 3, 4, 5, 6, 7, 8, 9], [0, 1, 2, 3, 4, 5, 6, 7, 8, 9, 10]], by kernel_rfl, ?_⟩
     conv => whnf
     obtain ⟨w, hw⟩ : ∃ w, w = decide (leftB (XV.p ((x1, y1), (x2, y2))) (qs l) v.p) := ⟨_, rfl⟩
     have hri : (rinB P v.p ∧ 2 < P.length) ↔ leftB (XV.p ((x1, y1), (x2, y2))) (qs l) v.p := by
      rw [leftB_good c.good, ← rin_iff c, hP]
      exact ⟨fun e => e.1, fun e => ⟨e, by omega⟩⟩
     refine ⟨((P, cu), v), [3], by rw [show rinsS.args ((P, cu), v) = [.slice (some ⟨0, 0, none⟩) M cu, v.v] from by rw [← hM]; rfl]; rfl, ⟨by show P.length ≤ 1099511627776; omega, fun u hu => Q2.mono (hz u hu) (by decide), PV.sz_mono sv (by decide)⟩, ?_⟩
     rw [show rinsS.blks ((P, cu), v) = [.flat false M 6 gs] from by rw [← hM, hgs]; rfl, show rinsS.val ((P, cu), v) = .bool w from by rw [hw]; exact congrArg Value.bool (decide_eq_decide.2 hri), show rinsS.new ((P, cu), v) = none from rfl]
     conv => whnf
     refine ⟨BlkLe.flat_flat (fun h => by cases h) (fun r hr => by rw [hgs]; rfl), ?_⟩
     conv => whnf
     refine ⟨.bool w, rfl, ?_⟩
     conv => whnf
     refine ⟨((((x1, y1), (x2, y2)), some (l, c0)), v), [0], by rw [show leftS.args ((((x1, y1), (x2, y2)), some (l, c0)), v) = [XV.v ((x1, y1), (x2, y2)), .slice (some ⟨0, 0, none⟩) n c0, v.v] from by rw [hn]; rfl]; rfl, ⟨⟨PV.sz_mono sb1 (by decide), PV.sz_mono sb2 (by decide)⟩, by show l.length ≤ _; omega, fun m hm => R3.sz_mono (hls m hm) (by decide), PV.sz_mono sv (by decide)⟩, ?_⟩
     rw [show leftS.blks ((((x1, y1), (x2, y2)), some (l, c0)), v) = [.flat false n 9 g] from by rw [hn, hg]; rfl, show leftS.val ((((x1, y1), (x2, y2)), some (l, c0)), v) = .bool w from by rw [hw]; rfl, show leftS.new ((((x1, y1), (x2, y2)), some (l, c0)), v) = none from rfl]
     conv => whnf
     refine ⟨BlkLe.flat_flat (fun h => h) (fun r hr => by rw [hg]; rfl), ?_⟩
     conv => whnf
     refine ⟨.bool w, rfl, ?_⟩
     conv => whnf
     rw [show (w == w) = true from by simp]
     conv => whnf
     refine ⟨(), rfl, trivial, ?_⟩
     conv => whnf
     exact fin
   ·obtain ⟨f1, f2⟩ := common_err (b := ((x1, y1), (x2, y2))) (i := some (l, c0)) hE h0
    refine ⟨(((x1, y1), (x2, y2)), some (l, c0)), [0], by rw [show commonS.args (((x1, y1), (x2, y2)), some (l, c0)) = [XV.v ((x1, y1), (x2, y2)), .slice (some ⟨0, 0, none⟩) n c0] from by rw [hn]; rfl]; rfl, hok, ?_⟩
    rw [f1, f2, show commonS.blks (((x1, y1), (x2, y2)), some (l, c0)) = [.flat false n 9 g] from by rw [hn, hg]; rfl]
    conv => whnf
    refine ⟨BlkLe.flat_flat (fun h => h) (fun r hr => by rw [hg]; rfl), ?_⟩
    conv => whnf
    refine ⟨_, rfl, ?_⟩
    conv => whnf
    refine ⟨some (l, c0), [0], by rw [show lcloneS.args (some (l, c0)) = [.slice (some ⟨0, 0, none⟩) n c0] from by rw [hn]; rfl]; rfl, by show l.length * 120 ≤ 140737488355328; omega, ?_⟩
    rw [show lcloneS.blks (some (l, c0)) = [.flat false n 9 g] from by rw [hn, hg]; rfl, show lcloneS.val (some (l, c0)) = .slice (some ⟨1, 0, none⟩) n cu from by rw [hn, hcu]; rfl, show lcloneS.new (some (l, c0)) = some (.flat true n 9 g) from by rw [hn, hg]; rfl]
    conv => whnf
    refine ⟨BlkLe.flat_flat (fun h => h) (fun r hr => by rw [hg]; rfl), ?_⟩
    conv => whnf
    refine ⟨_, rfl, ?_⟩
    conv => whnf
    obtain ⟨g2, hg2⟩ : ∃ g, g = rowsLn l.reverse := ⟨_, rfl⟩
    refine ⟨some (l, cu), [4], by rw [show revLS.args (some (l, cu)) = [.slice (some ⟨0, 0, none⟩) n cu] from by rw [hn]; rfl]; rfl, by show l.length ≤ _; omega, by decide, ?_⟩
    rw [show revLS.blks (some (l, cu)) = [.flat true n 9 g] from by rw [hn, hg]; rfl]
    conv => whnf
    refine ⟨BlkLe.flat_flat (fun h => h) (fun r hr => by rw [hg]; rfl), ?_⟩
    rw [show revLS.post (some (l, cu)) = [.flat true n 9 g2] from by rw [hn, hg2]; rfl]
    conv => whnf
    refine ⟨_, rfl, ?_⟩
    conv => whnf
    refine .inr (.inl ⟨(.br 0 (.br 1 (.br 2 (.br 3 (.br 4 (.br 5 (.br 6 (.br 7 (.br 8 (.br 9 .leaf .leaf) .leaf) (.br 8 (.br 7 (.br 9 .leaf .leaf) .leaf) .leaf)) (.br 7 (.br 6 (.br 8 (.br 9 .leaf .leaf) .leaf) .leaf) .leaf)) .leaf) .leaf) .leaf) .leaf) (.br 2 (.br 1 (.br 3 (.br 4 (.br 5 (.br 6 (.br 7 (.br 8 (.br 9 .leaf .leaf) .leaf) (.br 8 (.br 7 (.br 9 .leaf .leaf) .leaf) .leaf)) (.br 7 (.br 6 (.br 8 (.br 9 .leaf .leaf) .leaf) .leaf) .leaf)) .leaf) .leaf) .leaf) .leaf) .leaf)) (.br 1 (.br 0 (.br 2 (.br 3 (.br 4 (.br 5 (.br 6 (.br 7 (.br 8 (.br 9 .leaf .leaf) .leaf) (.br 8 (.br 7 (.br 9 .leaf .leaf) .leaf) .leaf)) (.br 7 (.br 6 (.br 8 (.br 9 .leaf .leaf) .leaf) .leaf) .leaf)) .leaf) .leaf) .leaf) .leaf) (.br 2 (.br 0 (.br 3 (.br 4 (.br 5 (.br 6 (.br 7 (.br 8 (.br 9 .leaf .leaf) .leaf) (.br 8 (.br 7 (.br 9 .leaf .leaf) .leaf) .leaf)) (.br 7 (.br 6 (.br 8 (.br 9 .leaf .leaf) .leaf) .leaf) .leaf)) .leaf) .leaf) .leaf) (.br 3 (.br 0 (.br 4 (.br 5 (.br 6 (.br 7 (.br 8 (.br 9 .leaf .leaf) .leaf) (.br 8 (.br 7 (.br 9 .leaf .leaf) .leaf) .leaf)) (.br 7 (.br 6 (.br 8 (.br 9 .leaf .leaf) .leaf) .leaf) .leaf)) .leaf) .leaf) .leaf) .leaf)) .leaf)) (.br 2 (.br 0 (.br 1 (.br 3 (.br 4 (.br 5 (.br 6 (.br 7 (.br 8 (.br 9 .leaf .leaf) .leaf) (.br 8 (.br 7 (.br 9 .leaf .leaf) .leaf) .leaf)) (.br 7 (.br 6 (.br 8 (.br 9 .leaf .leaf) .leaf) .leaf) .leaf)) .leaf) .leaf) .leaf) .leaf) (.br 1 (.br 0 (.br 3 (.br 4 (.br 5 (.br 6 (.br 7 (.br 8 (.br 9 .leaf .leaf) .leaf) (.br 8 (.br 7 (.br 9 .leaf .leaf) .leaf) .leaf)) (.br 7 (.br 6 (.br 8 (.br 9 .leaf .leaf) .leaf) .leaf) .leaf)) .leaf) .leaf) .leaf) (.br 3 (.br 0 (.br 4 (.br 5 (.br 6 (.br 7 (.br 8 (.br 9 .leaf .leaf) .leaf) (.br 8 (.br 7 (.br 9 .leaf .leaf) .leaf) .leaf)) (.br 7 (.br 6 (.br 8 (.br 9 .leaf .leaf) .leaf) .leaf) .leaf)) .leaf) .leaf) .leaf) .leaf)) .leaf)) .leaf))), by kernel_rfl, ?_⟩)
    repeat' ((conv => whnf); first | exact True.intro | refine And.intro ?_ ?_)
    all_goals conv => whnf
    any_goals exact Nat.le_of_eq (Nat.zero_add n)
    all_goals rw [show decide (cu = capU) = true from decide_eq_true hcu]
    all_goals conv => whnf
    all_goals refine ⟨⟨by show 1 ≤ 4; decide, rfl, by show (n + n) * 120 ≤ 140737488355328; omega⟩, ?_⟩
    all_goals conv => whnf
    all_goals refine ⟨[1, 3, 5, 6, 7, 8, 34], ?_⟩
    all_goals conv => whnf
    all_goals intro az
    all_goals conv => whnf
    repeat' ((conv => whnf); first | exact True.intro | refine And.intro ?_ ?_)
    all_goals conv => whnf
    all_goals revert az
    all_goals refine ?key4
    intro az
    conv => whnf
    obtain ⟨l2, hl2⟩ : ∃ L, L = l.reverse ++ l := ⟨_, rfl⟩
    have hn2 : l2.length = n + n := by rw [hl2, List.length_append, List.length_reverse, hn]
    have hls2 : ∀ r ∈ l2, r.sz 20 := fun r hr => by
     rw [hl2] at hr
     exact hls r ((List.mem_append.1 hr).elim (fun h => List.mem_reverse.1 h) id)
    have hok2 : comOk ((x1, y1), (x2, y2)) l2 := com_ok sb1 sb2 hls2 (by omega) (.inl (by omega))
    obtain ⟨j1, j2⟩ := com_same (b := XV.p ((x1, y1), (x2, y2))) (l := qs l) (l' := qs l2) (fun m => by rw [hl2]; exact rev_mem l m) (by rw [qs_len]; omega) (by rw [qs_len]; omega)
    obtain ⟨f3, f4⟩ := common_err (b := ((x1, y1), (x2, y2))) (i := some (l2, cu)) (j1.symm.trans hE) h0
    refine ⟨(((x1, y1), (x2, y2)), some (l2, cu)), [4], by rw [show commonS.args (((x1, y1), (x2, y2)), some (l2, cu)) = [XV.v ((x1, y1), (x2, y2)), .slice (some ⟨0, 0, none⟩) (n + n) cu] from by rw [← hn2]; rfl, hcu]; rfl, hok2, ?_⟩
    rw [f3, f4, show commonS.blks (((x1, y1), (x2, y2)), some (l2, cu)) = [.flat false (n + n) 9 (rowsLn l2)] from by rw [← hn2]; rfl]
    conv => whnf
    refine ⟨BlkLe.flat_rows (fun h => by cases h) (by rw [hl2]; exact revapp_rows hn hg hg2) (fun r hr => rfl), ?_⟩
    conv => whnf
    refine ⟨_, rfl, ?_⟩
    repeat' ((conv => whnf); first | exact True.intro | refine And.intro ?_ ?_)
    all_goals conv => whnf
    all_goals refine ?end4
    conv => whnf
    rw [show (E != E) = false from by simp]
    conv => whnf
    refine ⟨((none : PL), (none : PL)), [], rfl, ⟨Nat.zero_le _, Nat.zero_le _⟩, ?_⟩
    conv => whnf
    refine ⟨.bool true, rfl, ?_⟩
    conv => whnf
    have hpe := parts_err (l := qs l) (by rw [qs_len]; omega) (by rw [hE]; exact h0)
    rw [hE] at hpe
    rcases hpe with rfl | rfl | ⟨rfl, hno⟩
    ·conv => whnf
     conv => whnf
     refine ⟨(), rfl, trivial, ?_⟩
     conv => whnf
     exact fin
    ·conv => whnf
     conv => whnf
     refine ⟨(), rfl, trivial, ?_⟩
     conv => whnf
     exact fin
    ·conv => whnf
     have hin : ¬ leftB (XV.p ((x1, y1), (x2, y2))) (qs l) v.p := fun e => hno v.p ⟨e.1, fun m hm => (e.2 m hm).2⟩
     refine ⟨((((x1, y1), (x2, y2)), some (l, c0)), v), [0], by rw [show leftS.args ((((x1, y1), (x2, y2)), some (l, c0)), v) = [XV.v ((x1, y1), (x2, y2)), .slice (some ⟨0, 0, none⟩) n c0, v.v] from by rw [hn]; rfl]; rfl, ⟨⟨PV.sz_mono sb1 (by decide), PV.sz_mono sb2 (by decide)⟩, by show l.length ≤ _; omega, fun m hm => R3.sz_mono (hls m hm) (by decide), PV.sz_mono sv (by decide)⟩, ?_⟩
     rw [show leftS.blks ((((x1, y1), (x2, y2)), some (l, c0)), v) = [.flat false n 9 g] from by rw [hn, hg]; rfl, show leftS.val ((((x1, y1), (x2, y2)), some (l, c0)), v) = .bool false from congrArg Value.bool (decide_eq_false hin), show leftS.new ((((x1, y1), (x2, y2)), some (l, c0)), v) = none from rfl]
     conv => whnf
     refine ⟨BlkLe.flat_flat (fun h => h) (fun r hr => by rw [hg]; rfl), ?_⟩
     conv => whnf
     refine ⟨.bool false, rfl, ?_⟩
     conv => whnf
     conv => whnf
     refine ⟨(), rfl, trivial, ?_⟩
     conv => whnf
     exact fin
  ·conv => whnf
   conv => whnf
   refine ⟨(), rfl, trivial, ?_⟩
   conv => whnf
   exact fin
end Go.Proofs.YtppeponndkfbkaaGreat
/- The statement LineParts. -/
namespace Go.Proofs.YtppeponndkfbkaaGreat
open Go Go.Ae Go.ChangeShapes Go.WideShapes Go.ChangeAt Go.RowKit
theorem own : ownKnob Tryz.prog.godebug = none := by kernel_rfl
theorem laidOut : laidOutB Tryz.prog = true := by kernel_rfl
def zX : Value := .agg #[.bool false, .string ⟨#[]⟩, .string ⟨#[]⟩, .bool false, .string ⟨#[]⟩, .string ⟨#[]⟩, .bool false, .string ⟨#[]⟩, .string ⟨#[]⟩, .bool false, .string ⟨#[]⟩, .string ⟨#[]⟩]
set_option maxRecDepth 100000 in
theorem open_abox {w : World} {r : Reach} {base : Nat} {v : Value} (h : Value.okWide Tryz.prog w r base 44 v) : ∃ p : XV, v = p.v :=
 open_box Tryz.underlying44 (b := 4) (s := 9) (by kernel_rfl) (by kernel_rfl) Tryz.underlying4 Tryz.underlying9 h
set_option maxRecDepth 100000 in
theorem ptTy : PtTy Tryz.prog 23 27 4 9 :=
 ⟨⟨_, _, _, Tryz.underlying23, ⟨rfl, rfl⟩, ⟨rfl, rfl⟩, rfl, rfl⟩, ⟨_, _, Tryz.underlying27, ⟨rfl, rfl⟩, rfl, rfl⟩, Tryz.underlying4, Tryz.underlying9, by kernel_rfl, by kernel_rfl, by kernel_rfl, by kernel_rfl⟩
set_option maxRecDepth 100000 in
theorem lnTy : LnTy Tryz.prog 23 25 :=
 ⟨⟨_, _, _, Tryz.underlying25, ⟨rfl, rfl⟩, ⟨rfl, rfl⟩, rfl, rfl⟩, by kernel_rfl⟩
def zP : Value := .agg #[.bool false, .string ⟨#[]⟩, .string ⟨#[]⟩, .bool false, .string ⟨#[]⟩, .string ⟨#[]⟩]
set_option maxRecDepth 100000 in
theorem open_point {w : World} {r : Reach} {base : Nat} {v : Value} (h : Value.okWide Tryz.prog w r base 27 v) : ∃ p : PV, v = p.v :=
 open_pt Tryz.underlying27 (b := 4) (s := 9) (by kernel_rfl) (by kernel_rfl) Tryz.underlying4 Tryz.underlying9 h
set_option maxRecDepth 100000 in
theorem lineParts_lifted (os : Os) (started : os.Started) (H : Type) (enc : TypeId × Value → H) :
  ReturnsInHanded {} Tryz.checked os 5 .any (Rows.linePartsSpec.pre6 enc Tryz.prog Tryz.f5 Rows.linePartsRow.domain false) (Rows.linePartsSpec.post enc Tryz.prog Tryz.f5 false true false false) := by
 refine returnsInHanded_of_change_sized (C := Tryz.checked) own started (by kernel_rfl) Tryz.func5
  (ChangeSpec.witness6 (enc := enc) (C := Tryz.checked) false ⟨#[], #[zX, .slice none 0 0, zP], []⟩ 8 (by kernel_rfl) (by kernel_rfl) (by kernel_rfl) (by kernel_rfl)) ?_
 intro W base args ds gs before hval0 hW hcnd hz0 _
 have hval : ∀ (j : Nat) t v, Tryz.f5.params[j]? = some t → args[j]? = some v → Value.okWide Tryz.prog W .any base t v := hval0
 have hW' := hW
 obtain ⟨p, q, hA0, hV, rfl, hfz, hnd⟩ := hW
 have hA : DataW.TrodAll enc Tryz.prog W 0 (fun _ => true) true Tryz.f5.params.toList args.toList ds p := hA0
 have hz : (DataW.weightsEach Tryz.prog (Tryz.f5.params.toList ++ Rows.linePartsSpec.plain.varTypes Tryz.prog) (ds ++ gs)).all (· ≤ reachBytes) = true := hz0
 rw [Tryz.params5] at hA hval hz
 obtain ⟨v0, vs0, d0, ds0, p0, q0, hargs, rfl, rfl, h0, r0⟩ := trodAll_cons hA
 obtain ⟨v1, vs1, d1, ds1, p1, q1, rfl, rfl, rfl, h1, r1⟩ := trodAll_cons r0
 obtain ⟨v2, vs2, d2, ds2, p2, q2, rfl, rfl, rfl, h2, r2⟩ := trodAll_cons r1
 obtain ⟨rfl, rfl, rfl⟩ := trodAll_nil r2
 obtain rfl : args = #[v0, v1, v2] := by cases args; simp_all
 obtain ⟨rfl, rfl⟩ := trodVars_none hV
 obtain ⟨a0, rfl⟩ := open_abox (hval 0 44 v0 rfl rfl)
 obtain ⟨a1, ν1, i1, z1, hv1, hH1, hν1⟩ := open_lines ptTy lnTy Tryz.underlying29 (hval 1 29 v1 rfl rfl) h1
 have z1 := z1 120 reachBytes (fun elems spare e => sized_slice (e := 25) hz (j := 1) (t := 29) rfl (by rw [e]; rfl) Tryz.underlying29)
 obtain ⟨a2, rfl⟩ := open_point (hval 2 27 v2 rfl rfl)
 have lt0 : ∀ x ∈ p0, x.block < W.heap.size := by obtain ⟨m, hm⟩ := h0; exact DataW.trod_lt m _ _ _ hm
 have lt1 : ∀ x ∈ p1, x.block < W.heap.size := by obtain ⟨m, hm⟩ := h1; exact DataW.trod_lt m _ _ _ hm
 have lt2 : ∀ x ∈ p2, x.block < W.heap.size := by obtain ⟨m, hm⟩ := h2; exact DataW.trod_lt m _ _ _ hm
 clear hA0 hval0
 have hargs2 : LRel ν1 (lpartsS.args ((((a0, a1), a2) : (XV × LL) × PV))) [a0.v, v1, a2.v] := .cons ((plain2_spec (v := XV.v a0) rfl).1 ν1) (.cons hv1 (.cons ((plain2_spec (v := PV.v a2) rfl).1 ν1) (.nil ν1)))
 refine (calls_of_qsnd lparts_ok (i := (((a0, a1), a2) : (XV × LL) × PV)) (z1) hargs2 hH1 hν1 (b := true) rfl).mono fun e W' ⟨he, bel⟩ => ?_
 subst he
 exact ⟨_, rfl, _, _, _, [], _, [], hW', trodAll_mk1 (shut_bool Tryz.underlying4 _), (trodAll_cons_mk (Below.trod laidOut (by kernel_rfl) (of_decide_eq_true (by kernel_rfl)) h0 bel lt0) (trodAll_cons_mk (Below.trod laidOut (by kernel_rfl) (of_decide_eq_true (by kernel_rfl)) h1 bel lt1) (trodAll_cons_mk (Below.trod laidOut (by kernel_rfl) (of_decide_eq_true (by kernel_rfl)) h2 bel lt2) trodAll_mk0))), rfl, bel.frame _, fun h => by cases h⟩
theorem lineParts_holds : Rows.linePartsRow.holds Tryz.pinned (OpenSpec.ofChange Rows.linePartsSpec) :=
 OpenClaim.holds_of_wide 5 Tryz.f5 rfl rfl rfl rfl rfl rfl rfl ⟨rfl, rfl, rfl, rfl, rfl⟩ rfl rfl rfl rfl rfl (by kernel_rfl) Tryz.func5 (by kernel_rfl)
  (of_decide_eq_true (by kernel_rfl)) (by unfold Func.isWrapper; first | (rw [if_pos (by decide +kernel)]; kernel_rfl) | (rw [if_neg (by decide +kernel)]; exact ⟨rfl, rfl⟩))
  (fun os started H enc _ => lineParts_lifted os started H enc)
theorem lineParts_proved : Rows.LinePartsSaid := lineParts_holds
end Go.Proofs.YtppeponndkfbkaaGreat
