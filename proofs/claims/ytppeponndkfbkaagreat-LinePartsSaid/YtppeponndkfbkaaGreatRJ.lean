import Derived.Test.YtppeponndkfbkaaGreatRI
set_option linter.unusedVariables false
set_option linter.unusedSimpArgs false
/- Contracts of line: the part of a box on the left of lines. -/
set_option maxRecDepth 20000
set_option maxHeartbeats 4000000
namespace Go.Proofs.YtppeponndkfbkaaGreat
open Go Go.Ae
def Ecq : Env := { tt := tt, eqs := [], Φ := fun g => match g with
 | 17 => some (.p lcheckS)
 | _ => none }
theorem Ecqok : EnvOk Tryz.prog Ecq := ⟨tt_ok, fun t h => by simp [Ecq] at h, (fun g S h => by
 simp only [Ecq] at h
 split at h
 ·cases h; exact lcheck_ok
 ·cases h), fun g F h => by simp [Ecq] at h⟩
theorem lnot_ok : Snd Tryz.prog 68 lnotS := by
 refine snd_of Ecqok Dok Tryz.func68 (enters_of Tryz.func68 (by kernel_rfl) rfl) (fun _ => rfl) (fun _ => rfl) ?_
 intro l hp
 have sl : l.sz 1048576 := hp
 have fin : ∀ (z : Bool), z = decide (¬ isL l.q) → Value.bool z = lnotS.val l := fun z h => by rw [h]; rfl
 conv => whnf
 obtain ⟨c, ec, pc⟩ := hideZ (chkV l.q)
 refine ⟨l, rfl, R3.sz_mono sl (by decide), ?_⟩
 rw [show lcheckS.val l = .int .i64 c from ec]
 conv => whnf
 refine fin _ ?_
 rw [pc]
 unfold chkV
 by_cases h : isL l.q
 ·rw [if_neg h, decide_eq_false (fun e => e h)]; rfl
 ·have h2 : l.q.1 = 0 ∧ l.q.2.1 = 0 := Classical.byContradiction h
  rw [if_pos h2, decide_eq_true h]; rfl
def Eci : Env := { tt := tt, eqs := [], Φ := fun g => match g with
 | 68 => some (.p lnotS)
 | _ => none }
theorem Eciok : EnvOk Tryz.prog Eci := ⟨tt_ok, fun t h => by simp [Eci] at h, (fun g S h => by
 simp only [Eci] at h
 split at h
 ·cases h; exact lnot_ok
 ·cases h), fun g F h => by simp [Eci] at h⟩
theorem lindex_ft : FTOk Tryz.prog 78 (fnK Eci drawT Tryz.f78) := by
 exact ft_of Eciok Dok Tryz.func78 (enters_of Tryz.func78 (by kernel_rfl) rfl)
def EcjW : FuncId → Option FT := fun g => match g with
 | 78 => some (fnK Eci drawT Tryz.f78)
 | _ => none
def Ecj : Env := { tt := tt, eqs := [], Ψ := EcjW, Φ := fun g => match g with
 | _ => none }
theorem Ecjok : EnvOk Tryz.prog Ecj := ⟨tt_ok, fun t h => by simp [Ecj] at h, (fun g S h => by
 change none = some S at h
 cases h), (fun g F h => by
 simp only [Ecj, EcjW] at h
 split at h
 ·cases h; exact lindex_ft
 ·cases h)⟩
theorem lcontains_ft : FTOk Tryz.prog 35 (fnK Ecj drawT Tryz.f35) := by
 exact ft_of Ecjok Dok Tryz.func35 (enters_of Tryz.func35 (by kernel_rfl) rfl)
def Ecx : Env := { tt := tt, eqs := [], Φ := fun g => match g with
 | 89 => some (.q lvalS)
 | 47 => some (.p qsignS)
 | 52 => some (.p qsubS)
 | 61 => some (.p qquoS)
 | 105 => some (.p vatS)
 | _ => none }
theorem Ecxok : EnvOk Tryz.prog Ecx := ⟨tt_ok, fun t h => by simp [Ecx] at h, (fun g S h => by
 simp only [Ecx] at h
 split at h
 ·cases h; exact value_ok
 ·cases h; exact qsign_ok
 ·cases h; exact qsub_ok
 ·cases h; exact qquo_ok
 ·cases h; exact vat_ok
 ·cases h), fun g F h => by simp [Ecx] at h⟩
def cut1I : Nat → FT → Nu → FT := fun l G nu => fnK { Ecx with ys := [(l, G)], nu := nu } drawT Tryz.f104
theorem cut1_it : ITOk Tryz.prog 104 cut1I := by
 exact it_of Ecxok Dok Tryz.func104 (enters_of Tryz.func104 (by kernel_rfl) rfl)
def EcaI : FuncId → Option (Nat → FT → Nu → FT) := fun g => match g with
 | 104 => some cut1I
 | _ => none
def Eca : Env := { tt := tt, eqs := [], It := EcaI, Φ := fun g => match g with
 | _ => none }
theorem Ecaok : EnvOk Tryz.prog Eca := ⟨tt_ok, fun t h => by simp [Eca] at h, (fun g S h => by
 change none = some S at h
 cases h), fun g F h => by simp [Eca] at h⟩
theorem Ecaits : ItsOk Tryz.prog Eca := fun f I h => by
 simp only [Eca, EcaI] at h
 split at h
 ·cases h; exact cut1_it
 ·cases h
theorem appseq_ft : FTOk Tryz.prog 103 (fnK Eca drawT Tryz.f103) := by
 exact ft_of Ecaok Dok Tryz.func103 (enters_of Tryz.func103 (by kernel_rfl) rfl) (hI := Ecaits)
def EccW : FuncId → Option FT := fun g => match g with
 | 103 => some (fnK Eca drawT Tryz.f103)
 | _ => none
def Ecc : Env := { tt := tt, eqs := [], Ψ := EccW, Φ := fun g => match g with
 | _ => none }
theorem Eccok : EnvOk Tryz.prog Ecc := ⟨tt_ok, fun t h => by simp [Ecc] at h, (fun g S h => by
 change none = some S at h
 cases h), (fun g F h => by
 simp only [Ecc, EccW] at h
 split at h
 ·cases h; exact appseq_ft
 ·cases h)⟩
theorem collect_ft : FTOk Tryz.prog 69 (fnK Ecc drawT Tryz.f69) := by
 exact ft_of Eccok Dok Tryz.func69 (enters_of Tryz.func69 (by kernel_rfl) rfl)
def Ecv : Env := { tt := tt, eqs := [], Φ := fun g => match g with
 | 48 => some (.q (lvalueS 89))
 | _ => none }
theorem Ecvok : EnvOk Tryz.prog Ecv := ⟨tt_ok, fun t h => by simp [Ecv] at h, (fun g S h => by
 simp only [Ecv] at h
 split at h
 ·cases h; exact lvalue_ok
 ·cases h), fun g F h => by simp [Ecv] at h⟩
theorem cut_ft0 : FTOk Tryz.prog 70 (fnK Ecv drawT Tryz.f70) := by
 exact ft_of Ecvok Dok Tryz.func70 (enters_of Tryz.func70 (by kernel_rfl) rfl)
theorem cut_ft : FTOk Tryz.prog 70 (weakFT (fnK Ecv drawT Tryz.f70)) := weak_ft cut_ft0
def EcoW : FuncId → Option FT := fun g => match g with
 | 70 => some (weakFT (fnK Ecv drawT Tryz.f70))
 | 69 => some (fnK Ecc drawT Tryz.f69)
 | 35 => some (fnK Ecj drawT Tryz.f35)
 | _ => none
def Eco : Env := { tt := tt, eqs := [], Ψ := EcoW, Φ := fun g => match g with
 | 71 => some (.q cleanS)
 | 39 => some (.p vofS)
 | 64 => some (.p vaddS)
 | 67 => some (.p qcmpS)
 | _ => none }
theorem Ecook : EnvOk Tryz.prog Eco := ⟨tt_ok, fun t h => by simp [Eco] at h, (fun g S h => by
 simp only [Eco] at h
 split at h
 ·cases h; exact clean_ok
 ·cases h; exact vof_ok
 ·cases h; exact vadd_ok
 ·cases h; exact qcmp_ok
 ·cases h), (fun g F h => by
 simp only [Eco, EcoW] at h
 split at h
 ·cases h; exact cut_ft
 ·cases h; exact collect_ft
 ·cases h; exact lcontains_ft
 ·cases h)⟩
theorem common_ok : QSnd Tryz.prog 25 commonS := by
 refine qsnd_of Ecook Dok Tryz.func25 (enters_of Tryz.func25 (by kernel_rfl) rfl) ?_ ?_ ?_
 ·intro ⟨b, i⟩ B hb
  cases i with
  | none => simp [commonS, LL.blks] at hb
  | some i => simp [commonS, LL.blks] at hb; rw [hb]; rfl
 ·intro i B hb
  have hb : (if comE i.1.p (qs i.2.list) = 0 then some (Blk.flat true (comP i.1.p (qs i.2.list)).length 6 (rowsQ (comP i.1.p (qs i.2.list)))) else none) = some B := hb
  split at hb
  ·rw [← Option.some.inj hb]; rfl
  ·cases hb
 intro ⟨b, i⟩ hp
 have hp : comOk b i.list := hp
 obtain ⟨⟨sb1, sb2⟩, hlen, hsl, hsz⟩ := hp
 cases i with
 | none =>
  have hsz : 0 ≤ 60 → ∀ k, k ≤ 0 → (partR b.p ((qs []).take k)).length ≤ 274877906944 ∧ ∀ v ∈ partR b.p ((qs []).take k), Q2.sz 262144 v := hsz
  obtain ⟨⟨x1, y1⟩, ⟨x2, y2⟩⟩ := b
  have sx1 := sb1.1
  have sy1 := sb1.2
  have sx2 := sb2.1
  have sy2 := sb2.2
  obtain ⟨B, hB⟩ : ∃ B, B = XV.p ((x1, y1), (x2, y2)) := ⟨_, rfl⟩
  have hLs : ∀ v ∈ boxR B, Q2.sz 262144 v := by rw [hB]; exact (hsz (by decide) 0 (Nat.le_refl _)).2
  obtain ⟨K, hK⟩ : ∃ K, K = qRes commonS (((x1, y1), (x2, y2)), none) := ⟨_, rfl⟩
  have fin0 : ∀ (e : Int) (H : Heap), comE B [] = e → e ≠ 0 → K (.tuple ⟨[.slice none 0 0, .int .i64 e]⟩) H := fun e H he h0 => by
   obtain ⟨f1, f2⟩ := common_err (b := ((x1, y1), (x2, y2))) (i := none) (by rw [hB] at he; exact he) h0
   rw [hK]
   unfold qRes
   rw [f1, f2]
   exact ⟨_, rfl, .refl _⟩
  rw [show commonS.blks (((x1, y1), (x2, y2)), none) = [] from rfl, show commonS.args (((x1, y1), (x2, y2)), none) = [XV.v ((x1, y1), (x2, y2)), .slice none 0 0] from rfl, ← hK]
  conv => whnf
  obtain ⟨z1, ez1, pz1⟩ := hideZ (cmpQ x1.q x2.q)
  refine ⟨(x1, x2), rfl, ⟨RV.sz_ok sx1 (by decide), RV.sz_ok sx2 (by decide)⟩, ?_⟩
  rw [show qcmpS.val (x1, x2) = .int .i64 z1 from ez1]
  conv => whnf
  by_cases h1 : x2.q < x1.q
  ·rw [show decide (z1 > 0) = true from decide_eq_true (by rw [pz1]; exact cmpQ_pos.2 h1)]
   conv => whnf
   exact fin0 1 _ (if_pos (.inl fun e => by rw [hB] at e; have := e.1; exact absurd h1 (Rat.not_lt.2 this))) (by decide)
  rw [show decide (z1 > 0) = false from decide_eq_false (by rw [pz1]; exact fun e => h1 (cmpQ_pos.1 e))]
  conv => whnf
  obtain ⟨z2, ez2, pz2⟩ := hideZ (cmpQ y1.q y2.q)
  refine ⟨(y1, y2), rfl, ⟨RV.sz_ok sy1 (by decide), RV.sz_ok sy2 (by decide)⟩, ?_⟩
  rw [show qcmpS.val (y1, y2) = .int .i64 z2 from ez2]
  conv => whnf
  by_cases h2 : y2.q < y1.q
  ·rw [show decide (z2 > 0) = true from decide_eq_true (by rw [pz2]; exact cmpQ_pos.2 h2)]
   conv => whnf
   exact fin0 1 _ (if_pos (.inl fun e => by rw [hB] at e; have := e.2; exact absurd h2 (Rat.not_lt.2 this))) (by decide)
  rw [show decide (z2 > 0) = false from decide_eq_false (by rw [pz2]; exact fun e => h2 (cmpQ_pos.1 e))]
  have hok : okB B := by rw [hB]; exact ⟨Rat.not_lt.1 h1, Rat.not_lt.1 h2⟩
  conv => whnf
  refine .inr ⟨1, ?_⟩
  conv => whnf
  have hE : comE B [] = if (cleanL (boxR B)).length < 3 then 12 else 0 := by
   unfold comE
   rw [if_neg (fun e => e.elim (fun e => e hok) (fun e => by cases e)), if_neg (by decide)]
   rfl
  have qx1 := RV.qb' sx1 (by decide)
  have qy1 := RV.qb' sy1 (by decide)
  have qx2 := RV.qb' sx2 (by decide)
  have qy2 := RV.qb' sy2 (by decide)
  obtain ⟨o, co, eo, po, so, qo⟩ := hidePc (ofsz (0) (0) (by decide) (by decide))
  refine ⟨(((0 : Int), (0 : Int)) : Int × Int), rfl, ⟨⟨by decide, by decide⟩, ⟨by decide, by decide⟩⟩, ?_⟩
  rw [show vofS.val (((0 : Int), (0 : Int)) : Int × Int) = o.v from eo]
  conv => whnf
  refine .inl ⟨10, [[], [0], [], [0, 1, 2], [], [4], [], [0, 1, 2, 3, 4, 5, 6], [], [], [0, 1, 2, 3, 4, 5, 6, 7, 8, 9], [0, 1, 2, 3, 4, 5, 6, 7, 8, 9, 10]], by kernel_rfl, ?_⟩
  conv => whnf
  obtain ⟨lo, elo, plo, slo, qlo⟩ := hideP (add_sz (mkQ qx1 qy1) qo)
  refine ⟨((x1, y1), o), rfl, ⟨PV.sz_mono (mkP sx1 sy1) (by decide), PV.sz_mono so (by decide)⟩, ?_⟩
  rw [show vaddS.val ((x1, y1), o) = lo.v from elo]
  conv => whnf
  obtain ⟨hi', ehi', phi', shi', qhi'⟩ := hideP (add_sz (mkQ qx2 qy2) qo)
  refine ⟨((x2, y2), o), rfl, ⟨PV.sz_mono (mkP sx2 sy2) (by decide), PV.sz_mono so (by decide)⟩, ?_⟩
  rw [show vaddS.val ((x2, y2), o) = hi'.v from ehi']
  conv => whnf
  have clo := (PV.v_eq elo).symm
  have chi := (PV.v_eq ehi').symm
  rw [addz _ _ po, show PV.p (x1, y1) = B.1 from by rw [hB]; rfl] at clo
  rw [addz _ _ po, show PV.p (x2, y2) = B.2 from by rw [hB]; rfl] at chi
  obtain ⟨lx, ly⟩ := lo
  obtain ⟨hx, hy⟩ := hi'
  have b1 : lx = RV.of B.1.1 := congrArg Prod.fst clo
  have b2 : ly = RV.of B.1.2 := congrArg Prod.snd clo
  have b3 : hx = RV.of B.2.1 := congrArg Prod.fst chi
  have b4 : hy = RV.of B.2.2 := congrArg Prod.snd chi
  refine .inr ⟨1, ?_⟩
  conv => whnf
  have hcom : comP B [] = rotR (cleanL (boxR B)) := rfl
  obtain ⟨L, hL⟩ : ∃ L, L = boxR B := ⟨_, rfl⟩
  have hl4 : L.length = 4 := by rw [hL]; rfl
  have hW := box_blk b1 b2 b3 b4
  rw [← hL] at hcom hE hW hLs
  have hRl : (rotR (cleanL L)).length = (cleanL L).length := rotR_length _
  obtain ⟨M, hM⟩ : ∃ M, M = (cleanL L).length := ⟨_, rfl⟩
  obtain ⟨gs, hgs⟩ : ∃ M, M = rowsQ (rotR (cleanL L)) := ⟨_, rfl⟩
  obtain ⟨cu, hcu⟩ : ∃ c, c = capU := ⟨_, rfl⟩
  rw [← hM] at hE hRl
  refine ⟨(L, 4), [12], by rw [show cleanS.args (L, 4) = [Value.slice (some ⟨0, 0, none⟩) L.length 4] from rfl, hl4]; rfl, ⟨(fun e => by have e : L = [] := e; rw [e] at hl4; cases hl4), by show L.length ≤ _; omega, fun v hv => Q2.mono (hLs v hv) (by decide)⟩, ?_⟩
  rw [show cleanS.blks (L, 4) = [.flat false L.length 6 (rowsQ L)] from rfl, show cleanS.val (L, 4) = .slice (some ⟨1, 0, none⟩) M cu from by rw [hM, hcu]; rfl, show cleanS.new (L, 4) = some (.flat true M 6 gs) from by rw [hM, hgs]; rfl]
  conv => whnf
  refine ⟨⟨(fun h => by cases h), hW.esz, hW.n, hW.row, hW.flat⟩, ?_⟩
  conv => whnf
  refine ⟨_, rfl, ?_⟩
  conv => whnf
  by_cases h7 : M < 3
  ·rw [show decide ((M : Int) < 3) = true from decide_eq_true (by omega)]
   conv => whnf
   exact fin0 12 _ (by rw [hE, if_pos h7]) (by decide)
  ·rw [show decide ((M : Int) < 3) = false from decide_eq_false (by omega)]
   rw [if_neg h7] at hE
   conv => whnf
   obtain ⟨f1, f2⟩ := common_new (b := ((x1, y1), (x2, y2))) (i := none) (by rw [hB] at hE; exact hE) (by rw [hB] at hcom; exact hcom) hRl hgs
   rw [hK]
   unfold qRes
   rw [f1, f2]
   refine ⟨13, ?_⟩
   conv => whnf
   exact ⟨⟨rfl, BlkLe.flat_flat (fun h => h) (fun r hr => by rw [hgs]; rfl)⟩, _, rfl, by rw [hcu]; exact .refl _⟩
 | some i =>
  obtain ⟨l, c⟩ := i
  have hlen : l.length ≤ 1099511627776 := hlen
  have hsl : ∀ m ∈ l, R3.sz 1048576 m := hsl
  have hsz : l.length ≤ 60 → ∀ k, k ≤ l.length → (partR b.p ((qs l).take k)).length ≤ 274877906944 ∧ ∀ v ∈ partR b.p ((qs l).take k), Q2.sz 262144 v := hsz
  obtain ⟨N, hN⟩ : ∃ N, N = l.length := ⟨_, rfl⟩
  obtain ⟨G, hG⟩ : ∃ g, g = rowsLn l := ⟨_, rfl⟩
  obtain ⟨⟨x1, y1⟩, ⟨x2, y2⟩⟩ := b
  have sx1 := sb1.1
  have sy1 := sb1.2
  have sx2 := sb2.1
  have sy2 := sb2.2
  obtain ⟨B, hB⟩ : ∃ B, B = XV.p ((x1, y1), (x2, y2)) := ⟨_, rfl⟩
  obtain ⟨Q, hQ⟩ : ∃ Q, Q = qs l := ⟨_, rfl⟩
  rw [← hB, ← hQ] at hsz
  obtain ⟨K, hK⟩ : ∃ K, K = qRes commonS (((x1, y1), (x2, y2)), some (l, c)) := ⟨_, rfl⟩
  have fin0 : ∀ (e : Int) (H : Heap), comE B Q = e → e ≠ 0 → K (.tuple ⟨[.slice none 0 0, .int .i64 e]⟩) H := fun e H he h0 => by
   obtain ⟨f1, f2⟩ := common_err (b := ((x1, y1), (x2, y2))) (i := some (l, c)) (by rw [hB, hQ] at he; exact he) h0
   rw [hK]
   unfold qRes
   rw [f1, f2]
   exact ⟨_, rfl, .refl _⟩
  have qlen : Q.length = N := by rw [hQ, hN]; exact List.length_map ..
  rw [show commonS.blks (((x1, y1), (x2, y2)), some (l, c)) = [.flat false N 9 G] from by rw [hN, hG]; rfl, show commonS.args (((x1, y1), (x2, y2)), some (l, c)) = [XV.v ((x1, y1), (x2, y2)), .slice (some ⟨0, 0, none⟩) N c] from by rw [hN]; rfl, ← hK]
  rw [← hN] at hlen
  conv => whnf
  obtain ⟨z1, ez1, pz1⟩ := hideZ (cmpQ x1.q x2.q)
  refine ⟨(x1, x2), rfl, ⟨RV.sz_ok sx1 (by decide), RV.sz_ok sx2 (by decide)⟩, ?_⟩
  rw [show qcmpS.val (x1, x2) = .int .i64 z1 from ez1]
  conv => whnf
  by_cases h1 : x2.q < x1.q
  ·rw [show decide (z1 > 0) = true from decide_eq_true (by rw [pz1]; exact cmpQ_pos.2 h1)]
   conv => whnf
   exact fin0 1 _ (if_pos (.inl fun e => by rw [hB] at e; have := e.1; exact absurd h1 (Rat.not_lt.2 this))) (by decide)
  rw [show decide (z1 > 0) = false from decide_eq_false (by rw [pz1]; exact fun e => h1 (cmpQ_pos.1 e))]
  conv => whnf
  obtain ⟨z2, ez2, pz2⟩ := hideZ (cmpQ y1.q y2.q)
  refine ⟨(y1, y2), rfl, ⟨RV.sz_ok sy1 (by decide), RV.sz_ok sy2 (by decide)⟩, ?_⟩
  rw [show qcmpS.val (y1, y2) = .int .i64 z2 from ez2]
  conv => whnf
  by_cases h2 : y2.q < y1.q
  ·rw [show decide (z2 > 0) = true from decide_eq_true (by rw [pz2]; exact cmpQ_pos.2 h2)]
   conv => whnf
   exact fin0 1 _ (if_pos (.inl fun e => by rw [hB] at e; have := e.2; exact absurd h2 (Rat.not_lt.2 this))) (by decide)
  rw [show decide (z2 > 0) = false from decide_eq_false (by rw [pz2]; exact fun e => h2 (cmpQ_pos.1 e))]
  have hok : okB B := by rw [hB]; exact ⟨Rat.not_lt.1 h1, Rat.not_lt.1 h2⟩
  conv => whnf
  refine .inl ⟨fun mm tz hz => ∃ (i : Nat), Pat [some (.slice (some ⟨0, 0, none⟩) N c), some (.func (.func 68) #[] #[]), none, none, none, none, none, some (.int .i64 N), some (.int .i64 i), none, none, none, none, none, none, none, none, none, none] tz ∧ hz = [some (.flat false N 9 G), some (.expl true 12 [XV.cells ((x1, y1), (x2, y2))])] ∧ N - i = mm ∧ (i ≤ N ∧ goodUp l i), .inr ⟨[0, 1], [0, 1, 7, 8], ?_⟩, ?_⟩
  ·conv => whnf
   intro _
   conv => whnf
   refine ⟨_, 0, (.keep (.keep (.skip (.skip (.skip (.skip (.skip (.keep (.keep (.s8 (.skip (.skip (.nil))))))))))))), rfl, rfl, ?_⟩
   exact ⟨Nat.zero_le _, goodUp_start _⟩
  rintro mm tms _ ⟨i, hpat, rfl, rfl, ⟨hi, hU⟩⟩
  obtain ⟨az, rfl⟩ : ∃ az : Nat → Value, tms = [.slice (some ⟨0, 0, none⟩) N c, .func (.func 68) #[] #[], az 2, az 3, az 4, az 5, az 6, .int .i64 N, .int .i64 i, az 9, az 10, az 11, az 12, az 13, az 14, az 15, az 16, az 17, az 18] := pat_fill hpat
  clear hpat
  conv => whnf
  refine br_intro (fun h3 => ?_) (fun h3 => ?_)
  ·have h3 : i < N := by
    have := of_decide_eq_true h3
    omega
   have e7 : IntKind.i64.wrap ((i : Int) + 1) = ((i + 1 : Nat) : Int) := by rw [wrapi64 (by omega) (by omega)]; rfl
   obtain ⟨m, hml, hmm, hrow⟩ := rowsLn_get (l := l) (k := i) (by omega)
   rw [← hG] at hrow
   conv => whnf
   refine ⟨⟨by omega, by omega⟩, ?_⟩
   simp only [toNat_cast, rowAdd_eq, Nat.zero_add]
   conv => whnf
   refine ⟨by show i < N; omega, ?_⟩
   conv => whnf
   rw [hrow]
   conv => whnf
   refine ⟨m, rfl, hsl m hmm, ?_⟩
   by_cases h4 : isL m.q
   ·rw [show lnotS.val m = .bool false from congrArg Value.bool (decide_eq_false fun e => e h4)]
    conv => whnf
    rw [e7]
    refine .inr ⟨[0, 1], [0, 1, 7, 8], ?_⟩
    conv => whnf
    intro _
    conv => whnf
    refine ⟨_, ?_, i + 1, (.keep (.keep (.skip (.skip (.skip (.skip (.skip (.keep (.keep (.s8 (.skip (.skip (.nil))))))))))))), rfl, rfl, ?_⟩
    ·omega
    ·exact ⟨by omega, goodUp_step hU hml h4⟩
   ·rw [show lnotS.val m = .bool true from congrArg Value.bool (decide_eq_true h4)]
    conv => whnf
    exact fin0 1 _ (if_pos (.inr (by rw [hQ]; exact bad_of hmm h4))) (by decide)
  ·have h3 : i = N := by
    have := of_decide_eq_false h3
    omega
   subst h3
   have hgood : badL Q = false := by rw [hQ]; exact goodUp_end (by rw [← hN]; exact hU)
   conv => whnf
   by_cases h5 : 60 < i
   ·rw [show decide ((i : Int) > 60) = true from decide_eq_true (by omega)]
    conv => whnf
    exact fin0 4 _ (by
     unfold comE
     rw [if_neg (fun e => e.elim (fun e => e hok) (fun e => by rw [hgood] at e; cases e)), if_pos (by rw [qlen]; exact h5)]) (by decide)
   rw [show decide ((i : Int) > 60) = false from decide_eq_false (by omega)]
   have hE : comE B Q = if partR B Q = [] then 11 else if (cleanL (partR B Q)).length < 3 then 12 else 0 := by
    unfold comE
    rw [if_neg (fun e => e.elim (fun e => e hok) (fun e => by rw [hgood] at e; cases e)), if_neg (by rw [qlen]; exact h5)]
   have q1 := mkQ (RV.qb' sx1 (by decide)) (RV.qb' sy1 (by decide))
   have q2 := mkQ (RV.qb' sx2 (by decide)) (RV.qb' sy2 (by decide))
   conv => whnf
   obtain ⟨o, co, eo, po, so, qo⟩ := hidePc (ofsz (0) (0) (by decide) (by decide))
   refine ⟨(((0 : Int), (0 : Int)) : Int × Int), rfl, ⟨⟨by decide, by decide⟩, ⟨by decide, by decide⟩⟩, ?_⟩
   rw [show vofS.val (((0 : Int), (0 : Int)) : Int × Int) = o.v from eo]
   conv => whnf
   refine .inl ⟨10, [[], [0], [], [0, 1, 2], [], [4], [], [0, 1, 2, 3, 4, 5, 6], [], [], [0, 1, 2, 3, 4, 5, 6, 7, 8, 9], [0, 1, 2, 3, 4, 5, 6, 7, 8, 9, 10]], by kernel_rfl, ?_⟩
   conv => whnf
   have qx1 := RV.qb' sx1 (by decide)
   have qy1 := RV.qb' sy1 (by decide)
   have qx2 := RV.qb' sx2 (by decide)
   have qy2 := RV.qb' sy2 (by decide)
   obtain ⟨lo, elo, plo, slo, qlo⟩ := hideP (add_sz (mkQ qx1 qy1) qo)
   refine ⟨((x1, y1), o), rfl, ⟨PV.sz_mono (mkP sx1 sy1) (by decide), PV.sz_mono so (by decide)⟩, ?_⟩
   rw [show vaddS.val ((x1, y1), o) = lo.v from elo]
   conv => whnf
   obtain ⟨hi', ehi', phi', shi', qhi'⟩ := hideP (add_sz (mkQ qx2 qy2) qo)
   refine ⟨((x2, y2), o), rfl, ⟨PV.sz_mono (mkP sx2 sy2) (by decide), PV.sz_mono so (by decide)⟩, ?_⟩
   rw [show vaddS.val ((x2, y2), o) = hi'.v from ehi']
   conv => whnf
   have clo := (PV.v_eq elo).symm
   have chi := (PV.v_eq ehi').symm
   rw [addz _ _ po, show PV.p (x1, y1) = B.1 from by rw [hB]; rfl] at clo
   rw [addz _ _ po, show PV.p (x2, y2) = B.2 from by rw [hB]; rfl] at chi
   obtain ⟨lx, ly⟩ := lo
   obtain ⟨hx, hy⟩ := hi'
   have b1 : lx = RV.of B.1.1 := congrArg Prod.fst clo
   have b2 : ly = RV.of B.1.2 := congrArg Prod.snd clo
   have b3 : hx = RV.of B.2.1 := congrArg Prod.fst chi
   have b4 : hy = RV.of B.2.2 := congrArg Prod.snd chi
   refine .inl ⟨fun mm tz hz => ∃ (k : Nat) (P : List Q2) (d : Nat) (W : Blk), Pat [none, none, none, none, none, none, none, none, none, some (pVal P d), none, none, none, none, none, none, none, none, none, none, none, none, none, none, none, none, none, none, none, none, none, none, none, none, none, none, none, none, none, none, none, none, none, none, none, none, none, none, none, none, none, none, none, none, none, none, none, none, none, some (.slice (some ⟨0, 0, none⟩) i c), some (.int .i64 i), some (.int .i64 k), none, none, none, none, none, none, none, none, none, none, none, none, none, none, none, none, none] tz ∧ hz = [some (.flat false i 9 G), some W] ∧ i - k = mm ∧ ((k ≤ i ∧ P = partR B (Q.take k)) ∧ BlkP' P W), .inr ⟨[0, 13], [9, 59, 60, 61], ?_⟩, ?_⟩
   ·conv => whnf
    intro _
    conv => whnf
    refine ⟨_, 0, boxR B, 4, _, (.s8 (.skip (.keep (.s8 (.s8 (.s8 (.s8 (.s8 (.s8 (.skip (.keep (.keep (.keep (.s8 (.s8 (.skip (.nil))))))))))))))))), rfl, rfl, ?_⟩
    exact ⟨⟨Nat.zero_le _, rfl⟩, _, fun _ => rfl, box_blk b1 b2 b3 b4⟩
   rintro mm tms _ ⟨k, P, d, W, hpat, rfl, rfl, ⟨⟨hk, hP⟩, P', hP', hW⟩⟩
   obtain ⟨az, rfl⟩ : ∃ az : Nat → Value, tms = [az 0, az 1, az 2, az 3, az 4, az 5, az 6, az 7, az 8, pVal P d, az 10, az 11, az 12, az 13, az 14, az 15, az 16, az 17, az 18, az 19, az 20, az 21, az 22, az 23, az 24, az 25, az 26, az 27, az 28, az 29, az 30, az 31, az 32, az 33, az 34, az 35, az 36, az 37, az 38, az 39, az 40, az 41, az 42, az 43, az 44, az 45, az 46, az 47, az 48, az 49, az 50, az 51, az 52, az 53, az 54, az 55, az 56, az 57, az 58, .slice (some ⟨0, 0, none⟩) i c, .int .i64 i, .int .i64 k, az 62, az 63, az 64, az 65, az 66, az 67, az 68, az 69, az 70, az 71, az 72, az 73, az 74, az 75, az 76, az 77, az 78] := pat_fill hpat
   clear hpat
   conv => whnf
   refine br_intro (fun h6 => ?_) (fun h6 => ?_)
   ·have h6 : k < i := by
     have := of_decide_eq_true h6
     omega
    have e7 : IntKind.i64.wrap ((k : Int) + 1) = ((k + 1 : Nat) : Int) := by rw [wrapi64 (by omega) (by omega)]; rfl
    obtain ⟨m, hml, hmm, hrow⟩ := rowsLn_get (l := l) (k := k) (by omega)
    rw [← hG] at hrow
    have sm := hsl m hmm
    have qm := R3.qsz sm (by decide)
    have hstep : partR B (Q.take (k + 1)) = cutR m.q P := by
     rw [hP, hQ]
     unfold partR qs
     rw [List.take_add_one, List.getElem?_map, hml]
     simp
    cases P with
    | nil =>
     conv => whnf
     refine ⟨⟨by omega, by omega⟩, ?_⟩
     simp only [toNat_cast, rowAdd_eq, Nat.zero_add]
     conv => whnf
     refine ⟨by show k < i; omega, ?_⟩
     conv => whnf
     rw [hrow]
     conv => whnf
     refine ⟨1, .flat true P'.length 6 (rowsQ P'), ?_⟩
     conv => whnf
     refine ⟨⟨hW, rfl⟩, ?_⟩
     conv => whnf
     refine ⟨m, [], rfl, trivial, ?_⟩
     rw [show (lvalueS 89).new m = some (.flat true 1 9 (fun _ => R3.cells m)) from rfl]
     conv => whnf
     refine ⟨_, rfl, ?_⟩
     conv => whnf
     intro yl nu fn tm df
     conv => whnf
     refine .inr ⟨1, ?_⟩
     conv => whnf
     rw [e7]
     refine .inr ⟨[0, 1], [9, 59, 60, 61], ?_⟩
     conv => whnf
     intro _
     conv => whnf
     refine ⟨_, ?_, k + 1, [], d, _, (.s8 (.skip (.keep (.s8 (.s8 (.s8 (.s8 (.s8 (.s8 (.skip (.keep (.keep (.keep (.s8 (.s8 (.skip (.nil))))))))))))))))), rfl, rfl, ?_⟩
     ·omega
     ·exact ⟨⟨by omega, by rw [hstep]; rfl⟩, P', fun e => absurd rfl e, BlkLe.flat_flat (fun h => h) (fun r hr => rfl)⟩
    | cons p r =>
     obtain ⟨n, hn⟩ : ∃ n, n = r.length + 1 := ⟨_, rfl⟩
     obtain ⟨L, hL⟩ : ∃ L, L = p :: r := ⟨_, rfl⟩
     obtain ⟨g, hg⟩ : ∃ g, g = rowsQ L := ⟨_, rfl⟩
     have hnL : n = L.length := by rw [hL, hn]; rfl
     have hLs : ∀ v ∈ L, Q2.sz 262144 v := by rw [hL, hP]; exact (hsz (by omega) k (by omega)).2
     have hnl0 : n ≤ 274877906944 := by rw [hnL, hL, hP]; exact (hsz (by omega) k (by omega)).1
     have hnlen : n ≤ 1099511627776 := by omega
     have hW : BlkLe (.flat true n 6 g) W := by rw [hnL, hg, hL, ← hP' (by simp)]; exact hW
     rw [show pVal (p :: r) d = .slice (some ⟨1, 0, none⟩) n d from by rw [hn]; rfl]
     rw [← hL] at hP hstep
     clear hL hn
     conv => whnf
     refine ⟨⟨by omega, by omega⟩, ?_⟩
     simp only [toNat_cast, rowAdd_eq, Nat.zero_add]
     conv => whnf
     refine ⟨by show k < i; omega, ?_⟩
     conv => whnf
     rw [hrow]
     conv => whnf
     refine ⟨1, .flat true n 6 g, ?_⟩
     conv => whnf
     refine ⟨⟨hW, rfl⟩, ?_⟩
     conv => whnf
     refine ⟨m, [], rfl, trivial, ?_⟩
     rw [show (lvalueS 89).new m = some (.flat true 1 9 (fun _ => R3.cells m)) from rfl]
     conv => whnf
     refine ⟨_, rfl, ?_⟩
     conv => whnf
     intro yl nu fn tm df
     conv => whnf
     refine .inl ⟨fun mm tz hz => ∃ (j : Nat) (O : List Q2) (q : Nat) (F : Nat → List Value), Pat [some (.func (.yield yl) #[] #[]), some (.pointer (some ⟨3, 0, none⟩)), some (.pointer (some ⟨6, 0, none⟩)), none, none, none, none, none, none, none, none, some (.slice (some ⟨1, 0, none⟩) n d), some (.int .i64 n), some (.int .i64 j), none, none, none, none, none, none, none, none, none, none, none, none, none, none, none, none, none, none, none, none, none, none, none, none, none, none, none, none, none, none, none, none, none, none, none, none, none, none, none, none, none, none, none, none, none, none, none, none, none] tz ∧ hz = [some (.flat false i 9 G), some (.flat true n 6 g), some (.expl true 9 [m.cells]), some (.expl true 1 [[.slice (some ⟨1, 0, none⟩) n d]]), some (.expl true 9 [m.cells]), some (.flat true 1 9 fun _ => m.cells), some (.expl true 1 [[.func (.func 89) #[] #[.pointer (some ⟨5, 0, none⟩)]]]), some (.expl true 1 [[oVal 9 q]]), some (.lrec (recR Tryz.f103 fn tm df))] ++ oBlk 6 F q ∧ n - j = mm ∧ ((j ≤ n ∧ q = O.length) ∧ O = ((edges L).take j).flatMap (cutF m.q) ∧ ∀ r, r < q → F r = rowsQ O r), .inr ⟨[0, 1, 2, 3, 4, 5, 6, 7, 8], [0, 1, 2, 11, 12, 13], ?_⟩, ?_⟩
     ·conv => whnf
      intro _
      conv => whnf
      refine ⟨_, 0, [], 0, fun _ => [], (.keep (.keep (.keep (.s8 (.keep (.keep (.keep (.s8 (.s8 (.s8 (.s8 (.s8 (.s8 (.skip (.nil))))))))))))))), rfl, rfl, ?_⟩
      exact ⟨⟨Nat.zero_le _, rfl⟩, rfl, fun r hr => absurd hr (Nat.not_lt_zero r)⟩
     rintro mm tms _ ⟨j, O, q, F, hpat, rfl, rfl, ⟨⟨hj, hq⟩, hO, hF⟩⟩
     obtain ⟨az, rfl⟩ : ∃ az : Nat → Value, tms = [.func (.yield yl) #[] #[], .pointer (some ⟨3, 0, none⟩), .pointer (some ⟨6, 0, none⟩), az 3, az 4, az 5, az 6, az 7, az 8, az 9, az 10, .slice (some ⟨1, 0, none⟩) n d, .int .i64 n, .int .i64 j, az 14, az 15, az 16, az 17, az 18, az 19, az 20, az 21, az 22, az 23, az 24, az 25, az 26, az 27, az 28, az 29, az 30, az 31, az 32, az 33, az 34, az 35, az 36, az 37, az 38, az 39, az 40, az 41, az 42, az 43, az 44, az 45, az 46, az 47, az 48, az 49, az 50, az 51, az 52, az 53, az 54, az 55, az 56, az 57, az 58, az 59, az 60, az 61, az 62] := pat_fill hpat
     clear hpat
     have hqb : q ≤ 2 * n := by
      have := cutF_lens m.q ((edges L).take j)
      rw [← hO, List.length_take] at this
      omega
     cases q with
     | zero =>
      have hO0 : O = [] := List.length_eq_zero_iff.1 hq.symm
      subst hO0
      conv => whnf
      refine br_intro (fun h7 => ?_) (fun h7 => ?_)
      ·have h7 : j < n := by
        have := of_decide_eq_true h7
        omega
       have e8 : IntKind.i64.wrap ((j : Int) + 1) = ((j + 1 : Nat) : Int) := by rw [wrapi64 (by omega) (by omega)]; rfl
       obtain ⟨a, ca, ra, pa, sa, qa⟩ := hideAt (k := j) (by omega) hLs
       obtain ⟨b, cb, rb, pb, sb, qb⟩ := hideAt (k := nxt n j) (by rw [hnL]; exact nxt_lt (by omega)) hLs
       have hnx := nxt_i h7 hnlen
       have hnl := nxt_lt h7
       have hed : (edges L)[j]? = some (a.p, b.p) := by rw [pa, pb]; rw [hnL] at hnl ⊢; exact edges_get (at2_some (by omega)) (at2_some hnl)
       rw [← pa] at ca
       obtain ⟨u, hu⟩ : ∃ u, u = nxt n j := ⟨_, rfl⟩
       rw [← hu] at hnx hnl rb
       rw [← hg] at ra rb
       conv => whnf
       refine ⟨⟨by omega, by omega⟩, ?_⟩
       simp only [toNat_cast, rowAdd_eq, Nat.zero_add]
       conv => whnf
       refine ⟨by show j < n; omega, ?_⟩
       conv => whnf
       rw [ra]
       conv => whnf
       refine .inl ⟨9, [[], [], [1], [], [3], [1, 2, 3, 4], [0, 1, 2, 3, 4, 5], [0, 1, 2, 3, 4, 5, 6], [], [0, 1, 2, 3, 4, 5, 6, 7, 8]], by kernel_rfl, ?_⟩
       conv => whnf
       rw [show decide ((n : Int) ≠ 0) = true from decide_eq_true (by omega)]
       conv => whnf
       rw [hnx]
       refine ⟨⟨by omega, by omega⟩, ?_⟩
       simp only [toNat_cast, rowAdd_eq, Nat.zero_add]
       conv => whnf
       refine ⟨by show u < n; omega, ?_⟩
       conv => whnf
       rw [rb]
       conv => whnf
       refine .inl ⟨8, [[], [], [0, 1], [], [], [0, 1, 2, 3, 4], [], [], [0, 1, 2, 3, 4, 5, 6, 7], [0, 1, 2, 3, 4, 5, 6, 7, 8]], by kernel_rfl, ?_⟩
       conv => whnf
       obtain ⟨x, ex, px, sx, qx⟩ := hideR (val_sz qm qa)
       refine ⟨(m, a), [5], rfl, ⟨R3.sz_mono sm (by decide), PV.sz_mono sa (by decide)⟩, ?_⟩
       rw [show lvalS.blks (m, a) = [.flat false 1 9 (fun _ => R3.cells m)] from rfl, show lvalS.val (m, a) = x.v from ex, show lvalS.new (m, a) = none from rfl]
       conv => whnf
       refine ⟨line_blk2 m, ?_⟩
       conv => whnf
       refine ⟨_, rfl, ?_⟩
       conv => whnf
       obtain ⟨y, ey, py, sy, qy⟩ := hideR (val_sz qm qb)
       refine ⟨(m, b), [5], rfl, ⟨R3.sz_mono sm (by decide), PV.sz_mono sb (by decide)⟩, ?_⟩
       rw [show lvalS.blks (m, b) = [.flat false 1 9 (fun _ => R3.cells m)] from rfl, show lvalS.val (m, b) = y.v from ey, show lvalS.new (m, b) = none from rfl]
       conv => whnf
       refine ⟨line_blk2 m, ?_⟩
       conv => whnf
       refine ⟨_, rfl, ?_⟩
       conv => whnf
       obtain ⟨z, ez, pz⟩ := hideZ (cmpQ x.q 0)
       refine ⟨x, rfl, RV.sz_ok sx (by decide), ?_⟩
       rw [show qsignS.val x = .int .i64 z from ez]
       conv => whnf
       have hz := cmpQ_range x.q 0
       rw [← pz] at hz
       have hst := (flat_step (f := cutF m.q) hed).trans (congrArg (_ ++ ·) (cut_rows px py rfl))
       rw [← hO, ← pz] at hst
       by_cases h8 : z ≥ 0
       ·rw [show decide (z ≥ 0) = true from decide_eq_true h8]
        rw [if_pos h8] at hst
        conv => whnf
        refine ⟨rfl, ?_⟩
        conv => whnf
        refine ⟨rfl, ?_⟩
        conv => whnf
        refine ⟨rfl, ?_⟩
        conv => whnf
        refine ⟨by decide, ?_⟩
        conv => whnf
        refine ⟨rfl, ?_⟩
        conv => whnf
        refine .inl ⟨3, [[], [0], [], [0, 1, 2], [0, 1, 2, 3], [0, 1, 2, 3, 4]], by kernel_rfl, ?_⟩
        conv => whnf
        obtain ⟨z3, ez3, pz3⟩ := hideZ (cmpQ x.q 0)
        refine ⟨x, rfl, RV.sz_ok sx (by decide), ?_⟩
        rw [show qsignS.val x = .int .i64 z3 from ez3]
        conv => whnf
        obtain ⟨z2, ez2, pz2⟩ := hideZ (cmpQ y.q 0)
        refine ⟨y, rfl, RV.sz_ok sy (by decide), ?_⟩
        rw [show qsignS.val y = .int .i64 z2 from ez2]
        conv => whnf
        have hz2 := cmpQ_range y.q 0
        rw [← pz2] at hz2
        obtain rfl : z3 = z := pz3.trans pz.symm
        rw [show IntKind.i64.wrap (z3 * z2) = z3 * z2 from by rcases hz with rfl | rfl | rfl <;> rcases hz2 with rfl | rfl | rfl <;> rfl]
        rw [← pz2] at hst
        by_cases h9 : z3 * z2 < 0
        ·rw [show decide (z3 * z2 < 0) = true from decide_eq_true h9]
         rw [if_pos h9] at hst
         conv => whnf
         refine .inr (.inr (.inl ⟨9, 1, [[], [], [], [1, 2], [0, 1, 2, 3], [0, 1, 2, 3, 4], [0, 1, 2, 3, 4, 5], [0, 1, 2, 3, 4, 5], [], [0, 1, 2, 3, 4, 5, 6, 8], [0, 1, 2, 3, 4, 5, 6, 7, 8, 9]], [7], by kernel_rfl, ?_⟩))
         conv => whnf
         obtain ⟨d2, ed2, pd2, sd2, qd2⟩ := hideR (QB.sub qx qy)
         refine ⟨(x, y), rfl, ⟨RV.sz_ok sx (by decide), RV.sz_ok sy (by decide)⟩, ?_⟩
         rw [show qsubS.val (x, y) = d2.v from ed2]
         conv => whnf
         obtain ⟨t, et, pt, st, qt⟩ := hideR (QB.div qx qd2 (by decide))
         obtain ⟨e, ee, pe⟩ := hideZ (if d2.q = 0 then 10 else 0)
         refine ⟨(x, d2), rfl, ⟨RV.sz_ok sx (by decide), RV.sz_ok sd2 (by decide)⟩, ?_⟩
         rw [show qquoS.val (x, d2) = .tuple ⟨[t.v, .int .i64 e]⟩ from by rw [← et, ← ee]; rfl]
         conv => whnf
         obtain ⟨w, ew, pw, sw, qw⟩ := hideP (at_sz qa qb qt)
         refine ⟨((a, b), t), rfl, ⟨⟨PV.sz_mono sa (by decide), PV.sz_mono sb (by decide)⟩, RV.sz_mono st (by decide)⟩, ?_⟩
         rw [show vatS.val ((a, b), t) = w.v from ew]
         conv => whnf
         have cw := (PV.v_eq ew).symm
         rw [← pw] at cw
         rw [pd2] at pt
         refine ⟨rfl, ?_⟩
         conv => whnf
         refine ⟨rfl, ?_⟩
         conv => whnf
         refine ⟨rfl, ?_⟩
         conv => whnf
         refine ⟨⟨rfl, by show (0 + 1 + 1) * 80 ≤ 140737488355328; decide⟩, ?_⟩
         conv => whnf
         refine ⟨rfl, ?_⟩
         conv => whnf
         rw [e8]
         refine .inr ⟨[0, 1, 2, 3, 4, 5, 6, 7, 8, 44], [0, 1, 2, 11, 12, 13], ?_⟩
         conv => whnf
         intro _
         conv => whnf
         refine ⟨_, ?_, j + 1, [a.p] ++ [w.p], 0 + 1 + 1, _, (.keep (.keep (.keep (.s8 (.keep (.keep (.keep (.s8 (.s8 (.s8 (.s8 (.s8 (.s8 (.skip (.nil))))))))))))))), rfl, rfl, ?_⟩
         ·omega
         ·exact ⟨⟨by omega, rfl⟩, by rw [hst, pw, pt]; rfl, appQ_row (O := [a.p]) rfl (oneQ_row ca rfl) cw rfl⟩
        ·rw [show decide (z3 * z2 < 0) = false from decide_eq_false h9]
         rw [if_neg h9] at hst
         conv => whnf
         rw [e8]
         refine .inr ⟨[0, 1, 2, 3, 4, 5, 6, 7, 8, 29], [0, 1, 2, 11, 12, 13], ?_⟩
         conv => whnf
         intro _
         conv => whnf
         refine ⟨_, ?_, j + 1, [a.p], 0 + 1, _, (.keep (.keep (.keep (.s8 (.keep (.keep (.keep (.s8 (.s8 (.s8 (.s8 (.s8 (.s8 (.skip (.nil))))))))))))))), rfl, rfl, ?_⟩
         ·omega
         ·exact ⟨⟨by omega, rfl⟩, by rw [hst]; rfl, oneQ_row ca rfl⟩
       ·rw [show decide (z ≥ 0) = false from decide_eq_false h8]
        rw [if_neg h8] at hst
        conv => whnf
        refine .inl ⟨3, [[], [0], [], [0, 1, 2], [0, 1, 2, 3], [0, 1, 2, 3, 4]], by kernel_rfl, ?_⟩
        conv => whnf
        obtain ⟨z3, ez3, pz3⟩ := hideZ (cmpQ x.q 0)
        refine ⟨x, rfl, RV.sz_ok sx (by decide), ?_⟩
        rw [show qsignS.val x = .int .i64 z3 from ez3]
        conv => whnf
        obtain ⟨z2, ez2, pz2⟩ := hideZ (cmpQ y.q 0)
        refine ⟨y, rfl, RV.sz_ok sy (by decide), ?_⟩
        rw [show qsignS.val y = .int .i64 z2 from ez2]
        conv => whnf
        have hz2 := cmpQ_range y.q 0
        rw [← pz2] at hz2
        obtain rfl : z3 = z := pz3.trans pz.symm
        rw [show IntKind.i64.wrap (z3 * z2) = z3 * z2 from by rcases hz with rfl | rfl | rfl <;> rcases hz2 with rfl | rfl | rfl <;> rfl]
        rw [← pz2] at hst
        by_cases h9 : z3 * z2 < 0
        ·rw [show decide (z3 * z2 < 0) = true from decide_eq_true h9]
         rw [if_pos h9] at hst
         conv => whnf
         refine .inr (.inr (.inl ⟨9, 1, [[], [], [], [1, 2], [0, 1, 2, 3], [0, 1, 2, 3, 4], [0, 1, 2, 3, 4, 5], [0, 1, 2, 3, 4, 5], [], [0, 1, 2, 3, 4, 5, 6, 8], [0, 1, 2, 3, 4, 5, 6, 7, 8, 9]], [7], by kernel_rfl, ?_⟩))
         conv => whnf
         obtain ⟨d2, ed2, pd2, sd2, qd2⟩ := hideR (QB.sub qx qy)
         refine ⟨(x, y), rfl, ⟨RV.sz_ok sx (by decide), RV.sz_ok sy (by decide)⟩, ?_⟩
         rw [show qsubS.val (x, y) = d2.v from ed2]
         conv => whnf
         obtain ⟨t, et, pt, st, qt⟩ := hideR (QB.div qx qd2 (by decide))
         obtain ⟨e, ee, pe⟩ := hideZ (if d2.q = 0 then 10 else 0)
         refine ⟨(x, d2), rfl, ⟨RV.sz_ok sx (by decide), RV.sz_ok sd2 (by decide)⟩, ?_⟩
         rw [show qquoS.val (x, d2) = .tuple ⟨[t.v, .int .i64 e]⟩ from by rw [← et, ← ee]; rfl]
         conv => whnf
         obtain ⟨w, ew, pw, sw, qw⟩ := hideP (at_sz qa qb qt)
         refine ⟨((a, b), t), rfl, ⟨⟨PV.sz_mono sa (by decide), PV.sz_mono sb (by decide)⟩, RV.sz_mono st (by decide)⟩, ?_⟩
         rw [show vatS.val ((a, b), t) = w.v from ew]
         conv => whnf
         have cw := (PV.v_eq ew).symm
         rw [← pw] at cw
         rw [pd2] at pt
         refine ⟨rfl, ?_⟩
         conv => whnf
         refine ⟨rfl, ?_⟩
         conv => whnf
         refine ⟨rfl, ?_⟩
         conv => whnf
         refine ⟨by decide, ?_⟩
         conv => whnf
         refine ⟨rfl, ?_⟩
         conv => whnf
         rw [e8]
         refine .inr ⟨[0, 1, 2, 3, 4, 5, 6, 7, 8, 41], [0, 1, 2, 11, 12, 13], ?_⟩
         conv => whnf
         intro _
         conv => whnf
         refine ⟨_, ?_, j + 1, [w.p], 0 + 1, _, (.keep (.keep (.keep (.s8 (.keep (.keep (.keep (.s8 (.s8 (.s8 (.s8 (.s8 (.s8 (.skip (.nil))))))))))))))), rfl, rfl, ?_⟩
         ·omega
         ·exact ⟨⟨by omega, rfl⟩, by rw [hst, pw, pt]; rfl, oneQ_row cw rfl⟩
        ·rw [show decide (z3 * z2 < 0) = false from decide_eq_false h9]
         rw [if_neg h9] at hst
         conv => whnf
         rw [e8]
         refine .inr ⟨[0, 1, 2, 3, 4, 5, 6, 7, 8], [0, 1, 2, 11, 12, 13], ?_⟩
         conv => whnf
         intro _
         conv => whnf
         refine ⟨_, ?_, j + 1, [], 0, fun _ => [], (.keep (.keep (.keep (.s8 (.keep (.keep (.keep (.s8 (.s8 (.s8 (.s8 (.s8 (.s8 (.skip (.nil))))))))))))))), rfl, rfl, ?_⟩
         ·omega
         ·exact ⟨⟨by omega, rfl⟩, by rw [hst]; rfl, fun r hr => absurd hr (Nat.not_lt_zero r)⟩
      ·have h7 : j = n := by
        have := of_decide_eq_false h7
        omega
       subst h7
       have hcut : cutR m.q L = [] := by rw [hO, cutF_eq, hnL, ← edges_length L, List.take_length]
       conv => whnf
       rw [e7]
       refine .inr ⟨[0, 1], [9, 59, 60, 61], ?_⟩
       conv => whnf
       intro _
       conv => whnf
       refine ⟨_, ?_, k + 1, [], d, _, (.s8 (.skip (.keep (.s8 (.s8 (.s8 (.s8 (.s8 (.s8 (.skip (.keep (.keep (.keep (.s8 (.s8 (.skip (.nil))))))))))))))))), rfl, rfl, ?_⟩
       ·omega
       ·exact ⟨⟨by omega, by rw [hstep, hcut]⟩, L, fun e => absurd rfl e, by unfold BlkP; rw [← hnL, ← hg]; exact BlkLe.flat_flat (fun h => h) (fun r hr => by rw [hg]; rfl)⟩
     | succ q =>
      conv => whnf
      refine br_intro (fun h7 => ?_) (fun h7 => ?_)
      ·have h7 : j < n := by
        have := of_decide_eq_true h7
        omega
       have e8 : IntKind.i64.wrap ((j : Int) + 1) = ((j + 1 : Nat) : Int) := by rw [wrapi64 (by omega) (by omega)]; rfl
       obtain ⟨a, ca, ra, pa, sa, qa⟩ := hideAt (k := j) (by omega) hLs
       obtain ⟨b, cb, rb, pb, sb, qb⟩ := hideAt (k := nxt n j) (by rw [hnL]; exact nxt_lt (by omega)) hLs
       have hnx := nxt_i h7 hnlen
       have hnl := nxt_lt h7
       have hed : (edges L)[j]? = some (a.p, b.p) := by rw [pa, pb]; rw [hnL] at hnl ⊢; exact edges_get (at2_some (by omega)) (at2_some hnl)
       rw [← pa] at ca
       obtain ⟨u, hu⟩ : ∃ u, u = nxt n j := ⟨_, rfl⟩
       rw [← hu] at hnx hnl rb
       rw [← hg] at ra rb
       conv => whnf
       refine ⟨⟨by omega, by omega⟩, ?_⟩
       simp only [toNat_cast, rowAdd_eq, Nat.zero_add]
       conv => whnf
       refine ⟨by show j < n; omega, ?_⟩
       conv => whnf
       rw [ra]
       conv => whnf
       refine .inl ⟨9, [[], [], [1], [], [3], [1, 2, 3, 4], [0, 1, 2, 3, 4, 5], [0, 1, 2, 3, 4, 5, 6], [], [0, 1, 2, 3, 4, 5, 6, 7, 8]], by kernel_rfl, ?_⟩
       conv => whnf
       rw [show decide ((n : Int) ≠ 0) = true from decide_eq_true (by omega)]
       conv => whnf
       rw [hnx]
       refine ⟨⟨by omega, by omega⟩, ?_⟩
       simp only [toNat_cast, rowAdd_eq, Nat.zero_add]
       conv => whnf
       refine ⟨by show u < n; omega, ?_⟩
       conv => whnf
       rw [rb]
       conv => whnf
       refine .inl ⟨8, [[], [], [0, 1], [], [], [0, 1, 2, 3, 4], [], [], [0, 1, 2, 3, 4, 5, 6, 7], [0, 1, 2, 3, 4, 5, 6, 7, 8]], by kernel_rfl, ?_⟩
       conv => whnf
       obtain ⟨x, ex, px, sx, qx⟩ := hideR (val_sz qm qa)
       refine ⟨(m, a), [5], rfl, ⟨R3.sz_mono sm (by decide), PV.sz_mono sa (by decide)⟩, ?_⟩
       rw [show lvalS.blks (m, a) = [.flat false 1 9 (fun _ => R3.cells m)] from rfl, show lvalS.val (m, a) = x.v from ex, show lvalS.new (m, a) = none from rfl]
       conv => whnf
       refine ⟨line_blk2 m, ?_⟩
       conv => whnf
       refine ⟨_, rfl, ?_⟩
       conv => whnf
       obtain ⟨y, ey, py, sy, qy⟩ := hideR (val_sz qm qb)
       refine ⟨(m, b), [5], rfl, ⟨R3.sz_mono sm (by decide), PV.sz_mono sb (by decide)⟩, ?_⟩
       rw [show lvalS.blks (m, b) = [.flat false 1 9 (fun _ => R3.cells m)] from rfl, show lvalS.val (m, b) = y.v from ey, show lvalS.new (m, b) = none from rfl]
       conv => whnf
       refine ⟨line_blk2 m, ?_⟩
       conv => whnf
       refine ⟨_, rfl, ?_⟩
       conv => whnf
       obtain ⟨z, ez, pz⟩ := hideZ (cmpQ x.q 0)
       refine ⟨x, rfl, RV.sz_ok sx (by decide), ?_⟩
       rw [show qsignS.val x = .int .i64 z from ez]
       conv => whnf
       have hz := cmpQ_range x.q 0
       rw [← pz] at hz
       have hst := (flat_step (f := cutF m.q) hed).trans (congrArg (_ ++ ·) (cut_rows px py rfl))
       rw [← hO, ← pz] at hst
       by_cases h8 : z ≥ 0
       ·rw [show decide (z ≥ 0) = true from decide_eq_true h8]
        rw [if_pos h8] at hst
        conv => whnf
        refine ⟨rfl, ?_⟩
        conv => whnf
        refine ⟨rfl, ?_⟩
        conv => whnf
        refine ⟨rfl, ?_⟩
        conv => whnf
        refine ⟨⟨rfl, by show (q + 1 + 1) * 80 ≤ 140737488355328; omega⟩, ?_⟩
        conv => whnf
        refine ⟨rfl, ?_⟩
        conv => whnf
        refine .inl ⟨3, [[], [0], [], [0, 1, 2], [0, 1, 2, 3], [0, 1, 2, 3, 4]], by kernel_rfl, ?_⟩
        conv => whnf
        obtain ⟨z3, ez3, pz3⟩ := hideZ (cmpQ x.q 0)
        refine ⟨x, rfl, RV.sz_ok sx (by decide), ?_⟩
        rw [show qsignS.val x = .int .i64 z3 from ez3]
        conv => whnf
        obtain ⟨z2, ez2, pz2⟩ := hideZ (cmpQ y.q 0)
        refine ⟨y, rfl, RV.sz_ok sy (by decide), ?_⟩
        rw [show qsignS.val y = .int .i64 z2 from ez2]
        conv => whnf
        have hz2 := cmpQ_range y.q 0
        rw [← pz2] at hz2
        obtain rfl : z3 = z := pz3.trans pz.symm
        rw [show IntKind.i64.wrap (z3 * z2) = z3 * z2 from by rcases hz with rfl | rfl | rfl <;> rcases hz2 with rfl | rfl | rfl <;> rfl]
        rw [← pz2] at hst
        by_cases h9 : z3 * z2 < 0
        ·rw [show decide (z3 * z2 < 0) = true from decide_eq_true h9]
         rw [if_pos h9] at hst
         conv => whnf
         refine .inr (.inr (.inl ⟨9, 1, [[], [], [], [1, 2], [0, 1, 2, 3], [0, 1, 2, 3, 4], [0, 1, 2, 3, 4, 5], [0, 1, 2, 3, 4, 5], [], [0, 1, 2, 3, 4, 5, 6, 8], [0, 1, 2, 3, 4, 5, 6, 7, 8, 9]], [7], by kernel_rfl, ?_⟩))
         conv => whnf
         obtain ⟨d2, ed2, pd2, sd2, qd2⟩ := hideR (QB.sub qx qy)
         refine ⟨(x, y), rfl, ⟨RV.sz_ok sx (by decide), RV.sz_ok sy (by decide)⟩, ?_⟩
         rw [show qsubS.val (x, y) = d2.v from ed2]
         conv => whnf
         obtain ⟨t, et, pt, st, qt⟩ := hideR (QB.div qx qd2 (by decide))
         obtain ⟨e, ee, pe⟩ := hideZ (if d2.q = 0 then 10 else 0)
         refine ⟨(x, d2), rfl, ⟨RV.sz_ok sx (by decide), RV.sz_ok sd2 (by decide)⟩, ?_⟩
         rw [show qquoS.val (x, d2) = .tuple ⟨[t.v, .int .i64 e]⟩ from by rw [← et, ← ee]; rfl]
         conv => whnf
         obtain ⟨w, ew, pw, sw, qw⟩ := hideP (at_sz qa qb qt)
         refine ⟨((a, b), t), rfl, ⟨⟨PV.sz_mono sa (by decide), PV.sz_mono sb (by decide)⟩, RV.sz_mono st (by decide)⟩, ?_⟩
         rw [show vatS.val ((a, b), t) = w.v from ew]
         conv => whnf
         have cw := (PV.v_eq ew).symm
         rw [← pw] at cw
         rw [pd2] at pt
         refine ⟨rfl, ?_⟩
         conv => whnf
         refine ⟨rfl, ?_⟩
         conv => whnf
         refine ⟨rfl, ?_⟩
         conv => whnf
         refine ⟨⟨rfl, by show (q + 1 + 1 + 1) * 80 ≤ 140737488355328; omega⟩, ?_⟩
         conv => whnf
         refine ⟨rfl, ?_⟩
         conv => whnf
         rw [e8]
         refine .inr ⟨[0, 1, 2, 3, 4, 5, 6, 7, 8, 45], [0, 1, 2, 11, 12, 13], ?_⟩
         conv => whnf
         intro _
         conv => whnf
         refine ⟨_, ?_, j + 1, (O ++ [a.p]) ++ [w.p], q + 1 + 1 + 1, _, (.keep (.keep (.keep (.s8 (.keep (.keep (.keep (.s8 (.s8 (.s8 (.s8 (.s8 (.s8 (.skip (.nil))))))))))))))), rfl, rfl, ?_⟩
         ·omega
         ·exact ⟨⟨by omega, by rw [List.length_append, List.length_append, ← hq]; rfl⟩, by rw [hst, pw, pt]; simp, appQ_row (O := O ++ [a.p]) (by rw [List.length_append, ← hq]; rfl) (appQ_row hq hF ca rfl) cw rfl⟩
        ·rw [show decide (z3 * z2 < 0) = false from decide_eq_false h9]
         rw [if_neg h9] at hst
         conv => whnf
         rw [e8]
         refine .inr ⟨[0, 1, 2, 3, 4, 5, 6, 7, 8, 30], [0, 1, 2, 11, 12, 13], ?_⟩
         conv => whnf
         intro _
         conv => whnf
         refine ⟨_, ?_, j + 1, O ++ [a.p], q + 1 + 1, _, (.keep (.keep (.keep (.s8 (.keep (.keep (.keep (.s8 (.s8 (.s8 (.s8 (.s8 (.s8 (.skip (.nil))))))))))))))), rfl, rfl, ?_⟩
         ·omega
         ·exact ⟨⟨by omega, by rw [List.length_append, ← hq]; rfl⟩, by rw [hst]; simp, appQ_row hq hF ca rfl⟩
       ·rw [show decide (z ≥ 0) = false from decide_eq_false h8]
        rw [if_neg h8] at hst
        conv => whnf
        refine .inl ⟨3, [[], [0], [], [0, 1, 2], [0, 1, 2, 3], [0, 1, 2, 3, 4]], by kernel_rfl, ?_⟩
        conv => whnf
        obtain ⟨z3, ez3, pz3⟩ := hideZ (cmpQ x.q 0)
        refine ⟨x, rfl, RV.sz_ok sx (by decide), ?_⟩
        rw [show qsignS.val x = .int .i64 z3 from ez3]
        conv => whnf
        obtain ⟨z2, ez2, pz2⟩ := hideZ (cmpQ y.q 0)
        refine ⟨y, rfl, RV.sz_ok sy (by decide), ?_⟩
        rw [show qsignS.val y = .int .i64 z2 from ez2]
        conv => whnf
        have hz2 := cmpQ_range y.q 0
        rw [← pz2] at hz2
        obtain rfl : z3 = z := pz3.trans pz.symm
        rw [show IntKind.i64.wrap (z3 * z2) = z3 * z2 from by rcases hz with rfl | rfl | rfl <;> rcases hz2 with rfl | rfl | rfl <;> rfl]
        rw [← pz2] at hst
        by_cases h9 : z3 * z2 < 0
        ·rw [show decide (z3 * z2 < 0) = true from decide_eq_true h9]
         rw [if_pos h9] at hst
         conv => whnf
         refine .inr (.inr (.inl ⟨9, 1, [[], [], [], [1, 2], [0, 1, 2, 3], [0, 1, 2, 3, 4], [0, 1, 2, 3, 4, 5], [0, 1, 2, 3, 4, 5], [], [0, 1, 2, 3, 4, 5, 6, 8], [0, 1, 2, 3, 4, 5, 6, 7, 8, 9]], [7], by kernel_rfl, ?_⟩))
         conv => whnf
         obtain ⟨d2, ed2, pd2, sd2, qd2⟩ := hideR (QB.sub qx qy)
         refine ⟨(x, y), rfl, ⟨RV.sz_ok sx (by decide), RV.sz_ok sy (by decide)⟩, ?_⟩
         rw [show qsubS.val (x, y) = d2.v from ed2]
         conv => whnf
         obtain ⟨t, et, pt, st, qt⟩ := hideR (QB.div qx qd2 (by decide))
         obtain ⟨e, ee, pe⟩ := hideZ (if d2.q = 0 then 10 else 0)
         refine ⟨(x, d2), rfl, ⟨RV.sz_ok sx (by decide), RV.sz_ok sd2 (by decide)⟩, ?_⟩
         rw [show qquoS.val (x, d2) = .tuple ⟨[t.v, .int .i64 e]⟩ from by rw [← et, ← ee]; rfl]
         conv => whnf
         obtain ⟨w, ew, pw, sw, qw⟩ := hideP (at_sz qa qb qt)
         refine ⟨((a, b), t), rfl, ⟨⟨PV.sz_mono sa (by decide), PV.sz_mono sb (by decide)⟩, RV.sz_mono st (by decide)⟩, ?_⟩
         rw [show vatS.val ((a, b), t) = w.v from ew]
         conv => whnf
         have cw := (PV.v_eq ew).symm
         rw [← pw] at cw
         rw [pd2] at pt
         refine ⟨rfl, ?_⟩
         conv => whnf
         refine ⟨rfl, ?_⟩
         conv => whnf
         refine ⟨rfl, ?_⟩
         conv => whnf
         refine ⟨⟨rfl, by show (q + 1 + 1) * 80 ≤ 140737488355328; omega⟩, ?_⟩
         conv => whnf
         refine ⟨rfl, ?_⟩
         conv => whnf
         rw [e8]
         refine .inr ⟨[0, 1, 2, 3, 4, 5, 6, 7, 8, 42], [0, 1, 2, 11, 12, 13], ?_⟩
         conv => whnf
         intro _
         conv => whnf
         refine ⟨_, ?_, j + 1, O ++ [w.p], q + 1 + 1, _, (.keep (.keep (.keep (.s8 (.keep (.keep (.keep (.s8 (.s8 (.s8 (.s8 (.s8 (.s8 (.skip (.nil))))))))))))))), rfl, rfl, ?_⟩
         ·omega
         ·exact ⟨⟨by omega, by rw [List.length_append, ← hq]; rfl⟩, by rw [hst, pw, pt]; simp, appQ_row hq hF cw rfl⟩
        ·rw [show decide (z3 * z2 < 0) = false from decide_eq_false h9]
         rw [if_neg h9] at hst
         conv => whnf
         rw [e8]
         refine .inr ⟨[0, 1, 2, 3, 4, 5, 6, 7, 8, 9], [0, 1, 2, 11, 12, 13], ?_⟩
         conv => whnf
         intro _
         conv => whnf
         refine ⟨_, ?_, j + 1, O, q + 1, F, (.keep (.keep (.keep (.s8 (.keep (.keep (.keep (.s8 (.s8 (.s8 (.s8 (.s8 (.s8 (.skip (.nil))))))))))))))), rfl, rfl, ?_⟩
         ·omega
         ·exact ⟨⟨by omega, hq⟩, by rw [hst]; simp, hF⟩
      ·have h7 : j = n := by
        have := of_decide_eq_false h7
        omega
       subst h7
       have hcut : cutR m.q L = O := by rw [hO, cutF_eq, hnL, ← edges_length L, List.take_length]
       obtain ⟨p1, r1, rfl⟩ : ∃ p1 r1, O = p1 :: r1 := List.exists_cons_of_ne_nil (fun e => by rw [e] at hq; cases hq)
       obtain rfl : q = r1.length := by simpa using hq
       conv => whnf
       rw [e7]
       refine .inr ⟨[0, 9], [9, 59, 60, 61], ?_⟩
       conv => whnf
       intro _
       conv => whnf
       refine ⟨_, ?_, k + 1, p1 :: r1, capU, _, (.s8 (.skip (.keep (.s8 (.s8 (.s8 (.s8 (.s8 (.s8 (.skip (.keep (.keep (.keep (.s8 (.s8 (.skip (.nil))))))))))))))))), rfl, rfl, ?_⟩
       ·omega
       ·exact ⟨⟨by omega, by rw [hstep, hcut]⟩, _, fun _ => rfl, BlkLe.flat_rows (fun h => h) hF (fun r hr => rfl)⟩
   ·have h6 : k = i := by
     have := of_decide_eq_false h6
     omega
    subst h6
    rw [show Q.take k = Q from List.take_of_length_le (by omega)] at hP
    cases P with
    | nil =>
     conv => whnf
     exact fin0 11 _ (by rw [hE, if_pos hP.symm]) (by decide)
    | cons p r =>
     obtain ⟨n, hn⟩ : ∃ n, n = r.length + 1 := ⟨_, rfl⟩
     obtain ⟨L, hL⟩ : ∃ L, L = p :: r := ⟨_, rfl⟩
     obtain ⟨g, hg⟩ : ∃ g, g = rowsQ L := ⟨_, rfl⟩
     have hnL : n = L.length := by rw [hL, hn]; rfl
     have hW : BlkLe (.flat true n 6 g) W := by rw [hnL, hg, hL, ← hP' (by simp)]; exact hW
     rw [show pVal (p :: r) d = .slice (some ⟨1, 0, none⟩) n d from by rw [hn]; rfl]
     rw [← hL] at hP
     have hLne : L ≠ [] := by rw [hL]; simp
     rw [← hP] at hE
     rw [if_neg hLne] at hE
     have hpos : 0 < n := by omega
     have hln : n ≤ 1099511627776 := by
      have := (hsz (by omega) k (by omega)).1
      rw [show Q.take k = Q from List.take_of_length_le (by omega), ← hP, ← hnL] at this
      omega
     have hLs : ∀ v ∈ L, Q2.sz 262144 v := by
      have := (hsz (by omega) k (by omega)).2
      rw [show Q.take k = Q from List.take_of_length_le (by omega), ← hP] at this
      exact this
     clear hL hn
     have hRl : (rotR (cleanL L)).length = (cleanL L).length := rotR_length _
     have hcom : comP B Q = rotR (cleanL L) := by unfold comP; rw [← hP]
     obtain ⟨M, hM⟩ : ∃ M, M = (cleanL L).length := ⟨_, rfl⟩
     obtain ⟨gs, hgs⟩ : ∃ M, M = rowsQ (rotR (cleanL L)) := ⟨_, rfl⟩
     obtain ⟨cu, hcu⟩ : ∃ c, c = capU := ⟨_, rfl⟩
     rw [← hM] at hE hRl
     conv => whnf
     rw [show (((n : Nat) : Int) == 0) = false from by simp; omega]
     conv => whnf
     refine ⟨(L, d), [1], by rw [show cleanS.args (L, d) = [.slice (some ⟨0, 0, none⟩) n d] from by rw [hnL]; rfl]; rfl, ⟨hLne, by show L.length ≤ _; omega, fun v hv => Q2.mono (hLs v hv) (by decide)⟩, ?_⟩
     rw [show cleanS.blks (L, d) = [.flat false n 6 g] from by rw [hnL, hg]; rfl, show cleanS.val (L, d) = .slice (some ⟨1, 0, none⟩) M cu from by rw [hM, hcu]; rfl, show cleanS.new (L, d) = some (.flat true M 6 gs) from by rw [hM, hgs]; rfl]
     conv => whnf
     refine ⟨⟨(fun h => by cases h), hW.esz, hW.n, hW.row, hW.flat⟩, ?_⟩
     conv => whnf
     refine ⟨_, rfl, ?_⟩
     conv => whnf
     by_cases h7 : M < 3
     ·rw [show decide ((M : Int) < 3) = true from decide_eq_true (by omega)]
      conv => whnf
      exact fin0 12 _ (by rw [hE, if_pos h7]) (by decide)
     ·rw [show decide ((M : Int) < 3) = false from decide_eq_false (by omega)]
      rw [if_neg h7] at hE
      conv => whnf
      obtain ⟨f1, f2⟩ := common_new (b := ((x1, y1), (x2, y2))) (i := some (l, c)) (by rw [hB, hQ] at hE; exact hE) (by rw [hB, hQ] at hcom; exact hcom) hRl hgs
      rw [hK]
      unfold qRes
      rw [f1, f2]
      refine ⟨2, ?_⟩
      conv => whnf
      exact ⟨⟨rfl, BlkLe.flat_flat (fun h => h) (fun r hr => by rw [hgs]; rfl)⟩, _, rfl, by rw [hcu]; exact .refl _⟩
end Go.Proofs.YtppeponndkfbkaaGreat
/- What the laws of line call: equal lists, sizes. -/
set_option maxRecDepth 20000
set_option maxHeartbeats 4000000
namespace Go.Proofs.YtppeponndkfbkaaGreat
open Go Go.Ae
def Edz : Env := { tt := tt, eqs := eqsL, Φ := fun g => match g with
 | 40 => some (.p qofS)
 | _ => none }
theorem Edzok : EnvOk Tryz.prog Edz := ⟨tt_ok, eqs_ok, (fun g S h => by
 simp only [Edz] at h
 split at h
 ·cases h; exact qof_ok
 ·cases h), fun g F h => by simp [Edz] at h⟩
theorem equal_ok : QSnd Tryz.prog 28 sameS := by
 refine qsnd_of Edzok Dok Tryz.func28 (enters_of Tryz.func28 (by kernel_rfl) rfl) ?_ ?_ ?_
 ·intro ⟨i, j⟩ b hb
  cases i <;> cases j <;> simp [sameS, PL.blks] at hb <;> (try rcases hb with rfl | rfl) <;> (try subst hb) <;> first | rfl | skip
 ·intro i b hb; simp [sameS] at hb
 intro ⟨i, j⟩ hp
 have hp : i.list.length ≤ 1099511627776 ∧ j.list.length ≤ 1099511627776 := hp
 obtain ⟨hpi, hpj⟩ := hp
 cases i with
 | none =>
  cases j with
  | none =>
   conv => whnf
   refine .inr ⟨1, ?_⟩
   conv => whnf
   exact ⟨.bool true, rfl, .refl _⟩
  | some j =>
   obtain ⟨m, c⟩ := j
   obtain ⟨n, hn⟩ : ∃ n, n = m.length := ⟨_, rfl⟩
   obtain ⟨g, hg⟩ : ∃ g, g = rowsP m := ⟨_, rfl⟩
   have fin : ∀ b : Bool, b = decide ([] = m) → ∃ v', renV (List.range 1) 3 (sameS.val (none, some (m, c))) = some v' ∧ VLe (.bool b) v' := fun b h => ⟨.bool b, by rw [h]; rfl, .refl _⟩
   rw [show sameS.blks (none, some (m, c)) = [.flat false n 6 g] from by rw [hn, hg]; rfl, show sameS.args (none, some (m, c)) = [.slice none 0 0, .slice (some ⟨0, 0, none⟩) n c] from by rw [hn]; rfl]
   by_cases h0 : n = 0
   ·have hm : m = [] := List.length_eq_zero_iff.1 (hn.symm.trans h0)
    subst h0
    conv => whnf
    refine .inr ⟨1, ?_⟩
    conv => whnf
    exact fin true (by rw [hm]; rfl)
   ·conv => whnf
    rw [show (((0 : Nat) : Int) != ((n : Nat) : Int)) = true from by simp; omega]
    conv => whnf
    exact fin false (by cases m with | nil => exact absurd hn h0 | cons a m => rfl)
 | some i =>
  obtain ⟨l, c⟩ := i
  obtain ⟨k, hk⟩ : ∃ n, n = l.length := ⟨_, rfl⟩
  obtain ⟨f, hf⟩ : ∃ g, g = rowsP l := ⟨_, rfl⟩
  have hpi : k ≤ 1099511627776 := by rw [hk]; exact hpi
  cases j with
  | none =>
   have fin : ∀ b : Bool, b = decide (l = []) → ∃ v', renV (List.range 1) 3 (sameS.val (some (l, c), none)) = some v' ∧ VLe (.bool b) v' := fun b h => ⟨.bool b, by rw [h]; rfl, .refl _⟩
   rw [show sameS.blks (some (l, c), none) = [.flat false k 6 f] from by rw [hk, hf]; rfl, show sameS.args (some (l, c), none) = [.slice (some ⟨0, 0, none⟩) k c, .slice none 0 0] from by rw [hk]; rfl]
   by_cases h0 : k = 0
   ·have hm : l = [] := List.length_eq_zero_iff.1 (hk.symm.trans h0)
    subst h0
    conv => whnf
    refine .inr ⟨1, ?_⟩
    conv => whnf
    exact fin true (by rw [hm]; rfl)
   ·conv => whnf
    rw [show (((k : Nat) : Int) != ((0 : Nat) : Int)) = true from by simp; omega]
    conv => whnf
    exact fin false (by cases l with | nil => exact absurd hk h0 | cons a m => rfl)
  | some j =>
   obtain ⟨m, d⟩ := j
   obtain ⟨n, hn⟩ : ∃ n, n = m.length := ⟨_, rfl⟩
   obtain ⟨g, hg⟩ : ∃ g, g = rowsP m := ⟨_, rfl⟩
   have fin : ∀ b : Bool, b = decide (l = m) → ∃ v', renV (List.range 2) 3 (sameS.val (some (l, c), some (m, d))) = some v' ∧ VLe (.bool b) v' := fun b h => ⟨.bool b, by rw [h]; rfl, .refl _⟩
   rw [show sameS.blks (some (l, c), some (m, d)) = [.flat false k 6 f, .flat false n 6 g] from by rw [hk, hf, hn, hg]; rfl, show sameS.args (some (l, c), some (m, d)) = [.slice (some ⟨0, 0, none⟩) k c, .slice (some ⟨1, 0, none⟩) n d] from by rw [hk, hn]; rfl]
   by_cases h0 : k = n
   ·obtain rfl := h0
    conv => whnf
    rw [show ((k : Int) != (k : Int)) = false from by simp]
    conv => whnf
    refine .inl ⟨fun mm tz hz => ∃ (i : Nat), Pat [some (.slice (some ⟨0, 0, none⟩) k c), some (.slice (some ⟨1, 0, none⟩) k d), none, none, none, none, none, none, none, none, none, none, some (.int .i64 k), some (.int .i64 i), none, none, none, none, none, none, none, none, none, none, none, none] tz ∧ hz = [some (.flat false k 6 f), some (.flat false k 6 g)] ∧ k - i = mm ∧ (i ≤ k ∧ eqUp l m i), .inr ⟨[0, 1], [0, 1, 12, 13], ?_⟩, ?_⟩
    ·conv => whnf
     intro _
     conv => whnf
     refine ⟨_, 0, (.keep (.keep (.s8 (.skip (.skip (.keep (.keep (.s8 (.skip (.skip (.skip (.skip (.nil))))))))))))), rfl, rfl, ?_⟩
     exact ⟨Nat.zero_le _, eqUp_start _ _⟩
    rintro mm tms _ ⟨i, hpat, rfl, rfl, ⟨hi, hN⟩⟩
    obtain ⟨az, rfl⟩ : ∃ az : Nat → Value, tms = [.slice (some ⟨0, 0, none⟩) k c, .slice (some ⟨1, 0, none⟩) k d, az 2, az 3, az 4, az 5, az 6, az 7, az 8, az 9, az 10, az 11, .int .i64 k, .int .i64 i, az 14, az 15, az 16, az 17, az 18, az 19, az 20, az 21, az 22, az 23, az 24, az 25] := pat_fill hpat
    clear hpat
    conv => whnf
    refine br_intro (fun h1 => ?_) (fun h1 => ?_)
    ·have h1 : i < k := by
      have := of_decide_eq_true h1
      omega
     obtain ⟨p, hpl, _, hrow⟩ := rowsP_get (l := l) (i := i) (by omega)
     obtain ⟨q, hql, _, hrow2⟩ := rowsP_get (l := m) (i := i) (by omega)
     rw [← hf] at hrow
     rw [← hg] at hrow2
     have e7 : IntKind.i64.wrap ((i : Int) + 1) = ((i + 1 : Nat) : Int) := by rw [wrapi64 (by omega) (by omega)]; rfl
     conv => whnf
     refine .inl ⟨8, [[], [], [0, 1], [0, 1, 2], [], [], [4, 5], [4, 5, 6], [0, 1, 2, 3, 4, 5, 6, 7]], by kernel_rfl, ?_⟩
     conv => whnf
     refine ⟨⟨by omega, by omega⟩, ?_⟩
     simp only [toNat_cast, rowAdd_eq, Nat.zero_add]
     conv => whnf
     refine ⟨by show i < k; omega, ?_⟩
     conv => whnf
     rw [hrow]
     conv => whnf
     refine ⟨⟨by omega, by omega⟩, ?_⟩
     simp only [toNat_cast, rowAdd_eq, Nat.zero_add]
     conv => whnf
     refine ⟨by show i < k; omega, ?_⟩
     conv => whnf
     rw [hrow2]
     conv => whnf
     rw [eqPQ p q]
     by_cases h2 : p = q
     ·rw [decide_eq_true h2]
      conv => whnf
      rw [e7]
      refine .inr ⟨[0, 1], [0, 1, 12, 13], ?_⟩
      conv => whnf
      intro _
      conv => whnf
      refine ⟨_, ?_, i + 1, (.keep (.keep (.s8 (.skip (.skip (.keep (.keep (.s8 (.skip (.skip (.skip (.skip (.nil))))))))))))), rfl, rfl, ?_⟩
      ·omega
      ·exact ⟨by omega, eqUp_step hN hpl hql h2⟩
     ·rw [decide_eq_false h2]
      conv => whnf
      exact fin false (decide_eq_false (ne_at hpl hql h2)).symm
    ·have h1 : i = k := by
      have := of_decide_eq_false h1
      omega
     subst h1
     conv => whnf
     exact fin true (decide_eq_true (eqUp_end (by rw [← hk]; exact hN) (hk.symm.trans hn))).symm
   ·conv => whnf
    rw [show ((k : Int) != (n : Int)) = true from by simp; omega]
    conv => whnf
    exact fin false (decide_eq_false (fun e => h0 (by rw [hk, hn, e]))).symm
theorem long_ok : Snd Tryz.prog 79 longS := by
 refine snd_of Edzok Dok Tryz.func79 (enters_of Tryz.func79 (by kernel_rfl) rfl) (fun _ => rfl) (fun _ => rfl) ?_
 intro (a : RV) hp
 have fin : ∀ (z : Bool), z = decide a.long → Value.bool z = longS.val a := fun z h => by rw [h]; rfl
 conv => whnf
 by_cases h1 : 20 < a.2.1.size
 ·rw [show decide ((a.2.1.size : Int) > 20) = true from decide_eq_true (by omega)]
  conv => whnf
  exact fin _ (decide_eq_true (.inl h1)).symm
 ·rw [show decide ((a.2.1.size : Int) > 20) = false from decide_eq_false (by omega)]
  conv => whnf
  refine fin _ ?_
  by_cases h2 : 20 < a.2.2.size
  ·rw [show decide ((a.2.2.size : Int) > 20) = true from decide_eq_true (by omega)]
   exact (decide_eq_true (.inr h2)).symm
  ·rw [show decide ((a.2.2.size : Int) > 20) = false from decide_eq_false (by omega)]
   exact (decide_eq_false (fun e => e.elim h1 h2)).symm
def Edy : Env := { tt := tt, eqs := [], Φ := fun g => match g with
 | 79 => some (.p longS)
 | _ => none }
theorem Edyok : EnvOk Tryz.prog Edy := ⟨tt_ok, fun t h => by simp [Edy] at h, (fun g S h => by
 simp only [Edy] at h
 split at h
 ·cases h; exact long_ok
 ·cases h), fun g F h => by simp [Edy] at h⟩
theorem llong_ok : Snd Tryz.prog 36 llongS := by
 refine snd_of Edyok Dok Tryz.func36 (enters_of Tryz.func36 (by kernel_rfl) rfl) (fun _ => rfl) (fun _ => rfl) ?_
 intro ⟨a, b, c⟩ hp
 have fin : ∀ (z : Bool), z = decide (R3.long (a, b, c)) → Value.bool z = llongS.val (a, b, c) := fun z h => by rw [h]; rfl
 conv => whnf
 refine ⟨a, rfl, trivial, ?_⟩
 by_cases h1 : a.long
 ·rw [show longS.val a = .bool true from congrArg Value.bool (decide_eq_true h1)]
  conv => whnf
  exact fin _ (decide_eq_true (.inl h1)).symm
 ·rw [show longS.val a = .bool false from congrArg Value.bool (decide_eq_false h1)]
  conv => whnf
  refine ⟨b, rfl, trivial, ?_⟩
  by_cases h2 : b.long
  ·rw [show longS.val b = .bool true from congrArg Value.bool (decide_eq_true h2)]
   conv => whnf
   exact fin _ (decide_eq_true (.inr (.inl h2))).symm
  ·rw [show longS.val b = .bool false from congrArg Value.bool (decide_eq_false h2)]
   conv => whnf
   refine ⟨c, rfl, trivial, ?_⟩
   by_cases h3 : c.long
   ·rw [show longS.val c = .bool true from congrArg Value.bool (decide_eq_true h3)]
    conv => whnf
    exact fin _ (decide_eq_true (.inr (.inr h3))).symm
   ·rw [show longS.val c = .bool false from congrArg Value.bool (decide_eq_false h3)]
    conv => whnf
    exact fin _ (decide_eq_false (fun e => e.elim h1 (fun e => e.elim h2 h3))).symm
theorem plong_ok : Snd Tryz.prog 38 plongS := by
 refine snd_of Edyok Dok Tryz.func38 (enters_of Tryz.func38 (by kernel_rfl) rfl) (fun _ => rfl) (fun _ => rfl) ?_
 intro ⟨a, b⟩ hp
 have fin : ∀ (z : Bool), z = decide (PV.long (a, b)) → Value.bool z = plongS.val (a, b) := fun z h => by rw [h]; rfl
 conv => whnf
 refine ⟨a, rfl, trivial, ?_⟩
 by_cases h1 : a.long
 ·rw [show longS.val a = .bool true from congrArg Value.bool (decide_eq_true h1)]
  conv => whnf
  exact fin _ (decide_eq_true (.inl h1)).symm
 ·rw [show longS.val a = .bool false from congrArg Value.bool (decide_eq_false h1)]
  conv => whnf
  refine ⟨b, rfl, trivial, ?_⟩
  by_cases h2 : b.long
  ·rw [show longS.val b = .bool true from congrArg Value.bool (decide_eq_true h2)]
   conv => whnf
   exact fin _ (decide_eq_true (.inr h2)).symm
  ·rw [show longS.val b = .bool false from congrArg Value.bool (decide_eq_false h2)]
   conv => whnf
   exact fin _ (decide_eq_false (fun e => e.elim h1 h2)).symm
def Edx : Env := { tt := tt, eqs := [], Φ := fun g => match g with
 | 36 => some (.p llongS)
 | 38 => some (.p plongS)
 | _ => none }
theorem Edxok : EnvOk Tryz.prog Edx := ⟨tt_ok, fun t h => by simp [Edx] at h, (fun g S h => by
 simp only [Edx] at h
 split at h
 ·cases h; exact llong_ok
 ·cases h; exact plong_ok
 ·cases h), fun g F h => by simp [Edx] at h⟩
theorem lindex2_ft : FTOk Tryz.prog 78 (fnK Edx drawT Tryz.f78) := by
 exact ft_of Edxok Dok Tryz.func78 (enters_of Tryz.func78 (by kernel_rfl) rfl)
theorem pindex2_ft : FTOk Tryz.prog 80 (fnK Edx drawT Tryz.f80) := by
 exact ft_of Edxok Dok Tryz.func80 (enters_of Tryz.func80 (by kernel_rfl) rfl)
def EdwW : FuncId → Option FT := fun g => match g with
 | 78 => some (fnK Edx drawT Tryz.f78)
 | 80 => some (fnK Edx drawT Tryz.f80)
 | _ => none
def Edw : Env := { tt := tt, eqs := [], Ψ := EdwW, Φ := fun g => match g with
 | _ => none }
theorem Edwok : EnvOk Tryz.prog Edw := ⟨tt_ok, fun t h => by simp [Edw] at h, (fun g S h => by
 change none = some S at h
 cases h), (fun g F h => by
 simp only [Edw, EdwW] at h
 split at h
 ·cases h; exact lindex2_ft
 ·cases h; exact pindex2_ft
 ·cases h)⟩
theorem lany_ok : QSnd Tryz.prog 35 (anyLS 36 longL) := by
 refine qsnd_of Edwok Dok Tryz.func35 (enters_of Tryz.func35 (by kernel_rfl) rfl) ?_ ?_ ?_
 ·intro i b hb
  cases i with
  | none => simp [anyLS, LL.blks] at hb
  | some i => simp [anyLS, LL.blks] at hb; rw [hb]; rfl
 ·intro i b hb; simp [anyLS] at hb
 intro i hp
 have hp : i.list.length ≤ 1099511627776 := hp
 cases i with
 | none =>
  conv => whnf
  refine .inr ⟨1, ?_⟩
  conv => whnf
  exact ⟨.bool false, rfl, .refl _⟩
 | some i =>
  obtain ⟨l, c⟩ := i
  obtain ⟨n, hn⟩ : ∃ n, n = l.length := ⟨_, rfl⟩
  obtain ⟨g, hg⟩ : ∃ g, g = rowsLn l := ⟨_, rfl⟩
  have hp : n ≤ 1099511627776 := by rw [hn]; exact hp
  have fin : ∀ b : Bool, l.any longL = b → ∃ v', renV (List.range 1) 3 ((anyLS 36 longL).val (some (l, c))) = some v' ∧ VLe (.bool b) v' := fun b h => ⟨.bool b, by rw [← h]; rfl, .refl _⟩
  rw [show (anyLS 36 longL).blks (some (l, c)) = [.flat false n 9 g] from by rw [hn, hg]; rfl, show (anyLS 36 longL).args (some (l, c)) = [.slice (some ⟨0, 0, none⟩) n c, .func (.func 36) #[] #[]] from by rw [hn]; rfl]
  conv => whnf
  refine .inl ⟨fun mm tz hz => ∃ (i : Nat), Pat [some (.slice (some ⟨0, 0, none⟩) n c), some (.func (.func 36) #[] #[]), none, none, none, none, none, some (.int .i64 n), some (.int .i64 i), none, none, none, none, none, none, none, none, none, none] tz ∧ hz = [some (.flat false n 9 g)] ∧ n - i = mm ∧ (i ≤ n ∧ noneUp longL l i), .inr ⟨[0], [0, 1, 7, 8], ?_⟩, ?_⟩
  ·conv => whnf
   intro _
   conv => whnf
   refine ⟨_, 0, (.keep (.keep (.skip (.skip (.skip (.skip (.skip (.keep (.keep (.s8 (.skip (.skip (.nil))))))))))))), rfl, rfl, ?_⟩
   exact ⟨Nat.zero_le _, noneUp_start _ _⟩
  rintro mm tms _ ⟨i, hpat, rfl, rfl, ⟨hi, hN⟩⟩
  obtain ⟨az, rfl⟩ : ∃ az : Nat → Value, tms = [.slice (some ⟨0, 0, none⟩) n c, .func (.func 36) #[] #[], az 2, az 3, az 4, az 5, az 6, .int .i64 n, .int .i64 i, az 9, az 10, az 11, az 12, az 13, az 14, az 15, az 16, az 17, az 18] := pat_fill hpat
  clear hpat
  conv => whnf
  refine br_intro (fun h1 => ?_) (fun h1 => ?_)
  ·have h1 : i < n := by
    have := of_decide_eq_true h1
    omega
   obtain ⟨p, hpl, hpm, hrow⟩ := rowsLn_get (l := l) (k := i) (by omega)
   rw [← hg] at hrow
   have e7 : IntKind.i64.wrap ((i : Int) + 1) = ((i + 1 : Nat) : Int) := by rw [wrapi64 (by omega) (by omega)]; rfl
   conv => whnf
   refine ⟨⟨by omega, by omega⟩, ?_⟩
   simp only [toNat_cast, rowAdd_eq, Nat.zero_add]
   conv => whnf
   refine ⟨by show i < n; omega, ?_⟩
   conv => whnf
   rw [hrow]
   conv => whnf
   refine ⟨p, rfl, trivial, ?_⟩
   cases h2 : longL p with
   | true =>
    rw [show llongS.val p = .bool true from congrArg Value.bool h2]
    conv => whnf
    exact fin true (any_of hpm h2)
   | false =>
    rw [show llongS.val p = .bool false from congrArg Value.bool h2]
    conv => whnf
    rw [e7]
    refine .inr ⟨[0], [0, 1, 7, 8], ?_⟩
    conv => whnf
    intro _
    conv => whnf
    refine ⟨_, ?_, i + 1, (.keep (.keep (.skip (.skip (.skip (.skip (.skip (.keep (.keep (.s8 (.skip (.skip (.nil))))))))))))), rfl, rfl, ?_⟩
    ·omega
    ·exact ⟨by omega, noneUp_step hN hpl h2⟩
  ·have h1 : i = n := by
    have := of_decide_eq_false h1
    omega
   subst h1
   conv => whnf
   exact fin false (noneUp_end (by rw [← hn]; exact hN))
theorem pany_ok : QSnd Tryz.prog 37 (anyPS 38 longP) := by
 refine qsnd_of Edwok Dok Tryz.func37 (enters_of Tryz.func37 (by kernel_rfl) rfl) ?_ ?_ ?_
 ·intro i b hb
  cases i with
  | none => simp [anyPS, PL.blks] at hb
  | some i => simp [anyPS, PL.blks] at hb; rw [hb]; rfl
 ·intro i b hb; simp [anyPS] at hb
 intro i hp
 have hp : i.list.length ≤ 1099511627776 := hp
 cases i with
 | none =>
  conv => whnf
  refine .inr ⟨1, ?_⟩
  conv => whnf
  exact ⟨.bool false, rfl, .refl _⟩
 | some i =>
  obtain ⟨l, c⟩ := i
  obtain ⟨n, hn⟩ : ∃ n, n = l.length := ⟨_, rfl⟩
  obtain ⟨g, hg⟩ : ∃ g, g = rowsP l := ⟨_, rfl⟩
  have hp : n ≤ 1099511627776 := by rw [hn]; exact hp
  have fin : ∀ b : Bool, l.any longP = b → ∃ v', renV (List.range 1) 3 ((anyPS 38 longP).val (some (l, c))) = some v' ∧ VLe (.bool b) v' := fun b h => ⟨.bool b, by rw [← h]; rfl, .refl _⟩
  rw [show (anyPS 38 longP).blks (some (l, c)) = [.flat false n 6 g] from by rw [hn, hg]; rfl, show (anyPS 38 longP).args (some (l, c)) = [.slice (some ⟨0, 0, none⟩) n c, .func (.func 38) #[] #[]] from by rw [hn]; rfl]
  conv => whnf
  refine .inl ⟨fun mm tz hz => ∃ (i : Nat), Pat [some (.slice (some ⟨0, 0, none⟩) n c), some (.func (.func 38) #[] #[]), none, none, none, none, none, some (.int .i64 n), some (.int .i64 i), none, none, none, none, none, none, none, none, none, none] tz ∧ hz = [some (.flat false n 6 g)] ∧ n - i = mm ∧ (i ≤ n ∧ noneUp longP l i), .inr ⟨[0], [0, 1, 7, 8], ?_⟩, ?_⟩
  ·conv => whnf
   intro _
   conv => whnf
   refine ⟨_, 0, (.keep (.keep (.skip (.skip (.skip (.skip (.skip (.keep (.keep (.s8 (.skip (.skip (.nil))))))))))))), rfl, rfl, ?_⟩
   exact ⟨Nat.zero_le _, noneUp_start _ _⟩
  rintro mm tms _ ⟨i, hpat, rfl, rfl, ⟨hi, hN⟩⟩
  obtain ⟨az, rfl⟩ : ∃ az : Nat → Value, tms = [.slice (some ⟨0, 0, none⟩) n c, .func (.func 38) #[] #[], az 2, az 3, az 4, az 5, az 6, .int .i64 n, .int .i64 i, az 9, az 10, az 11, az 12, az 13, az 14, az 15, az 16, az 17, az 18] := pat_fill hpat
  clear hpat
  conv => whnf
  refine br_intro (fun h1 => ?_) (fun h1 => ?_)
  ·have h1 : i < n := by
    have := of_decide_eq_true h1
    omega
   obtain ⟨p, hpl, hpm, hrow⟩ := rowsP_get2 (l := l) (k := i) (by omega)
   rw [← hg] at hrow
   have e7 : IntKind.i64.wrap ((i : Int) + 1) = ((i + 1 : Nat) : Int) := by rw [wrapi64 (by omega) (by omega)]; rfl
   conv => whnf
   refine ⟨⟨by omega, by omega⟩, ?_⟩
   simp only [toNat_cast, rowAdd_eq, Nat.zero_add]
   conv => whnf
   refine ⟨by show i < n; omega, ?_⟩
   conv => whnf
   rw [hrow]
   conv => whnf
   refine ⟨p, rfl, trivial, ?_⟩
   cases h2 : longP p with
   | true =>
    rw [show plongS.val p = .bool true from congrArg Value.bool h2]
    conv => whnf
    exact fin true (any_of hpm h2)
   | false =>
    rw [show plongS.val p = .bool false from congrArg Value.bool h2]
    conv => whnf
    rw [e7]
    refine .inr ⟨[0], [0, 1, 7, 8], ?_⟩
    conv => whnf
    intro _
    conv => whnf
    refine ⟨_, ?_, i + 1, (.keep (.keep (.skip (.skip (.skip (.skip (.skip (.keep (.keep (.s8 (.skip (.skip (.nil))))))))))))), rfl, rfl, ?_⟩
    ·omega
    ·exact ⟨by omega, noneUp_step hN hpl h2⟩
  ·have h1 : i = n := by
    have := of_decide_eq_false h1
    omega
   subst h1
   conv => whnf
   exact fin false (noneUp_end (by rw [← hn]; exact hN))
def Edv : Env := { tt := tt, eqs := [], Φ := fun g => match g with
 | 35 => some (.q (anyLS 36 longL))
 | 37 => some (.q (anyPS 38 longP))
 | _ => none }
theorem Edvok : EnvOk Tryz.prog Edv := ⟨tt_ok, fun t h => by simp [Edv] at h, (fun g S h => by
 simp only [Edv] at h
 split at h
 ·cases h; exact lany_ok
 ·cases h; exact pany_ok
 ·cases h), fun g F h => by simp [Edv] at h⟩
theorem greatL_ok : QSnd Tryz.prog 7 greatLS := by
 refine qsnd_of Edvok Dok Tryz.func7 (enters_of Tryz.func7 (by kernel_rfl) rfl) ?_ ?_ ?_
 ·intro ⟨i, j⟩ b hb
  cases i <;> cases j <;> simp [greatLS, PL.blks, LL.blks] at hb <;> (try rcases hb with rfl | rfl) <;> (try subst hb) <;> first | rfl | skip
 ·intro i b hb; simp [greatLS] at hb
 intro ⟨i, j⟩ hp
 have hp : i.list.length ≤ 9223372036854775807 ∧ j.list.length ≤ 1099511627776 := hp
 obtain ⟨hpi, hpj⟩ := hp
 cases i with
 | none =>
  cases j with
  | none =>
   have fin : ∀ b : Bool, greatL [] [] = b → ∃ v', renV (List.range 0) 3 (greatLS.val (none, none)) = some v' ∧ VLe (.bool b) v' := fun b h => ⟨.bool b, by rw [← h]; rfl, .refl _⟩
   conv => whnf
   refine ⟨none, [], rfl, Nat.zero_le _, ?_⟩
   conv => whnf
   refine ⟨_, rfl, ?_⟩
   conv => whnf
   refine ⟨none, [], rfl, Nat.zero_le _, ?_⟩
   conv => whnf
   refine ⟨_, rfl, ?_⟩
   conv => whnf
   exact fin _ rfl
  | some j =>
   have fin : ∀ b : Bool, greatL [] j.1 = b → ∃ v', renV (List.range 1) 3 (greatLS.val (none, some j)) = some v' ∧ VLe (.bool b) v' := fun b h => ⟨.bool b, by rw [← h]; rfl, .refl _⟩
   conv => whnf
   refine ⟨none, [], rfl, Nat.zero_le _, ?_⟩
   conv => whnf
   refine ⟨_, rfl, ?_⟩
   conv => whnf
   obtain ⟨ps, d⟩ := j
   obtain ⟨y, hy⟩ : ∃ y, y = ps.any longP := ⟨_, rfl⟩
   refine ⟨some (ps, d), [0], rfl, hpj, ?_⟩
   rw [show (anyPS 38 longP).val (some (ps, d)) = .bool y from by rw [hy]; rfl]
   conv => whnf
   refine ⟨BlkLe.flat_flat (fun h => h) (fun r hr => rfl), ?_⟩
   conv => whnf
   refine ⟨_, rfl, ?_⟩
   conv => whnf
   exact fin _ (by rw [hy]; rfl)
 | some i =>
  cases j with
  | none =>
   obtain ⟨l, c⟩ := i
   obtain ⟨n, hn⟩ : ∃ n, n = l.length := ⟨_, rfl⟩
   obtain ⟨g, hg⟩ : ∃ g, g = rowsLn l := ⟨_, rfl⟩
   have fin : ∀ b : Bool, greatL l (PL.list none) = b → ∃ v', renV (List.range 1) 3 (greatLS.val (some (l, c), none)) = some v' ∧ VLe (.bool b) v' := fun b h => ⟨.bool b, by rw [← h]; rfl, .refl _⟩
   unfold qRes
   rw [show greatLS.blks (some (l, c), none) = .flat false n 9 g :: [] from by rw [hn, hg]; rfl, show greatLS.args (some (l, c), none) = [.slice (some ⟨0, 0, none⟩) n c, PL.valAt none 1] from by rw [hn]; rfl, show greatLS.new (some (l, c), none) = none from rfl]
   conv => whnf
   by_cases h8 : 8 < n
   ·rw [show decide ((n : Int) > 8) = true from decide_eq_true (by omega)]
    conv => whnf
    exact fin true (by unfold greatL; rw [decide_eq_true (by omega)]; rfl)
   ·rw [show decide ((n : Int) > 8) = false from decide_eq_false (by omega)]
    have h8' : decide (8 < l.length) = false := decide_eq_false (by omega)
    conv => whnf
    obtain ⟨x, hx⟩ : ∃ x, x = l.any longL := ⟨_, rfl⟩
    refine ⟨some (l, c), [0], by rw [show (anyLS 36 longL).args (some (l, c)) = [.slice (some ⟨0, 0, none⟩) n c, .func (.func 36) #[] #[]] from by rw [hn]; rfl]; rfl, by show l.length ≤ _; omega, ?_⟩
    rw [show (anyLS 36 longL).val (some (l, c)) = .bool x from by rw [hx]; rfl, show (anyLS 36 longL).blks (some (l, c)) = [.flat false n 9 g] from by rw [hn, hg]; rfl]
    conv => whnf
    refine ⟨BlkLe.flat_flat (fun h => h) (fun r hr => by rw [hg]; rfl), ?_⟩
    conv => whnf
    refine ⟨_, rfl, ?_⟩
    cases x with
    | true =>
     conv => whnf
     exact fin true (by unfold greatL; rw [← hx]; simp)
    | false =>
     have fin : ∀ b : Bool, (PL.list none).any longP = b → ∃ v', renV (List.range 1) 3 (greatLS.val (some (l, c), none)) = some v' ∧ VLe (.bool b) v' := fun b h => fin b (by unfold greatL; rw [← hx, h8', h]; rfl)
     conv => whnf
     refine ⟨none, [], rfl, Nat.zero_le _, ?_⟩
     conv => whnf
     refine ⟨_, rfl, ?_⟩
     conv => whnf
     exact fin _ rfl
  | some j =>
   obtain ⟨l, c⟩ := i
   obtain ⟨n, hn⟩ : ∃ n, n = l.length := ⟨_, rfl⟩
   obtain ⟨g, hg⟩ : ∃ g, g = rowsLn l := ⟨_, rfl⟩
   have fin : ∀ b : Bool, greatL l (PL.list (some j)) = b → ∃ v', renV (List.range 2) 3 (greatLS.val (some (l, c), (some j))) = some v' ∧ VLe (.bool b) v' := fun b h => ⟨.bool b, by rw [← h]; rfl, .refl _⟩
   unfold qRes
   rw [show greatLS.blks (some (l, c), (some j)) = .flat false n 9 g :: [.flat false j.1.length 6 (rowsP j.1)] from by rw [hn, hg]; rfl, show greatLS.args (some (l, c), (some j)) = [.slice (some ⟨0, 0, none⟩) n c, PL.valAt (some j) 1] from by rw [hn]; rfl, show greatLS.new (some (l, c), (some j)) = none from rfl]
   conv => whnf
   by_cases h8 : 8 < n
   ·rw [show decide ((n : Int) > 8) = true from decide_eq_true (by omega)]
    conv => whnf
    exact fin true (by unfold greatL; rw [decide_eq_true (by omega)]; rfl)
   ·rw [show decide ((n : Int) > 8) = false from decide_eq_false (by omega)]
    have h8' : decide (8 < l.length) = false := decide_eq_false (by omega)
    conv => whnf
    obtain ⟨x, hx⟩ : ∃ x, x = l.any longL := ⟨_, rfl⟩
    refine ⟨some (l, c), [0], by rw [show (anyLS 36 longL).args (some (l, c)) = [.slice (some ⟨0, 0, none⟩) n c, .func (.func 36) #[] #[]] from by rw [hn]; rfl]; rfl, by show l.length ≤ _; omega, ?_⟩
    rw [show (anyLS 36 longL).val (some (l, c)) = .bool x from by rw [hx]; rfl, show (anyLS 36 longL).blks (some (l, c)) = [.flat false n 9 g] from by rw [hn, hg]; rfl]
    conv => whnf
    refine ⟨BlkLe.flat_flat (fun h => h) (fun r hr => by rw [hg]; rfl), ?_⟩
    conv => whnf
    refine ⟨_, rfl, ?_⟩
    cases x with
    | true =>
     conv => whnf
     exact fin true (by unfold greatL; rw [← hx]; simp)
    | false =>
     have fin : ∀ b : Bool, (PL.list (some j)).any longP = b → ∃ v', renV (List.range 2) 3 (greatLS.val (some (l, c), (some j))) = some v' ∧ VLe (.bool b) v' := fun b h => fin b (by unfold greatL; rw [← hx, h8', h]; rfl)
     conv => whnf
     obtain ⟨ps, d⟩ := j
     obtain ⟨y, hy⟩ : ∃ y, y = ps.any longP := ⟨_, rfl⟩
     refine ⟨some (ps, d), [1], rfl, hpj, ?_⟩
     rw [show (anyPS 38 longP).val (some (ps, d)) = .bool y from by rw [hy]; rfl]
     conv => whnf
     refine ⟨BlkLe.flat_flat (fun h => h) (fun r hr => rfl), ?_⟩
     conv => whnf
     refine ⟨_, rfl, ?_⟩
     conv => whnf
     exact fin _ (by rw [hy]; rfl)
end Go.Proofs.YtppeponndkfbkaaGreat
/- The example of the chapter on lines. -/
set_option maxRecDepth 20000
set_option maxHeartbeats 4000000
namespace Go.Proofs.YtppeponndkfbkaaGreat
open Go Go.Ae
def Edu : Env := { tt := tt, eqs := eqsL, Φ := fun g => match g with
 | 39 => some (.p vofS)
 | 40 => some (.p qofS)
 | 9 => some (.p throughS)
 | 11 => some (.p sideS)
 | 21 => some (.p (footS 1))
 | 25 => some (.q commonS)
 | 28 => some (.q sameS)
 | _ => none }
theorem Eduok : EnvOk Tryz.prog Edu := ⟨tt_ok, eqs_ok, (fun g S h => by
 simp only [Edu] at h
 split at h
 ·cases h; exact vof_ok
 ·cases h; exact qof_ok
 ·cases h; exact through_ok
 ·cases h; exact side_ok
 ·cases h; exact foot_ok
 ·cases h; exact common_ok
 ·cases h; exact equal_ok
 ·cases h), fun g F h => by simp [Edu] at h⟩
theorem awake9_ok : Snd Tryz.prog 8 awakeS := by
 refine snd_of Eduok Dok Tryz.func8 (enters_of Tryz.func8 (by kernel_rfl) rfl) (fun _ => rfl) (fun _ => rfl) ?_
 intro _ hp
 conv => whnf
 obtain ⟨o, co, eo, po, so, qo⟩ := hidePc (ofsz (0) (0) (by decide) (by decide))
 refine ⟨(((0 : Int), (0 : Int)) : Int × Int), rfl, ⟨⟨by decide, by decide⟩, ⟨by decide, by decide⟩⟩, ?_⟩
 rw [show vofS.val (((0 : Int), (0 : Int)) : Int × Int) = o.v from eo]
 conv => whnf
 obtain ⟨t, ct, et, pt, st, qt⟩ := hidePc (ofsz (2) (2) (by decide) (by decide))
 refine ⟨(((2 : Int), (2 : Int)) : Int × Int), rfl, ⟨⟨by decide, by decide⟩, ⟨by decide, by decide⟩⟩, ?_⟩
 rw [show vofS.val (((2 : Int), (2 : Int)) : Int × Int) = t.v from et]
 conv => whnf
 obtain ⟨l, e, el, pl, sl, ql⟩ := hideLE (thrV_sz qo qt)
 refine ⟨(o, t), rfl, ⟨PV.sz_mono so (by decide), PV.sz_mono st (by decide)⟩, ?_⟩
 rw [show throughS.val (o, t) = .tuple ⟨[l.v, .int .i64 e]⟩ from el]
 conv => whnf
 rw [po, pt, ex_thr] at pl
 obtain ⟨cl, rfl⟩ : linV exL = l ∧ (0 : Int) = e := ⟨congrArg Prod.fst pl, congrArg Prod.snd pl⟩
 have hl : l.q = exL := by rw [← cl, linV_q]
 refine .inl ⟨7, [[], [], [0, 1], [0, 1, 2], [0, 1, 2, 3], [0, 1, 2, 3], [0, 1, 2, 3, 4], [0, 1, 2, 3, 4, 5, 6]], by kernel_rfl, ?_⟩
 conv => whnf
 obtain ⟨a, ca, ea, pa, sa, qa⟩ := hidePc (ofsz (0) (1) (by decide) (by decide))
 refine ⟨(((0 : Int), (1 : Int)) : Int × Int), rfl, ⟨⟨by decide, by decide⟩, ⟨by decide, by decide⟩⟩, ?_⟩
 rw [show vofS.val (((0 : Int), (1 : Int)) : Int × Int) = a.v from ea]
 conv => whnf
 obtain ⟨s, f, es, ps⟩ := hideZE (sidV l.q a.p)
 refine ⟨(l, a), rfl, ⟨R3.sz_mono sl (by decide), PV.sz_mono sa (by decide)⟩, ?_⟩
 rw [show sideS.val (l, a) = .tuple ⟨[.int .i64 s, .int .i64 f]⟩ from es]
 conv => whnf
 rw [hl, pa, ex_sid] at ps
 obtain ⟨rfl, rfl⟩ : (1 : Int) = s ∧ (0 : Int) = f := ⟨congrArg Prod.fst ps, congrArg Prod.snd ps⟩
 refine .inr (.inr (.inl ⟨7, 1, [[], [], [0, 1], [0, 1, 2], [0, 1, 2, 3], [0, 1, 2, 3], [], [0, 1, 2, 3, 4, 6], [0, 1, 2, 3, 4, 5, 6, 7]], [5], by kernel_rfl, ?_⟩))
 conv => whnf
 obtain ⟨b, cb, eb, pb, sb, qb⟩ := hidePc (ofsz (0) (2) (by decide) (by decide))
 refine ⟨(((0 : Int), (2 : Int)) : Int × Int), rfl, ⟨⟨by decide, by decide⟩, ⟨by decide, by decide⟩⟩, ?_⟩
 rw [show vofS.val (((0 : Int), (2 : Int)) : Int × Int) = b.v from eb]
 conv => whnf
 obtain ⟨u, f, eu, pu, su, qu⟩ := hidePE (footV_sz (qb1 (Nat.le_refl 1)) ql qb)
 refine ⟨(l, b), rfl, ⟨R3.sz_mono sl (by decide), PV.sz_mono sb (by decide)⟩, ?_⟩
 rw [show (footS 1).val (l, b) = .tuple ⟨[u.v, .int .i64 f]⟩ from eu]
 conv => whnf
 rw [hl, pb, ex_foot] at pu
 obtain ⟨cu1, rfl⟩ : ptV (((1 : Int) : Rat), ((1 : Int) : Rat)) = u ∧ (0 : Int) = f := ⟨congrArg Prod.fst pu, congrArg Prod.snd pu⟩
 refine .inl ⟨9, [[], [0], [], [2], [0, 1, 2, 3], [0, 1, 2, 3, 4], [0, 1, 2, 3, 4, 5], [0, 1, 2, 3, 4, 5], [0, 1, 2, 3, 4, 5, 6], [0, 1, 2, 3, 4, 5, 6, 7, 8]], by kernel_rfl, ?_⟩
 conv => whnf
 obtain ⟨m, cm, em, pm, sm, qm⟩ := hidePc (ofsz (4) (4) (by decide) (by decide))
 refine ⟨(((4 : Int), (4 : Int)) : Int × Int), rfl, ⟨⟨by decide, by decide⟩, ⟨by decide, by decide⟩⟩, ?_⟩
 rw [show vofS.val (((4 : Int), (4 : Int)) : Int × Int) = m.v from em]
 conv => whnf
 have hok := ex_ok pm sm hl (R3.sz_mono sl (by decide))
 obtain ⟨f1, f2⟩ := common_new (b := (zeroP, m)) (i := some ([l], 1)) (P := exR) (M := 3) (by rw [show XV.p (zeroP, m) = exB from by show (zeroP.p, m.p) = _; rw [zeroP_p, pm]; rfl, show qs (LL.list (some ([l], 1))) = [exL] from by show [l.q] = _; rw [hl]]; exact ex_E) (by rw [show XV.p (zeroP, m) = exB from by show (zeroP.p, m.p) = _; rw [zeroP_p, pm]; rfl, show qs (LL.list (some ([l], 1))) = [exL] from by show [l.q] = _; rw [hl]]; exact ex_P) rfl rfl
 obtain ⟨cu, hcu⟩ : ∃ cu, cu = capU := ⟨_, rfl⟩
 obtain ⟨gs, hgs⟩ : ∃ g, g = rowsQ exR := ⟨_, rfl⟩
 rw [← hgs] at f1
 rw [← hcu] at f2
 refine ⟨((zeroP, m), some ([l], 1)), [18], rfl, hok, ?_⟩
 rw [f1, f2, show commonS.blks ((zeroP, m), some ([l], 1)) = [.flat false 1 9 (rowsLn [l])] from rfl]
 conv => whnf
 refine ⟨lit_blkL [l], ?_⟩
 conv => whnf
 refine ⟨_, rfl, ?_⟩
 conv => whnf
 refine .inl ⟨35, [[], [0], [0, 1], [0, 1, 2], [0, 1, 2, 3], [0, 1, 2, 3, 4], [0, 1, 2, 3, 4, 5], [0, 1, 2, 3, 4, 5, 6], [0, 1, 2, 3, 4, 5, 6, 7], [0, 1, 2, 3, 4, 5, 6, 7, 8], [0, 1, 2, 3, 4, 5, 6, 7, 8, 9], [0, 1, 2, 3, 4, 5, 6, 7, 8, 9, 10], [0, 1, 2, 3, 4, 5, 6, 7, 8, 9, 10, 11], [0, 1, 2, 3, 4, 5, 6, 7, 8, 9, 10, 11, 12], [0, 1, 2, 3, 4, 5, 6, 7, 8, 9, 10, 11, 12, 13], [0, 1, 2, 3, 4, 5, 6, 7, 8, 9, 10, 11, 12, 13, 14], [0, 1, 2, 3, 4, 5, 6, 7, 8, 9, 10, 11, 12, 13, 14, 15], [0, 1, 2, 3, 4, 5, 6, 7, 8, 9, 10, 11, 12, 13, 14, 15, 16], [0, 1, 2, 3, 4, 5, 6, 7, 8, 9, 10, 11, 12, 13, 14, 15, 16, 17], [0, 1, 2, 3, 4, 5, 6, 7, 8, 9, 10, 11, 12, 13, 14, 15, 16, 17, 18], [0, 1, 2, 3, 4, 5, 6, 7, 8, 9, 10, 11, 12, 13, 14, 15, 16, 17, 18], [0, 1, 2, 3, 4, 5, 6, 7, 8, 9, 10, 11, 12, 13, 14, 15, 16, 17, 18, 19, 20], [0, 1, 2, 3, 4, 5, 6, 7, 8, 9, 10, 11, 12, 13, 14, 15, 16, 17, 18, 19, 20, 21], [0, 1, 2, 3, 4, 5, 6, 7, 8, 9, 10, 11, 12, 13, 14, 15, 16, 17, 18, 19, 20, 21, 22], [0, 1, 2, 3, 4, 5, 6, 7, 8, 9, 10, 11, 12, 13, 14, 15, 16, 17, 18, 19, 20, 21, 22, 23], [0, 1, 2, 3, 4, 5, 6, 7, 8, 9, 10, 11, 12, 13, 14, 15, 16, 17, 18, 19, 20, 21, 22, 23, 24], [0, 1, 2, 3, 4, 5, 6, 7, 8, 9, 10, 11, 12, 13, 14, 15, 16, 17, 18, 19, 20, 21, 22, 23], [0, 1, 2, 3, 4, 5, 6, 7, 8, 9, 10, 11, 12, 13, 14, 15, 16, 17, 18, 19, 20, 21, 22, 23, 24, 25, 26], [0, 1, 2, 3, 4, 5, 6, 7, 8, 9, 10, 11, 12, 13, 14, 15, 16, 17, 18, 19, 20, 21, 22, 23, 24, 25, 26, 27], [0, 1, 2, 3, 4, 5, 6, 7, 8, 9, 10, 11, 12, 13, 14, 15, 16, 17, 18, 19, 20, 21, 22, 23, 24, 25, 26, 27, 28], [0, 1, 2, 3, 4, 5, 6, 7, 8, 9, 10, 11, 12, 13, 14, 15, 16, 17, 18, 19, 20, 21, 22, 23, 24, 25, 26, 27, 28, 29], [0, 1, 2, 3, 4, 5, 6, 7, 8, 9, 10, 11, 12, 13, 14, 15, 16, 17, 18, 19, 20, 21, 22, 23, 24, 25, 26, 27, 28, 29], [0, 1, 2, 3, 4, 5, 6, 7, 8, 9, 10, 11, 12, 13, 14, 15, 16, 17, 18, 19, 20, 21, 22, 23, 24, 25, 26, 27, 28, 29, 31], [0, 1, 2, 3, 4, 5, 6, 7, 8, 9, 10, 11, 12, 13, 14, 15, 16, 17, 18, 19, 20, 21, 22, 23, 24, 25, 26, 27, 28, 29, 31, 32], [0, 1, 2, 3, 4, 5, 6, 7, 8, 9, 10, 11, 12, 13, 14, 15, 16, 17, 18, 19, 20, 21, 22, 23, 24, 25, 26, 27, 28, 29, 31, 32, 33], [0, 1, 2, 3, 4, 5, 6, 7, 8, 9, 10, 11, 12, 13, 14, 15, 16, 17, 18, 19, 20, 21, 22, 23, 24, 25, 26, 27, 28, 29, 30, 31, 32, 33, 34], [0, 1, 2, 3, 4, 5, 6, 7, 8, 9, 10, 11, 12, 13, 14, 15, 16, 17, 18, 19, 20, 21, 22, 23, 24, 25, 26, 27, 28, 29, 30, 31, 32, 33, 34, 35], [0, 1, 2, 3, 4, 5, 6, 7, 8, 9, 10, 11, 12, 13, 14, 15, 16, 17, 18, 19, 20, 21, 22, 23, 24, 25, 26, 27, 28, 29, 30, 31, 32, 33, 34, 35, 36]], by kernel_rfl, ?_⟩
 conv => whnf
 obtain ⟨v, cv, ev, pv, sv, qv⟩ := hidePc (ofsz (1) (1) (by decide) (by decide))
 refine ⟨(((1 : Int), (1 : Int)) : Int × Int), rfl, ⟨⟨by decide, by decide⟩, ⟨by decide, by decide⟩⟩, ?_⟩
 rw [show vofS.val (((1 : Int), (1 : Int)) : Int × Int) = v.v from ev]
 conv => whnf
 rw [eqPQ u v, show decide (u = v) = true from decide_eq_true (cu1.symm.trans cv.symm)]
 conv => whnf
 obtain ⟨r, cr, er, pr, sr, qr⟩ := hideRc (q := ((-2 : Int) : Rat)) (QB.of_int (n := -2) (k := 1) (nby_le (show Int.natAbs (-2) < C ^ 1 by decide)) (by decide))
 refine ⟨(-2 : Int), rfl, ⟨by decide, by decide⟩, ?_⟩
 rw [show qofS.val (-2 : Int) = r.v from er]
 conv => whnf
 rw [eqCells_rat l.1 r, show decide (l.1 = r) = true from decide_eq_true (by rw [cr, ← cl]; rfl)]
 conv => whnf
 obtain ⟨w1, cw1, ew1, pw1, sw1, qw1⟩ := hidePc (ofsz (0) (0) (by decide) (by decide))
 refine ⟨(((0 : Int), (0 : Int)) : Int × Int), rfl, ⟨⟨by decide, by decide⟩, ⟨by decide, by decide⟩⟩, ?_⟩
 rw [show vofS.val (((0 : Int), (0 : Int)) : Int × Int) = w1.v from ew1]
 conv => whnf
 obtain ⟨w2, cw2, ew2, pw2, sw2, qw2⟩ := hidePc (ofsz (4) (4) (by decide) (by decide))
 refine ⟨(((4 : Int), (4 : Int)) : Int × Int), rfl, ⟨⟨by decide, by decide⟩, ⟨by decide, by decide⟩⟩, ?_⟩
 rw [show vofS.val (((4 : Int), (4 : Int)) : Int × Int) = w2.v from ew2]
 conv => whnf
 obtain ⟨w3, cw3, ew3, pw3, sw3, qw3⟩ := hidePc (ofsz (0) (4) (by decide) (by decide))
 refine ⟨(((0 : Int), (4 : Int)) : Int × Int), rfl, ⟨⟨by decide, by decide⟩, ⟨by decide, by decide⟩⟩, ?_⟩
 rw [show vofS.val (((0 : Int), (4 : Int)) : Int × Int) = w3.v from ew3]
 conv => whnf
 have hR : pvs exR = [w1, w2, w3] := by rw [cw1, cw2, cw3]; rfl
 refine ⟨(some (pvs exR, cu), some ([w1, w2, w3], 3)), [19, 58], rfl, ⟨by show 3 ≤ 1099511627776; decide, by show 3 ≤ 1099511627776; decide⟩, ?_⟩
 rw [show sameS.blks (some (pvs exR, cu), some ([w1, w2, w3], 3)) = [.flat false 3 6 (rowsP (pvs exR)), .flat false 3 6 (rowsP [w1, w2, w3])] from rfl, show sameS.val (some (pvs exR, cu), some ([w1, w2, w3], 3)) = .bool true from congrArg Value.bool (decide_eq_true hR), show sameS.new (some (pvs exR, cu), some ([w1, w2, w3], 3)) = none from rfl]
 conv => whnf
 refine ⟨BlkLe.flat_rows (fun h => by cases h) (fun r hr => by rw [hgs]; rfl) (fun r hr => rfl), lit_blk [w1, w2, w3], ?_⟩
 conv => whnf
 refine ⟨.bool true, rfl, ?_⟩
 conv => whnf
 rfl
end Go.Proofs.YtppeponndkfbkaaGreat
/- Lines: what the laws about rings call. -/
set_option maxRecDepth 20000
set_option maxHeartbeats 4000000
namespace Go.Proofs.YtppeponndkfbkaaGreat
open Go Go.Ae
def Ehin : Env := { tt := tt, eqs := [], Φ := fun g => match g with
 | 30 => some (.p orientS)
 | _ => none }
theorem Ehinok : EnvOk Tryz.prog Ehin := ⟨tt_ok, fun t h => by simp [Ehin] at h, (fun g S h => by
 simp only [Ehin] at h
 split at h
 ·cases h; exact orient_ok
 ·cases h), fun g F h => by simp [Ehin] at h⟩
theorem rins_ok : QSnd Tryz.prog 32 rinsS := by
 refine qsnd_of Ehinok Dok Tryz.func32 (enters_of Tryz.func32 (by kernel_rfl) rfl) ?_ ?_ ?_
 ·intro i b hb; simp [rinsS] at hb; rw [hb]; rfl
 ·intro i b hb; simp [rinsS] at hb
 intro ⟨⟨L, c⟩, v⟩ hp
 have hp : L.length ≤ 1099511627776 ∧ (∀ v ∈ L, Q2.sz 1048576 v) ∧ v.sz 1048576 := hp
 obtain ⟨hlen, hsz, sv⟩ := hp
 obtain ⟨n, hn⟩ : ∃ n, n = L.length := ⟨_, rfl⟩
 obtain ⟨g, hg⟩ : ∃ g, g = rowsQ L := ⟨_, rfl⟩
 have fin : ∀ b : Bool, b = decide (rinB L v.p ∧ 2 < L.length) → ∃ v', renV (List.range 1) 3 (rinsS.val ((L, c), v)) = some v' ∧ VLe (.bool b) v' := fun b h => ⟨.bool b, by rw [h]; rfl, .refl _⟩
 rw [show rinsS.blks ((L, c), v) = [.flat false n 6 g] from by rw [hn, hg]; rfl, show rinsS.args ((L, c), v) = [.slice (some ⟨0, 0, none⟩) n c, v.v] from by rw [hn]; rfl]
 rw [← hn] at hlen
 conv => whnf
 refine .inl ⟨fun mm tz hz => ∃ (k : Nat), Pat [some (.slice (some ⟨0, 0, none⟩) n c), none, none, some (.pointer (some ⟨1, 0, none⟩)), none, none, none, some (.slice (some ⟨0, 0, none⟩) n c), some (.int .i64 n), some (.int .i64 k), none, none, none, none, none, none, none, none, none, none, none, none, none, none, none, none, none, none, none, none] tz ∧ hz = [some (.flat false n 6 g), some (.expl true 6 [v.cells])] ∧ n - k = mm ∧ (k ≤ n ∧ ∀ j, j < k → 0 ≤ orR (at2 L j) (at2 L (nxt L.length j)) v.p), .inr ⟨[0, 1], [0, 3, 7, 8, 9], ?_⟩, ?_⟩
 ·conv => whnf
  intro _
  conv => whnf
  refine ⟨_, 0, (.keep (.skip (.skip (.keep (.skip (.skip (.skip (.keep (.keep (.keep (.s8 (.s8 (.skip (.skip (.skip (.skip (.nil))))))))))))))))), rfl, rfl, ?_⟩
  exact ⟨Nat.zero_le _, fun j hj => absurd hj (by omega)⟩
 rintro mm tms _ ⟨k, hpat, rfl, rfl, ⟨hk, hup⟩⟩
 obtain ⟨az, rfl⟩ : ∃ az : Nat → Value, tms = [.slice (some ⟨0, 0, none⟩) n c, az 1, az 2, .pointer (some ⟨1, 0, none⟩), az 4, az 5, az 6, .slice (some ⟨0, 0, none⟩) n c, .int .i64 n, .int .i64 k, az 10, az 11, az 12, az 13, az 14, az 15, az 16, az 17, az 18, az 19, az 20, az 21, az 22, az 23, az 24, az 25, az 26, az 27, az 28, az 29] := pat_fill hpat
 clear hpat
 conv => whnf
 refine br_intro (fun h1 => ?_) (fun h1 => ?_)
 ·have h1 : k < n := by
   have := of_decide_eq_true h1
   omega
  obtain ⟨p, cp, rp, pp, sp, qp⟩ := hideAt (L := L) (k := k) (by omega) hsz
  obtain ⟨q, cq, rq, pq, sq, qq⟩ := hideAt (L := L) (k := nxt n k) (by rw [← hn]; exact nxt_lt (by omega)) hsz
  have hnx := nxt_i h1 (by omega)
  have hnl := nxt_lt h1
  obtain ⟨j, hj⟩ : ∃ j, j = nxt n k := ⟨_, rfl⟩
  rw [← hj] at hnx hnl rq
  rw [← hg] at rp rq
  have e7 : IntKind.i64.wrap ((k : Int) + 1) = ((k + 1 : Nat) : Int) := by rw [wrapi64 (by omega) (by omega)]; rfl
  conv => whnf
  refine ⟨⟨by omega, by omega⟩, ?_⟩
  simp only [toNat_cast, rowAdd_eq, Nat.zero_add]
  conv => whnf
  refine ⟨by show k < n; omega, ?_⟩
  conv => whnf
  rw [rp]
  conv => whnf
  refine .inl ⟨10, [[], [], [], [2], [], [4], [2, 3, 4, 5], [1, 2, 3, 4, 5, 6], [1, 2, 3, 4, 5, 6, 7], [], [0, 1, 2, 3, 4, 5, 6, 7, 8, 9], [0, 1, 2, 3, 4, 5, 6, 7, 8, 9, 10]], by kernel_rfl, ?_⟩
  conv => whnf
  rw [show decide ((n : Int) ≠ 0) = true from decide_eq_true (by omega)]
  conv => whnf
  rw [hnx]
  refine ⟨⟨by omega, by omega⟩, ?_⟩
  simp only [toNat_cast, rowAdd_eq, Nat.zero_add]
  conv => whnf
  refine ⟨by show j < n; omega, ?_⟩
  conv => whnf
  rw [rq]
  conv => whnf
  obtain ⟨z, ez, pz⟩ := hideZ (cmpQ (orR p.p q.p v.p) 0)
  refine ⟨(p, q, v), rfl, ⟨PV.sz_mono sp (by decide), PV.sz_mono sq (by decide), PV.sz_mono sv (by decide)⟩, ?_⟩
  rw [show orientS.val (p, q, v) = .int .i64 z from ez]
  conv => whnf
  rw [pp, pq] at pz
  refine br_intro (fun h2 => ?_) (fun h2 => ?_)
  ·have h2 : z < 0 := of_decide_eq_true h2
   conv => whnf
   refine fin false (decide_eq_false fun ⟨h3, _⟩ => ?_).symm
   have := cmpQ_ge.2 (h3 k (by omega))
   rw [← hn, ← pz] at this
   omega
  ·have h2 : ¬ z < 0 := of_decide_eq_false h2
   conv => whnf
   rw [e7]
   refine .inr ⟨[0, 1], [0, 3, 7, 8, 9], ?_⟩
   conv => whnf
   intro _
   conv => whnf
   refine ⟨_, ?_, k + 1, (.keep (.skip (.skip (.keep (.skip (.skip (.skip (.keep (.keep (.keep (.s8 (.s8 (.skip (.skip (.skip (.skip (.nil))))))))))))))))), rfl, rfl, ?_⟩
   ·omega
   ·refine ⟨by omega, fun i hi => ?_⟩
    rcases Nat.lt_or_ge i k with h | h
    ·exact hup i h
    ·obtain rfl : i = k := by omega
     rw [← hn]
     exact cmpQ_ge.1 (by rw [← pz]; omega)
 ·have h1 : k = n := by
   have := of_decide_eq_false h1
   omega
  subst h1
  have hin : rinB L v.p := fun j hj => hup j (by omega)
  conv => whnf
  refine fin _ ?_
  rcases Nat.lt_or_ge 2 k with h | h
  ·rw [decide_eq_true (show (k : Int) > 2 by omega), decide_eq_true (show rinB L v.p ∧ 2 < L.length from ⟨hin, by omega⟩)]
  ·rw [decide_eq_false (show ¬ (k : Int) > 2 by omega), decide_eq_false (show ¬ (rinB L v.p ∧ 2 < L.length) from fun h => by omega)]
def Ehlc : Env := { tt := tt, eqs := [], Φ := fun g => match g with
 | 40 => some (.p qofS)
 | _ => none }
theorem Ehlcok : EnvOk Tryz.prog Ehlc := ⟨tt_ok, fun t h => by simp [Ehlc] at h, (fun g S h => by
 simp only [Ehlc] at h
 split at h
 ·cases h; exact qof_ok
 ·cases h), fun g F h => by simp [Ehlc] at h⟩
theorem lclone_ok : QSnd Tryz.prog 26 lcloneS := by
 refine qsnd_of Ehlcok Dok Tryz.func26 (enters_of Tryz.func26 (by kernel_rfl) rfl) ?_ ?_ ?_
 ·intro i b hb
  cases i with
  | none => simp [lcloneS, LL.blks] at hb
  | some i => simp [lcloneS, LL.blks] at hb; rw [hb]; rfl
 ·intro i b hb
  cases i with
  | none => simp [lcloneS] at hb
  | some i => simp [lcloneS] at hb; rw [← hb]; rfl
 intro i hp
 cases i with
 | none =>
  conv => whnf
  exact ⟨_, rfl, .refl _⟩
 | some i =>
  obtain ⟨l, c⟩ := i
  have hp : l.length * 120 ≤ 140737488355328 := hp
  obtain ⟨n, hn⟩ : ∃ n, n = l.length := ⟨_, rfl⟩
  obtain ⟨g, hg⟩ : ∃ g, g = rowsLn l := ⟨_, rfl⟩
  have hs : ∀ r, r < n → allS (g r) = true := fun r hr => by rw [hg]; rfl
  rw [← hn] at hp
  unfold qRes
  rw [show lcloneS.new (some (l, c)) = some (.flat true n 9 g) from by rw [hn, hg]; rfl, show lcloneS.val (some (l, c)) = .slice (some ⟨1, 0, none⟩) n capU from by rw [hn]; rfl, show lcloneS.blks (some (l, c)) = [.flat false n 9 g] from by rw [hn, hg]; rfl, show lcloneS.args (some (l, c)) = [.slice (some ⟨0, 0, none⟩) n c] from by rw [hn]; rfl]
  clear hg hn
  conv => whnf
  refine ⟨by omega, ?_⟩
  conv => whnf
  refine br_intro (fun h => ?_) (fun h => ?_)
  ·have h : n ≤ 0 := by
    have := Nat.le_of_ble_eq_true h
    have : 0 + n ≤ 0 := this
    omega
   obtain rfl : n = 0 := by omega
   refine ⟨rfl, ?_⟩
   conv => whnf
   refine ⟨1, ?_⟩
   conv => whnf
   exact ⟨⟨rfl, BlkLe.flat_rows (fun h => h) (fun r hr => absurd hr (Nat.not_lt_zero r)) (fun r hr => absurd hr (Nat.not_lt_zero r))⟩, .slice (some ⟨2 - 1, 0, none⟩) 0 capU, rfl, .cap _ _ _ rfl⟩
  ·refine ⟨⟨Nat.le_refl _, by show (0 + n) * 120 ≤ 140737488355328; omega⟩, ?_⟩
   conv => whnf
   rw [show (0 + (Src.fl n fun j => g (rowAdd 0 j)).m) = n from Nat.zero_add n, show 0 + n = n from Nat.zero_add n]
   refine ⟨2, ?_⟩
   conv => whnf
   exact ⟨⟨rfl, BlkLe.flat_rows (fun h => h) (fun r hr => by rw [appGet_hi (Nat.zero_le _)]; simp [rowAdd_eq]) hs⟩, _, rfl, .refl _⟩
end Go.Proofs.YtppeponndkfbkaaGreat
/- Lines: 'left' of the laws, and a list of lines turned round. -/
set_option maxRecDepth 20000
set_option maxHeartbeats 4000000
namespace Go.Proofs.YtppeponndkfbkaaGreat
open Go Go.Ae
def Elf1 : Env := { tt := tt, eqs := [], Φ := fun g => match g with
 | 11 => some (.p sideS)
 | _ => none }
theorem Elf1ok : EnvOk Tryz.prog Elf1 := ⟨tt_ok, fun t h => by simp [Elf1] at h, (fun g S h => by
 simp only [Elf1] at h
 split at h
 ·cases h; exact side_ok
 ·cases h), fun g F h => by simp [Elf1] at h⟩
theorem left1_ok : QSnd Tryz.prog 73 left1S := by
 refine qsnd_of Elf1ok Dok Tryz.func73 (enters_of Tryz.func73 (by kernel_rfl) rfl) ?_ ?_ ?_
 ·intro i b hb; simp [left1S] at hb; rw [hb]; rfl
 ·intro i b hb; simp [left1S] at hb
 intro ⟨m, p⟩ hp
 have hp : m.sz 1048576 ∧ p.sz 1048576 := hp
 obtain ⟨sm, sp⟩ := hp
 have qm := R3.qsz sm (by decide)
 have qp := PV.psz sp (by decide)
 have fin : ∀ b : Bool, b = decide (¬ onL m.q p.p) → ∃ v', renV (List.range 1) 3 (left1S.val (m, p)) = some v' ∧ VLe (.bool b) v' := fun b h => ⟨.bool b, by rw [h]; rfl, .refl _⟩
 conv => whnf
 refine ⟨by decide, ?_⟩
 conv => whnf
 obtain ⟨s, e, es, ps⟩ := hideZE (sidV m.q p.p)
 refine ⟨(m, p), rfl, ⟨R3.sz_mono sm (by decide), PV.sz_mono sp (by decide)⟩, ?_⟩
 rw [show sideS.val (m, p) = .tuple ⟨[.int .i64 s, .int .i64 e]⟩ from es]
 conv => whnf
 by_cases il : isL m.q
 ·rw [sidV_ok il] at ps
  obtain ⟨cs, rfl⟩ : cmpQ (valR m.q p.p) 0 = s ∧ (0 : Int) = e := ⟨congrArg Prod.fst ps, congrArg Prod.snd ps⟩
  conv => whnf
  refine fin _ ?_
  show decide (s < 0) = _
  by_cases h : 0 ≤ valR m.q p.p
  ·have := cmpQ_ge.2 h
   rw [decide_eq_false (show ¬ ¬ onL m.q p.p from fun e => e ⟨il, h⟩), decide_eq_false (by omega)]
  ·rw [decide_eq_true (show ¬ onL m.q p.p from fun e => h e.2), decide_eq_true (show s < 0 from Int.not_le.1 fun e => h (cmpQ_ge.1 (by omega)))]
 ·rw [sidV_no il] at ps
  obtain ⟨cs, rfl⟩ : 0 = s ∧ (1 : Int) = e := ⟨congrArg Prod.fst ps, congrArg Prod.snd ps⟩
  conv => whnf
  refine fin _ ?_
  rw [decide_eq_true (show ¬ onL m.q p.p from fun e => il e.1)]
def Elf2 : Env := { tt := tt, eqs := [], Φ := fun g => match g with
 | 73 => some (.q left1S)
 | _ => none }
theorem Elf2ok : EnvOk Tryz.prog Elf2 := ⟨tt_ok, fun t h => by simp [Elf2] at h, (fun g S h => by
 simp only [Elf2] at h
 split at h
 ·cases h; exact left1_ok
 ·cases h), fun g F h => by simp [Elf2] at h⟩
theorem findex_ft : FTOk Tryz.prog 78 (fnK Elf2 drawT Tryz.f78) := by
 exact ft_of Elf2ok Dok Tryz.func78 (enters_of Tryz.func78 (by kernel_rfl) rfl)
def Elf3W : FuncId → Option FT := fun g => match g with
 | 78 => some (fnK Elf2 drawT Tryz.f78)
 | _ => none
def Elf3 : Env := { tt := tt, eqs := [], Ψ := Elf3W, Φ := fun g => match g with
 | _ => none }
theorem Elf3ok : EnvOk Tryz.prog Elf3 := ⟨tt_ok, fun t h => by simp [Elf3] at h, (fun g S h => by
 change none = some S at h
 cases h), (fun g F h => by
 simp only [Elf3, Elf3W] at h
 split at h
 ·cases h; exact findex_ft
 ·cases h)⟩
theorem fcontains_ft : FTOk Tryz.prog 35 (fnK Elf3 drawT Tryz.f35) := by
 exact ft_of Elf3ok Dok Tryz.func35 (enters_of Tryz.func35 (by kernel_rfl) rfl)
def Elf4W : FuncId → Option FT := fun g => match g with
 | 35 => some (fnK Elf3 drawT Tryz.f35)
 | _ => none
def Elf4 : Env := { tt := tt, eqs := [], Ψ := Elf4W, Φ := fun g => match g with
 | 72 => some (.p vwithinS)
 | _ => none }
theorem Elf4ok : EnvOk Tryz.prog Elf4 := ⟨tt_ok, fun t h => by simp [Elf4] at h, (fun g S h => by
 simp only [Elf4] at h
 split at h
 ·cases h; exact vwithin_ok
 ·cases h), (fun g F h => by
 simp only [Elf4, Elf4W] at h
 split at h
 ·cases h; exact fcontains_ft
 ·cases h)⟩
theorem left_ok : QSnd Tryz.prog 29 leftS := by
 refine qsnd_of Elf4ok Dok Tryz.func29 (enters_of Tryz.func29 (by kernel_rfl) rfl) ?_ ?_ ?_
 ·intro ⟨⟨b, i⟩, _⟩ B hb
  cases i with
  | none => simp [leftS, LL.blks] at hb
  | some i => simp [leftS, LL.blks] at hb; rw [hb]; rfl
 ·intro i B hb; simp [leftS] at hb
 intro ⟨⟨⟨b1, b2⟩, i⟩, p⟩ hp
 have hp : (b1.sz 1048576 ∧ b2.sz 1048576) ∧ i.list.length ≤ 1099511627776 ∧ (∀ m ∈ i.list, m.sz 1048576) ∧ p.sz 1048576 := hp
 obtain ⟨⟨s1, s2⟩, hlen, hls, sp⟩ := hp
 have fin : ∀ b : Bool, b = decide (leftB (XV.p (b1, b2)) (qs i.list) p.p) → ∃ v', renV (List.range 1) 3 (leftS.val (((b1, b2), i), p)) = some v' ∧ VLe (.bool b) v' := fun b h => ⟨.bool b, by rw [h]; rfl, .refl _⟩
 cases i with
 | none =>
  have fin : ∀ b : Bool, b = decide (leftB (XV.p (b1, b2)) [] p.p) → ∃ v', renV (List.range 1) 3 (leftS.val (((b1, b2), none), p)) = some v' ∧ VLe (.bool b) v' := fin
  rw [show leftS.blks (((b1, b2), none), p) = [] from rfl, show leftS.args (((b1, b2), none), p) = [XV.v (b1, b2), .slice none 0 0, p.v] from rfl]
  conv => whnf
  refine ⟨((b1, b2), p), rfl, ⟨⟨PV.sz_mono s1 (by decide), PV.sz_mono s2 (by decide)⟩, PV.sz_mono sp (by decide)⟩, ?_⟩
  by_cases hb : inBx (XV.p (b1, b2)) p.p
  ·rw [show vwithinS.val ((b1, b2), p) = .bool true from congrArg Value.bool (decide_eq_true hb)]
   conv => whnf
   refine .inr ⟨1, ?_⟩
   conv => whnf
   exact fin true (decide_eq_true ⟨hb, fun m hm => by cases hm⟩).symm
  ·rw [show vwithinS.val ((b1, b2), p) = .bool false from congrArg Value.bool (decide_eq_false hb)]
   conv => whnf
   exact fin false (decide_eq_false fun e => hb e.1).symm
 | some i =>
  obtain ⟨l, c⟩ := i
  have hlen : l.length ≤ 1099511627776 := hlen
  have hls : ∀ m ∈ l, m.sz 1048576 := hls
  have fin : ∀ b : Bool, b = decide (leftB (XV.p (b1, b2)) (qs l) p.p) → ∃ v', renV (List.range 1) 3 (leftS.val (((b1, b2), some (l, c)), p)) = some v' ∧ VLe (.bool b) v' := fin
  obtain ⟨n, hn⟩ : ∃ n, n = l.length := ⟨_, rfl⟩
  obtain ⟨g, hg⟩ : ∃ g, g = rowsLn l := ⟨_, rfl⟩
  rw [show leftS.blks (((b1, b2), some (l, c)), p) = [.flat false n 9 g] from by rw [hn, hg]; rfl, show leftS.args (((b1, b2), some (l, c)), p) = [XV.v (b1, b2), .slice (some ⟨0, 0, none⟩) n c, p.v] from by rw [hn]; rfl]
  rw [← hn] at hlen
  conv => whnf
  refine ⟨((b1, b2), p), rfl, ⟨⟨PV.sz_mono s1 (by decide), PV.sz_mono s2 (by decide)⟩, PV.sz_mono sp (by decide)⟩, ?_⟩
  by_cases hb : inBx (XV.p (b1, b2)) p.p
  ·rw [show vwithinS.val ((b1, b2), p) = .bool true from congrArg Value.bool (decide_eq_true hb)]
   conv => whnf
   refine .inl ⟨fun mm tz hz => ∃ (i : Nat), Pat [some (.slice (some ⟨0, 0, none⟩) n c), some (.func (.func 73) #[] #[.pointer (some ⟨2, 0, none⟩)]), none, none, none, none, none, some (.int .i64 n), some (.int .i64 i), none, none, none, none, none, none, none, none, none, none] tz ∧ hz = [some (.flat false n 9 g), some (.expl true 12 [XV.cells (b1, b2)]), some (.expl true 6 [p.cells])] ∧ n - i = mm ∧ (i ≤ n ∧ leftUp l p.p i), .inr ⟨[0, 1, 2], [0, 1, 7, 8], ?_⟩, ?_⟩
   ·conv => whnf
    intro _
    conv => whnf
    refine ⟨_, 0, (.keep (.keep (.skip (.skip (.skip (.skip (.skip (.keep (.keep (.s8 (.skip (.skip (.nil))))))))))))), rfl, rfl, ?_⟩
    exact ⟨Nat.zero_le _, leftUp_start _ _⟩
   rintro mm tms _ ⟨i, hpat, rfl, rfl, ⟨hi, hU⟩⟩
   obtain ⟨az, rfl⟩ : ∃ az : Nat → Value, tms = [.slice (some ⟨0, 0, none⟩) n c, .func (.func 73) #[] #[.pointer (some ⟨2, 0, none⟩)], az 2, az 3, az 4, az 5, az 6, .int .i64 n, .int .i64 i, az 9, az 10, az 11, az 12, az 13, az 14, az 15, az 16, az 17, az 18] := pat_fill hpat
   clear hpat
   conv => whnf
   refine br_intro (fun h3 => ?_) (fun h3 => ?_)
   ·have h3 : i < n := by
     have := of_decide_eq_true h3
     omega
    have e7 : IntKind.i64.wrap ((i : Int) + 1) = ((i + 1 : Nat) : Int) := by rw [wrapi64 (by omega) (by omega)]; rfl
    obtain ⟨m, hml, hmm, hrow⟩ := rowsLn_get (l := l) (k := i) (by omega)
    rw [← hg] at hrow
    conv => whnf
    refine ⟨⟨by omega, by omega⟩, ?_⟩
    simp only [toNat_cast, rowAdd_eq, Nat.zero_add]
    conv => whnf
    refine ⟨by show i < n; omega, ?_⟩
    conv => whnf
    rw [hrow]
    conv => whnf
    refine ⟨(m, p), [2], rfl, ⟨hls m hmm, sp⟩, ?_⟩
    rw [show left1S.blks (m, p) = [.flat false 1 6 (fun _ => p.cells)] from rfl, show left1S.new (m, p) = none from rfl]
    conv => whnf
    refine ⟨pt_blk1 p, ?_⟩
    by_cases h4 : onL m.q p.p
    ·rw [show left1S.val (m, p) = .bool false from congrArg Value.bool (decide_eq_false fun e => e h4)]
     conv => whnf
     refine ⟨_, rfl, ?_⟩
     conv => whnf
     rw [e7]
     refine .inr ⟨[0, 1, 2], [0, 1, 7, 8], ?_⟩
     conv => whnf
     intro _
     conv => whnf
     refine ⟨_, ?_, i + 1, (.keep (.keep (.skip (.skip (.skip (.skip (.skip (.keep (.keep (.s8 (.skip (.skip (.nil))))))))))))), rfl, rfl, ?_⟩
     ·omega
     ·exact ⟨by omega, leftUp_step hU hml h4⟩
    ·rw [show left1S.val (m, p) = .bool true from congrArg Value.bool (decide_eq_true h4)]
     conv => whnf
     refine ⟨_, rfl, ?_⟩
     conv => whnf
     rw [show decide ((i : Int) ≥ 0) = true from decide_eq_true (by omega)]
     conv => whnf
     exact fin false (decide_eq_false fun e => h4 (e.2 _ (List.mem_map_of_mem hmm))).symm
   ·have h3 : i = n := by
     have := of_decide_eq_false h3
     omega
    subst h3
    conv => whnf
    exact fin true (decide_eq_true ⟨hb, leftUp_end (by rw [← hn]; exact hU)⟩).symm
  ·rw [show vwithinS.val ((b1, b2), p) = .bool false from congrArg Value.bool (decide_eq_false hb)]
   conv => whnf
   exact fin false (decide_eq_false fun e => hb e.1).symm
def Erl : Env := { tt := tt, eqs := [], Φ := fun g => match g with
 | 17 => some (.p lcheckS)
 | _ => none }
theorem Erlok : EnvOk Tryz.prog Erl := ⟨tt_ok, fun t h => by simp [Erl] at h, (fun g S h => by
 simp only [Erl] at h
 split at h
 ·cases h; exact lcheck_ok
 ·cases h), fun g F h => by simp [Erl] at h⟩
theorem reverseL_ok : FTOk Tryz.prog 27 (wFT revLS) := by
 refine wft_of Erlok Dok Tryz.func27 (enters_of Tryz.func27 (by kernel_rfl) rfl) ?_
 intro i hp
 cases i with
 | none =>
  conv => whnf
  refine .inr ⟨1, ?_⟩
  conv => whnf
  exact wres_revN
 | some i =>
  obtain ⟨l, c⟩ := i
  have hp : l.length ≤ 1099511627776 := hp
  obtain ⟨n, hn⟩ : ∃ n, n = l.length := ⟨_, rfl⟩
  obtain ⟨g, hg⟩ : ∃ g, g = rowsLn l := ⟨_, rfl⟩
  rw [← hn] at hp
  rw [show revLS.blks (some (l, c)) = [.flat true n 9 g] from by rw [hn, hg]; rfl, show revLS.args (some (l, c)) = [.slice (some ⟨0, 0, none⟩) n c] from by rw [hn]; rfl]
  conv => whnf
  rw [show IntKind.i64.wrap ((n : Int) - 1) = (n : Int) - 1 - ((0 : Nat) : Int) from by rw [wrapi64 (by omega) (by omega)]; simp]
  refine .inl ⟨fun mm tz hz => ∃ (i : Nat) (f : Nat → List Value), Pat [some (.slice (some ⟨0, 0, none⟩) n c), none, some (.int .i64 i), some (.int .i64 ((n : Int) - 1 - (i : Int))), none, none, none, none, none, none, none, none, none, none, none, none, none, none, none, none, none, none, none, none, none, none, none, none] tz ∧ hz = [some (.flat true n 9 f)] ∧ n - i = mm ∧ (i + i ≤ n ∧ RevL l i f), .inr ⟨[0], [0, 2, 3], ?_⟩, ?_⟩
  ·conv => whnf
   intro _
   conv => whnf
   refine ⟨_, 0, g, (.keep (.skip (.keep (.keep (.s8 (.s8 (.s8 (.nil)))))))), rfl, rfl, ?_⟩
   exact ⟨by omega, revL_start fun r hr => by rw [hg]⟩
  rintro mm tms _ ⟨i, f, hpat, rfl, rfl, ⟨hi, hR⟩⟩
  obtain ⟨az, rfl⟩ : ∃ az : Nat → Value, tms = [.slice (some ⟨0, 0, none⟩) n c, az 1, .int .i64 i, .int .i64 ((n : Int) - 1 - (i : Int)), az 4, az 5, az 6, az 7, az 8, az 9, az 10, az 11, az 12, az 13, az 14, az 15, az 16, az 17, az 18, az 19, az 20, az 21, az 22, az 23, az 24, az 25, az 26, az 27] := pat_fill hpat
  clear hpat
  conv => whnf
  refine br_intro (fun h3 => ?_) (fun h3 => ?_)
  ·have h3 : i + i + 1 < n := by
    have := of_decide_eq_true h3
    omega
   obtain ⟨j, hj⟩ : ∃ j, j = n - 1 - i := ⟨_, rfl⟩
   rw [show (n : Int) - 1 - (i : Int) = (j : Int) from by omega]
   obtain ⟨r1, r2⟩ := revL_get hR (by omega)
   rw [show l.length - 1 - i = j from by omega] at r2
   obtain ⟨p, _, _, hrp⟩ := rowsLn_get (l := l) (k := i) (by omega)
   obtain ⟨q, _, _, hrq⟩ := rowsLn_get (l := l) (k := j) (by omega)
   conv => whnf
   refine .inr (.inr (.inl ⟨13, 1, [[], [], [], [], [], [], [4, 5], [4, 5, 6], [], [], [8, 9], [8, 9, 10], [0, 1, 4, 5, 6, 7, 8, 9, 10, 11], [0, 1, 4, 5, 6, 7, 8, 9, 10, 11, 12], [0, 1, 2, 3, 4, 5, 6, 7, 8, 9, 10, 11, 12, 13], [0, 1, 2, 3, 4, 5, 6, 7, 8, 9, 10, 11, 12, 13, 14]], [2, 3], by kernel_rfl, ?_⟩))
   conv => whnf
   refine ⟨⟨by omega, by omega⟩, ?_⟩
   simp only [toNat_cast, rowAdd_eq, Nat.zero_add]
   conv => whnf
   refine ⟨by show j < n; omega, ?_⟩
   conv => whnf
   rw [r2, hrq]
   conv => whnf
   refine ⟨⟨by omega, by omega⟩, ?_⟩
   simp only [toNat_cast, rowAdd_eq, Nat.zero_add]
   conv => whnf
   refine ⟨by show i < n; omega, ?_⟩
   conv => whnf
   rw [r1, hrp]
   conv => whnf
   refine ⟨⟨by omega, by omega⟩, ?_⟩
   simp only [toNat_cast, rowAdd_eq, Nat.zero_add]
   conv => whnf
   refine ⟨by show i < n; omega, ?_⟩
   conv => whnf
   rw [r1, hrp]
   conv => whnf
   refine ⟨⟨by omega, by omega⟩, ?_⟩
   simp only [toNat_cast, rowAdd_eq, Nat.zero_add]
   conv => whnf
   refine ⟨by show j < n; omega, ?_⟩
   conv => whnf
   show putK (if j = i then _ else f j) _ _ _
   rw [if_neg (show ¬ j = i by omega), r2, hrq]
   conv => whnf
   rw [show IntKind.i64.wrap ((i : Int) + 1) = ((i + 1 : Nat) : Int) from by rw [wrapi64 (by omega) (by omega)]; rfl, show IntKind.i64.wrap ((j : Int) - 1) = (n : Int) - 1 - ((i + 1 : Nat) : Int) from by rw [wrapi64 (by omega) (by omega)]; omega]
   refine .inr ⟨[0], [0, 2, 3], ?_⟩
   conv => whnf
   intro _
   conv => whnf
   refine ⟨_, ?_, i + 1, _, (.keep (.skip (.keep (.keep (.s8 (.s8 (.s8 (.nil)))))))), rfl, rfl, ?_⟩
   ·omega
   ·exact ⟨by omega, revL_step hR (by omega) (fun r => by rw [show l.length - 1 - i = j from by omega, hrp, hrq]; rfl)⟩
  ·have h3 : n ≤ i + i + 1 := by
    have := of_decide_eq_false h3
    omega
   have hE := revL_end hR (by omega)
   conv => whnf
   exact wres_revL hn hE
end Go.Proofs.YtppeponndkfbkaaGreat
