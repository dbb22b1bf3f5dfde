import Derived.Deep.Slices
import Derived.Deep.Strs
import Derived.Test.YtaklhgglgabbiaaGreatPI
/- Points: bounds of lists. -/
set_option linter.unusedVariables false
set_option linter.unusedSimpArgs false
namespace Go.Ae
open Go

/-- A list of points as a function gets it: nil, or a slice over a block. -/
abbrev PL := Option (List PV × Nat)
def PL.val : PL → Value
  | none => .slice none 0 0
  | some i => .slice (some ⟨0, 0, none⟩) i.1.length i.2
def PL.blks : PL → List Blk
  | none => []
  | some i => [.flat false i.1.length 6 (rowsP i.1)]
def PL.list : PL → List PV
  | none => []
  | some i => i.1
def PL.ok (i : PL) : Prop := i.list.length ≤ 9223372036854775807
def greatList (l : List PV) : Bool := decide ((40 < l.length ∧ l.length ≤ 1000) ∨ 1010 < l.length) || anyGreat l
def greatListS : QSpec := { ι := PL, args := fun i => [i.val], blks := PL.blks, pre := PL.ok, val := fun i => .bool (greatList i.list), new := fun _ => none }

/-- The least or the greatest of some numbers of the points of a list. -/
def foldQ (g : Rat → Rat → Rat) (f : PV → Rat) (a : PV) (l : List PV) : Rat := l.foldl (fun m p => g m (f p)) (f a)
def pX (p : PV) : Rat := p.1.q
def pY (p : PV) : Rat := p.2.q
def boundX (a : PV) (l : List PV) : XV := ((RV.of (foldQ minQ pX a l), RV.of (foldQ minQ pY a l)), (RV.of (foldQ maxQ pX a l), RV.of (foldQ maxQ pY a l)))
def zeroX : XV := ((zeroR, zeroR), (zeroR, zeroR))
def boundV (l : List PV) : XV × Int := match l with
  | [] => (zeroX, 11)
  | a :: l => if 1000 < l.length + 1 then (zeroX, 4) else (boundX a l, 0)
def boundS : QSpec := { ι := PL, args := fun i => [i.val], blks := PL.blks, pre := fun i => i.ok ∧ ∀ p ∈ i.list, p.sz 1048576, val := fun i => .tuple ⟨[(boundV i.list).1.v, .int .i64 (boundV i.list).2]⟩, new := fun _ => none }
theorem foldQ_snoc (g : Rat → Rat → Rat) (f : PV → Rat) (a p : PV) (l : List PV) {j : Nat} (h : l[j]? = some p) : foldQ g f a (l.take (j + 1)) = g (foldQ g f a (l.take j)) (f p) := by
  unfold foldQ
  rw [List.take_add_one, h]
  simp
theorem foldQ_self (g : Rat → Rat → Rat) (hg : ∀ x, g x x = x) (f : PV → Rat) (a : PV) (l : List PV) : foldQ g f a (a :: l) = foldQ g f a l := by
  unfold foldQ
  rw [List.foldl_cons, hg]
theorem minQ_self (x : Rat) : minQ x x = x := by unfold minQ; split <;> rfl
theorem maxQ_self (x : Rat) : maxQ x x = x := by unfold maxQ; split <;> rfl
theorem foldQ_qb {g : Rat → Rat → Rat} (hg : ∀ x y k, QB x k → QB y k → QB (g x y) k) {f : PV → Rat} {a : PV} {k : Nat} : ∀ {l : List PV}, (∀ p ∈ a :: l, QB (f p) k) → QB (foldQ g f a l) k := by
  intro l
  unfold foldQ
  have key : ∀ (l : List PV) (m : Rat), QB m k → (∀ p ∈ l, QB (f p) k) → QB (l.foldl (fun m p => g m (f p)) m) k := by
    intro l
    induction l with
    | nil => exact fun m h _ => h
    | cons p l ih =>
      intro m h h2
      rw [List.foldl_cons]
      exact ih _ (hg _ _ _ h (h2 p (by simp))) (fun q hq => h2 q (by simp [hq]))
  exact fun h => key l (f a) (h a (by simp)) (fun p hp => h p (by simp [hp]))
theorem extF_q_min (o r : RV) : (extF (-1) o r).q = minQ o.q r.q := by
  unfold extF minQ
  by_cases h : r.q < o.q
  · rw [if_pos (cmpQ_mone.2 h), if_pos h]
  · rw [if_neg (fun e => h (cmpQ_mone.1 e)), if_neg h]
theorem extF_q_max (o r : RV) : (extF 1 o r).q = maxQ o.q r.q := by
  unfold extF maxQ
  by_cases h : o.q < r.q
  · rw [if_pos (cmpQ_one.2 h), if_pos h]
  · rw [if_neg (fun e => h (cmpQ_one.1 e)), if_neg h]
theorem extF_sz {s : Int} {o r : RV} {k : Nat} (ho : o.sz k) (hr : r.sz k) : (extF s o r).sz k := by
  unfold extF; split <;> assumption
theorem ext2 (s : Int) (o r : RV) : extV s [o, r] = extF s o r := rfl
theorem zeroR_q : zeroR.q = 0 := by
  show mkRat (valI false (bnat ⟨#[]⟩)) _ = 0
  exact Rat.zero_mkRat _
theorem corner_end {a : PV} {l : List PV} {o : PV} {g : Rat → Rat → Rat} (hg : ∀ x, g x x = x) (hx : o.1.q = foldQ g pX a ((a :: l).take (a :: l).length)) (hy : o.2.q = foldQ g pY a ((a :: l).take (a :: l).length)) :
    vaddS.val (o, (zeroR, zeroR)) = PV.v (RV.of (foldQ g pX a l), RV.of (foldQ g pY a l)) := by
  show encP (o.1.q + zeroR.q) (o.2.q + zeroR.q) = _
  rw [zeroR_q, Rat.add_zero, Rat.add_zero, hx, hy, List.take_length, foldQ_self g hg, foldQ_self g hg]
  rfl
theorem sign_blk (s : Int) : BlkLe (.flat false 1 1 (fun _ => [Value.int .i64 s])) (.expl true 1 [[.int .i64 s]]) :=
  blk_rows rfl (fun r hr => by
    have : r = 0 := by omega
    subst this; rfl) (fun r hr => rfl)
/-- The function that Bound makes for one of the two corners. -/
def cl2S : QSpec := { ι := (RV × RV) × Int, args := fun i => [i.1.1.v, i.1.2.v, .pointer (some ⟨0, 0, none⟩)], blks := fun i => [.flat false 1 1 (fun _ => [.int .i64 i.2])], pre := fun i => i.1.1.ok ∧ i.1.2.ok, val := fun i => (extF i.2 i.1.1 i.1.2).v, new := fun _ => none }
theorem qmin_of (m x : Rat) : qminS.val (RV.of m, RV.of x) = (RV.of (minQ m x)).v := by
  show RV.v (if (RV.of x).q < (RV.of m).q then RV.of x else RV.of m) = _
  rw [RV.of_q, RV.of_q]
  unfold minQ
  split <;> rfl
theorem qmax_of (m x : Rat) : qmaxS.val (RV.of m, RV.of x) = (RV.of (maxQ m x)).v := by
  show RV.v (if (RV.of m).q < (RV.of x).q then RV.of x else RV.of m) = _
  rw [RV.of_q, RV.of_q]
  unfold maxQ
  split <;> rfl
theorem foldQ_ok {g : Rat → Rat → Rat} (hg : ∀ x y k, QB x k → QB y k → QB (g x y) k) {f : PV → Rat} {a : PV} {l : List PV} {k j : Nat} (hk : k ≤ 8589934592) (h : ∀ p ∈ a :: l, QB (f p) k) : (RV.of (foldQ g f a (l.take j))).ok :=
  RV.of_ok (QB.mono (foldQ_qb hg (fun p hp => h p (by
    rcases List.mem_cons.1 hp with e | e
    · rw [e]; exact List.mem_cons_self
    · exact List.mem_cons_of_mem _ (List.mem_of_mem_take e)))) hk)
end Go.Ae
/- Contracts of vector and of the reference vectors: lists that are too large; the corner functions. -/
set_option linter.unusedVariables false
set_option linter.unusedSimpArgs false
set_option maxRecDepth 20000
set_option maxHeartbeats 1000000
namespace Go.Proofs.YtaklhgglgabbiaaGreat
open Go Go.Ae

theorem greatList_ok : QSnd Tryz.prog 30 greatListS := by
  refine qsnd_of Eviok Dok Tryz.func30 (enters_of Tryz.func30 (by kernel_rfl) rfl) ?_ ?_ ?_
  · intro i b hb
    cases i with
    | none => simp [greatListS, PL.blks] at hb
    | some i => simp [greatListS, PL.blks] at hb; rw [hb]; rfl
  · intro i b hb; simp [greatListS] at hb
  intro i hp
  cases i with
  | none =>
    conv => whnf
    refine .inr ⟨1, ?_⟩
    conv => whnf
    exact ⟨.bool false, rfl, .refl _⟩
  | some i =>
    obtain ⟨l, c⟩ := i
    have hp : l.length ≤ 9223372036854775807 := hp
    obtain ⟨n, hn⟩ : ∃ n, n = l.length := ⟨_, rfl⟩
    obtain ⟨g, hg⟩ : ∃ g, g = rowsP l := ⟨_, rfl⟩
    have fin : ∀ b : Bool, b = greatList l → ∃ v', renV (List.range (greatListS.blks (some (l, c))).length) 3 (greatListS.val (some (l, c))) = some v' ∧ VLe (Value.bool b) v' := fun b hb =>
      ⟨.bool b, by show renV _ 3 (Value.bool (greatList l)) = _; rw [← hb]; rfl, .refl _⟩
    have big : (40 < n ∧ n ≤ 1000) ∨ 1010 < n → greatList l = true := fun h => by
      unfold greatList
      rw [← hn, decide_eq_true h]; rfl
    have small : ¬ ((40 < n ∧ n ≤ 1000) ∨ 1010 < n) → greatList l = anyGreat l := fun h => by
      unfold greatList
      rw [← hn, decide_eq_false h]; rfl
    have ev : PL.val (some (l, c)) = .slice (some ⟨0, 0, none⟩) n c := by rw [hn]; rfl
    have eb : greatListS.blks (some (l, c)) = [.flat false n 6 g] := by rw [hn, hg]; rfl
    rw [eb] at fin
    conv => whnf
    rw [ev, show (l, c).fst.length = n from hn.symm, show List.map some (greatListS.blks (some (l, c))) = [some (.flat false n 6 g)] from by rw [eb]; rfl]
    by_cases h1 : 40 < n
    · rw [show decide (((n : Nat) : Int) > 40) = true from decide_eq_true (by omega)]
      conv => whnf
      by_cases h2 : n ≤ 1000
      · rw [show decide (((n : Nat) : Int) ≤ 1000) = true from decide_eq_true (by omega)]
        conv => whnf
        exact fin true (big (.inl ⟨h1, h2⟩)).symm
      · rw [show decide (((n : Nat) : Int) ≤ 1000) = false from decide_eq_false (by omega)]
        conv => whnf
        by_cases h3 : 1010 < n
        · rw [show decide (((n : Nat) : Int) > 1010) = true from decide_eq_true (by omega)]
          conv => whnf
          exact fin true (big (.inr h3)).symm
        · rw [show decide (((n : Nat) : Int) > 1010) = false from decide_eq_false (by omega)]
          have hs := small (by omega)
          rw [hs] at fin
          conv => whnf
          refine .inl ⟨fun mm tz hz => ∃ (i : Nat), Pat [some (.slice (some ⟨0, 0, none⟩) n c), none, none, some (.int .i64 i), none, none, none, none, none, none, none, none, none, none, none, none, none, none, none, none, none, none, none, none, none, none, none, none] tz ∧ hz = [some (.flat false n 6 g)] ∧ n - i = mm ∧ (i ≤ n ∧ noneGreat l i), .inr ⟨[0], [0, 3], ?_⟩, ?_⟩
          · conv => whnf
            intro _
            conv => whnf
            refine ⟨_, 0, (.keep (.skip (.skip (.keep (.skip (.skip (.skip (.skip (.skip (.skip (.skip (.skip (.skip (.skip (.skip (.skip (.skip (.skip (.skip (.skip (.skip (.skip (.skip (.skip (.skip (.skip (.skip (.skip (.nil))))))))))))))))))))))))))))), rfl, rfl, ?_⟩
            exact ⟨Nat.zero_le _, noneGreat_start _⟩
          rintro mm tms _ ⟨i, hpat, rfl, rfl, ⟨hi, hN⟩⟩
          obtain ⟨az, rfl⟩ : ∃ az : Nat → Value, tms = [.slice (some ⟨0, 0, none⟩) n c, az 1, az 2, .int .i64 i, az 4, az 5, az 6, az 7, az 8, az 9, az 10, az 11, az 12, az 13, az 14, az 15, az 16, az 17, az 18, az 19, az 20, az 21, az 22, az 23, az 24, az 25, az 26, az 27] := pat_fill hpat
          clear hpat
          conv => whnf
          refine br_intro (fun h5 => ?_) (fun h5 => ?_)
          · have h5 : i < n := by
              have := of_decide_eq_true h5
              omega
            obtain ⟨p, hpl, hpm, hrow⟩ := rowsP_get (l := l) (i := i) (by omega)
            rw [← hg] at hrow
            have e7 : IntKind.i64.wrap ((i : Int) + 1) = ((i + 1 : Nat) : Int) := by rw [wrapi64 (by omega) (by omega)]; rfl
            conv => whnf
            refine ⟨⟨by omega, by omega⟩, ?_⟩
            simp only [toNat_cast, rowAdd_eq, Nat.zero_add]
            conv => whnf
            refine ⟨by show i < n; omega, ?_⟩
            conv => whnf
            rw [hrow]
            conv => whnf
            refine ⟨p, rfl, trivial, ?_⟩
            by_cases h6 : p.great
            · rw [show vgreatS.val p = .bool true from by show Value.bool (decide p.great) = _; rw [decide_eq_true h6]]
              conv => whnf
              exact fin true (anyGreat_true hpm h6).symm
            · rw [show vgreatS.val p = .bool false from by show Value.bool (decide p.great) = _; rw [decide_eq_false h6]]
              conv => whnf
              rw [e7]
              refine .inr ⟨[0], [0, 3], ?_⟩
              conv => whnf
              intro _
              conv => whnf
              refine ⟨_, ?_, i + 1, (.keep (.skip (.skip (.keep (.skip (.skip (.skip (.skip (.skip (.skip (.skip (.skip (.skip (.skip (.skip (.skip (.skip (.skip (.skip (.skip (.skip (.skip (.skip (.skip (.skip (.skip (.skip (.skip (.nil))))))))))))))))))))))))))))), rfl, rfl, ?_⟩
              · omega
              · exact ⟨by omega, noneGreat_step hN hpl h6⟩
          · have h5 : i = n := by
              have := of_decide_eq_false h5
              omega
            have hN : noneGreat l l.length := by rw [← hn, ← h5]; exact hN
            conv => whnf
            exact fin false (noneGreat_end hN).symm
    · rw [show decide (((n : Nat) : Int) > 40) = false from decide_eq_false (by omega)]
      conv => whnf
      rw [show decide (((n : Nat) : Int) > 1010) = false from decide_eq_false (by omega)]
      have hs := small (by omega)
      rw [hs] at fin
      conv => whnf
      refine .inl ⟨fun mm tz hz => ∃ (i : Nat), Pat [some (.slice (some ⟨0, 0, none⟩) n c), none, none, some (.int .i64 i), none, none, none, none, none, none, none, none, none, none, none, none, none, none, none, none, none, none, none, none, none, none, none, none] tz ∧ hz = [some (.flat false n 6 g)] ∧ n - i = mm ∧ (i ≤ n ∧ noneGreat l i), .inr ⟨[0], [0, 3], ?_⟩, ?_⟩
      · conv => whnf
        intro _
        conv => whnf
        refine ⟨_, 0, (.keep (.skip (.skip (.keep (.skip (.skip (.skip (.skip (.skip (.skip (.skip (.skip (.skip (.skip (.skip (.skip (.skip (.skip (.skip (.skip (.skip (.skip (.skip (.skip (.skip (.skip (.skip (.skip (.nil))))))))))))))))))))))))))))), rfl, rfl, ?_⟩
        exact ⟨Nat.zero_le _, noneGreat_start _⟩
      rintro mm tms _ ⟨i, hpat, rfl, rfl, ⟨hi, hN⟩⟩
      obtain ⟨az, rfl⟩ : ∃ az : Nat → Value, tms = [.slice (some ⟨0, 0, none⟩) n c, az 1, az 2, .int .i64 i, az 4, az 5, az 6, az 7, az 8, az 9, az 10, az 11, az 12, az 13, az 14, az 15, az 16, az 17, az 18, az 19, az 20, az 21, az 22, az 23, az 24, az 25, az 26, az 27] := pat_fill hpat
      clear hpat
      conv => whnf
      refine br_intro (fun h5 => ?_) (fun h5 => ?_)
      · have h5 : i < n := by
          have := of_decide_eq_true h5
          omega
        obtain ⟨p, hpl, hpm, hrow⟩ := rowsP_get (l := l) (i := i) (by omega)
        rw [← hg] at hrow
        have e7 : IntKind.i64.wrap ((i : Int) + 1) = ((i + 1 : Nat) : Int) := by rw [wrapi64 (by omega) (by omega)]; rfl
        conv => whnf
        refine ⟨⟨by omega, by omega⟩, ?_⟩
        simp only [toNat_cast, rowAdd_eq, Nat.zero_add]
        conv => whnf
        refine ⟨by show i < n; omega, ?_⟩
        conv => whnf
        rw [hrow]
        conv => whnf
        refine ⟨p, rfl, trivial, ?_⟩
        by_cases h6 : p.great
        · rw [show vgreatS.val p = .bool true from by show Value.bool (decide p.great) = _; rw [decide_eq_true h6]]
          conv => whnf
          exact fin true (anyGreat_true hpm h6).symm
        · rw [show vgreatS.val p = .bool false from by show Value.bool (decide p.great) = _; rw [decide_eq_false h6]]
          conv => whnf
          rw [e7]
          refine .inr ⟨[0], [0, 3], ?_⟩
          conv => whnf
          intro _
          conv => whnf
          refine ⟨_, ?_, i + 1, (.keep (.skip (.skip (.keep (.skip (.skip (.skip (.skip (.skip (.skip (.skip (.skip (.skip (.skip (.skip (.skip (.skip (.skip (.skip (.skip (.skip (.skip (.skip (.skip (.skip (.skip (.skip (.skip (.nil))))))))))))))))))))))))))))), rfl, rfl, ?_⟩
          · omega
          · exact ⟨by omega, noneGreat_step hN hpl h6⟩
      · have h5 : i = n := by
          have := of_decide_eq_false h5
          omega
        have hN : noneGreat l l.length := by rw [← hn, ← h5]; exact hN
        conv => whnf
        exact fin false (noneGreat_end hN).symm
end Go.Proofs.YtaklhgglgabbiaaGreat
/- Contracts of vector: the bound of a list of points. -/
set_option linter.unusedVariables false
set_option linter.unusedSimpArgs false
set_option maxRecDepth 20000
set_option maxHeartbeats 2000000
namespace Go.Proofs.YtaklhgglgabbiaaGreat
open Go Go.Ae

theorem cl2_ok : QSnd Tryz.prog 56 cl2S := by
  refine qsnd_of Evlok Dok Tryz.func56 (enters_of Tryz.func56 (by kernel_rfl) rfl) ?_ ?_ ?_
  · intro i b hb; simp [cl2S] at hb; rw [hb]; rfl
  · intro i b hb; simp [cl2S] at hb
  intro ⟨⟨a, b⟩, s⟩ hp
  have hp : a.ok ∧ b.ok := hp
  obtain ⟨o, ho⟩ : ∃ o, o = extF s a b := ⟨_, rfl⟩
  conv => whnf
  refine ⟨by decide, ?_⟩
  conv => whnf
  refine ⟨((s, [a, b]), 2), [4], rfl, ⟨(fun h => by cases h), fun r hr => ?_, Nat.le_refl _, by show 2 ≤ 1099511627776; decide⟩, ?_⟩
  · simp only [List.mem_cons, List.mem_nil_iff, or_false] at hr
    rcases hr with rfl | rfl
    · exact hp.1
    · exact hp.2
  conv => whnf
  refine ⟨blk_rows rfl (fun r hr => ?_) (fun r hr => rfl), ?_⟩
  · have : r = 0 ∨ r = 1 := by
      have hr : r < 2 := hr
      omega
    rcases this with rfl | rfl <;> rfl
  conv => whnf
  refine ⟨o.v, by rw [show extremeS.val ((s, [a, b]), 2) = o.v from by show (extV s [a, b]).v = _; rw [ext2, ho]]; rfl, ?_⟩
  conv => whnf
  exact ⟨o.v, by rw [show cl2S.val ((a, b), s) = o.v from by show (extF s a b).v = _; rw [ho]]; rfl, .refl _⟩

def Evo : Env := { tt := tt, eqs := [], Φ := fun g => match g with
  | 56 => some (.q cl2S)
  | _ => none }
theorem Evook : EnvOk Tryz.prog Evo := ⟨tt_ok, fun t h => by simp [Evo] at h, (fun g S h => by
  simp only [Evo] at h
  split at h
  · cases h; exact cl2_ok
  · cases h), fun g F h => by simp [Evo] at h⟩
theorem each2_ft : FTOk Tryz.prog 40 (fnK Evo drawT Tryz.f40) := by
  exact ft_of Evook Dok Tryz.func40 (enters_of Tryz.func40 (by kernel_rfl) rfl)
def EvpW : FuncId → Option FT := fun g => match g with
  | 40 => some (fnK Evo drawT Tryz.f40)
  | _ => none
def Evp : Env := { tt := tt, eqs := [], Ψ := EvpW, Φ := fun g => match g with
  | 10 => some (.p vaddS)
  | _ => none }
theorem Evpok : EnvOk Tryz.prog Evp := ⟨tt_ok, fun t h => by simp [Evp] at h, (fun g S h => by
  simp only [Evp] at h
  split at h
  · cases h; exact vadd_ok
  · cases h), (fun g F h => by
  simp only [Evp, EvpW] at h
  split at h
  · cases h; exact each2_ft
  · cases h)⟩
theorem corner_ft : FTOk Tryz.prog 55 (fnK Evp drawT Tryz.f55) := by
  exact ft_of Evpok Dok Tryz.func55 (enters_of Tryz.func55 (by kernel_rfl) rfl)
def EvqW : FuncId → Option FT := fun g => match g with
  | 55 => some (fnK Evp drawT Tryz.f55)
  | _ => none
def Evq : Env := { tt := tt, eqs := [], Ψ := EvqW, Φ := fun g => match g with
  | _ => none }
theorem Evqok : EnvOk Tryz.prog Evq := ⟨tt_ok, fun t h => by simp [Evq] at h, (fun g S h => by
  change none = some S at h
  cases h), (fun g F h => by
  simp only [Evq, EvqW] at h
  split at h
  · cases h; exact corner_ft
  · cases h)⟩

theorem bound_ok : QSnd Tryz.prog 31 boundS := by
  refine qsnd_of Evqok Dok Tryz.func31 (enters_of Tryz.func31 (by kernel_rfl) rfl) ?_ ?_ ?_
  · intro i b hb
    cases i with
    | none => simp [boundS, PL.blks] at hb
    | some i => simp [boundS, PL.blks] at hb; rw [hb]; rfl
  · intro i b hb; simp [boundS] at hb
  intro i hp
  cases i with
  | none =>
    conv => whnf
    exact ⟨_, rfl, .refl _⟩
  | some i =>
    obtain ⟨l, c⟩ := i
    have hp : l.length ≤ 9223372036854775807 ∧ ∀ p ∈ l, PV.sz 1048576 p := hp
    obtain ⟨hlen, hsz⟩ := hp
    obtain ⟨n, hn⟩ : ∃ n, n = l.length := ⟨_, rfl⟩
    obtain ⟨g, hg⟩ : ∃ g, g = rowsP l := ⟨_, rfl⟩
    have ev : PL.val (some (l, c)) = .slice (some ⟨0, 0, none⟩) n c := by rw [hn]; rfl
    have eb : boundS.blks (some (l, c)) = [.flat false n 6 g] := by rw [hn, hg]; rfl
    obtain ⟨w, hw⟩ : ∃ w, w = boundV l := ⟨_, rfl⟩
    have fin : ∀ (x : XV) (e : Int), w = (x, e) → ∃ v', renV (List.range (boundS.blks (some (l, c))).length) 3 (boundS.val (some (l, c))) = some v' ∧ VLe (Value.tuple ⟨[x.v, .int .i64 e]⟩) v' := fun x e h =>
      ⟨.tuple ⟨[x.v, .int .i64 e]⟩, by
        rw [show boundS.val (some (l, c)) = .tuple ⟨[x.v, .int .i64 e]⟩ from by
          show Value.tuple ⟨[(boundV l).1.v, .int .i64 (boundV l).2]⟩ = _
          rw [← hw, h]]
        rfl, .refl _⟩
    rw [eb, show boundS.args (some (l, c)) = [.slice (some ⟨0, 0, none⟩) n c] from by rw [hn]; rfl]
    conv => whnf
    by_cases h1 : n = 0
    · subst h1
      have hl : l = [] := List.length_eq_zero_iff.1 hn.symm
      subst hl
      conv => whnf
      exact fin zeroX 11 hw
    · refine br_intro (fun h => absurd (by simpa using h) h1) (fun _ => ?_)
      obtain ⟨a, l, rfl⟩ : ∃ a l', l = a :: l' := List.exists_cons_of_ne_nil (fun e => h1 (by rw [hn, e]; rfl))
      have hk : n = l.length + 1 := hn
      conv => whnf
      refine br_intro (fun h2 => ?_) (fun h2 => ?_)
      · have h2 : 1000 < n := by
          have := of_decide_eq_true h2
          omega
        conv => whnf
        exact fin zeroX 4 (by rw [hw]; show (if 1000 < l.length + 1 then _ else _) = _; rw [if_pos (by omega)])
      · have h2 : n ≤ 1000 := by
          have := of_decide_eq_false h2
          omega
        have hw : w = (boundX a l, 0) := by rw [hw]; show (if 1000 < l.length + 1 then _ else _) = _; rw [if_neg (by omega)]
        have hg0 : g 0 = a.cells := by rw [hg]; rfl
        conv => whnf
        refine ⟨⟨by omega, by omega⟩, ?_⟩
        conv => whnf
        refine ⟨by show 0 < n; omega, ?_⟩
        conv => whnf
        rw [show rowAdd 0 (Int.toNat 0) = 0 from rfl, hg0]
        conv => whnf
        refine .inl ⟨fun mm tz hz => ∃ (j : Nat) (o : PV), Pat [none, some (.pointer (some ⟨1, 0, none⟩)), some (.pointer (some ⟨3, 0, none⟩)), some (.pointer (some ⟨4, 0, none⟩)), some (.pointer (some ⟨5, 0, none⟩)), none, none, none, none, none, some (.slice (some ⟨0, 0, none⟩) n c), some (.int .i64 n), some (.int .i64 j), none, none, none, none, none, none, none, none, none, none, none] tz ∧ hz = [some (.flat false n 6 g), some (.expl true 1 [[.slice (some ⟨0, 0, none⟩) n c]]), some (.expl true 12 [[.bool false, .string ⟨#[]⟩, .string ⟨#[]⟩, .bool false, .string ⟨#[]⟩, .string ⟨#[]⟩, .bool false, .string ⟨#[]⟩, .string ⟨#[]⟩, .bool false, .string ⟨#[]⟩, .string ⟨#[]⟩]]), some (.expl true 1 [[.int .i64 (-1)]]), some (.expl true 6 [[.bool false, .string ⟨#[]⟩, .string ⟨#[]⟩, .bool false, .string ⟨#[]⟩, .string ⟨#[]⟩]]), some (.expl true 6 [o.cells])] ∧ n - j = mm ∧ (j ≤ n ∧ o.sz 1048576 ∧ o.1.q = foldQ minQ pX a ((a :: l).take j) ∧ o.2.q = foldQ minQ pY a ((a :: l).take j)), .inr ⟨[0, 1, 2, 3, 4, 5], [1, 2, 3, 4, 10, 11, 12], ?_⟩, ?_⟩
        · conv => whnf
          intro _
          conv => whnf
          refine ⟨_, 0, a, (.skip (.keep (.keep (.keep (.keep (.skip (.skip (.skip (.skip (.skip (.keep (.keep (.keep (.skip (.skip (.skip (.skip (.skip (.skip (.skip (.skip (.skip (.skip (.skip (.nil))))))))))))))))))))))))), rfl, rfl, ?_⟩
          exact ⟨Nat.zero_le _, hsz a List.mem_cons_self, rfl, rfl⟩
        rintro mm tms _ ⟨j, o, hpat, rfl, rfl, ⟨hj, hos, hox, hoy⟩⟩
        obtain ⟨az, rfl⟩ : ∃ az : Nat → Value, tms = [az 0, .pointer (some ⟨1, 0, none⟩), .pointer (some ⟨3, 0, none⟩), .pointer (some ⟨4, 0, none⟩), .pointer (some ⟨5, 0, none⟩), az 5, az 6, az 7, az 8, az 9, .slice (some ⟨0, 0, none⟩) n c, .int .i64 n, .int .i64 j, az 13, az 14, az 15, az 16, az 17, az 18, az 19, az 20, az 21, az 22, az 23] := pat_fill hpat
        clear hpat
        conv => whnf
        refine br_intro (fun h3 => ?_) (fun h3 => ?_)
        · have h3 : j < n := by
            have := of_decide_eq_true h3
            omega
          obtain ⟨p, hpl, hpm, hrow⟩ := rowsP_get (l := a :: l) (i := j) (by omega)
          rw [← hg] at hrow
          have hps := hsz p hpm
          have e7 : IntKind.i64.wrap ((j : Int) + 1) = ((j + 1 : Nat) : Int) := by rw [wrapi64 (by omega) (by omega)]; rfl
          obtain ⟨x, hx⟩ : ∃ x, x = extF (-1) o.1 p.1 := ⟨_, rfl⟩
          obtain ⟨y, hy⟩ : ∃ x, x = extF (-1) o.2 p.2 := ⟨_, rfl⟩
          have hxs : x.sz 1048576 := by rw [hx]; exact extF_sz hos.1 hps.1
          have hys : y.sz 1048576 := by rw [hy]; exact extF_sz hos.2 hps.2
          have hxq : x.q = foldQ minQ pX a ((a :: l).take (j + 1)) := by rw [hx, extF_q_min, foldQ_snoc minQ pX a p _ hpl, hox]; rfl
          have hyq : y.q = foldQ minQ pY a ((a :: l).take (j + 1)) := by rw [hy, extF_q_min, foldQ_snoc minQ pY a p _ hpl, hoy]; rfl
          conv => whnf
          refine ⟨⟨by omega, by omega⟩, ?_⟩
          simp only [toNat_cast, rowAdd_eq, Nat.zero_add]
          conv => whnf
          refine ⟨by show j < n; omega, ?_⟩
          conv => whnf
          rw [hrow]
          conv => whnf
          refine .inl ⟨11, [[], [], [1], [], [3], [0, 1, 2, 3, 4], [], [], [7], [], [9], [0, 1, 2, 3, 4, 5, 6, 7, 8, 9, 10], [0, 1, 2, 3, 4, 5, 6, 7, 8, 9, 10, 11], [0, 1, 2, 3, 4, 5, 6, 7, 8, 9, 10, 11, 12]], by kernel_rfl, ?_⟩
          conv => whnf
          refine ⟨((o.1, p.1), (-1)), [3], rfl, ⟨RV.sz_ok hos.1 (by decide), RV.sz_ok hps.1 (by decide)⟩, ?_⟩
          rw [show cl2S.blks ((o.1, p.1), (-1)) = [.flat false 1 1 (fun _ => [.int .i64 (-1)])] from rfl, show cl2S.val ((o.1, p.1), (-1)) = x.v from by rw [hx]; rfl, show cl2S.new ((o.1, p.1), (-1)) = none from rfl]
          conv => whnf
          refine ⟨sign_blk _, ?_⟩
          conv => whnf
          refine ⟨x.v, rfl, ?_⟩
          conv => whnf
          refine ⟨((o.2, p.2), (-1)), [3], rfl, ⟨RV.sz_ok hos.2 (by decide), RV.sz_ok hps.2 (by decide)⟩, ?_⟩
          rw [show cl2S.blks ((o.2, p.2), (-1)) = [.flat false 1 1 (fun _ => [.int .i64 (-1)])] from rfl, show cl2S.val ((o.2, p.2), (-1)) = y.v from by rw [hy]; rfl, show cl2S.new ((o.2, p.2), (-1)) = none from rfl]
          conv => whnf
          refine ⟨sign_blk _, ?_⟩
          conv => whnf
          refine ⟨y.v, rfl, ?_⟩
          conv => whnf
          rw [e7]
          refine .inr ⟨[0, 1, 2, 3, 4, 5], [1, 2, 3, 4, 10, 11, 12], ?_⟩
          conv => whnf
          intro _
          conv => whnf
          refine ⟨_, ?_, j + 1, (x, y), (.skip (.keep (.keep (.keep (.keep (.skip (.skip (.skip (.skip (.skip (.keep (.keep (.keep (.skip (.skip (.skip (.skip (.skip (.skip (.skip (.skip (.skip (.skip (.skip (.nil))))))))))))))))))))))))), rfl, rfl, ?_⟩
          · omega
          · exact ⟨by omega, ⟨hxs, hys⟩, hxq, hyq⟩
        · have h3 : j = n := by
            have := of_decide_eq_false h3
            omega
          have ee := corner_end (a := a) (l := l) (o := o) (g := minQ) minQ_self (by rw [← hn, ← h3]; exact hox) (by rw [← hn, ← h3]; exact hoy)
          conv => whnf
          refine ⟨(o, (zeroR, zeroR)), rfl, ⟨PV.sz_mono hos (by decide), zeroR_sz _, zeroR_sz _⟩, ?_⟩
          rw [ee]
          obtain ⟨X, hX⟩ : ∃ X, X = RV.of (foldQ minQ pX a l) := ⟨_, rfl⟩
          obtain ⟨Y, hY⟩ : ∃ Y, Y = RV.of (foldQ minQ pY a l) := ⟨_, rfl⟩
          rw [← hX, ← hY]
          clear ee hox hoy
          obtain ⟨om, hom⟩ : ∃ om, om = o := ⟨_, rfl⟩
          rw [← hom]
          conv => whnf
          refine ⟨⟨by omega, by omega⟩, ?_⟩
          conv => whnf
          refine ⟨by show 0 < n; omega, ?_⟩
          conv => whnf
          rw [show rowAdd 0 (Int.toNat 0) = 0 from rfl, hg0]
          conv => whnf
          refine .inl ⟨fun mm tz hz => ∃ (j : Nat) (o : PV), Pat [none, some (.pointer (some ⟨1, 0, none⟩)), some (.pointer (some ⟨6, 0, none⟩)), some (.pointer (some ⟨7, 0, none⟩)), some (.pointer (some ⟨8, 0, none⟩)), none, none, none, none, none, some (.slice (some ⟨0, 0, none⟩) n c), some (.int .i64 n), some (.int .i64 j), none, none, none, none, none, none, none, none, none, none, none] tz ∧ hz = [some (.flat false n 6 g), some (.expl true 1 [[.slice (some ⟨0, 0, none⟩) n c]]), some (.expl true 12 [[.bool false, .string ⟨#[]⟩, .string ⟨#[]⟩, .bool false, .string ⟨#[]⟩, .string ⟨#[]⟩, .bool false, .string ⟨#[]⟩, .string ⟨#[]⟩, .bool false, .string ⟨#[]⟩, .string ⟨#[]⟩]]), some (.expl true 1 [[.int .i64 (-1)]]), some (.expl true 6 [(PV.cells (X, Y))]), some (.expl true 6 [om.cells]), some (.expl true 1 [[.int .i64 1]]), some (.expl true 6 [[.bool false, .string ⟨#[]⟩, .string ⟨#[]⟩, .bool false, .string ⟨#[]⟩, .string ⟨#[]⟩]]), some (.expl true 6 [o.cells])] ∧ n - j = mm ∧ (j ≤ n ∧ o.sz 1048576 ∧ o.1.q = foldQ maxQ pX a ((a :: l).take j) ∧ o.2.q = foldQ maxQ pY a ((a :: l).take j)), .inr ⟨[0, 1, 2, 3, 4, 5, 6, 7, 8], [1, 2, 3, 4, 10, 11, 12], ?_⟩, ?_⟩
          · conv => whnf
            intro _
            conv => whnf
            refine ⟨_, 0, a, (.skip (.keep (.keep (.keep (.keep (.skip (.skip (.skip (.skip (.skip (.keep (.keep (.keep (.skip (.skip (.skip (.skip (.skip (.skip (.skip (.skip (.skip (.skip (.skip (.nil))))))))))))))))))))))))), rfl, rfl, ?_⟩
            exact ⟨Nat.zero_le _, hsz a List.mem_cons_self, rfl, rfl⟩
          rintro mm tms _ ⟨j, o, hpat, rfl, rfl, ⟨hj, hos, hox, hoy⟩⟩
          obtain ⟨az, rfl⟩ : ∃ az : Nat → Value, tms = [az 0, .pointer (some ⟨1, 0, none⟩), .pointer (some ⟨6, 0, none⟩), .pointer (some ⟨7, 0, none⟩), .pointer (some ⟨8, 0, none⟩), az 5, az 6, az 7, az 8, az 9, .slice (some ⟨0, 0, none⟩) n c, .int .i64 n, .int .i64 j, az 13, az 14, az 15, az 16, az 17, az 18, az 19, az 20, az 21, az 22, az 23] := pat_fill hpat
          clear hpat
          conv => whnf
          refine br_intro (fun h3 => ?_) (fun h3 => ?_)
          · have h3 : j < n := by
              have := of_decide_eq_true h3
              omega
            obtain ⟨p, hpl, hpm, hrow⟩ := rowsP_get (l := a :: l) (i := j) (by omega)
            rw [← hg] at hrow
            have hps := hsz p hpm
            have e7 : IntKind.i64.wrap ((j : Int) + 1) = ((j + 1 : Nat) : Int) := by rw [wrapi64 (by omega) (by omega)]; rfl
            obtain ⟨x, hx⟩ : ∃ x, x = extF 1 o.1 p.1 := ⟨_, rfl⟩
            obtain ⟨y, hy⟩ : ∃ x, x = extF 1 o.2 p.2 := ⟨_, rfl⟩
            have hxs : x.sz 1048576 := by rw [hx]; exact extF_sz hos.1 hps.1
            have hys : y.sz 1048576 := by rw [hy]; exact extF_sz hos.2 hps.2
            have hxq : x.q = foldQ maxQ pX a ((a :: l).take (j + 1)) := by rw [hx, extF_q_max, foldQ_snoc maxQ pX a p _ hpl, hox]; rfl
            have hyq : y.q = foldQ maxQ pY a ((a :: l).take (j + 1)) := by rw [hy, extF_q_max, foldQ_snoc maxQ pY a p _ hpl, hoy]; rfl
            conv => whnf
            refine ⟨⟨by omega, by omega⟩, ?_⟩
            simp only [toNat_cast, rowAdd_eq, Nat.zero_add]
            conv => whnf
            refine ⟨by show j < n; omega, ?_⟩
            conv => whnf
            rw [hrow]
            conv => whnf
            refine .inl ⟨11, [[], [], [1], [], [3], [0, 1, 2, 3, 4], [], [], [7], [], [9], [0, 1, 2, 3, 4, 5, 6, 7, 8, 9, 10], [0, 1, 2, 3, 4, 5, 6, 7, 8, 9, 10, 11], [0, 1, 2, 3, 4, 5, 6, 7, 8, 9, 10, 11, 12]], by kernel_rfl, ?_⟩
            conv => whnf
            refine ⟨((o.1, p.1), 1), [6], rfl, ⟨RV.sz_ok hos.1 (by decide), RV.sz_ok hps.1 (by decide)⟩, ?_⟩
            rw [show cl2S.blks ((o.1, p.1), 1) = [.flat false 1 1 (fun _ => [.int .i64 1])] from rfl, show cl2S.val ((o.1, p.1), 1) = x.v from by rw [hx]; rfl, show cl2S.new ((o.1, p.1), 1) = none from rfl]
            conv => whnf
            refine ⟨sign_blk _, ?_⟩
            conv => whnf
            refine ⟨x.v, rfl, ?_⟩
            conv => whnf
            refine ⟨((o.2, p.2), 1), [6], rfl, ⟨RV.sz_ok hos.2 (by decide), RV.sz_ok hps.2 (by decide)⟩, ?_⟩
            rw [show cl2S.blks ((o.2, p.2), 1) = [.flat false 1 1 (fun _ => [.int .i64 1])] from rfl, show cl2S.val ((o.2, p.2), 1) = y.v from by rw [hy]; rfl, show cl2S.new ((o.2, p.2), 1) = none from rfl]
            conv => whnf
            refine ⟨sign_blk _, ?_⟩
            conv => whnf
            refine ⟨y.v, rfl, ?_⟩
            conv => whnf
            rw [e7]
            refine .inr ⟨[0, 1, 2, 3, 4, 5, 6, 7, 8], [1, 2, 3, 4, 10, 11, 12], ?_⟩
            conv => whnf
            intro _
            conv => whnf
            refine ⟨_, ?_, j + 1, (x, y), (.skip (.keep (.keep (.keep (.keep (.skip (.skip (.skip (.skip (.skip (.keep (.keep (.keep (.skip (.skip (.skip (.skip (.skip (.skip (.skip (.skip (.skip (.skip (.skip (.nil))))))))))))))))))))))))), rfl, rfl, ?_⟩
            · omega
            · exact ⟨by omega, ⟨hxs, hys⟩, hxq, hyq⟩
          · have h3 : j = n := by
              have := of_decide_eq_false h3
              omega
            have ee := corner_end (a := a) (l := l) (o := o) (g := maxQ) maxQ_self (by rw [← hn, ← h3]; exact hox) (by rw [← hn, ← h3]; exact hoy)
            conv => whnf
            refine ⟨(o, (zeroR, zeroR)), rfl, ⟨PV.sz_mono hos (by decide), zeroR_sz _, zeroR_sz _⟩, ?_⟩
            rw [ee]
            obtain ⟨X2, hX2⟩ : ∃ X, X = RV.of (foldQ maxQ pX a l) := ⟨_, rfl⟩
            obtain ⟨Y2, hY2⟩ : ∃ Y, Y = RV.of (foldQ maxQ pY a l) := ⟨_, rfl⟩
            rw [← hX2, ← hY2]
            conv => whnf
            exact fin ((X, Y), (X2, Y2)) 0 (by rw [hw, hX, hY, hX2, hY2]; rfl)
end Go.Proofs.YtaklhgglgabbiaaGreat
/- Contracts of the reference vectors: the bound of a list of points. -/
set_option linter.unusedVariables false
set_option linter.unusedSimpArgs false
set_option maxRecDepth 20000
set_option maxHeartbeats 2000000
namespace Go.Proofs.YtaklhgglgabbiaaGreat
open Go Go.Ae

def Evs : Env := { tt := tt, eqs := [], Φ := fun g => match g with
  | 57 => some (.p vnormS)
  | 58 => some (.p qminS)
  | 53 => some (.p qmaxS)
  | _ => none }
theorem Evsok : EnvOk Tryz.prog Evs := ⟨tt_ok, fun t h => by simp [Evs] at h, (fun g S h => by
  simp only [Evs] at h
  split at h
  · cases h; exact rvnorm_ok
  · cases h; exact rqmin_ok
  · cases h; exact rqmax_ok
  · cases h), fun g F h => by simp [Evs] at h⟩

theorem rbound_ok : QSnd Tryz.prog 32 boundS := by
  refine qsnd_of Evsok Dok Tryz.func32 (enters_of Tryz.func32 (by kernel_rfl) rfl) ?_ ?_ ?_
  · intro i b hb
    cases i with
    | none => simp [boundS, PL.blks] at hb
    | some i => simp [boundS, PL.blks] at hb; rw [hb]; rfl
  · intro i b hb; simp [boundS] at hb
  intro i hp
  cases i with
  | none =>
    conv => whnf
    exact ⟨_, rfl, .refl _⟩
  | some i =>
    obtain ⟨l, c⟩ := i
    have hp : l.length ≤ 9223372036854775807 ∧ ∀ p ∈ l, PV.sz 1048576 p := hp
    obtain ⟨hlen, hsz⟩ := hp
    obtain ⟨n, hn⟩ : ∃ n, n = l.length := ⟨_, rfl⟩
    obtain ⟨g, hg⟩ : ∃ g, g = rowsP l := ⟨_, rfl⟩
    have ev : PL.val (some (l, c)) = .slice (some ⟨0, 0, none⟩) n c := by rw [hn]; rfl
    have eb : boundS.blks (some (l, c)) = [.flat false n 6 g] := by rw [hn, hg]; rfl
    obtain ⟨w, hw⟩ : ∃ w, w = boundV l := ⟨_, rfl⟩
    have fin : ∀ (x : XV) (e : Int), w = (x, e) → ∃ v', renV (List.range (boundS.blks (some (l, c))).length) 3 (boundS.val (some (l, c))) = some v' ∧ VLe (Value.tuple ⟨[x.v, .int .i64 e]⟩) v' := fun x e h =>
      ⟨.tuple ⟨[x.v, .int .i64 e]⟩, by
        rw [show boundS.val (some (l, c)) = .tuple ⟨[x.v, .int .i64 e]⟩ from by
          show Value.tuple ⟨[(boundV l).1.v, .int .i64 (boundV l).2]⟩ = _
          rw [← hw, h]]
        rfl, .refl _⟩
    rw [eb, show boundS.args (some (l, c)) = [.slice (some ⟨0, 0, none⟩) n c] from by rw [hn]; rfl]
    conv => whnf
    by_cases h1 : n = 0
    · subst h1
      have hl : l = [] := List.length_eq_zero_iff.1 hn.symm
      subst hl
      conv => whnf
      exact fin zeroX 11 hw
    · refine br_intro (fun h => absurd (by simpa using h) h1) (fun _ => ?_)
      obtain ⟨a, l, rfl⟩ : ∃ a l', l = a :: l' := List.exists_cons_of_ne_nil (fun e => h1 (by rw [hn, e]; rfl))
      have hk : n = l.length + 1 := hn
      conv => whnf
      refine br_intro (fun h2 => ?_) (fun h2 => ?_)
      · have h2 : 1000 < n := by
          have := of_decide_eq_true h2
          omega
        conv => whnf
        exact fin zeroX 4 (by rw [hw]; show (if 1000 < l.length + 1 then _ else _) = _; rw [if_pos (by omega)])
      · have h2 : n ≤ 1000 := by
          have := of_decide_eq_false h2
          omega
        have hw : w = (boundX a l, 0) := by rw [hw]; show (if 1000 < l.length + 1 then _ else _) = _; rw [if_neg (by omega)]
        have hg0 : g 0 = a.cells := by rw [hg]; rfl
        have qx : ∀ p ∈ a :: l, QB (pX p) 1048576 := fun p hp => RV.qb' (hsz p hp).1 (by decide)
        have qy : ∀ p ∈ a :: l, QB (pY p) 1048576 := fun p hp => RV.qb' (hsz p hp).2 (by decide)
        obtain ⟨f1, hf1⟩ : ∃ f, f = RV.of (pX a) := ⟨_, rfl⟩
        obtain ⟨f2, hf2⟩ : ∃ f, f = RV.of (pY a) := ⟨_, rfl⟩
        conv => whnf
        refine ⟨⟨by omega, by omega⟩, ?_⟩
        conv => whnf
        refine ⟨by show 0 < n; omega, ?_⟩
        conv => whnf
        rw [show rowAdd 0 (Int.toNat 0) = 0 from rfl, hg0]
        conv => whnf
        refine ⟨a, rfl, PV.sz_mono (hsz a List.mem_cons_self) (by decide), ?_⟩
        rw [show vnormS.val a = PV.v (f1, f2) from by rw [hf1, hf2]; rfl]
        conv => whnf
        refine .inl ⟨fun mm tz hz => ∃ (j : Nat) (b1 : RV) (b2 : RV) (b3 : RV) (b4 : RV), Pat [some (.slice (some ⟨0, 0, none⟩) n c), none, some (.pointer (some ⟨1, 0, none⟩)), none, none, some (.pointer (some ⟨2, 0, none⟩)), some (.int .i64 ((j + 1 : Nat) : Int)), none, none, none, none, none, none, none, none, none, none, none, none, none, none, none, none, none, none, none, none, none, none, none, none, none, none, none, none, none, none, none, none, none, none, none, none, none, none, none, none, none, none, none, none, none, none, none, none, none, none, none, none, none, none, none, none] tz ∧ hz = [some (.flat false n 6 g), some (.expl true 12 [[.bool false, .string ⟨#[]⟩, .string ⟨#[]⟩, .bool false, .string ⟨#[]⟩, .string ⟨#[]⟩, .bool false, .string ⟨#[]⟩, .string ⟨#[]⟩, .bool false, .string ⟨#[]⟩, .string ⟨#[]⟩]]), some (.expl true 12 [XV.cells ((b1, b2), (b3, b4))])] ∧ n - j = mm ∧ (j + 1 ≤ n ∧ (b1 = RV.of (foldQ minQ pX a (l.take j)) ∧ b2 = RV.of (foldQ minQ pY a (l.take j))) ∧ b3 = RV.of (foldQ maxQ pX a (l.take j)) ∧ b4 = RV.of (foldQ maxQ pY a (l.take j))), .inr ⟨[0, 1, 3], [0, 2, 5, 6], ?_⟩, ?_⟩
        · conv => whnf
          intro _
          conv => whnf
          refine ⟨_, 0, f1, f2, f1, f2, (.keep (.skip (.keep (.skip (.skip (.keep (.keep (.skip (.skip (.skip (.skip (.skip (.skip (.skip (.skip (.skip (.skip (.skip (.skip (.skip (.skip (.skip (.skip (.skip (.skip (.skip (.skip (.skip (.skip (.skip (.skip (.skip (.skip (.skip (.skip (.skip (.skip (.skip (.skip (.skip (.skip (.skip (.skip (.skip (.skip (.skip (.skip (.skip (.skip (.skip (.skip (.skip (.skip (.skip (.skip (.skip (.skip (.skip (.skip (.skip (.skip (.skip (.skip (.nil)))))))))))))))))))))))))))))))))))))))))))))))))))))))))))))))), rfl, rfl, ?_⟩
          exact ⟨by omega, ⟨hf1, hf2⟩, hf1, hf2⟩
        rintro mm tms _ ⟨j, b1, b2, b3, b4, hpat, rfl, rfl, ⟨hj, ⟨hb1, hb2⟩, hb3, hb4⟩⟩
        obtain ⟨az, rfl⟩ : ∃ az : Nat → Value, tms = [.slice (some ⟨0, 0, none⟩) n c, az 1, .pointer (some ⟨1, 0, none⟩), az 3, az 4, .pointer (some ⟨2, 0, none⟩), .int .i64 ((j + 1 : Nat) : Int), az 7, az 8, az 9, az 10, az 11, az 12, az 13, az 14, az 15, az 16, az 17, az 18, az 19, az 20, az 21, az 22, az 23, az 24, az 25, az 26, az 27, az 28, az 29, az 30, az 31, az 32, az 33, az 34, az 35, az 36, az 37, az 38, az 39, az 40, az 41, az 42, az 43, az 44, az 45, az 46, az 47, az 48, az 49, az 50, az 51, az 52, az 53, az 54, az 55, az 56, az 57, az 58, az 59, az 60, az 61, az 62] := pat_fill hpat
        clear hpat
        conv => whnf
        refine br_intro (fun h3 => ?_) (fun h3 => ?_)
        · have h3 : j + 1 < n := by
            have := of_decide_eq_true h3
            omega
          obtain ⟨p, hpl, hpm, hrow⟩ := rowsP_get (l := a :: l) (i := j + 1) (by omega)
          rw [← hg] at hrow
          have hpl : l[j]? = some p := by simpa using hpl
          obtain ⟨q, hq⟩ : ∃ q, q = j + 1 := ⟨_, rfl⟩
          rw [← hq] at hrow
          rw [← hq]
          have e7 : IntKind.i64.wrap ((q : Int) + 1) = ((q + 1 : Nat) : Int) := by rw [wrapi64 (by omega) (by omega)]; rfl
          obtain ⟨x, hx⟩ : ∃ f, f = RV.of (pX p) := ⟨_, rfl⟩
          obtain ⟨y, hy⟩ : ∃ f, f = RV.of (pY p) := ⟨_, rfl⟩
          obtain ⟨c1, hc1⟩ : ∃ f, f = RV.of (foldQ minQ pX a (l.take (j + 1))) := ⟨_, rfl⟩
          obtain ⟨c2, hc2⟩ : ∃ f, f = RV.of (foldQ minQ pY a (l.take (j + 1))) := ⟨_, rfl⟩
          obtain ⟨c3, hc3⟩ : ∃ f, f = RV.of (foldQ maxQ pX a (l.take (j + 1))) := ⟨_, rfl⟩
          obtain ⟨c4, hc4⟩ : ∃ f, f = RV.of (foldQ maxQ pY a (l.take (j + 1))) := ⟨_, rfl⟩
          have e1 : qminS.val (b1, x) = c1.v := by rw [hb1, hx, hc1, qmin_of, foldQ_snoc minQ pX a p l hpl]
          have e2 : qminS.val (b2, y) = c2.v := by rw [hb2, hy, hc2, qmin_of, foldQ_snoc minQ pY a p l hpl]
          have e3 : qmaxS.val (b3, x) = c3.v := by rw [hb3, hx, hc3, qmax_of, foldQ_snoc maxQ pX a p l hpl]
          have e4 : qmaxS.val (b4, y) = c4.v := by rw [hb4, hy, hc4, qmax_of, foldQ_snoc maxQ pY a p l hpl]
          have o1 : b1.ok := by rw [hb1]; exact foldQ_ok (fun _ _ _ => QB.min) (by decide) qx
          have o2 : b2.ok := by rw [hb2]; exact foldQ_ok (fun _ _ _ => QB.min) (by decide) qy
          have o3 : b3.ok := by rw [hb3]; exact foldQ_ok (fun _ _ _ => QB.max) (by decide) qx
          have o4 : b4.ok := by rw [hb4]; exact foldQ_ok (fun _ _ _ => QB.max) (by decide) qy
          have ox : x.ok := by rw [hx]; exact RV.of_ok ((qx p hpm).mono (by decide))
          have oy : y.ok := by rw [hy]; exact RV.of_ok ((qy p hpm).mono (by decide))
          conv => whnf
          refine ⟨⟨by omega, by omega⟩, ?_⟩
          simp only [toNat_cast, rowAdd_eq, Nat.zero_add]
          conv => whnf
          refine ⟨by show q < n; omega, ?_⟩
          conv => whnf
          rw [hrow]
          conv => whnf
          refine ⟨p, rfl, PV.sz_mono (hsz p hpm) (by decide), ?_⟩
          rw [show vnormS.val p = PV.v (x, y) from by rw [hx, hy]; rfl]
          conv => whnf
          refine .inl ⟨11, [[], [0], [0, 1], [], [3], [0, 1, 2, 3, 4], [], [6], [6, 7], [], [9], [0, 1, 2, 3, 4, 5, 6, 7, 8, 9, 10], [0, 1, 2, 3, 4, 5, 6, 7, 8, 9, 10, 11], [0, 1, 2, 3, 4, 5, 6, 7, 8, 9, 10, 11, 12], [0, 1, 2, 3, 4, 5, 6, 7, 8, 9, 10, 11, 12, 13]], by kernel_rfl, ?_⟩
          conv => whnf
          refine ⟨(b1, x), rfl, ⟨o1, ox⟩, ?_⟩
          rw [e1]
          conv => whnf
          refine ⟨(b2, y), rfl, ⟨o2, oy⟩, ?_⟩
          rw [e2]
          conv => whnf
          refine .inl ⟨11, [[], [0], [0, 1], [], [3], [0, 1, 2, 3, 4], [], [6], [6, 7], [], [9], [0, 1, 2, 3, 4, 5, 6, 7, 8, 9, 10], [0, 1, 2, 3, 4, 5, 6, 7, 8, 9, 10, 11], [0, 1, 2, 3, 4, 5, 6, 7, 8, 9, 10, 11, 12], [0, 1, 2, 3, 4, 5, 6, 7, 8, 9, 10, 11, 12, 13]], by kernel_rfl, ?_⟩
          conv => whnf
          refine ⟨(b3, x), rfl, ⟨o3, ox⟩, ?_⟩
          rw [e3]
          conv => whnf
          refine ⟨(b4, y), rfl, ⟨o4, oy⟩, ?_⟩
          rw [e4]
          conv => whnf
          rw [e7, hq]
          refine .inr ⟨[0, 1, 2], [0, 2, 5, 6], ?_⟩
          conv => whnf
          intro _
          conv => whnf
          refine ⟨_, ?_, j + 1, c1, c2, c3, c4, (.keep (.skip (.keep (.skip (.skip (.keep (.keep (.skip (.skip (.skip (.skip (.skip (.skip (.skip (.skip (.skip (.skip (.skip (.skip (.skip (.skip (.skip (.skip (.skip (.skip (.skip (.skip (.skip (.skip (.skip (.skip (.skip (.skip (.skip (.skip (.skip (.skip (.skip (.skip (.skip (.skip (.skip (.skip (.skip (.skip (.skip (.skip (.skip (.skip (.skip (.skip (.skip (.skip (.skip (.skip (.skip (.skip (.skip (.skip (.skip (.skip (.skip (.skip (.nil)))))))))))))))))))))))))))))))))))))))))))))))))))))))))))))))), rfl, rfl, ?_⟩
          · omega
          · exact ⟨by omega, ⟨hc1, hc2⟩, hc3, hc4⟩
        · have h3 : j + 1 = n := by
            have := of_decide_eq_false h3
            omega
          conv => whnf
          refine fin ((b1, b2), (b3, b4)) 0 ?_
          have hjl : l.take j = l := by rw [show j = l.length by omega, List.take_length]
          rw [hw, hb1, hb2, hb3, hb4, hjl]
          rfl
end Go.Proofs.YtaklhgglgabbiaaGreat
/- The laws of vectors: boxes. -/
set_option linter.unusedVariables false
set_option linter.unusedSimpArgs false
namespace Go.Ae
open Go

theorem eqX (b : XV) : eqCells [.bool b.1.1.1, .string b.1.1.2.1, .string b.1.1.2.2, .bool b.1.2.1, .string b.1.2.2.1, .string b.1.2.2.2, .bool b.2.1.1, .string b.2.1.2.1, .string b.2.1.2.2, .bool b.2.2.1, .string b.2.2.2.1, .string b.2.2.2.2] [.bool b.1.1.1, .string b.1.1.2.1, .string b.1.1.2.2, .bool b.1.2.1, .string b.1.2.2.1, .string b.1.2.2.2, .bool b.2.1.1, .string b.2.1.2.1, .string b.2.1.2.2, .bool b.2.2.1, .string b.2.2.2.1, .string b.2.2.2.2] = true := by
  simp [eqCells]
theorem great_pts {p q s : PV} (h : anyGreat [p, q, s] = false) : p.sz 60 ∧ q.sz 60 ∧ s.sz 60 := by
  have h2 := anyGreat_false h
  exact ⟨PV.not_great (h2 p (by simp)), PV.not_great (h2 q (by simp)), PV.not_great (h2 s (by simp))⟩
theorem great_blk3 {p q s : PV} {l : List PV} (hl : l = [p, q, s]) : BlkLe (.flat false 3 6 (rowsP l)) (.expl true 6 [PV.cells p, PV.cells q, PV.cells s]) := by
  subst hl
  refine blk_rows rfl (fun i hi => ?_) (fun i hi => rfl)
  have : i = 0 ∨ i = 1 ∨ i = 2 := by omega
  rcases this with rfl | rfl | rfl <;> rfl
theorem greatList_pts {l : List PV} (h : greatList l = false) : ∀ p ∈ l, p.sz 60 := fun p hp => by
  unfold greatList at h
  simp only [Bool.or_eq_false_iff] at h
  exact PV.not_great (anyGreat_false h.2 p hp)
theorem list_blk {n : Nat} {l : List PV} {g : Nat → List Value} (h : g = rowsP l) : BlkLe (.flat false n 6 g) (.flat false n 6 g) := BlkLe.flat_flat (fun h => h) (fun r hr => by rw [h]; rfl)
def boxesS : QSpec := { ι := PL × XV × PV, args := fun i => [i.1.val, i.2.1.v, i.2.2.v], blks := fun i => i.1.blks, pre := fun i => i.1.ok, val := fun _ => .bool true, new := fun _ => none }
end Go.Ae
/- The laws of vectors: boxes. -/
set_option linter.unusedVariables false
set_option linter.unusedSimpArgs false
set_option maxRecDepth 20000
set_option maxHeartbeats 2000000
namespace Go.Proofs.YtaklhgglgabbiaaGreat
open Go Go.Ae

def Elc : Env := { tt := tt, eqs := eqsL, Φ := fun g => match g with
  | 7 => some (.p awakeS)
  | 6 => some (.q greatlS)
  | 30 => some (.q greatListS)
  | 31 => some (.q boundS)
  | 32 => some (.q boundS)
  | 33 => some (.p vwithinS)
  | 34 => some (.p vwithinS)
  | _ => none }
theorem Elcok : EnvOk Tryz.prog Elc := ⟨tt_ok, eqs_ok, (fun g S h => by
  simp only [Elc] at h
  split at h
  · cases h; exact awake_ok
  · cases h; exact greatl_ok
  · cases h; exact greatList_ok
  · cases h; exact bound_ok
  · cases h; exact rbound_ok
  · cases h; exact vwithin_ok
  · cases h; exact rvwithin_ok
  · cases h), fun g F h => by simp [Elc] at h⟩

theorem boxes_ok : QSnd Tryz.prog 5 boxesS := by
  refine qsnd_of Elcok Dok Tryz.func5 (enters_of Tryz.func5 (by kernel_rfl) rfl) ?_ ?_ ?_
  · intro i b hb
    obtain ⟨i, j⟩ := i
    cases i with
    | none => simp [boxesS, PL.blks] at hb
    | some i => simp [boxesS, PL.blks] at hb; rw [hb]; rfl
  · intro i b hb; simp [boxesS] at hb
  intro ⟨i, b, p⟩ hp
  have hp : i.ok := hp
  obtain ⟨G, hG⟩ : ∃ G, G = greatList i.list := ⟨_, rfl⟩
  obtain ⟨X, hX⟩ : ∃ X, X = (boundV i.list).1 := ⟨_, rfl⟩
  obtain ⟨e, he⟩ : ∃ e, e = (boundV i.list).2 := ⟨_, rfl⟩
  have eG : greatListS.val i = .bool G := by rw [hG]; rfl
  have eB : boundS.val i = .tuple ⟨[X.v, .int .i64 e]⟩ := by rw [hX, he]; rfl
  obtain ⟨W, eW⟩ : ∃ W, vwithinS.val (b, p) = .bool W := ⟨_, rfl⟩
  obtain ⟨l3, hl3⟩ : ∃ l, l = [b.1, b.2, p] := ⟨_, rfl⟩
  obtain ⟨g3, hg3⟩ : ∃ g, g = anyGreat l3 := ⟨_, rfl⟩
  have hpts := fun h : G = false => greatList_pts (l := i.list) (by rw [← hG, h])
  have h3 := fun h : g3 = false => great_pts (p := b.1) (q := b.2) (s := p) (by rw [← hl3, ← hg3, h])
  cases i with
  | none =>
    skip
    conv => whnf
    refine ⟨none, [], rfl, hp, ?_⟩
    conv => whnf
    rw [eG]
    refine ⟨.bool G, rfl, ?_⟩
    cases hG2 : G
    · conv => whnf
      refine ⟨(l3, 3), [2], by rw [hl3]; rfl, ⟨by rw [hl3]; exact Nat.le_refl _, by show 3 ≤ 1099511627776; decide⟩, ?_⟩
      rw [show greatlS.blks (l3, 3) = [.flat false 3 6 (rowsP l3)] from by rw [hl3]; rfl, show greatlS.val (l3, 3) = .bool g3 from by rw [hg3]; rfl, show greatlS.new (l3, 3) = none from rfl]
      conv => whnf
      refine ⟨great_blk3 hl3, ?_⟩
      conv => whnf
      refine ⟨.bool g3, rfl, ?_⟩
      cases hg2 : g3
      · obtain ⟨s1, s2, s3⟩ := h3 hg2
        have kw : vwithinS.pre (b, p) := ⟨⟨PV.sz_mono s1 (by decide), PV.sz_mono s2 (by decide)⟩, PV.sz_mono s3 (by decide)⟩
        conv => whnf
        refine ⟨none, [], rfl, ⟨hp, fun p hp => PV.sz_mono (hpts hG2 p hp) (by decide)⟩, ?_⟩
        conv => whnf
        rw [eB]
        refine ⟨.tuple ⟨[X.v, .int .i64 e]⟩, rfl, ?_⟩
        conv => whnf
        refine ⟨none, [], rfl, ⟨hp, fun p hp => PV.sz_mono (hpts hG2 p hp) (by decide)⟩, ?_⟩
        conv => whnf
        rw [eB]
        refine ⟨.tuple ⟨[X.v, .int .i64 e]⟩, rfl, ?_⟩
        conv => whnf
        refine .inl ⟨14, [[], [], [0, 1], [0, 1, 2], [0, 1, 2, 3], [0, 1, 2, 3], [0, 1, 2, 3, 4, 5], [0, 1, 2, 3, 4, 5, 6], [0, 1, 2, 3, 4, 5, 6, 7], [0, 1, 2, 3, 4, 5, 6, 7, 8], [0, 1, 2, 3, 4, 5, 6, 7, 8], [0, 1, 2, 3, 4, 5, 6, 7, 8, 9, 10], [0, 1, 2, 3, 4, 5, 6, 7, 8], [0, 1, 2, 3, 4, 5, 6, 7, 8], [0, 1, 2, 3, 4, 5, 6, 7, 8, 9, 10, 11, 12, 13], [0, 1, 2, 3, 4, 5, 6, 7, 8, 9, 10, 11, 12, 13, 14], [0, 1, 2, 3, 4, 5, 6, 7, 8, 9, 10, 11, 12, 13, 14, 15], [0, 1, 2, 3, 4, 5, 6, 7, 8, 9, 10, 11, 12, 13, 14, 15, 16], [0, 1, 2, 3, 4, 5, 6, 7, 8, 9, 10, 11, 12, 13, 14, 15, 16, 17], [0, 1, 2, 3, 4, 5, 6, 7, 8, 9, 10, 11, 12, 13, 14, 15, 16, 17, 18], [0, 1, 2, 3, 4, 5, 6, 7, 8, 9, 10, 11, 12, 13, 14, 15, 16, 17, 18, 19]], by kernel_rfl, ?_⟩
        conv => whnf
        rw [eqX X]
        conv => whnf
        rw [show (e == e) = true from by simp]
        conv => whnf
        refine ⟨(b, p), rfl, kw, ?_⟩
        rw [eW]
        conv => whnf
        refine ⟨(b, p), rfl, kw, ?_⟩
        rw [eW]
        conv => whnf
        rw [show (W == W) = true from by simp]
        conv => whnf
        refine ⟨(), rfl, trivial, ?_⟩
        conv => whnf
        exact ⟨.bool true, rfl, .refl _⟩
      · conv => whnf
        refine ⟨(), rfl, trivial, ?_⟩
        conv => whnf
        exact ⟨.bool true, rfl, .refl _⟩
    · conv => whnf
      refine ⟨(), rfl, trivial, ?_⟩
      conv => whnf
      exact ⟨.bool true, rfl, .refl _⟩
  | some i =>
    obtain ⟨l, c⟩ := i
    obtain ⟨n, hn⟩ : ∃ n, n = l.length := ⟨_, rfl⟩
    obtain ⟨g, hg⟩ : ∃ g, g = rowsP l := ⟨_, rfl⟩
    have ev : PL.val (some (l, c)) = .slice (some ⟨0, 0, none⟩) n c := by rw [hn]; rfl
    have e1 : greatListS.blks (some (l, c)) = [.flat false n 6 g] := by rw [hn, hg]; rfl
    have e2 : boundS.blks (some (l, c)) = [.flat false n 6 g] := by rw [hn, hg]; rfl
    have a1 : greatListS.args (some (l, c)) = [.slice (some ⟨0, 0, none⟩) n c] := by rw [hn]; rfl
    have a2 : boundS.args (some (l, c)) = [.slice (some ⟨0, 0, none⟩) n c] := by rw [hn]; rfl
    rw [show boxesS.blks (some (l, c), b, p) = [.flat false n 6 g] from by rw [hn, hg]; rfl, show boxesS.args (some (l, c), b, p) = [.slice (some ⟨0, 0, none⟩) n c, b.v, p.v] from by rw [hn]; rfl]
    conv => whnf
    refine ⟨some (l, c), [0], by rw [a1]; rfl, hp, ?_⟩
    rw [e1]
    conv => whnf
    refine ⟨list_blk hg, ?_⟩
    conv => whnf
    rw [eG]
    refine ⟨.bool G, rfl, ?_⟩
    cases hG2 : G
    · conv => whnf
      refine ⟨(l3, 3), [3], by rw [hl3]; rfl, ⟨by rw [hl3]; exact Nat.le_refl _, by show 3 ≤ 1099511627776; decide⟩, ?_⟩
      rw [show greatlS.blks (l3, 3) = [.flat false 3 6 (rowsP l3)] from by rw [hl3]; rfl, show greatlS.val (l3, 3) = .bool g3 from by rw [hg3]; rfl, show greatlS.new (l3, 3) = none from rfl]
      conv => whnf
      refine ⟨great_blk3 hl3, ?_⟩
      conv => whnf
      refine ⟨.bool g3, rfl, ?_⟩
      cases hg2 : g3
      · obtain ⟨s1, s2, s3⟩ := h3 hg2
        have kw : vwithinS.pre (b, p) := ⟨⟨PV.sz_mono s1 (by decide), PV.sz_mono s2 (by decide)⟩, PV.sz_mono s3 (by decide)⟩
        conv => whnf
        refine ⟨some (l, c), [0], by rw [a2]; rfl, ⟨hp, fun p hp => PV.sz_mono (hpts hG2 p hp) (by decide)⟩, ?_⟩
        rw [e2]
        conv => whnf
        refine ⟨list_blk hg, ?_⟩
        conv => whnf
        rw [eB]
        refine ⟨.tuple ⟨[X.v, .int .i64 e]⟩, rfl, ?_⟩
        conv => whnf
        refine ⟨some (l, c), [0], by rw [a2]; rfl, ⟨hp, fun p hp => PV.sz_mono (hpts hG2 p hp) (by decide)⟩, ?_⟩
        rw [e2]
        conv => whnf
        refine ⟨list_blk hg, ?_⟩
        conv => whnf
        rw [eB]
        refine ⟨.tuple ⟨[X.v, .int .i64 e]⟩, rfl, ?_⟩
        conv => whnf
        refine .inl ⟨14, [[], [], [0, 1], [0, 1, 2], [0, 1, 2, 3], [0, 1, 2, 3], [0, 1, 2, 3, 4, 5], [0, 1, 2, 3, 4, 5, 6], [0, 1, 2, 3, 4, 5, 6, 7], [0, 1, 2, 3, 4, 5, 6, 7, 8], [0, 1, 2, 3, 4, 5, 6, 7, 8], [0, 1, 2, 3, 4, 5, 6, 7, 8, 9, 10], [0, 1, 2, 3, 4, 5, 6, 7, 8], [0, 1, 2, 3, 4, 5, 6, 7, 8], [0, 1, 2, 3, 4, 5, 6, 7, 8, 9, 10, 11, 12, 13], [0, 1, 2, 3, 4, 5, 6, 7, 8, 9, 10, 11, 12, 13, 14], [0, 1, 2, 3, 4, 5, 6, 7, 8, 9, 10, 11, 12, 13, 14, 15], [0, 1, 2, 3, 4, 5, 6, 7, 8, 9, 10, 11, 12, 13, 14, 15, 16], [0, 1, 2, 3, 4, 5, 6, 7, 8, 9, 10, 11, 12, 13, 14, 15, 16, 17], [0, 1, 2, 3, 4, 5, 6, 7, 8, 9, 10, 11, 12, 13, 14, 15, 16, 17, 18], [0, 1, 2, 3, 4, 5, 6, 7, 8, 9, 10, 11, 12, 13, 14, 15, 16, 17, 18, 19]], by kernel_rfl, ?_⟩
        conv => whnf
        rw [eqX X]
        conv => whnf
        rw [show (e == e) = true from by simp]
        conv => whnf
        refine ⟨(b, p), rfl, kw, ?_⟩
        rw [eW]
        conv => whnf
        refine ⟨(b, p), rfl, kw, ?_⟩
        rw [eW]
        conv => whnf
        rw [show (W == W) = true from by simp]
        conv => whnf
        refine ⟨(), rfl, trivial, ?_⟩
        conv => whnf
        exact ⟨.bool true, rfl, .refl _⟩
      · conv => whnf
        refine ⟨(), rfl, trivial, ?_⟩
        conv => whnf
        exact ⟨.bool true, rfl, .refl _⟩
    · conv => whnf
      refine ⟨(), rfl, trivial, ?_⟩
      conv => whnf
      exact ⟨.bool true, rfl, .refl _⟩
end Go.Proofs.YtaklhgglgabbiaaGreat
/- The arguments of a statement, opened: slices of points. -/
set_option linter.unusedVariables false
set_option linter.unusedSimpArgs false
namespace Go.Ae
open Go Go.RowKit Go.ChangeShapes Go.WideShapes Go.ChangeAt

theorem calls_of_qsnd {P : Program} {f : FuncId} {S : QSpec} (h : QSnd P f S) {i : S.ι} (hp : S.pre i) {avs : List Value} {ν : Nu} {w : World} (ha : LRel ν (S.args i) avs) (hH : HRel ν ((S.blks i).map some) w)
    (hν : ∀ id, (S.blks i).length ≤ id → ν id = none) {b : Bool} (hv : S.val i = .bool b) :
    Calls P f ⟨avs⟩ w fun e w' => e = .returned (.bool b) ∧ Below w.heap.size w w' := by
  have h1 := h.calls i hp ν avs w 0 ha hH hν
  rw [callsIn_wide] at h1
  refine h1.mono fun e w' ⟨v', ν', he, hq⟩ => ⟨?_, hq.below⟩
  have hr := hq.val
  rw [hv] at hr
  rw [he, hr.to_bool]
section
variable {H : Type} {enc : TypeId × Value → H} {P : Program} {w : World} {base : Nat} {spare : Nat → Bool} {held : Bool}
/-- The types of a point. -/
structure PtTy (P : Program) (tr tp b s : TypeId) : Prop where
  rat : ∃ f0 f1 f2, P.underlying tr = some (.struct #[f0, f1, f2]) ∧ (f0.type = b ∧ f0.offset = 0) ∧ (f1.type = s ∧ f1.offset = 1) ∧ f2.type = s ∧ f2.offset = 2
  pt : ∃ f0 f1, P.underlying tp = some (.struct #[f0, f1]) ∧ (f0.type = tr ∧ f0.offset = 0) ∧ f1.type = tr ∧ f1.offset = 3
  bool : P.underlying b = some .bool
  str : P.underlying s = some .string
  cr : P.cellsOf tr = 3
  cp : P.cellsOf tp = 6
  cb : P.cellsOf b = 1
  cs : P.cellsOf s = 1
theorem trod_rat {tr tp b s : TypeId} (T : PtTy P tr tp b s) {n : Nat} {l : List Value} {y : DataW H × List MemPlace} (h : DataW.trod enc P w base spare held n tr l = some y) : ∃ i : RV, l = i.cells := by
  obtain ⟨f0, f1, f2, hu, ⟨t0, o0⟩, ⟨t1, o1⟩, t2, o2⟩ := T.rat
  obtain ⟨y0, y1, y2, m, _, hl, h0, h1, h2⟩ := Deep.trod_struct3 hu h
  rw [T.cr] at hl
  rw [t0, o0, T.cb] at h0
  rw [t1, o1, T.cs] at h1
  rw [t2, o2, T.cs] at h2
  match l, hl with
  | [x, y, z], _ =>
    obtain ⟨b, e0, _⟩ := DataW.trod_bool T.bool h0
    obtain ⟨s1, e1, _⟩ := DataW.trod_string T.str h1
    obtain ⟨s2, e2, _⟩ := DataW.trod_string T.str h2
    simp at e0 e1 e2
    subst e0; subst e1; subst e2
    exact ⟨(b, s1, s2), rfl⟩
theorem trod_pt {tr tp b s : TypeId} (T : PtTy P tr tp b s) {n : Nat} {l : List Value} {y : DataW H × List MemPlace} (h : DataW.trod enc P w base spare held n tp l = some y) : ∃ p : PV, l = p.cells := by
  obtain ⟨f0, f1, hu, ⟨t0, o0⟩, t1, o1⟩ := T.pt
  obtain ⟨y0, y1, m, _, hl, h0, h1⟩ := trod_struct2 hu h
  rw [T.cp] at hl
  rw [t0, o0, T.cr] at h0
  rw [t1, o1, T.cr] at h1
  obtain ⟨i, e0⟩ := trod_rat T h0
  obtain ⟨j, e1⟩ := trod_rat T h1
  match l, hl with
  | [x, y, z, x', y', z'], _ =>
    have e0 : [x, y, z] = i.cells := e0
    have e1 : [x', y', z'] = j.cells := e1
    refine ⟨(i, j), ?_⟩
    show [x, y, z] ++ [x', y', z'] = i.cells ++ j.cells
    rw [e0, e1]
theorem open_points {tl tr tp b s : TypeId} (T : PtTy P tr tp b s) (ht : P.underlying tl = some (.slice tp)) {v : Value} {d : DataW H} {ps : List MemPlace} {r : Reach} {b0 : Nat} (hv : Value.okWide P w r b0 tl v)
    (h : DataW.Trod enc P w base (fun _ => true) held tl v d ps) :
    ∃ (i : PL) (ν : Nu), i.ok ∧ VRel ν i.val v ∧ HRel ν (i.blks.map some) w ∧ ∀ id, i.blks.length ≤ id → ν id = none := by
  obtain ⟨a0, len0, cap0, rfl⟩ := okWide_slice ht hv
  obtain ⟨fuel, hf⟩ := h
  rcases Deep.open_slice ht hf with ⟨hcs, _⟩ | ⟨a, len, cap, m, n, D, Pl, hcs, hb, hl, hm, hmm, _, hx⟩
  · simp [Value.cells] at hcs
    obtain ⟨rfl, rfl, rfl⟩ := hcs
    refine ⟨none, fun _ => none, Nat.zero_le _, .snil, ⟨fun id b h => by simp [PL.blks] at h, fun i j bi bj li lj h => by simp [PL.blks] at h⟩, fun _ _ => rfl⟩
  · simp [Value.cells] at hcs
    obtain ⟨rfl, rfl, rfl⟩ := hcs
    have hmm : m = cap0 := hmm
    subst hmm
    simp only [Value.okWide, ht, Cell.okWide, Cell.ok] at hv
    obtain ⟨_, _, _, hsp, row, cells, hshape, _⟩ := hv
    have hlive : a.block < w.heap.size := by
      unfold World.shape? at hshape
      split at hshape
      · rename_i hh
        exact (Array.getElem?_eq_some_iff.1 hh).1
      · cases hshape
    obtain ⟨V, hV⟩ := Deep.choose_lt (α := PV) (n := m) (p := fun i p => ∀ j, j < 6 → w.cell? ((a.add (i * 6)).add j) = p.cells[j]?) (fun i hi => by
      obtain ⟨cs', h1, h2⟩ := hx i hi
      rw [T.cp] at h1
      obtain ⟨p, rfl⟩ := trod_pt T h2
      obtain ⟨_, _, hc⟩ := World.cells?_some h1
      exact ⟨p, hc⟩)
    have hlm : len0 ≤ m := hl
    refine ⟨some ((List.range len0).map V, capU), fun id => if id = 0 then some ⟨a.block, a.off, 6, m⟩ else none, ?_, ?_, ⟨fun id b hid => ?_, fun i j bi bj li lj h1 h2 h3 h4 => ?_⟩, fun id hid => ?_⟩
    · show ((List.range len0).map V).length ≤ _
      have hm2 : m ≤ 9223372036854775807 := hm
      rw [List.length_map, List.length_range]
      omega
    · have e : a = Loc.at ⟨a.block, a.off, 6, m⟩ 0 0 := by
        obtain ⟨b0, o0, s0⟩ := a
        have : s0 = none := hsp
        subst this
        simp [Loc.at]
      have := VRel.slice (ν := fun id => if id = 0 then some ⟨a.block, a.off, 6, m⟩ else none) 0 0 len0 capU m ⟨a.block, a.off, 6, m⟩ rfl (.inr rfl) hlm (by simp)
      rw [← e] at this
      show VRel _ (.slice (some ⟨0, 0, none⟩) ((List.range len0).map V).length capU) _
      rw [List.length_map, List.length_range]
      exact this
    · cases id with
      | succ id => simp [PL.blks] at hid
      | zero =>
        simp [PL.blks] at hid
        subst hid
        refine ⟨_, rfl, ⟨rfl, fun r hr => rfl, fun r hr j v hjv => ?_, fun _ r hr v hv => ?_, fun r hr v hv => ?_, fun h => (by cases h), hlive⟩⟩
        · have hr2 : r < len0 := hr
          have hr : r < ((List.range len0).map V).length := by rw [List.length_map, List.length_range]; exact hr2
          obtain ⟨p, hp, _, hrow⟩ := rowsP_get hr
          have hpV : V r = p := by
            rw [List.getElem?_map, List.getElem?_range hr2] at hp
            simpa using hp
          have hjv : (rowsP ((List.range len0).map V) r)[j]? = some v := hjv
          rw [hrow] at hjv
          have hj : j < 6 := (List.getElem?_eq_some_iff.1 hjv).1
          have hc := hV r (by omega) j hj
          rw [hpV, hjv] at hc
          refine ⟨v, ?_, ?_⟩
          · rw [← hc]
            congr 1
            obtain ⟨b0, o0, s0⟩ := a
            have : s0 = none := hsp
            subst this
            by_cases h2 : r * 6 = 0
            · have h3 : r = 0 := by omega
              by_cases h1 : j = 0 <;> simp [Loc.at, Addr.add, h1, h3, Nat.add_assoc]
            · by_cases h1 : j = 0 <;> simp [Loc.at, Addr.add, h1, h2, Nat.add_assoc]
          · have hs : allS p.cells = true := rfl
            exact VRel.scal_self (allS_spec hs v (List.mem_of_getElem? hjv))
        · exact allS_spec (rowsP_allS _ r) v hv
        · have := allS_spec (rowsP_allS ((List.range len0).map V) r) v hv
          cases v <;> first | rfl | simp [scal] at this
    · cases i with
      | succ i => simp [PL.blks] at h1
      | zero =>
        cases j with
        | zero => exact absurd rfl h3
        | succ j => simp [PL.blks] at h2
    · have : id ≠ 0 := by
        intro e; subst e
        have hid : 1 ≤ 0 := hid
        omega
      simp [this]
end
end Go.Ae
/- The statements: VectorMeasures, VectorBoxes. -/
set_option linter.unusedVariables false
namespace Go.Proofs.YtaklhgglgabbiaaGreat
open Go Go.Ae Go.ChangeShapes Go.WideShapes Go.ChangeAt Go.RowKit

set_option maxRecDepth 100000 in
theorem measures_lifted (os : Os) (started : os.Started) (H : Type) (enc : TypeId × Value → H) :
    ReturnsInHanded {} Tryz.checked os 4 .any (Rows.vectorMeasuresSpec.pre6 enc Tryz.prog Tryz.f4 Rows.vectorMeasuresRow.domain false) (Rows.vectorMeasuresSpec.post enc Tryz.prog Tryz.f4 false true false false) := by
  refine returnsInHanded_of_change (C := Tryz.checked) own started (by kernel_rfl) Tryz.func4
    (ChangeSpec.witness6 (enc := enc) (C := Tryz.checked) false ⟨#[], #[zP, zP, zR], []⟩ 8 (by kernel_rfl) (by kernel_rfl) (by kernel_rfl) (by kernel_rfl)) ?_
  intro W base args ds gs before hval0 hW hcnd _
  have hval : ∀ (j : Nat) t v, Tryz.f4.params[j]? = some t → args[j]? = some v → Value.okWide Tryz.prog W .any base t v := hval0
  have hW' := hW
  obtain ⟨p, q, hA0, hV, rfl, hfz, hnd⟩ := hW
  have hA : DataW.TrodAll enc Tryz.prog W 0 (fun _ => true) true Tryz.f4.params.toList args.toList ds p := hA0
  rw [Tryz.params4] at hA hval
  obtain ⟨v0, vs0, d0, ds0, p0, q0, hargs, rfl, rfl, h0, r0⟩ := trodAll_cons hA
  obtain ⟨v1, vs1, d1, ds1, p1, q1, rfl, rfl, rfl, h1, r1⟩ := trodAll_cons r0
  obtain ⟨v2, vs2, d2, ds2, p2, q2, rfl, rfl, rfl, h2, r2⟩ := trodAll_cons r1
  obtain ⟨rfl, rfl, rfl⟩ := trodAll_nil r2
  obtain rfl : args = #[v0, v1, v2] := by cases args; simp_all
  obtain ⟨rfl, rfl⟩ := trodVars_none hV
  obtain ⟨a0, rfl⟩ := open_point (hval 0 25 v0 rfl rfl)
  obtain ⟨a1, rfl⟩ := open_point (hval 1 25 v1 rfl rfl)
  obtain ⟨a2, rfl⟩ := open_number (hval 2 23 v2 rfl rfl)
  have lt0 : ∀ x ∈ p0, x.block < W.heap.size := by obtain ⟨m, hm⟩ := h0; exact DataW.trod_lt m _ _ _ hm
  have lt1 : ∀ x ∈ p1, x.block < W.heap.size := by obtain ⟨m, hm⟩ := h1; exact DataW.trod_lt m _ _ _ hm
  have lt2 : ∀ x ∈ p2, x.block < W.heap.size := by obtain ⟨m, hm⟩ := h2; exact DataW.trod_lt m _ _ _ hm
  clear hA0 hval0
  refine (calls_of_snd measures_ok (i := ((a0, a1), a2)) trivial rfl rfl (b := true) rfl W).mono fun e W' ⟨he, bel⟩ => ?_
  subst he
  exact ⟨_, rfl, _, _, _, [], _, [], hW', trodAll_mk1 (shut_bool Tryz.underlying4 _), (trodAll_cons_mk (Below.trod laidOut (by kernel_rfl) (of_decide_eq_true (by kernel_rfl)) h0 bel lt0) (trodAll_cons_mk (Below.trod laidOut (by kernel_rfl) (of_decide_eq_true (by kernel_rfl)) h1 bel lt1) (trodAll_cons_mk (Below.trod laidOut (by kernel_rfl) (of_decide_eq_true (by kernel_rfl)) h2 bel lt2) trodAll_mk0))), rfl, bel.frame _, fun h => by cases h⟩

theorem measures_holds : Rows.vectorMeasuresRow.holds Tryz.pinned (OpenSpec.ofChange Rows.vectorMeasuresSpec) :=
  OpenClaim.holds_of_wide 4 Tryz.f4 rfl rfl rfl rfl rfl rfl rfl ⟨rfl, rfl, rfl, rfl, rfl⟩ rfl rfl rfl rfl rfl (by kernel_rfl) Tryz.func4 (by kernel_rfl)
    (of_decide_eq_true (by kernel_rfl)) (by unfold Func.isWrapper; first | (rw [if_pos (by decide +kernel)]; kernel_rfl) | (rw [if_neg (by decide +kernel)]; exact ⟨rfl, rfl⟩))
    (fun os started H enc _ => measures_lifted os started H enc)
theorem vectorMeasures_proved : Rows.VectorMeasuresSaid := measures_holds

def zX : Value := .agg #[.bool false, .string ⟨#[]⟩, .string ⟨#[]⟩, .bool false, .string ⟨#[]⟩, .string ⟨#[]⟩, .bool false, .string ⟨#[]⟩, .string ⟨#[]⟩, .bool false, .string ⟨#[]⟩, .string ⟨#[]⟩]
set_option maxRecDepth 100000 in
theorem open_abox {w : World} {r : Reach} {base : Nat} {v : Value} (h : Value.okWide Tryz.prog w r base 40 v) : ∃ p : XV, v = p.v :=
  open_box Tryz.underlying40 (b := 4) (s := 9) (by kernel_rfl) (by kernel_rfl) Tryz.underlying4 Tryz.underlying9 h
set_option maxRecDepth 100000 in
theorem ptTy : PtTy Tryz.prog 23 25 4 9 :=
  ⟨⟨_, _, _, Tryz.underlying23, ⟨rfl, rfl⟩, ⟨rfl, rfl⟩, rfl, rfl⟩, ⟨_, _, Tryz.underlying25, ⟨rfl, rfl⟩, rfl, rfl⟩, Tryz.underlying4, Tryz.underlying9, by kernel_rfl, by kernel_rfl, by kernel_rfl, by kernel_rfl⟩

set_option maxRecDepth 100000 in
theorem boxes_lifted (os : Os) (started : os.Started) (H : Type) (enc : TypeId × Value → H) :
    ReturnsInHanded {} Tryz.checked os 5 .any (Rows.vectorBoxesSpec.pre6 enc Tryz.prog Tryz.f5 Rows.vectorBoxesRow.domain false) (Rows.vectorBoxesSpec.post enc Tryz.prog Tryz.f5 false true false false) := by
  refine returnsInHanded_of_change (C := Tryz.checked) own started (by kernel_rfl) Tryz.func5
    (ChangeSpec.witness6 (enc := enc) (C := Tryz.checked) false ⟨#[], #[.slice none 0 0, zX, zP], []⟩ 8 (by kernel_rfl) (by kernel_rfl) (by kernel_rfl) (by kernel_rfl)) ?_
  intro W base args ds gs before hval0 hW hcnd _
  have hval : ∀ (j : Nat) t v, Tryz.f5.params[j]? = some t → args[j]? = some v → Value.okWide Tryz.prog W .any base t v := hval0
  have hW' := hW
  obtain ⟨p, q, hA0, hV, rfl, hfz, hnd⟩ := hW
  have hA : DataW.TrodAll enc Tryz.prog W 0 (fun _ => true) true Tryz.f5.params.toList args.toList ds p := hA0
  rw [Tryz.params5] at hA hval
  obtain ⟨v0, vs0, d0, ds0, p0, q0, hargs, rfl, rfl, h0, r0⟩ := trodAll_cons hA
  obtain ⟨v1, vs1, d1, ds1, p1, q1, rfl, rfl, rfl, h1, r1⟩ := trodAll_cons r0
  obtain ⟨v2, vs2, d2, ds2, p2, q2, rfl, rfl, rfl, h2, r2⟩ := trodAll_cons r1
  obtain ⟨rfl, rfl, rfl⟩ := trodAll_nil r2
  obtain rfl : args = #[v0, v1, v2] := by cases args; simp_all
  obtain ⟨rfl, rfl⟩ := trodVars_none hV
  obtain ⟨i, ν, hi, hv0, hH, hν⟩ := open_points ptTy Tryz.underlying38 (hval 0 38 v0 rfl rfl) h0
  obtain ⟨a1, rfl⟩ := open_abox (hval 1 40 v1 rfl rfl)
  obtain ⟨a2, rfl⟩ := open_point (hval 2 25 v2 rfl rfl)
  have lt0 : ∀ x ∈ p0, x.block < W.heap.size := by obtain ⟨m, hm⟩ := h0; exact DataW.trod_lt m _ _ _ hm
  have lt1 : ∀ x ∈ p1, x.block < W.heap.size := by obtain ⟨m, hm⟩ := h1; exact DataW.trod_lt m _ _ _ hm
  have lt2 : ∀ x ∈ p2, x.block < W.heap.size := by obtain ⟨m, hm⟩ := h2; exact DataW.trod_lt m _ _ _ hm
  clear hA0 hval0
  have hargs2 : LRel ν (boxesS.args (i, a1, a2)) [v0, a1.v, a2.v] := .cons hv0 ((allPlain2_spec (l := [XV.v a1, PV.v a2]) rfl).1 ν)
  refine (calls_of_qsnd boxes_ok (i := (i, a1, a2)) hi hargs2 hH hν (b := true) rfl).mono fun e W' ⟨he, bel⟩ => ?_
  subst he
  exact ⟨_, rfl, _, _, _, [], _, [], hW', trodAll_mk1 (shut_bool Tryz.underlying4 _), (trodAll_cons_mk (Below.trod laidOut (by kernel_rfl) (of_decide_eq_true (by kernel_rfl)) h0 bel lt0) (trodAll_cons_mk (Below.trod laidOut (by kernel_rfl) (of_decide_eq_true (by kernel_rfl)) h1 bel lt1) (trodAll_cons_mk (Below.trod laidOut (by kernel_rfl) (of_decide_eq_true (by kernel_rfl)) h2 bel lt2) trodAll_mk0))), rfl, bel.frame _, fun h => by cases h⟩

theorem boxes_holds : Rows.vectorBoxesRow.holds Tryz.pinned (OpenSpec.ofChange Rows.vectorBoxesSpec) :=
  OpenClaim.holds_of_wide 5 Tryz.f5 rfl rfl rfl rfl rfl rfl rfl ⟨rfl, rfl, rfl, rfl, rfl⟩ rfl rfl rfl rfl rfl (by kernel_rfl) Tryz.func5 (by kernel_rfl)
    (of_decide_eq_true (by kernel_rfl)) (by unfold Func.isWrapper; first | (rw [if_pos (by decide +kernel)]; kernel_rfl) | (rw [if_neg (by decide +kernel)]; exact ⟨rfl, rfl⟩))
    (fun os started H enc _ => boxes_lifted os started H enc)
theorem vectorBoxes_proved : Rows.VectorBoxesSaid := boxes_holds
end Go.Proofs.YtaklhgglgabbiaaGreat
