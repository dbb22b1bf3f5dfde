import Derived.Test.YtgakcbdahbagkaaPH
/- Directions sorted. -/
set_option linter.unusedVariables false
set_option linter.unusedSimpArgs false
set_option maxRecDepth 20000
set_option maxHeartbeats 4000000
namespace Go.Proofs.Ytgakcbdahbagkaa
open Go Go.Ae

def Epi : Env := { tt := tt, eqs := [], Φ := fun g => match g with
  | 52 => some (.p cmpPS)
  | _ => none }
theorem Epiok : EnvOk Try.prog Epi := ⟨tt_ok, fun t h => by simp [Epi] at h, (fun g S h => by
  simp only [Epi] at h
  split at h
  · cases h; exact cmpV_ok
  · cases h), fun g F h => by simp [Epi] at h⟩
theorem insS_ok : FTOk Try.prog 93 (wFT (insSS 52)) := by
  refine wft_of Epiok Dok Try.func93 (enters_of Try.func93 (by kernel_rfl) rfl) ?_
  intro ⟨l, c⟩ hp
  have hp : l.length ≤ 12 ∧ ∀ p ∈ l, PV.sz 1048576 p := hp
  obtain ⟨hp, hsz⟩ := hp
  obtain ⟨n, hn⟩ : ∃ n, n = l.length := ⟨_, rfl⟩
  obtain ⟨g, hg⟩ : ∃ g, g = rowsP l := ⟨_, rfl⟩
  have hb : (insSS 52).blks (l, c) = [.flat true n 6 g] := by rw [hn, hg]; rfl
  have hpo : (insSS 52).post (l, c) = [.flat true n 6 (rowsP (sortL cmpV l))] := by rw [hn]; rfl
  rw [hb, show (insSS 52).args (l, c) = [.slice (some ⟨0, 0, none⟩) n c, .int .i64 0, .int .i64 n, .func (.func 52) #[] #[]] from by rw [hn]; rfl]
  rw [← hn] at hp
  conv => whnf
  refine .inl ⟨fun mm tz hz => ∃ (i : Nat) (f : Nat → List Value), Pat [some (.slice (some ⟨0, 0, none⟩) n c), some (.int .i64 0), some (.int .i64 n), some (.func (.func 52) #[] #[]), none, none, none, none, some (.int .i64 i), none, none, none, none, none, none, none, none, none, none, none, none, none, none, none, none, none, none, none, none, none, none, none, none, none, none, none, none, none, none, none, none, none, none, none, none, none, none, none, none, none, none, none, none] tz ∧ hz = [some (.flat true n 6 f)] ∧ n + 1 - i = mm ∧ ((1 ≤ i ∧ i ≤ n + 1) ∧ ∀ r, r < n → f r = rowsP (partL cmpV l i) r), .inr ⟨[0], [0, 1, 2, 3, 8], ?_⟩, ?_⟩
  · conv => whnf
    intro _
    conv => whnf
    refine ⟨_, 1, g, (.keep (.keep (.keep (.keep (.skip (.skip (.skip (.skip (.keep (.skip (.skip (.skip (.skip (.skip (.skip (.skip (.skip (.skip (.skip (.skip (.skip (.skip (.skip (.skip (.skip (.skip (.skip (.skip (.skip (.skip (.skip (.skip (.skip (.skip (.skip (.skip (.skip (.skip (.skip (.skip (.skip (.skip (.skip (.skip (.skip (.skip (.skip (.skip (.skip (.skip (.skip (.skip (.skip (.nil)))))))))))))))))))))))))))))))))))))))))))))))))))))), rfl, rfl, ?_⟩
    exact ⟨⟨Nat.le_refl _, by omega⟩, fun r hr => by rw [partL_one cmpV l (Nat.le_refl 1), hg]⟩
  rintro mm tms _ ⟨i, f, hpat, rfl, rfl, ⟨⟨hi1, hi2⟩, hF⟩⟩
  obtain ⟨az, rfl⟩ : ∃ az : Nat → Value, tms = [.slice (some ⟨0, 0, none⟩) n c, .int .i64 0, .int .i64 n, .func (.func 52) #[] #[], az 4, az 5, az 6, az 7, .int .i64 i, az 9, az 10, az 11, az 12, az 13, az 14, az 15, az 16, az 17, az 18, az 19, az 20, az 21, az 22, az 23, az 24, az 25, az 26, az 27, az 28, az 29, az 30, az 31, az 32, az 33, az 34, az 35, az 36, az 37, az 38, az 39, az 40, az 41, az 42, az 43, az 44, az 45, az 46, az 47, az 48, az 49, az 50, az 51, az 52] := pat_fill hpat
  clear hpat
  conv => whnf
  refine br_intro (fun h1 => ?_) (fun h1 => ?_)
  · have h1 : i < n := by
      have := of_decide_eq_true h1
      omega
    obtain ⟨x, hx⟩ : ∃ x, l[i]? = some x := ⟨_, List.getElem?_eq_getElem (by omega)⟩
    have hxm : x ∈ l := List.mem_of_getElem? hx
    have sx := hsz x hxm
    conv => whnf
    refine .inl ⟨fun mm tz hz => ∃ (j : Nat) (r : List PV) (B : List PV) (f2 : Nat → List Value), Pat [some (.slice (some ⟨0, 0, none⟩) n c), some (.int .i64 0), some (.int .i64 n), some (.func (.func 52) #[] #[]), none, none, none, none, some (.int .i64 i), some (.int .i64 j), none, none, none, none, none, none, none, none, none, none, none, none, none, none, none, none, none, none, none, none, none, none, none, none, none, none, none, none, none, none, none, none, none, none, none, none, none, none, none, none, none, none, none] tz ∧ hz = [some (.flat true n 6 f2)] ∧ j = mm ∧ (∃ L, Mid cmpV l i j x r B L ∧ ∀ q, q < n → f2 q = rowsP L q), .inr ⟨[0], [0, 1, 2, 3, 8, 9], ?_⟩, ?_⟩
    · conv => whnf
      intro _
      conv => whnf
      refine ⟨_, i, srtB cmpV (l.take i), [], f, (.keep (.keep (.keep (.keep (.skip (.skip (.skip (.skip (.keep (.keep (.skip (.skip (.skip (.skip (.skip (.skip (.skip (.skip (.skip (.skip (.skip (.skip (.skip (.skip (.skip (.skip (.skip (.skip (.skip (.skip (.skip (.skip (.skip (.skip (.skip (.skip (.skip (.skip (.skip (.skip (.skip (.skip (.skip (.skip (.skip (.skip (.skip (.skip (.skip (.skip (.skip (.skip (.skip (.nil)))))))))))))))))))))))))))))))))))))))))))))))))))))), rfl, rfl, ?_⟩
      exact ⟨_, Mid.start hx, hF⟩
    rintro mm tms _ ⟨j, r, B, f2, hpat, rfl, rfl, ⟨L, hM, hF2⟩⟩
    obtain ⟨az, rfl⟩ : ∃ az : Nat → Value, tms = [.slice (some ⟨0, 0, none⟩) n c, .int .i64 0, .int .i64 n, .func (.func 52) #[] #[], az 4, az 5, az 6, az 7, .int .i64 i, .int .i64 j, az 10, az 11, az 12, az 13, az 14, az 15, az 16, az 17, az 18, az 19, az 20, az 21, az 22, az 23, az 24, az 25, az 26, az 27, az 28, az 29, az 30, az 31, az 32, az 33, az 34, az 35, az 36, az 37, az 38, az 39, az 40, az 41, az 42, az 43, az 44, az 45, az 46, az 47, az 48, az 49, az 50, az 51, az 52] := pat_fill hpat
    clear hpat
    conv => whnf
    refine .inl ⟨14, [[], [], [0, 1], [0, 1, 2], [0, 1, 2, 3], [0, 1, 2, 3], [0, 1, 2, 3], [0, 1, 2, 3, 5, 6], [0, 1, 2, 3, 5, 6, 7], [0, 1, 2, 3], [0, 1, 2, 3], [0, 1, 2, 3, 10], [0, 1, 2, 3, 9, 10, 11], [0, 1, 2, 3, 9, 10, 11, 12], [0, 1, 2, 3, 4, 5, 6, 7, 8, 9, 10, 11, 12, 13], [0, 1, 2, 3, 4, 5, 6, 7, 8, 9, 10, 11, 12, 13, 14], [0, 1, 2, 3, 4, 5, 6, 7, 8, 9, 10, 11, 12, 13, 14, 15]], by kernel_rfl, ?_⟩
    conv => whnf
    cases r with
    | nil =>
      obtain rfl : j = 0 := hM.len.symm
      rw [show decide (((0 : Nat) : Int) > 0) = false from rfl]
      conv => whnf
      rw [show IntKind.i64.wrap ((i : Int) + 1) = ((i + 1 : Nat) : Int) from by rw [wrapi64 (by omega) (by omega)]; rfl]
      refine .inr ⟨[0], [0, 1, 2, 3, 8], ?_⟩
      conv => whnf
      intro _
      conv => whnf
      refine ⟨_, ?_, i + 1, _, (.keep (.keep (.keep (.keep (.skip (.skip (.skip (.skip (.keep (.skip (.skip (.skip (.skip (.skip (.skip (.skip (.skip (.skip (.skip (.skip (.skip (.skip (.skip (.skip (.skip (.skip (.skip (.skip (.skip (.skip (.skip (.skip (.skip (.skip (.skip (.skip (.skip (.skip (.skip (.skip (.skip (.skip (.skip (.skip (.skip (.skip (.skip (.skip (.skip (.skip (.skip (.skip (.skip (.nil)))))))))))))))))))))))))))))))))))))))))))))))))))))), rfl, rfl, ?_⟩
      · omega
      · exact ⟨⟨by omega, by omega⟩, fun q hq => by rw [hF2 q hq, hM.done rfl]⟩
    | cons y r =>
      obtain ⟨k, hk⟩ : ∃ k, j = k + 1 := ⟨r.length, hM.len.symm⟩
      have hlen : r.length = k := by have := hM.len; simp at this; omega
      have hjn : j ≤ i := by
        have := congrArg List.length hM.acc
        rw [srtB_length, List.length_take, List.length_append, List.length_cons] at this
        omega
      have hall : L = r.reverse ++ y :: x :: (B.reverse ++ l.drop (i + 1)) := by rw [hM.all]; simp
      have rx : f2 j = x.cells := by rw [hF2 j (by omega), rowsP_at (A := r.reverse ++ [y]) (p := x) (R := B.reverse ++ l.drop (i + 1)) (by rw [hall]; simp) (by simp; omega)]
      have ry : f2 k = y.cells := by rw [hF2 k (by omega), rowsP_at (A := r.reverse) hall (by simp; omega)]
      have hym : y ∈ l := by
        have : y ∈ srtB cmpV (l.take i) := by rw [hM.acc]; simp
        exact List.mem_of_mem_take ((srtB_perm cmpV _).mem_iff.1 this)
      have sy := hsz y hym
      rw [show decide (((j : Nat) : Int) > 0) = true from decide_eq_true (by omega)]
      conv => whnf
      refine ⟨⟨by omega, by omega⟩, ?_⟩
      simp only [toNat_cast, rowAdd_eq, Nat.zero_add]
      conv => whnf
      refine ⟨by show j < n; omega, ?_⟩
      conv => whnf
      rw [rx]
      conv => whnf
      have ek : IntKind.i64.wrap ((j : Int) - 1) = (k : Int) := by rw [wrapi64 (by omega) (by omega)]; omega
      rw [ek]
      refine ⟨⟨by omega, by omega⟩, ?_⟩
      simp only [toNat_cast, rowAdd_eq, Nat.zero_add]
      conv => whnf
      refine ⟨by show k < n; omega, ?_⟩
      conv => whnf
      rw [ry]
      conv => whnf
      obtain ⟨z, hz⟩ : ∃ z, z = cmpV x y := ⟨_, rfl⟩
      refine ⟨(x, y), rfl, ⟨sx, sy⟩, ?_⟩
      rw [show cmpPS.val (x, y) = .int .i64 z from by rw [hz]; rfl]
      conv => whnf
      refine br_intro (fun h2 => ?_) (fun h2 => ?_)
      · have h2 : cmpV x y < 0 := by rw [← hz]; exact of_decide_eq_true h2
        conv => whnf
        refine .inr (.inr ⟨15, 1, [[], [], [], [], [3], [], [], [6], [5, 6, 7], [5, 6, 7, 8], [], [], [10, 11], [10, 11, 12], [0, 1, 5, 6, 7, 8, 9, 10, 11, 12, 13], [0, 1, 5, 6, 7, 8, 9, 10, 11, 12, 13, 14], [0, 1, 2, 3, 4, 5, 6, 7, 8, 9, 10, 11, 12, 13, 14, 15], [0, 1, 2, 3, 4, 5, 6, 7, 8, 9, 10, 11, 12, 13, 14, 15, 16]], [2, 3, 4], by kernel_rfl, ?_⟩)
        conv => whnf
        rw [ek]
        refine ⟨⟨by omega, by omega⟩, ?_⟩
        simp only [toNat_cast, rowAdd_eq, Nat.zero_add]
        conv => whnf
        refine ⟨by show k < n; omega, ?_⟩
        conv => whnf
        rw [ry]
        conv => whnf
        refine ⟨⟨by omega, by omega⟩, ?_⟩
        simp only [toNat_cast, rowAdd_eq, Nat.zero_add]
        conv => whnf
        refine ⟨by show j < n; omega, ?_⟩
        conv => whnf
        rw [rx]
        conv => whnf
        refine ⟨⟨by omega, by omega⟩, ?_⟩
        simp only [toNat_cast, rowAdd_eq, Nat.zero_add]
        conv => whnf
        refine ⟨by show j < n; omega, ?_⟩
        conv => whnf
        rw [rx]
        conv => whnf
        refine ⟨⟨by omega, by omega⟩, ?_⟩
        simp only [toNat_cast, rowAdd_eq, Nat.zero_add]
        conv => whnf
        refine ⟨by show k < n; omega, ?_⟩
        conv => whnf
        show putK (if k = j then _ else f2 k) _ _ _
        rw [if_neg (show ¬ k = j by omega), ry]
        conv => whnf
        rw [ek]
        refine .inr ⟨[0], [0, 1, 2, 3, 8, 9], ?_⟩
        conv => whnf
        intro _
        conv => whnf
        refine ⟨_, ?_, k, r, B ++ [y], _, (.keep (.keep (.keep (.keep (.skip (.skip (.skip (.skip (.keep (.keep (.skip (.skip (.skip (.skip (.skip (.skip (.skip (.skip (.skip (.skip (.skip (.skip (.skip (.skip (.skip (.skip (.skip (.skip (.skip (.skip (.skip (.skip (.skip (.skip (.skip (.skip (.skip (.skip (.skip (.skip (.skip (.skip (.skip (.skip (.skip (.skip (.skip (.skip (.skip (.skip (.skip (.skip (.skip (.nil)))))))))))))))))))))))))))))))))))))))))))))))))))))), rfl, rfl, ?_⟩
        · omega
        · exact ⟨_, by have := hM.step h2; rw [show j - 1 = k from by omega] at this; exact this, rows_swap (f := f2) (A := r.reverse) (R := B.reverse ++ l.drop (i + 1)) (j := j) (by simp; omega) (fun q hq => by rw [hF2 q hq, hall]) (fun q => by rw [show j - 1 = k from by omega]; rfl)⟩
      · have h2 : ¬ cmpV x y < 0 := by rw [← hz]; exact of_decide_eq_false h2
        conv => whnf
        rw [show IntKind.i64.wrap ((i : Int) + 1) = ((i + 1 : Nat) : Int) from by rw [wrapi64 (by omega) (by omega)]; rfl]
        refine .inr ⟨[0], [0, 1, 2, 3, 8], ?_⟩
        conv => whnf
        intro _
        conv => whnf
        refine ⟨_, ?_, i + 1, _, (.keep (.keep (.keep (.keep (.skip (.skip (.skip (.skip (.keep (.skip (.skip (.skip (.skip (.skip (.skip (.skip (.skip (.skip (.skip (.skip (.skip (.skip (.skip (.skip (.skip (.skip (.skip (.skip (.skip (.skip (.skip (.skip (.skip (.skip (.skip (.skip (.skip (.skip (.skip (.skip (.skip (.skip (.skip (.skip (.skip (.skip (.skip (.skip (.skip (.skip (.skip (.skip (.skip (.nil)))))))))))))))))))))))))))))))))))))))))))))))))))))), rfl, rfl, ?_⟩
        · omega
        · exact ⟨⟨by omega, by omega⟩, fun q hq => by rw [hF2 q hq, hM.done (ins_stop h2)]⟩
  · have h1 : n ≤ i := by
      have := of_decide_eq_false h1
      omega
    conv => whnf
    exact wres_w1 hb hpo rfl rfl (fun r hr => by rw [hF r hr, partL_end cmpV (by omega)]) (fun r hr => rfl)
def Ep0W : FuncId → Option FT := fun g => match g with
  | 93 => some (wFT (insSS 52))
  | _ => none
def Ep0 : Env := { tt := tt, eqs := [], Ψ := Ep0W, Φ := fun g => match g with
  | 52 => some (.p cmpPS)
  | _ => none }
theorem Ep0ok : EnvOk Try.prog Ep0 := ⟨tt_ok, fun t h => by simp [Ep0] at h, (fun g S h => by
  simp only [Ep0] at h
  split at h
  · cases h; exact cmpV_ok
  · cases h), (fun g F h => by
  simp only [Ep0, Ep0W] at h
  split at h
  · cases h; exact insS_ok
  · cases h)⟩
theorem stab_ok : FTOk Try.prog 86 (wFT (stabS 52)) := by
  refine wft_of Ep0ok Dok Try.func86 (enters_of Try.func86 (by kernel_rfl) rfl) ?_
  intro ⟨l, c⟩ hp
  have hp : l.length ≤ 12 ∧ ∀ p ∈ l, PV.sz 1048576 p := hp
  obtain ⟨hp, hsz⟩ := hp
  obtain ⟨n, hn⟩ : ∃ n, n = l.length := ⟨_, rfl⟩
  obtain ⟨g, hg⟩ : ∃ g, g = rowsP l := ⟨_, rfl⟩
  obtain ⟨gs, hgs⟩ : ∃ g, g = rowsP (sortL cmpV l) := ⟨_, rfl⟩
  have hb : (stabS 52).blks (l, c) = [.flat true n 6 g] := by rw [hn, hg]; rfl
  have hpo : (stabS 52).post (l, c) = [.flat true n 6 gs] := by rw [hn, hgs]; rfl
  have ib : (insSS 52).blks (l, c) = [.flat true n 6 g] := hb
  have ip : (insSS 52).post (l, c) = [.flat true n 6 gs] := hpo
  have ia : (insSS 52).args (l, c) = [.slice (some ⟨0, 0, none⟩) n c, .int .i64 0, .int .i64 n, .func (.func 52) #[] #[]] := by rw [hn]; rfl
  rw [hb, show (stabS 52).args (l, c) = [.slice (some ⟨0, 0, none⟩) n c, .int .i64 n, .func (.func 52) #[] #[]] from by rw [hn]; rfl]
  rw [← hn] at hp
  conv => whnf
  refine .inr ⟨1, ?_⟩
  conv => whnf
  rw [show decide ((20 : Int) ≤ ((n : Nat) : Int)) = false from decide_eq_false (by omega)]
  conv => whnf
  refine ⟨(l, c), [0], by rw [ia]; rfl, ⟨by rw [← hn]; exact hp, hsz⟩, by decide, ?_⟩
  rw [ib, ip, show (insSS 52).val (l, c) = .tuple ⟨[]⟩ from rfl, show (insSS 52).new (l, c) = [] from rfl]
  conv => whnf
  refine ⟨BlkLe.flat_flat (fun h => h) (fun r hr => by rw [hg]; rfl), ?_⟩
  conv => whnf
  refine ⟨_, rfl, ?_⟩
  conv => whnf
  refine .inr ⟨1, ?_⟩
  conv => whnf
  rw [show decide ((20 : Int) < ((n : Nat) : Int)) = false from decide_eq_false (by omega)]
  conv => whnf
  exact wres_w1 hb hpo rfl rfl (fun r hr => rfl) (fun r hr => by rw [hgs]; rfl)
def Ep1W : FuncId → Option FT := fun g => match g with
  | 86 => some (wFT (stabS 52))
  | _ => none
def Ep1 : Env := { tt := tt, eqs := [], Ψ := Ep1W, Φ := fun g => match g with
  | _ => none }
theorem Ep1ok : EnvOk Try.prog Ep1 := ⟨tt_ok, fun t h => by simp [Ep1] at h, (fun g S h => by
  change none = some S at h
  cases h), (fun g F h => by
  simp only [Ep1, Ep1W] at h
  split at h
  · cases h; exact stab_ok
  · cases h)⟩
theorem sortS_ok : FTOk Try.prog 73 (wFT (sortSS 52)) := by
  refine wft_of Ep1ok Dok Try.func73 (enters_of Try.func73 (by kernel_rfl) rfl) ?_
  intro ⟨l, c⟩ hp
  have hp : l.length ≤ 12 ∧ ∀ p ∈ l, PV.sz 1048576 p := hp
  obtain ⟨n, hn⟩ : ∃ n, n = l.length := ⟨_, rfl⟩
  obtain ⟨g, hg⟩ : ∃ g, g = rowsP l := ⟨_, rfl⟩
  obtain ⟨gs, hgs⟩ : ∃ g, g = rowsP (sortL cmpV l) := ⟨_, rfl⟩
  have hb : (sortSS 52).blks (l, c) = [.flat true n 6 g] := by rw [hn, hg]; rfl
  have hpo : (sortSS 52).post (l, c) = [.flat true n 6 gs] := by rw [hn, hgs]; rfl
  have ib : (stabS 52).blks (l, c) = [.flat true n 6 g] := hb
  have ip : (stabS 52).post (l, c) = [.flat true n 6 gs] := hpo
  have ia : (stabS 52).args (l, c) = [.slice (some ⟨0, 0, none⟩) n c, .int .i64 n, .func (.func 52) #[] #[]] := by rw [hn]; rfl
  rw [hb, show (sortSS 52).args (l, c) = [.slice (some ⟨0, 0, none⟩) n c, .func (.func 52) #[] #[]] from by rw [hn]; rfl]
  conv => whnf
  refine ⟨(l, c), [0], by rw [ia]; rfl, hp, by decide, ?_⟩
  rw [ib, ip, show (stabS 52).val (l, c) = .tuple ⟨[]⟩ from rfl, show (stabS 52).new (l, c) = [] from rfl]
  conv => whnf
  refine ⟨BlkLe.flat_flat (fun h => h) (fun r hr => by rw [hg]; rfl), ?_⟩
  conv => whnf
  refine ⟨_, rfl, ?_⟩
  conv => whnf
  exact wres_w1 hb hpo rfl rfl (fun r hr => rfl) (fun r hr => by rw [hgs]; rfl)
def Ep2W : FuncId → Option FT := fun g => match g with
  | 73 => some (wFT (sortSS 52))
  | _ => none
def Ep2 : Env := { tt := tt, eqs := [], Ψ := Ep2W, Φ := fun g => match g with
  | 72 => some (.q cloneS)
  | _ => none }
theorem Ep2ok : EnvOk Try.prog Ep2 := ⟨tt_ok, fun t h => by simp [Ep2] at h, (fun g S h => by
  simp only [Ep2] at h
  split at h
  · cases h; exact clone_ok
  · cases h), (fun g F h => by
  simp only [Ep2, Ep2W] at h
  split at h
  · cases h; exact sortS_ok
  · cases h)⟩
theorem sorted_ok : QSnd Try.prog 51 (sortedS 52) := by
  refine qsnd_of Ep2ok Dok Try.func51 (enters_of Try.func51 (by kernel_rfl) rfl) ?_ ?_ ?_
  · intro i b hb; simp [sortedS] at hb; rw [hb]; rfl
  · intro i b hb; simp [sortedS] at hb; rw [← hb]; rfl
  intro ⟨l, c⟩ hp
  have hp : l.length ≤ 12 ∧ ∀ p ∈ l, PV.sz 1048576 p := hp
  obtain ⟨n, hn⟩ : ∃ n, n = l.length := ⟨_, rfl⟩
  obtain ⟨g, hg⟩ : ∃ g, g = rowsP l := ⟨_, rfl⟩
  obtain ⟨gs, hgs⟩ : ∃ g, g = rowsP (sortL cmpV l) := ⟨_, rfl⟩
  obtain ⟨cu, hcu⟩ : ∃ cu, cu = capU := ⟨_, rfl⟩
  unfold qRes
  rw [show (sortedS 52).blks (l, c) = [.flat false n 6 g] from by rw [hn, hg]; rfl, show (sortedS 52).args (l, c) = [.slice (some ⟨0, 0, none⟩) n c, .func (.func 52) #[] #[]] from by rw [hn]; rfl, show (sortedS 52).val (l, c) = .slice (some ⟨1, 0, none⟩) n cu from by rw [hn, hcu]; rfl, show (sortedS 52).new (l, c) = some (.flat true n 6 gs) from by rw [hn, hgs]; rfl]
  have ib : (sortSS 52).blks (l, cu) = [.flat true n 6 g] := by rw [hn, hg]; rfl
  have ip : (sortSS 52).post (l, cu) = [.flat true n 6 gs] := by rw [hn, hgs]; rfl
  have ia : (sortSS 52).args (l, cu) = [.slice (some ⟨0, 0, none⟩) n cu, .func (.func 52) #[] #[]] := by rw [hn]; rfl
  conv => whnf
  refine ⟨some (l, c), [0], by rw [show cloneS.args (some (l, c)) = [.slice (some ⟨0, 0, none⟩) n c] from by rw [hn]; rfl]; rfl, by show l.length ≤ 1099511627776; omega, ?_⟩
  rw [show cloneS.blks (some (l, c)) = [.flat false n 6 g] from by rw [hn, hg]; rfl, show cloneS.val (some (l, c)) = .slice (some ⟨1, 0, none⟩) n cu from by rw [hn, hcu]; rfl, show cloneS.new (some (l, c)) = some (.flat true n 6 g) from by rw [hn, hg]; rfl]
  conv => whnf
  refine ⟨list_blk hg, ?_⟩
  conv => whnf
  refine ⟨_, rfl, ?_⟩
  conv => whnf
  refine ⟨(l, cu), [1], by rw [ia]; rfl, hp, by decide, ?_⟩
  rw [ib, ip, show (sortSS 52).val (l, cu) = .tuple ⟨[]⟩ from rfl, show (sortSS 52).new (l, cu) = [] from rfl]
  conv => whnf
  refine ⟨BlkLe.flat_flat (fun h => h) (fun r hr => by rw [hg]; rfl), ?_⟩
  conv => whnf
  refine ⟨_, rfl, ?_⟩
  conv => whnf
  refine ⟨1, ?_⟩
  conv => whnf
  exact ⟨⟨rfl, BlkLe.flat_flat (fun h => h) (fun r hr => by rw [hgs]; rfl)⟩, _, rfl, .refl _⟩
def Ep3 : Env := { tt := tt, eqs := [], Φ := fun g => match g with
  | 51 => some (.q (sortedS 52))
  | 13 => some (.p vaddS)
  | _ => none }
theorem Ep3ok : EnvOk Try.prog Ep3 := ⟨tt_ok, fun t h => by simp [Ep3] at h, (fun g S h => by
  simp only [Ep3] at h
  split at h
  · cases h; exact sorted_ok
  · cases h; exact vadd_ok
  · cases h), fun g F h => by simp [Ep3] at h⟩
theorem predSort_ok : QSnd Try.prog 24 predSortS := by
  refine qsnd_of Ep3ok Dok Try.func24 (enters_of Try.func24 (by kernel_rfl) rfl) ?_ ?_ ?_
  · intro i b hb
    cases i with
    | none => simp [predSortS, PL.blks] at hb
    | some i => simp [predSortS, PL.blks] at hb; rw [hb]; rfl
  · intro i b hb
    have hb : (if 1000 < i.list.length then none else some (Blk.flat true i.list.length 6 (rowsP (sortR i.list)))) = some b := hb
    split at hb
    · cases hb
    · rw [← Option.some.inj hb]; rfl
  intro i hp
  have hp : (i.list.length ≤ 12 ∨ 1000 < i.list.length) ∧ i.list.length ≤ 1099511627776 ∧ ∀ p ∈ i.list, p.sz 524288 := hp
  obtain ⟨hp1, hp2, hsz⟩ := hp
  obtain ⟨cu, hcu⟩ : ∃ cu, cu = capU := ⟨_, rfl⟩
  cases i with
  | none =>
    obtain ⟨gz, hgz⟩ : ∃ gz, gz = rowsP (sortL cmpV []) := ⟨_, rfl⟩
    unfold qRes
    rw [show predSortS.blks none = [] from rfl, show predSortS.val none = .tuple ⟨[.slice (some ⟨0, 0, none⟩) 0 cu, .int .i64 0]⟩ from by rw [hcu]; rfl, show predSortS.new none = some (.flat true 0 6 gz) from by rw [hgz]; rfl]
    conv => whnf
    refine ⟨⟨by decide, by decide, by decide⟩, ?_⟩
    conv => whnf
    refine .inr ⟨1, ?_⟩
    conv => whnf
    refine ⟨([], 0), [0], rfl, ⟨by decide, fun p hp => (by cases hp)⟩, ?_⟩
    rw [show (sortedS 52).blks ([], 0) = [.flat false 0 6 (rowsP [])] from rfl, show (sortedS 52).val ([], 0) = .slice (some ⟨1, 0, none⟩) 0 cu from by rw [hcu]; rfl, show (sortedS 52).new ([], 0) = some (.flat true 0 6 gz) from by rw [hgz]; rfl]
    conv => whnf
    refine ⟨BlkLe.flat_rows (fun h => by cases h) (fun r hr => absurd hr (Nat.not_lt_zero r)) (fun r hr => absurd hr (Nat.not_lt_zero r)), ?_⟩
    conv => whnf
    refine ⟨_, rfl, ?_⟩
    conv => whnf
    refine ⟨1, ?_⟩
    conv => whnf
    exact ⟨⟨rfl, BlkLe.flat_flat (fun h => h) (fun r hr => by rw [hgz]; rfl)⟩, _, rfl, .refl _⟩
  | some i =>
    obtain ⟨l, c⟩ := i
    obtain ⟨n, hn⟩ : ∃ n, n = l.length := ⟨_, rfl⟩
    obtain ⟨g, hg⟩ : ∃ g, g = rowsP l := ⟨_, rfl⟩
    obtain ⟨gs, hgs⟩ : ∃ g, g = rowsP (sortR l) := ⟨_, rfl⟩
    have hp1 : n ≤ 12 ∨ 1000 < n := by rw [hn]; exact hp1
    have hp2 : n ≤ 1099511627776 := by rw [hn]; exact hp2
    have hsz : ∀ p ∈ l, p.sz 524288 := hsz
    have eb : predSortS.blks (some (l, c)) = [.flat false n 6 g] := by rw [hn, hg]; rfl
    have ea : predSortS.args (some (l, c)) = [.slice (some ⟨0, 0, none⟩) n c] := by rw [hn]; rfl
    unfold qRes
    by_cases h1 : 1000 < n
    · rw [eb, ea, show predSortS.val (some (l, c)) = .tuple ⟨[.slice none 0 0, .int .i64 4]⟩ from by
        show (if 1000 < l.length then _ else _) = _
        rw [if_pos (by omega)], show predSortS.new (some (l, c)) = none from by
        show (if 1000 < l.length then _ else _) = _
        rw [if_pos (by omega)]]
      conv => whnf
      rw [show decide (((n : Nat) : Int) > 1000) = true from decide_eq_true (by omega)]
      conv => whnf
      exact ⟨_, rfl, .refl _⟩
    · rw [eb, ea, show predSortS.val (some (l, c)) = .tuple ⟨[.slice (some ⟨1, 0, none⟩) n cu, .int .i64 0]⟩ from by
        show (if 1000 < l.length then _ else _) = _
        rw [if_neg (by omega), hn, hcu]; rfl, show predSortS.new (some (l, c)) = some (.flat true n 6 gs) from by
        show (if 1000 < l.length then _ else _) = _
        rw [if_neg (by omega), hn, hgs]; rfl]
      conv => whnf
      rw [show decide (((n : Nat) : Int) > 1000) = false from decide_eq_false (by omega)]
      conv => whnf
      refine ⟨⟨by omega, by omega, by show ((n : Nat) : Int) * ((80 : Nat) : Int) ≤ _; omega⟩, ?_⟩
      conv => whnf
      refine .inl ⟨fun mm tz hz => ∃ (i : Nat) (f : Nat → List Value), Pat [none, none, none, none, some (.slice (some ⟨1, 0, none⟩) n n), none, none, none, none, none, none, none, none, some (.slice (some ⟨0, 0, none⟩) n c), some (.int .i64 n), some (.int .i64 i), none, none, none, none, none, none, none, none, none, none, none, none, none] tz ∧ hz = [some (.flat false n 6 g), some (.flat true n 6 f)] ∧ n - i = mm ∧ (i ≤ n ∧ ∀ r, r < n → f r = if r < i then rowsP (l.map canonP) r else PV.cells (zeroR, zeroR)), .inr ⟨[0, 1], [4, 13, 14, 15], ?_⟩, ?_⟩
      · conv => whnf
        intro _
        conv => whnf
        refine ⟨_, 0, _, (.skip (.skip (.skip (.skip (.keep (.skip (.skip (.skip (.skip (.skip (.skip (.skip (.skip (.keep (.keep (.keep (.skip (.skip (.skip (.skip (.skip (.skip (.skip (.skip (.skip (.skip (.skip (.skip (.skip (.nil)))))))))))))))))))))))))))))), rfl, rfl, ?_⟩
        exact ⟨Nat.zero_le _, fun r hr => by rw [if_neg (by omega)]; rfl⟩
      rintro mm tms _ ⟨i, f, hpat, rfl, rfl, ⟨hi, hF⟩⟩
      obtain ⟨az, rfl⟩ : ∃ az : Nat → Value, tms = [az 0, az 1, az 2, az 3, .slice (some ⟨1, 0, none⟩) n n, az 5, az 6, az 7, az 8, az 9, az 10, az 11, az 12, .slice (some ⟨0, 0, none⟩) n c, .int .i64 n, .int .i64 i, az 16, az 17, az 18, az 19, az 20, az 21, az 22, az 23, az 24, az 25, az 26, az 27, az 28] := pat_fill hpat
      clear hpat
      conv => whnf
      refine br_intro (fun h3 => ?_) (fun h3 => ?_)
      · have h3 : i < n := by
          have := of_decide_eq_true h3
          omega
        obtain ⟨p, hpl, hpm, hrow⟩ := rowsP_get (l := l) (i := i) (by omega)
        rw [← hg] at hrow
        have sp := hsz p hpm
        have hfi : f i = PV.cells (zeroR, zeroR) := by rw [hF i h3, if_neg (by omega)]
        have hci : rowsP (l.map canonP) i = (canonP p).cells := by
          unfold rowsP
          rw [List.getD_eq_getElem?_getD, List.getElem?_map, hpl]; rfl
        obtain ⟨q, hq⟩ : ∃ q, q = canonP p := ⟨_, rfl⟩
        have eq : vaddS.val (p, (zeroR, zeroR)) = q.v := by rw [hq, add_val, add_zeroP]; rfl
        rw [← hq] at hci
        have e7 : IntKind.i64.wrap ((i : Int) + 1) = ((i + 1 : Nat) : Int) := by rw [wrapi64 (by omega) (by omega)]; rfl
        conv => whnf
        refine ⟨⟨by omega, by omega⟩, ?_⟩
        simp only [toNat_cast, rowAdd_eq, Nat.zero_add]
        conv => whnf
        refine ⟨by show i < n; omega, ?_⟩
        conv => whnf
        rw [hrow]
        conv => whnf
        refine ⟨(p, (zeroR, zeroR)), rfl, ⟨PV.sz_mono sp (by decide), zeroR_sz _, zeroR_sz _⟩, ?_⟩
        rw [eq]
        conv => whnf
        refine ⟨⟨by omega, by omega⟩, ?_⟩
        simp only [toNat_cast, rowAdd_eq, Nat.zero_add]
        conv => whnf
        refine ⟨by show i < n; omega, ?_⟩
        conv => whnf
        rw [hfi]
        conv => whnf
        rw [e7]
        refine .inr ⟨[0, 1], [4, 13, 14, 15], ?_⟩
        conv => whnf
        intro _
        conv => whnf
        refine ⟨_, ?_, i + 1, _, (.skip (.skip (.skip (.skip (.keep (.skip (.skip (.skip (.skip (.skip (.skip (.skip (.skip (.keep (.keep (.keep (.skip (.skip (.skip (.skip (.skip (.skip (.skip (.skip (.skip (.skip (.skip (.skip (.skip (.nil)))))))))))))))))))))))))))))), rfl, rfl, ?_⟩
        · omega
        · refine ⟨by omega, fun r hr => ?_⟩
          show (if r = i then q.cells else f r) = _
          by_cases h4 : r = i
          · rw [if_pos h4, if_pos (by omega), h4, hci]
          · rw [if_neg h4, hF r hr]
            by_cases h5 : r < i
            · rw [if_pos h5, if_pos (by omega)]
            · rw [if_neg h5, if_neg (by omega)]
      · have h3 : i = n := by
          have := of_decide_eq_false h3
          omega
        subst h3
        have hln : (l.map canonP).length = i := by rw [List.length_map, ← hn]
        have hcs : ∀ p ∈ l.map canonP, PV.sz 1048576 p := fun p hp => by
          obtain ⟨q, hq, rfl⟩ := List.mem_map.1 hp
          exact ptV_sz (PV.psz (hsz q hq) (by decide)) (by decide)
        conv => whnf
        refine ⟨(l.map canonP, i), [1], by rw [show (sortedS 52).args (l.map canonP, i) = [.slice (some ⟨0, 0, none⟩) i i, .func (.func 52) #[] #[]] from by rw [← hln]; rfl]; rfl, ⟨by show (l.map canonP).length ≤ 12; omega, hcs⟩, ?_⟩
        rw [show (sortedS 52).blks (l.map canonP, i) = [.flat false i 6 (rowsP (l.map canonP))] from by rw [← hln]; rfl, show (sortedS 52).val (l.map canonP, i) = .slice (some ⟨1, 0, none⟩) i cu from by rw [hcu, ← hln]; rfl, show (sortedS 52).new (l.map canonP, i) = some (.flat true i 6 gs) from by rw [hgs, ← hln]; rfl]
        conv => whnf
        refine ⟨BlkLe.flat_rows (fun h => by cases h) (fun r hr => by rw [hF r hr, if_pos hr]) (fun r hr => rfl), ?_⟩
        conv => whnf
        refine ⟨_, rfl, ?_⟩
        conv => whnf
        refine ⟨2, ?_⟩
        conv => whnf
        exact ⟨⟨rfl, BlkLe.flat_flat (fun h => h) (fun r hr => by rw [hgs]; rfl)⟩, _, rfl, .refl _⟩
end Go.Proofs.Ytgakcbdahbagkaa
/- The example of the chapter on predicates. -/
set_option linter.unusedVariables false
set_option linter.unusedSimpArgs false
set_option maxRecDepth 20000
set_option maxHeartbeats 4000000
namespace Go.Proofs.Ytgakcbdahbagkaa
open Go Go.Ae

def Epj : Env := { tt := tt, eqs := eqsL, Φ := fun g => match g with
  | 18 => some (.p vofS)
  | 21 => some (.p centerS)
  | 12 => some (.p orientS)
  | 27 => some (.p betweenS)
  | 20 => some (.p incircleS)
  | 19 => some (.p wedgeS)
  | 24 => some (.q predSortS)
  | 30 => some (.q sameS)
  | _ => none }
theorem Epjok : EnvOk Try.prog Epj := ⟨tt_ok, eqs_ok, (fun g S h => by
  simp only [Epj] at h
  split at h
  · cases h; exact vof_ok
  · cases h; exact center_ok
  · cases h; exact orient_ok
  · cases h; exact between_ok
  · cases h; exact incircle_ok
  · cases h; exact wedge_ok
  · cases h; exact predSort_ok
  · cases h; exact same_ok
  · cases h), fun g F h => by simp [Epj] at h⟩
theorem awake7_ok : Snd Try.prog 11 awakeS := by
  refine snd_of Epjok Dok Try.func11 (enters_of Try.func11 (by kernel_rfl) rfl) (fun _ => rfl) (fun _ => rfl) ?_
  intro _ hp
  conv => whnf
  obtain ⟨o, co, eo, po, so, qo⟩ := hidePc (ofsz (0) (0) (by decide) (by decide))
  refine ⟨(((0 : Int), (0 : Int)) : Int × Int), rfl, ⟨⟨by decide, by decide⟩, ⟨by decide, by decide⟩⟩, ?_⟩
  rw [show vofS.val (((0 : Int), (0 : Int)) : Int × Int) = o.v from eo]
  conv => whnf
  obtain ⟨a, ca, ea, pa, sa, qa⟩ := hidePc (ofsz (2) (0) (by decide) (by decide))
  refine ⟨(((2 : Int), (0 : Int)) : Int × Int), rfl, ⟨⟨by decide, by decide⟩, ⟨by decide, by decide⟩⟩, ?_⟩
  rw [show vofS.val (((2 : Int), (0 : Int)) : Int × Int) = a.v from ea]
  conv => whnf
  obtain ⟨b, cb, eb, pb, sb, qb⟩ := hidePc (ofsz (0) (2) (by decide) (by decide))
  refine ⟨(((0 : Int), (2 : Int)) : Int × Int), rfl, ⟨⟨by decide, by decide⟩, ⟨by decide, by decide⟩⟩, ?_⟩
  rw [show vofS.val (((0 : Int), (2 : Int)) : Int × Int) = b.v from eb]
  conv => whnf
  obtain ⟨c, cc, ec, pc, sc, qc⟩ := hidePc (ofsz 1 1 (by decide) (by decide))
  have hc : cenV o.p a.p b.p = (ptV (((1 : Int) : Rat), ((1 : Int) : Rat)), 0) := by
    rw [po, pa, pb]
    unfold cenV
    rw [if_neg (by decide +kernel)]
    congr 2
    decide +kernel
  refine ⟨(o, a, b), rfl, ⟨PV.sz_mono so (by decide), PV.sz_mono sa (by decide), PV.sz_mono sb (by decide)⟩, ?_⟩
  rw [show centerS.val (o, a, b) = .tuple ⟨[c.v, .int .i64 0]⟩ from by
    show Value.tuple ⟨[(cenV o.p a.p b.p).1.v, .int .i64 (cenV o.p a.p b.p).2]⟩ = _
    rw [hc, ← ec]]
  conv => whnf
  refine .inl ⟨23, [[], [], [], [0, 1, 2], [0, 1, 2, 3], [0, 1, 2, 3, 4], [0, 1, 2, 3, 4, 5], [0, 1, 2, 3, 4, 5], [0, 1, 2, 3, 4, 5], [0, 1, 2, 3, 4, 5, 6, 7, 8], [0, 1, 2, 3, 4, 5, 6, 7, 8, 9], [0, 1, 2, 3, 4, 5, 6, 7, 8, 9, 10], [0, 1, 2, 3, 4, 5, 6, 7, 8, 9, 10, 11], [0, 1, 2, 3, 4, 5, 6, 7, 8, 9, 10, 11, 12], [0, 1, 2, 3, 4, 5, 6, 7, 8, 9, 10, 11, 12, 13], [0, 1, 2, 3, 4, 5, 6, 7, 8, 9, 10, 11, 12, 13, 14], [0, 1, 2, 3, 4, 5, 6, 7, 8, 9, 10, 11, 12, 13, 14, 15], [0, 1, 2, 3, 4, 5, 6, 7, 8, 9, 10, 11, 12, 13, 14, 15], [0, 1, 2, 3, 4, 5, 6, 7, 8, 9, 10, 11, 12, 13, 14, 15, 16, 17], [0, 1, 2, 3, 4, 5, 6, 7, 8, 9, 10, 11, 12, 13, 14, 15, 16, 17, 18], [0, 1, 2, 3, 4, 5, 6, 7, 8, 9, 10, 11, 12, 13, 14, 15, 16, 17, 18, 19], [0, 1, 2, 3, 4, 5, 6, 7, 8, 9, 10, 11, 12, 13, 14, 15, 16, 17, 18, 19, 20], [0, 1, 2, 3, 4, 5, 6, 7, 8, 9, 10, 11, 12, 13, 14, 15, 16, 17, 18, 19, 20], [0, 1, 2, 3, 4, 5, 6, 7, 8, 9, 10, 11, 12, 13, 14, 15, 16, 17, 18, 19, 20, 21, 22], [0, 1, 2, 3, 4, 5, 6, 7, 8, 9, 10, 11, 12, 13, 14, 15, 16, 17, 18, 19, 20, 21, 22, 23], [0, 1, 2, 3, 4, 5, 6, 7, 8, 9, 10, 11, 12, 13, 14, 15, 16, 17, 18, 19, 20, 21, 22, 23, 24]], by kernel_rfl, ?_⟩
  conv => whnf
  refine ⟨(o, a, b), rfl, ⟨PV.sz_mono so (by decide), PV.sz_mono sa (by decide), PV.sz_mono sb (by decide)⟩, ?_⟩
  rw [show orientS.val (o, a, b) = .int .i64 (1) from congrArg (Value.int .i64) (show cmpQ (orR o.p a.p b.p) 0 = 1 from by rw [po, pa, pb]; decide +kernel)]
  conv => whnf
  obtain ⟨u, cu, eu, pu, su, qu⟩ := hidePc (ofsz (1) (1) (by decide) (by decide))
  refine ⟨(((1 : Int), (1 : Int)) : Int × Int), rfl, ⟨⟨by decide, by decide⟩, ⟨by decide, by decide⟩⟩, ?_⟩
  rw [show vofS.val (((1 : Int), (1 : Int)) : Int × Int) = u.v from eu]
  conv => whnf
  refine ⟨(a, b, u), rfl, ⟨PV.sz_mono sa (by decide), PV.sz_mono sb (by decide), PV.sz_mono su (by decide)⟩, ?_⟩
  rw [show betweenS.val (a, b, u) = .bool (true) from congrArg (Value.bool) (show decide (betR a.p b.p u.p) = true from by rw [pa, pb, pu]; decide +kernel)]
  conv => whnf
  obtain ⟨w, cw, ew, pw, sw, qw⟩ := hidePc (ofsz (1) (1) (by decide) (by decide))
  refine ⟨(((1 : Int), (1 : Int)) : Int × Int), rfl, ⟨⟨by decide, by decide⟩, ⟨by decide, by decide⟩⟩, ?_⟩
  rw [show vofS.val (((1 : Int), (1 : Int)) : Int × Int) = w.v from ew]
  conv => whnf
  rw [eqPQ c w, show decide (c = w) = true from decide_eq_true (cc.trans cw.symm)]
  conv => whnf
  rw [eqPQ c o, show decide (c = o) = false from decide_eq_false (fun h => by
    have := congrArg PV.p h
    rw [pc, po] at this
    exact absurd this (by decide +kernel))]
  conv => whnf
  refine .inl ⟨22, [[], [0], [0, 1], [0, 1], [0, 1], [0, 1], [0, 1, 2, 3, 4, 5], [0, 1, 2, 3, 4, 5, 6], [0, 1, 2, 3, 4, 5, 6, 7], [0, 1, 2, 3, 4, 5, 6, 7, 8], [0, 1, 2, 3, 4, 5, 6, 7, 8, 9], [0, 1, 2, 3, 4, 5, 6, 7, 8, 9], [0, 1, 2, 3, 4, 5, 6, 7, 8, 9], [0, 1, 2, 3, 4, 5, 6, 7, 8, 9], [0, 1, 2, 3, 4, 5, 6, 7, 8, 9, 10, 11, 12, 13], [0, 1, 2, 3, 4, 5, 6, 7, 8, 9, 10, 11, 12, 13, 14], [0, 1, 2, 3, 4, 5, 6, 7, 8, 9, 10, 11, 12, 13, 14, 15], [0, 1, 2, 3, 4, 5, 6, 7, 8, 9, 10, 11, 12, 13, 14, 15, 16], [0, 1, 2, 3, 4, 5, 6, 7, 8, 9, 10, 11, 12, 13, 14, 15, 16, 17], [0, 1, 2, 3, 4, 5, 6, 7, 8, 9, 10, 11, 12, 13, 14, 15, 16, 17], [0, 1, 2, 3, 4, 5, 6, 7, 8, 9, 10, 11, 12, 13, 14, 15, 16, 17], [0, 1, 2, 3, 4, 5, 6, 7, 8, 9, 10, 11, 12, 13, 14, 15, 16, 17], [0, 1, 2, 3, 4, 5, 6, 7, 8, 9, 10, 11, 12, 13, 14, 15, 16, 17, 18, 19, 20, 21], [0, 1, 2, 3, 4, 5, 6, 7, 8, 9, 10, 11, 12, 13, 14, 15, 16, 17, 18, 19, 20, 21, 22], [0, 1, 2, 3, 4, 5, 6, 7, 8, 9, 10, 11, 12, 13, 14, 15, 16, 17, 18, 19, 20, 21, 22, 23], [0, 1, 2, 3, 4, 5, 6, 7, 8, 9, 10, 11, 12, 13, 14, 15, 16, 17, 18, 19, 20, 21, 22, 23, 24]], by kernel_rfl, ?_⟩
  conv => whnf
  obtain ⟨v2, cv2, ev2, pv2, sv2, qv2⟩ := hidePc (ofsz (2) (2) (by decide) (by decide))
  refine ⟨(((2 : Int), (2 : Int)) : Int × Int), rfl, ⟨⟨by decide, by decide⟩, ⟨by decide, by decide⟩⟩, ?_⟩
  rw [show vofS.val (((2 : Int), (2 : Int)) : Int × Int) = v2.v from ev2]
  conv => whnf
  refine ⟨(o, a, b, v2), rfl, ⟨PV.sz_mono so (by decide), PV.sz_mono sa (by decide), PV.sz_mono sb (by decide), PV.sz_mono sv2 (by decide)⟩, ?_⟩
  rw [show incircleS.val (o, a, b, v2) = .int .i64 (0) from congrArg (Value.int .i64) (show cmpQ (icR o.p a.p b.p v2.p) 0 = 0 from by rw [po, pa, pb, pv2]; decide +kernel)]
  conv => whnf
  obtain ⟨v3, cv3, ev3, pv3, sv3, qv3⟩ := hidePc (ofsz (3) (3) (by decide) (by decide))
  refine ⟨(((3 : Int), (3 : Int)) : Int × Int), rfl, ⟨⟨by decide, by decide⟩, ⟨by decide, by decide⟩⟩, ?_⟩
  rw [show vofS.val (((3 : Int), (3 : Int)) : Int × Int) = v3.v from ev3]
  conv => whnf
  refine ⟨(o, a, b, v3), rfl, ⟨PV.sz_mono so (by decide), PV.sz_mono sa (by decide), PV.sz_mono sb (by decide), PV.sz_mono sv3 (by decide)⟩, ?_⟩
  rw [show incircleS.val (o, a, b, v3) = .int .i64 ((-1)) from congrArg (Value.int .i64) (show cmpQ (icR o.p a.p b.p v3.p) 0 = (-1) from by rw [po, pa, pb, pv3]; decide +kernel)]
  conv => whnf
  refine ⟨(o, a, b, c), rfl, ⟨PV.sz_mono so (by decide), PV.sz_mono sa (by decide), PV.sz_mono sb (by decide), PV.sz_mono sc (by decide)⟩, ?_⟩
  rw [show incircleS.val (o, a, b, c) = .int .i64 (1) from congrArg (Value.int .i64) (show cmpQ (icR o.p a.p b.p c.p) 0 = 1 from by rw [po, pa, pb, pc]; decide +kernel)]
  conv => whnf
  obtain ⟨p1, cp1, ep1, pp1, sp1, qp1⟩ := hidePc (ofsz (0) (-1) (by decide) (by decide))
  refine ⟨(((0 : Int), (-1 : Int)) : Int × Int), rfl, ⟨⟨by decide, by decide⟩, ⟨by decide, by decide⟩⟩, ?_⟩
  rw [show vofS.val (((0 : Int), (-1 : Int)) : Int × Int) = p1.v from ep1]
  conv => whnf
  obtain ⟨p2, cp2, ep2, pp2, sp2, qp2⟩ := hidePc (ofsz (-1) (0) (by decide) (by decide))
  refine ⟨(((-1 : Int), (0 : Int)) : Int × Int), rfl, ⟨⟨by decide, by decide⟩, ⟨by decide, by decide⟩⟩, ?_⟩
  rw [show vofS.val (((-1 : Int), (0 : Int)) : Int × Int) = p2.v from ep2]
  conv => whnf
  obtain ⟨p3, cp3, ep3, pp3, sp3, qp3⟩ := hidePc (ofsz (0) (5) (by decide) (by decide))
  refine ⟨(((0 : Int), (5 : Int)) : Int × Int), rfl, ⟨⟨by decide, by decide⟩, ⟨by decide, by decide⟩⟩, ?_⟩
  rw [show vofS.val (((0 : Int), (5 : Int)) : Int × Int) = p3.v from ep3]
  conv => whnf
  obtain ⟨p4, cp4, ep4, pp4, sp4, qp4⟩ := hidePc (ofsz (1) (0) (by decide) (by decide))
  refine ⟨(((1 : Int), (0 : Int)) : Int × Int), rfl, ⟨⟨by decide, by decide⟩, ⟨by decide, by decide⟩⟩, ?_⟩
  rw [show vofS.val (((1 : Int), (0 : Int)) : Int × Int) = p4.v from ep4]
  conv => whnf
  obtain ⟨p5, cp5, ep5, pp5, sp5, qp5⟩ := hidePc (ofsz (1) (1) (by decide) (by decide))
  refine ⟨(((1 : Int), (1 : Int)) : Int × Int), rfl, ⟨⟨by decide, by decide⟩, ⟨by decide, by decide⟩⟩, ?_⟩
  rw [show vofS.val (((1 : Int), (1 : Int)) : Int × Int) = p5.v from ep5]
  conv => whnf
  have hS : sortR [p1, p2, p3, p4, p5] = [p4, p5, p3, p2, p1] := by
    unfold sortR
    have hcan : List.map canonP [p1, p2, p3, p4, p5] = [p1, p2, p3, p4, p5] := by
      show [ptV p1.p, ptV p2.p, ptV p3.p, ptV p4.p, ptV p5.p] = _
      rw [pp1, pp2, pp3, pp4, pp5, ← cp1, ← cp2, ← cp3, ← cp4, ← cp5]
    rw [hcan]
    have e : ∀ (x y : PV) (q r : Q2), x.p = q → y.p = r → cmpV x y = cmp2 q r := fun x y q r h1 h2 => by rw [← h1, ← h2]; rfl
    have c12 : cmpV p2 p1 < 0 := by rw [e _ _ _ _ pp2 pp1]; decide +kernel
    have c31 : cmpV p3 p1 < 0 := by rw [e _ _ _ _ pp3 pp1]; decide +kernel
    have c32 : cmpV p3 p2 < 0 := by rw [e _ _ _ _ pp3 pp2]; decide +kernel
    have c41 : cmpV p4 p1 < 0 := by rw [e _ _ _ _ pp4 pp1]; decide +kernel
    have c42 : cmpV p4 p2 < 0 := by rw [e _ _ _ _ pp4 pp2]; decide +kernel
    have c43 : cmpV p4 p3 < 0 := by rw [e _ _ _ _ pp4 pp3]; decide +kernel
    have c51 : cmpV p5 p1 < 0 := by rw [e _ _ _ _ pp5 pp1]; decide +kernel
    have c52 : cmpV p5 p2 < 0 := by rw [e _ _ _ _ pp5 pp2]; decide +kernel
    have c53 : cmpV p5 p3 < 0 := by rw [e _ _ _ _ pp5 pp3]; decide +kernel
    have c54 : ¬ cmpV p5 p4 < 0 := by rw [e _ _ _ _ pp5 pp4]; decide +kernel
    simp [sortL, srtB, insB, c12, c31, c32, c41, c42, c43, c51, c52, c53, c54]
  obtain ⟨cu, hcu⟩ : ∃ cu, cu = capU := ⟨_, rfl⟩
  obtain ⟨gs, hgs⟩ : ∃ g, g = rowsP [p4, p5, p3, p2, p1] := ⟨_, rfl⟩
  refine ⟨some ([p1, p2, p3, p4, p5], 5), [_], rfl, ⟨.inl (by show 5 ≤ 12; decide), by show 5 ≤ 1099511627776; decide, fun p hp => ?_⟩, ?_⟩
  · have hp : p ∈ [p1, p2, p3, p4, p5] := hp
    simp only [List.mem_cons, List.mem_nil_iff, or_false] at hp
    rcases hp with rfl | rfl | rfl | rfl | rfl
    · exact PV.sz_mono sp1 (by decide)
    · exact PV.sz_mono sp2 (by decide)
    · exact PV.sz_mono sp3 (by decide)
    · exact PV.sz_mono sp4 (by decide)
    · exact PV.sz_mono sp5 (by decide)
  rw [show predSortS.blks (some ([p1, p2, p3, p4, p5], 5)) = [.flat false 5 6 (rowsP [p1, p2, p3, p4, p5])] from rfl, show predSortS.val (some ([p1, p2, p3, p4, p5], 5)) = .tuple ⟨[.slice (some ⟨1, 0, none⟩) 5 cu, .int .i64 0]⟩ from by rw [hcu]; rfl, show predSortS.new (some ([p1, p2, p3, p4, p5], 5)) = some (.flat true 5 6 gs) from by
    rw [hgs, ← hS]; rfl]
  conv => whnf
  refine ⟨lit_blk [p1, p2, p3, p4, p5], ?_⟩
  conv => whnf
  refine ⟨_, rfl, ?_⟩
  conv => whnf
  obtain ⟨x, cx, ex, px, sx, qx⟩ := hidePc (ofsz (1) (0) (by decide) (by decide))
  refine ⟨(((1 : Int), (0 : Int)) : Int × Int), rfl, ⟨⟨by decide, by decide⟩, ⟨by decide, by decide⟩⟩, ?_⟩
  rw [show vofS.val (((1 : Int), (0 : Int)) : Int × Int) = x.v from ex]
  conv => whnf
  obtain ⟨y, cy, ey, py, sy, qy⟩ := hidePc (ofsz (0) (1) (by decide) (by decide))
  refine ⟨(((0 : Int), (1 : Int)) : Int × Int), rfl, ⟨⟨by decide, by decide⟩, ⟨by decide, by decide⟩⟩, ?_⟩
  rw [show vofS.val (((0 : Int), (1 : Int)) : Int × Int) = y.v from ey]
  conv => whnf
  refine .inl ⟨18, [[], [0], [0, 1], [0, 1], [0, 1], [0, 1, 2, 3, 4], [0, 1, 2, 3, 4, 5], [0, 1, 2, 3, 4, 5, 6], [0, 1, 2, 3, 4, 5, 6, 7], [0, 1, 2, 3, 4, 5, 6, 7], [0, 1, 2, 3, 4, 5, 6, 7], [0, 1, 2, 3, 4, 5, 6, 7, 8, 9, 10], [0, 1, 2, 3, 4, 5, 6, 7, 8, 9, 10, 11], [0, 1, 2, 3, 4, 5, 6, 7, 8, 9, 10, 11, 12], [0, 1, 2, 3, 4, 5, 6, 7, 8, 9, 10, 11, 12, 13], [0, 1, 2, 3, 4, 5, 6, 7, 8, 9, 10, 11, 12, 13, 14], [0, 1, 2, 3, 4, 5, 6, 7, 8, 9, 10, 11, 12, 13, 14], [0, 1, 2, 3, 4, 5, 6, 7, 8, 9, 10, 11, 12, 13, 14], [0, 1, 2, 3, 4, 5, 6, 7, 8, 9, 10, 11, 12, 13, 14, 15, 16, 17], [0, 1, 2, 3, 4, 5, 6, 7, 8, 9, 10, 11, 12, 13, 14, 15, 16, 17, 18], [0, 1, 2, 3, 4, 5, 6, 7, 8, 9, 10, 11, 12, 13, 14, 15, 16, 17, 18, 19]], by kernel_rfl, ?_⟩
  conv => whnf
  obtain ⟨u1, cu1, eu1, pu1, su1, qu1⟩ := hidePc (ofsz (1) (1) (by decide) (by decide))
  refine ⟨(((1 : Int), (1 : Int)) : Int × Int), rfl, ⟨⟨by decide, by decide⟩, ⟨by decide, by decide⟩⟩, ?_⟩
  rw [show vofS.val (((1 : Int), (1 : Int)) : Int × Int) = u1.v from eu1]
  conv => whnf
  refine ⟨(x, y, u1), rfl, ⟨PV.sz_mono sx (by decide), PV.sz_mono sy (by decide), PV.sz_mono su1 (by decide)⟩, ?_⟩
  rw [show wedgeS.val (x, y, u1) = .bool (true) from congrArg (Value.bool) (show decide (wedR x.p y.p u1.p) = true from by rw [px, py, pu1]; decide +kernel)]
  conv => whnf
  obtain ⟨u2, cu2, eu2, pu2, su2, qu2⟩ := hidePc (ofsz (1) (1) (by decide) (by decide))
  refine ⟨(((1 : Int), (1 : Int)) : Int × Int), rfl, ⟨⟨by decide, by decide⟩, ⟨by decide, by decide⟩⟩, ?_⟩
  rw [show vofS.val (((1 : Int), (1 : Int)) : Int × Int) = u2.v from eu2]
  conv => whnf
  refine ⟨(y, x, u2), rfl, ⟨PV.sz_mono sy (by decide), PV.sz_mono sx (by decide), PV.sz_mono su2 (by decide)⟩, ?_⟩
  rw [show wedgeS.val (y, x, u2) = .bool (false) from congrArg (Value.bool) (show decide (wedR y.p x.p u2.p) = false from by rw [px, py, pu2]; decide +kernel)]
  conv => whnf
  obtain ⟨u3, cu3, eu3, pu3, su3, qu3⟩ := hidePc (ofsz (-1) (-1) (by decide) (by decide))
  refine ⟨(((-1 : Int), (-1 : Int)) : Int × Int), rfl, ⟨⟨by decide, by decide⟩, ⟨by decide, by decide⟩⟩, ?_⟩
  rw [show vofS.val (((-1 : Int), (-1 : Int)) : Int × Int) = u3.v from eu3]
  conv => whnf
  refine ⟨(y, x, u3), rfl, ⟨PV.sz_mono sy (by decide), PV.sz_mono sx (by decide), PV.sz_mono su3 (by decide)⟩, ?_⟩
  rw [show wedgeS.val (y, x, u3) = .bool (true) from congrArg (Value.bool) (show decide (wedR y.p x.p u3.p) = true from by rw [px, py, pu3]; decide +kernel)]
  conv => whnf
  refine .inl ⟨13, [[], [0], [0, 1], [0, 1, 2], [0, 1, 2, 3], [0, 1, 2, 3, 4], [0, 1, 2, 3, 4, 5], [0, 1, 2, 3, 4, 5], [0, 1, 2, 3, 4, 5], [0, 1, 2, 3, 4, 5, 8], [0, 1, 2, 3, 4, 5, 8, 9], [0, 1, 2, 3, 4, 5, 8, 9, 10], [0, 1, 2, 3, 4, 5, 7, 8, 9, 10, 11], [0, 1, 2, 3, 4, 5, 6, 7, 8, 9, 10, 11, 12], [0, 1, 2, 3, 4, 5, 6, 7, 8, 9, 10, 11, 12, 13], [0, 1, 2, 3, 4, 5, 6, 7, 8, 9, 10, 11, 12, 13, 14]], by kernel_rfl, ?_⟩
  conv => whnf
  obtain ⟨r1, cr1, er1, pr1, sr1, qr1⟩ := hidePc (ofsz (1) (1) (by decide) (by decide))
  refine ⟨(((1 : Int), (1 : Int)) : Int × Int), rfl, ⟨⟨by decide, by decide⟩, ⟨by decide, by decide⟩⟩, ?_⟩
  rw [show vofS.val (((1 : Int), (1 : Int)) : Int × Int) = r1.v from er1]
  conv => whnf
  obtain ⟨r2, cr2, er2, pr2, sr2, qr2⟩ := hidePc (ofsz (0) (5) (by decide) (by decide))
  refine ⟨(((0 : Int), (5 : Int)) : Int × Int), rfl, ⟨⟨by decide, by decide⟩, ⟨by decide, by decide⟩⟩, ?_⟩
  rw [show vofS.val (((0 : Int), (5 : Int)) : Int × Int) = r2.v from er2]
  conv => whnf
  obtain ⟨r3, cr3, er3, pr3, sr3, qr3⟩ := hidePc (ofsz (-1) (0) (by decide) (by decide))
  refine ⟨(((-1 : Int), (0 : Int)) : Int × Int), rfl, ⟨⟨by decide, by decide⟩, ⟨by decide, by decide⟩⟩, ?_⟩
  rw [show vofS.val (((-1 : Int), (0 : Int)) : Int × Int) = r3.v from er3]
  conv => whnf
  obtain ⟨r4, cr4, er4, pr4, sr4, qr4⟩ := hidePc (ofsz (0) (-1) (by decide) (by decide))
  refine ⟨(((0 : Int), (-1 : Int)) : Int × Int), rfl, ⟨⟨by decide, by decide⟩, ⟨by decide, by decide⟩⟩, ?_⟩
  rw [show vofS.val (((0 : Int), (-1 : Int)) : Int × Int) = r4.v from er4]
  conv => whnf
  have hL : [p4, p5, p3, p2, p1] = [x, r1, r2, r3, r4] := by rw [cp1, cp2, cp3, cp4, cp5, cx, cr1, cr2, cr3, cr4]
  refine ⟨(some ([p4, p5, p3, p2, p1], cu), some ([x, r1, r2, r3, r4], 5)), [_, _], rfl, ⟨by show 5 ≤ 1099511627776; decide, by show 5 ≤ 1099511627776; decide⟩, ?_⟩
  rw [show sameS.blks (some ([p4, p5, p3, p2, p1], cu), some ([x, r1, r2, r3, r4], 5)) = [.flat false 5 6 (rowsP [p4, p5, p3, p2, p1]), .flat false 5 6 (rowsP [x, r1, r2, r3, r4])] from rfl, show sameS.val (some ([p4, p5, p3, p2, p1], cu), some ([x, r1, r2, r3, r4], 5)) = .bool true from congrArg Value.bool (decide_eq_true hL), show sameS.new (some ([p4, p5, p3, p2, p1], cu), some ([x, r1, r2, r3, r4], 5)) = none from rfl]
  conv => whnf
  refine ⟨BlkLe.flat_rows (fun h => by cases h) (fun r hr => by rw [hgs]) (fun r hr => rfl), lit_blk [x, r1, r2, r3, r4], ?_⟩
  conv => whnf
  refine ⟨.bool true, rfl, ?_⟩
  conv => whnf
  rfl
end Go.Proofs.Ytgakcbdahbagkaa
/- The laws of predicates: orientations, circles. -/
set_option linter.unusedVariables false
set_option linter.unusedSimpArgs false
set_option maxRecDepth 20000
set_option maxHeartbeats 4000000
namespace Go.Proofs.Ytgakcbdahbagkaa
open Go Go.Ae

def Epl : Env := { tt := tt, eqs := eqsL, Φ := fun g => match g with
  | 11 => some (.p awakeS)
  | 10 => some (.q (bigS 12))
  | 12 => some (.p orientS)
  | 20 => some (.p incircleS)
  | 21 => some (.p centerS)
  | 27 => some (.p betweenS)
  | 28 => some (.p insideS)
  | 14 => some (.p angleS)
  | 19 => some (.p wedgeS)
  | 24 => some (.q predSortS)
  | 13 => some (.p vaddS)
  | 15 => some (.p vscaleS)
  | 25 => some (.p vatS)
  | 18 => some (.p vofS)
  | 17 => some (.p vcmpS)
  | 22 => some (.p vdistS)
  | 23 => some (.p qcmpS)
  | 26 => some (.p qsignS)
  | 16 => some (.p qofS)
  | _ => none }
theorem Eplok : EnvOk Try.prog Epl := ⟨tt_ok, eqs_ok, (fun g S h => by
  simp only [Epl] at h
  split at h
  · cases h; exact awake7_ok
  · cases h; exact big7l_ok
  · cases h; exact orient_ok
  · cases h; exact incircle_ok
  · cases h; exact center_ok
  · cases h; exact between_ok
  · cases h; exact inside_ok
  · cases h; exact angle_ok
  · cases h; exact wedge_ok
  · cases h; exact predSort_ok
  · cases h; exact vadd_ok
  · cases h; exact vscale_ok
  · cases h; exact vat_ok
  · cases h; exact vof_ok
  · cases h; exact vcmp_ok
  · cases h; exact vdist_ok
  · cases h; exact qcmp_ok
  · cases h; exact qsign_ok
  · cases h; exact qof_ok
  · cases h), fun g F h => by simp [Epl] at h⟩

theorem pOrientation_ok : Snd Try.prog 3 law4S := by
  refine snd_of Eplok Dok Try.func3 (enters_of Try.func3 (by kernel_rfl) rfl) (fun _ => rfl) (fun _ => rfl) ?_
  intro ⟨a, b, c, v⟩ hp
  conv => whnf
  obtain ⟨G, hG⟩ : ∃ G, G = anyBig 12 [a, b, c, v] := ⟨_, rfl⟩
  refine ⟨some ([a, b, c, v], 4), [4], rfl, by show 4 ≤ 1099511627776; decide, ?_⟩
  rw [show (bigS 12).blks (some ([a, b, c, v], 4)) = [.flat false 4 6 (rowsP [a, b, c, v])] from rfl, show (bigS 12).val (some ([a, b, c, v], 4)) = .bool G from by rw [hG]; rfl, show (bigS 12).new (some ([a, b, c, v], 4)) = none from rfl]
  conv => whnf
  refine ⟨lit_blk [a, b, c, v], ?_⟩
  conv => whnf
  refine ⟨.bool G, rfl, ?_⟩
  have hsz := fun h => anyBig_false (hG.symm.trans h)
  clear hG
  cases hG2 : G
  · have sa : PV.sz 12 a := hsz hG2 a (by simp)
    have qa := PV.psz sa (by decide)
    have sb : PV.sz 12 b := hsz hG2 b (by simp)
    have qb := PV.psz sb (by decide)
    have sc : PV.sz 12 c := hsz hG2 c (by simp)
    have qc := PV.psz sc (by decide)
    have sv : PV.sz 12 v := hsz hG2 v (by simp)
    have qv := PV.psz sv (by decide)
    conv => whnf
    obtain ⟨s, es, ps⟩ := hideZ (cmpQ (orR a.p b.p c.p) 0)
    refine ⟨(a, b, c), rfl, ⟨PV.sz_mono sa (by decide), PV.sz_mono sb (by decide), PV.sz_mono sc (by decide)⟩, ?_⟩
    rw [show orientS.val (a, b, c) = .int .i64 s from es]
    conv => whnf
    have hs := cmpQ_range (orR a.p b.p c.p) 0
    rw [← ps] at hs
    have hn : (s == IntKind.i64.wrap (0 - (-s))) = true := by rcases hs with rfl | rfl | rfl <;> decide
    refine .inl ⟨8, [[], [], [0, 1], [], [], [0, 1, 2, 3, 4], [], [], [0, 1, 2, 3, 4, 5, 6, 7], [0, 1, 2, 3, 4, 5, 6, 7, 8], [0, 1, 2, 3, 4, 5, 6, 7, 8, 9]], by kernel_rfl, ?_⟩
    conv => whnf
    obtain ⟨a', ea', pa', sa', qa'⟩ := hideP (add_sz qa qv)
    refine ⟨(a, v), rfl, ⟨PV.sz_mono sa (by decide), PV.sz_mono sv (by decide)⟩, ?_⟩
    rw [show vaddS.val (a, v) = a'.v from ea']
    conv => whnf
    obtain ⟨b', eb', pb', sb', qb'⟩ := hideP (add_sz qb qv)
    refine ⟨(b, v), rfl, ⟨PV.sz_mono sb (by decide), PV.sz_mono sv (by decide)⟩, ?_⟩
    rw [show vaddS.val (b, v) = b'.v from eb']
    conv => whnf
    obtain ⟨c', ec', pc', sc', qc'⟩ := hideP (add_sz qc qv)
    refine ⟨(c, v), rfl, ⟨PV.sz_mono sc (by decide), PV.sz_mono sv (by decide)⟩, ?_⟩
    rw [show vaddS.val (c, v) = c'.v from ec']
    conv => whnf
    refine ⟨(a', b', c'), rfl, ⟨PV.sz_mono sa' (by decide), PV.sz_mono sb' (by decide), PV.sz_mono sc' (by decide)⟩, ?_⟩
    rw [show orientS.val (a', b', c') = .int .i64 (s) from congrArg (Value.int .i64) (show cmpQ (orR a'.p b'.p c'.p) 0 = s from by rw [pa', pb', pc', or_move, ps])]
    conv => whnf
    refine ⟨(b, c, a), rfl, ⟨PV.sz_mono sb (by decide), PV.sz_mono sc (by decide), PV.sz_mono sa (by decide)⟩, ?_⟩
    rw [show orientS.val (b, c, a) = .int .i64 (s) from congrArg (Value.int .i64) (show cmpQ (orR b.p c.p a.p) 0 = s from by rw [or_rot, ps])]
    conv => whnf
    rw [show (s == s) = true from by simp]
    conv => whnf
    refine ⟨(b, a, c), rfl, ⟨PV.sz_mono sb (by decide), PV.sz_mono sa (by decide), PV.sz_mono sc (by decide)⟩, ?_⟩
    rw [show orientS.val (b, a, c) = .int .i64 ((-s)) from congrArg (Value.int .i64) (show cmpQ (orR b.p a.p c.p) 0 = (-s) from by rw [or_swap, cmpQ_neg', ps])]
    conv => whnf
    rw [hn]
    conv => whnf
    refine ⟨(a, c, b), rfl, ⟨PV.sz_mono sa (by decide), PV.sz_mono sc (by decide), PV.sz_mono sb (by decide)⟩, ?_⟩
    rw [show orientS.val (a, c, b) = .int .i64 ((-s)) from congrArg (Value.int .i64) (show cmpQ (orR a.p c.p b.p) 0 = (-s) from by rw [or_swap2, cmpQ_neg', ps])]
    conv => whnf
    rw [hn]
    conv => whnf
    rw [show (s == s) = true from by simp]
    conv => whnf
    rw [show decide (s ≥ -1) = true from decide_eq_true (by omega)]
    conv => whnf
    rw [show decide (s ≤ 1) = true from decide_eq_true (by omega)]
    conv => whnf
    refine ⟨(), rfl, trivial, ?_⟩
    conv => whnf
    rfl
  · conv => whnf
    refine ⟨(), rfl, trivial, ?_⟩
    conv => whnf
    rfl
theorem pCircle_ok : Snd Try.prog 6 law4S := by
  refine snd_of Eplok Dok Try.func6 (enters_of Try.func6 (by kernel_rfl) rfl) (fun _ => rfl) (fun _ => rfl) ?_
  intro ⟨a, b, c, d⟩ hp
  conv => whnf
  obtain ⟨G, hG⟩ : ∃ G, G = anyBig 12 [a, b, c, d] := ⟨_, rfl⟩
  refine ⟨some ([a, b, c, d], 4), [4], rfl, by show 4 ≤ 1099511627776; decide, ?_⟩
  rw [show (bigS 12).blks (some ([a, b, c, d], 4)) = [.flat false 4 6 (rowsP [a, b, c, d])] from rfl, show (bigS 12).val (some ([a, b, c, d], 4)) = .bool G from by rw [hG]; rfl, show (bigS 12).new (some ([a, b, c, d], 4)) = none from rfl]
  conv => whnf
  refine ⟨lit_blk [a, b, c, d], ?_⟩
  conv => whnf
  refine ⟨.bool G, rfl, ?_⟩
  have hsz := fun h => anyBig_false (hG.symm.trans h)
  clear hG
  cases hG2 : G
  · have sa : PV.sz 12 a := hsz hG2 a (by simp)
    have qa := PV.psz sa (by decide)
    have sb : PV.sz 12 b := hsz hG2 b (by simp)
    have qb := PV.psz sb (by decide)
    have sc : PV.sz 12 c := hsz hG2 c (by simp)
    have qc := PV.psz sc (by decide)
    have sd : PV.sz 12 d := hsz hG2 d (by simp)
    have qd := PV.psz sd (by decide)
    conv => whnf
    obtain ⟨s, es, ps⟩ := hideZ (cmpQ (icR a.p b.p c.p d.p) 0)
    refine ⟨(a, b, c, d), rfl, ⟨PV.sz_mono sa (by decide), PV.sz_mono sb (by decide), PV.sz_mono sc (by decide), PV.sz_mono sd (by decide)⟩, ?_⟩
    rw [show incircleS.val (a, b, c, d) = .int .i64 s from es]
    conv => whnf
    have hs := cmpQ_range (icR a.p b.p c.p d.p) 0
    rw [← ps] at hs
    have hn : (s != IntKind.i64.wrap (0 - (-s))) = false := by rcases hs with rfl | rfl | rfl <;> decide
    refine ⟨(b, a, c, d), rfl, ⟨PV.sz_mono sb (by decide), PV.sz_mono sa (by decide), PV.sz_mono sc (by decide), PV.sz_mono sd (by decide)⟩, ?_⟩
    rw [show incircleS.val (b, a, c, d) = .int .i64 ((-s)) from congrArg (Value.int .i64) (show cmpQ (icR b.p a.p c.p d.p) 0 = (-s) from by rw [ic_swap, cmpQ_neg', ps])]
    conv => whnf
    rw [hn]
    conv => whnf
    refine ⟨(a, b, d, c), rfl, ⟨PV.sz_mono sa (by decide), PV.sz_mono sb (by decide), PV.sz_mono sd (by decide), PV.sz_mono sc (by decide)⟩, ?_⟩
    rw [show incircleS.val (a, b, d, c) = .int .i64 ((-s)) from congrArg (Value.int .i64) (show cmpQ (icR a.p b.p d.p c.p) 0 = (-s) from by rw [ic_swap2, cmpQ_neg', ps])]
    conv => whnf
    rw [hn]
    conv => whnf
    refine ⟨(b, c, a, d), rfl, ⟨PV.sz_mono sb (by decide), PV.sz_mono sc (by decide), PV.sz_mono sa (by decide), PV.sz_mono sd (by decide)⟩, ?_⟩
    rw [show incircleS.val (b, c, a, d) = .int .i64 (s) from congrArg (Value.int .i64) (show cmpQ (icR b.p c.p a.p d.p) 0 = s from by rw [ic_rot, ps])]
    conv => whnf
    rw [show (s != s) = false from by simp]
    conv => whnf
    obtain ⟨m, e, hme, sm⟩ := cen_hide qa qb qc
    have qm := PV.psz sm (by decide)
    refine ⟨(a, b, c), rfl, ⟨PV.sz_mono sa (by decide), PV.sz_mono sb (by decide), PV.sz_mono sc (by decide)⟩, ?_⟩
    rw [show centerS.val (a, b, c) = .tuple ⟨[m.v, .int .i64 e]⟩ from by
      show Value.tuple ⟨[(cenV a.p b.p c.p).1.v, .int .i64 (cenV a.p b.p c.p).2]⟩ = _
      rw [hme]]
    conv => whnf
    obtain ⟨o, eo, po⟩ := hideZ (cmpQ (orR a.p b.p c.p) 0)
    refine ⟨(a, b, c), rfl, ⟨PV.sz_mono sa (by decide), PV.sz_mono sb (by decide), PV.sz_mono sc (by decide)⟩, ?_⟩
    rw [show orientS.val (a, b, c) = .int .i64 o from eo]
    conv => whnf
    have ho := cmpQ_range (orR a.p b.p c.p) 0
    rw [← po] at ho
    by_cases h0 : orR a.p b.p c.p = 0
    · have ho0 : o = 0 := by rw [po]; exact cmpQ_eq h0
      unfold cenV at hme
      rw [if_pos h0] at hme
      obtain ⟨rfl, rfl⟩ : (zeroR, zeroR) = m ∧ (12 : Int) = e := ⟨congrArg Prod.fst hme, congrArg Prod.snd hme⟩
      subst ho0
      conv => whnf
      generalize hE : eqCells _ _ = E
      obtain rfl : E = true := by rw [← hE]; exact eqP (zeroR, zeroR)
      conv => whnf
      refine ⟨(), rfl, trivial, ?_⟩
      conv => whnf
      rfl
    · have ho0 : o ≠ 0 := by rw [po]; exact fun h => h0 (cmpQ_zero.1 h)
      unfold cenV at hme
      rw [if_neg h0] at hme
      have hm0 : m = ptV (cenR a.p b.p c.p) := (congrArg Prod.fst hme).symm
      obtain rfl : (0 : Int) = e := congrArg Prod.snd hme
      rw [show (o != 0) = true from by simp [ho0]]
      have pm : m.p = cenR a.p b.p c.p := by rw [hm0, ptV_p]
      obtain ⟨hn1, hn2⟩ := cen_near h0
      have hside := circle_side d.p h0
      conv => whnf
      obtain ⟨r, er, pr, sr, qr⟩ := hideR (dst_sz qm qa)
      refine ⟨(m, a), rfl, ⟨PV.sz_mono sm (by decide), PV.sz_mono sa (by decide)⟩, ?_⟩
      rw [show vdistS.val (m, a) = r.v from (dist_val m a).trans er]
      conv => whnf
      refine .inl ⟨11, [[], [], [], [1, 2], [0, 1, 2, 3], [0, 1, 2, 3, 4], [0, 1, 2, 3, 4, 5], [0, 1, 2, 3, 4, 5, 6], [0, 1, 2, 3, 4, 5, 6], [0, 1, 2, 3, 4, 5, 6], [0, 1, 2, 3, 4, 5, 6, 8, 9], [0, 1, 2, 3, 4, 5, 6, 7, 8, 9, 10], [0, 1, 2, 3, 4, 5, 6, 7, 8, 9, 10, 11], [0, 1, 2, 3, 4, 5, 6, 7, 8, 9, 10, 11, 12]], by kernel_rfl, ?_⟩
      conv => whnf
      obtain ⟨r1, er1, pr1, sr1, qr1⟩ := hideR (dst_sz qm qb)
      refine ⟨(m, b), rfl, ⟨PV.sz_mono sm (by decide), PV.sz_mono sb (by decide)⟩, ?_⟩
      rw [show vdistS.val (m, b) = r1.v from (dist_val m b).trans er1]
      conv => whnf
      refine ⟨(r, r1), rfl, ⟨RV.sz_ok sr (by decide), RV.sz_ok sr1 (by decide)⟩, ?_⟩
      rw [show qcmpS.val (r, r1) = .int .i64 (0) from congrArg (Value.int .i64) (show cmpQ r.q r1.q = 0 from by rw [pr, pr1, pm, hn1]; exact cmpQ_eq rfl)]
      conv => whnf
      obtain ⟨r2, er2, pr2, sr2, qr2⟩ := hideR (dst_sz qm qc)
      refine ⟨(m, c), rfl, ⟨PV.sz_mono sm (by decide), PV.sz_mono sc (by decide)⟩, ?_⟩
      rw [show vdistS.val (m, c) = r2.v from (dist_val m c).trans er2]
      conv => whnf
      refine ⟨(r, r2), rfl, ⟨RV.sz_ok sr (by decide), RV.sz_ok sr2 (by decide)⟩, ?_⟩
      rw [show qcmpS.val (r, r2) = .int .i64 (0) from congrArg (Value.int .i64) (show cmpQ r.q r2.q = 0 from by rw [pr, pr2, pm, hn2]; exact cmpQ_eq rfl)]
      conv => whnf
      refine .inl ⟨8, [[], [], [], [1, 2], [0, 1, 2, 3], [], [], [5, 6], [0, 1, 2, 3, 4, 5, 6, 7], [0, 1, 2, 3, 4, 5, 6, 7, 8], [0, 1, 2, 3, 4, 5, 6, 7, 8, 9], [0, 1, 2, 3, 4, 5, 6, 7, 8, 9, 10], [0, 1, 2, 3, 4, 5, 6, 7, 8, 9, 10, 11]], by kernel_rfl, ?_⟩
      conv => whnf
      obtain ⟨r3, er3, pr3, sr3, qr3⟩ := hideR (dst_sz qm qd)
      refine ⟨(m, d), rfl, ⟨PV.sz_mono sm (by decide), PV.sz_mono sd (by decide)⟩, ?_⟩
      rw [show vdistS.val (m, d) = r3.v from (dist_val m d).trans er3]
      conv => whnf
      refine ⟨(r, r3), rfl, ⟨RV.sz_ok sr (by decide), RV.sz_ok sr3 (by decide)⟩, ?_⟩
      rw [show qcmpS.val (r, r3) = .int .i64 ((o * s)) from congrArg (Value.int .i64) (show cmpQ r.q r3.q = (o * s) from by rw [pr, pr3, pm, hside, po, ps])]
      conv => whnf
      rw [show IntKind.i64.wrap (o * s) = o * s from by rcases ho with rfl | rfl | rfl <;> rcases hs with rfl | rfl | rfl <;> rfl, show (o * s == o * s) = true from by simp]
      conv => whnf
      refine ⟨(), rfl, trivial, ?_⟩
      conv => whnf
      rfl
  · conv => whnf
    refine ⟨(), rfl, trivial, ?_⟩
    conv => whnf
    rfl
end Go.Proofs.Ytgakcbdahbagkaa
