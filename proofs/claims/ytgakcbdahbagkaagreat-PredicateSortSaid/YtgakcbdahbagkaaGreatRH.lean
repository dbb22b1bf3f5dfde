import Derived.Test.YtgakcbdahbagkaaGreatRG
/- Contracts of rational: digits, ratios. -/
set_option linter.unusedVariables false
set_option linter.unusedSimpArgs false
set_option maxRecDepth 20000
set_option maxHeartbeats 1000000
namespace Go.Proofs.YtgakcbdahbagkaaGreat
open Go Go.Ae

theorem text_ok : Snd Tryz.prog 98 textS := by
  refine snd_of E0ok Dok Tryz.func98 (enters_of Tryz.func98 (by kernel_rfl) rfl) (fun _ => rfl) (fun _ => rfl) ?_
  intro (n : Nat) hp
  have hp : n < 72057594037927936 := hp
  conv => whnf
  refine .inl ⟨fun mm tz hz => ∃ (i : Nat) (m : Nat) (g : Nat → List Value), Pat [some (.int .i64 m), none, none, some (.pointer (some ⟨0, 0, none⟩)), some (.int .i64 i), none, none, none, none, none, none, none, none, none, none, none, none, none] tz ∧ hz = [some (.flat true 8 1 g)] ∧ m = mm ∧ ((i ≤ 8 ∧ m = n / C ^ (8 - i)) ∧ (i = 8 ∨ C ^ (8 - i - 1) ≤ n) ∧ (∀ r, i ≤ r → r < 8 → g r = [.int .u8 ((n / C ^ (7 - r) % C : Nat) : Int)]) ∧ (∀ r, r < 8 → ∃ x : Int, g r = [.int .u8 x])), .inl ⟨_, 8, n, _, (.keep (.skip (.skip (.keep (.keep (.skip (.skip (.skip (.skip (.skip (.skip (.skip (.skip (.skip (.skip (.skip (.skip (.skip (.nil))))))))))))))))))), rfl, rfl, ?_⟩, ?_⟩
  · exact ⟨⟨Nat.le_refl _, by simp⟩, .inl rfl, fun r h1 h2 => absurd h1 (by omega), fun r hr => ⟨0, rfl⟩⟩
  rintro mm tms _ ⟨i, m, g, hpat, rfl, rfl, ⟨⟨hi, hm⟩, ho, hg, hall⟩⟩
  obtain ⟨az, rfl⟩ : ∃ az : Nat → Value, tms = [.int .i64 m, az 1, az 2, .pointer (some ⟨0, 0, none⟩), .int .i64 i, az 5, az 6, az 7, az 8, az 9, az 10, az 11, az 12, az 13, az 14, az 15, az 16, az 17] := pat_fill hpat
  clear hpat
  conv => whnf
  refine br_intro (fun h2 => ?_) (fun h2 => ?_)
  · have h2 : 0 < m := by
      have := of_decide_eq_true h2
      omega
    have hi0 : 0 < i := by
      rcases Nat.eq_zero_or_pos i with h | h
      · subst h
        rw [hm] at h2
        rw [mag8 (by omega)] at h2
        exact absurd h2 (by decide)
      · exact h
    obtain ⟨i, rfl⟩ : ∃ i', i = i' + 1 := ⟨i - 1, by omega⟩
    have ei : IntKind.i64.wrap (((i + 1 : Nat) : Int) - 1) = ((i : Nat) : Int) := by rw [wrapi64 (by omega) (by omega)]; omega
    have hm2 : m / 256 = n / C ^ (8 - i) := by
      rw [hm, div_pow_succ, show 8 - (i + 1) + 1 = 8 - i by omega]
    have hlow : C ^ (8 - (i + 1)) ≤ n := by
      rcases Nat.lt_or_ge n (C ^ (8 - (i + 1))) with h | h
      · rw [hm, Nat.div_eq_of_lt h] at h2
        exact absurd h2 (by decide)
      · exact h
    conv => whnf
    simp only [ei]
    refine ⟨⟨by omega, by omega⟩, ?_⟩
    simp only [toNat_cast, rowAdd_eq, Nat.zero_add]
    conv => whnf
    refine ⟨by show i < 8; omega, ?_⟩
    conv => whnf
    obtain ⟨x, hx⟩ := hall i (by omega)
    rw [hx]
    conv => whnf
    rw [u8_mod, shr_i64_8, show ((m : Nat) : Int) / 256 = ((m / 256 : Nat) : Int) from rfl]
    refine .inl ⟨_, ?_, i, m / 256, _, (.keep (.skip (.skip (.keep (.keep (.skip (.skip (.skip (.skip (.skip (.skip (.skip (.skip (.skip (.skip (.skip (.skip (.skip (.nil))))))))))))))))))), rfl, rfl, ?_⟩
    · omega
    · refine ⟨⟨by omega, hm2⟩, .inr (by rw [show 8 - i - 1 = 8 - (i + 1) by omega]; exact hlow), fun r hr1 hr2 => ?_, fun r hr => ?_⟩
      rotate_left
      · by_cases he : r = i
        · exact ⟨_, if_pos he⟩
        · rw [if_neg he]; exact hall r hr
      by_cases he : r = i
      · subst he
        rw [if_pos rfl, hm, show 7 - r = 8 - (r + 1) by omega]
      · rw [if_neg he]
        exact hg r (by omega) hr2
  · have h2 : m = 0 := by
      have := of_decide_eq_false h2
      omega
    have hlt : n < C ^ (8 - i) := by
      rw [h2] at hm
      have h3 := Nat.mod_lt n (Cpos (8 - i))
      have h4 := Nat.mod_add_div n (C ^ (8 - i))
      rw [← hm, Nat.mul_zero, Nat.add_zero] at h4
      rw [← h4]; exact h3
    rcases Nat.eq_zero_or_pos (8 - i) with hz | hz
    · have h0 : n = 0 := by
        rw [hz, Nat.pow_zero] at hlt; omega
      obtain rfl : i = 8 := by omega
      subst h0
      conv => whnf
      refine ⟨⟨by omega, by omega, Int.le_refl _, Nat.le_refl _, rfl⟩, ?_⟩
      conv => whnf
      show Value.string ⟨#[]⟩ = Value.string (nb 0)
      rw [nb_zero]
    · obtain ⟨k, hk⟩ : ∃ k, 8 - i = k + 1 := ⟨8 - i - 1, by omega⟩
      rw [hk] at hlt
      have ho : C ^ k ≤ n := by
        rcases ho with h | h
        · omega
        · rw [show 8 - i - 1 = k by omega] at h; exact h
      have e := bytesOf_from (g := g) (i := i) (m := k + 1) (X := n) (fun r hr => by
        rw [hg (i + r) (by omega) (by omega), show 7 - (i + r) = k + 1 - 1 - r by omega])
      conv => whnf
      refine ⟨⟨by omega, by omega, Int.le_refl _, Nat.le_refl _, rfl⟩, ?_⟩
      simp only [toNat_cast, rowAdd_eq, Nat.zero_add, hk]
      conv => whnf
      refine ⟨⟨by show i + (k + 1) ≤ 8; omega, fun r hr => hall (i + r) (by omega)⟩, ?_⟩
      conv => whnf
      show Value.string ⟨⟨bytesOf g i (k + 1)⟩⟩ = Value.string (nb n)
      rw [e, nb_be hlt (.inr ho)]

theorem rdigits_ok : Snd Tryz.prog 104 textS := by
  refine snd_of E0ok Dok Tryz.func104 (enters_of Tryz.func104 (by kernel_rfl) rfl) (fun _ => rfl) (fun _ => rfl) ?_
  intro (n : Nat) hp
  have hp : n < 72057594037927936 := hp
  conv => whnf
  refine .inl ⟨fun mm tz hz => ∃ (e : Nat) (k : Int) (out : Value) (hp : Heap), Pat [some (.int .i64 n), none, none, some (out), some (.int .i64 k), none, none, none, none, none, none, none, none, none, none, none, none, none, none, none, none, none, none, none, none, none, none, none, none, none] tz ∧ hz = hp ∧ e = mm ∧ ((e ≤ 7 ∧ k = 8 * (e : Int) - 8) ∧ ((out = .slice none 0 0 ∧ hp = [] ∧ n / C ^ e = 0) ∨ (∃ m g, out = .slice (some ⟨0, 0, none⟩) m capU ∧ hp = [some (.flat true m 1 g)] ∧ (1 ≤ m ∧ m ≤ 7 - e) ∧ n / C ^ e < C ^ m ∧ C ^ (m - 1) ≤ n / C ^ e ∧ ∀ r, r < m → g r = [.int .u8 ((n / C ^ e / C ^ (m - 1 - r) % C : Nat) : Int)]))), .inl ⟨_, 7, 48, .slice none 0 0, [], (.keep (.skip (.skip (.keep (.keep (.skip (.skip (.skip (.skip (.skip (.skip (.skip (.skip (.skip (.skip (.skip (.skip (.skip (.skip (.skip (.skip (.skip (.skip (.skip (.skip (.skip (.skip (.skip (.skip (.skip (.nil))))))))))))))))))))))))))))))), rfl, rfl, ?_⟩, ?_⟩
  · exact ⟨⟨Nat.le_refl _, rfl⟩, .inl ⟨rfl, rfl, pow7' hp⟩⟩
  rintro mm tms _ ⟨e, k, out, hp, hpat, rfl, rfl, ⟨⟨he, hk⟩, h⟩⟩
  obtain ⟨az, rfl⟩ : ∃ az : Nat → Value, tms = [.int .i64 n, az 1, az 2, out, .int .i64 k, az 5, az 6, az 7, az 8, az 9, az 10, az 11, az 12, az 13, az 14, az 15, az 16, az 17, az 18, az 19, az 20, az 21, az 22, az 23, az 24, az 25, az 26, az 27, az 28, az 29] := pat_fill hpat
  clear hpat
  rcases h with ⟨rfl, rfl, hz⟩ | ⟨m, g, rfl, rfl, hm, hl1, hl2, hg⟩
  · conv => whnf
    refine br_intro (fun h1 => ?_) (fun h1 => ?_)
    · have h1 := of_decide_eq_true h1
      obtain ⟨e, rfl⟩ : ∃ e', e = e' + 1 := ⟨e - 1, by omega⟩
      have hsh := shrk (n := n) k (e := e) (by omega) (by omega)
      obtain ⟨P, hP⟩ : ∃ P, P = n / C ^ e := ⟨_, rfl⟩
      rw [← hP] at hsh
      obtain ⟨D, hD⟩ : ∃ D, D = P % 256 := ⟨_, rfl⟩
      have ed : Int.tmod ((P : Nat) : Int) 256 = ((D : Nat) : Int) := by rw [hD]; rfl
      have hsp := digit_split n e
      rw [hz, ← hP, ← hD] at hsp
      have hk2 : IntKind.i64.wrap (k - 8) = 8 * (e : Int) - 8 := by rw [wrapi64 (by omega) (by omega)]; omega
      conv => whnf
      rw [show decide (0 ≤ k) = true from decide_eq_true (by omega)]
      conv => whnf
      rw [hsh, ed]
      by_cases h2 : 0 < D
      · rw [show decide (((D : Nat) : Int) > 0) = true from decide_eq_true (by omega)]
        conv => whnf
        rw [show decide (0 ≤ k) = true from decide_eq_true (by omega)]
        conv => whnf
        rw [hsh, u8_of (show P < 256 by omega)]
        refine ⟨by decide, ?_⟩
        conv => whnf
        rw [hk2]
        refine .inr ⟨[1], [0, 3, 4], ?_⟩
        conv => whnf
        intro _
        conv => whnf
        refine ⟨_, ?_, e, 8 * (e : Int) - 8, .slice (some ⟨0, 0, none⟩) 1 capU, [some (.flat true 1 1 _)], (.keep (.skip (.skip (.keep (.keep (.skip (.skip (.skip (.skip (.skip (.skip (.skip (.skip (.skip (.skip (.skip (.skip (.skip (.skip (.skip (.skip (.skip (.skip (.skip (.skip (.skip (.skip (.skip (.skip (.skip (.nil))))))))))))))))))))))))))))))), rfl, rfl, ?_⟩
        · omega
        · refine ⟨⟨by omega, rfl⟩, .inr ⟨1, _, rfl, rfl, ⟨Nat.le_refl _, by omega⟩, by rw [← hP]; show P < 256; omega, by rw [← hP]; show 1 ≤ P; omega, fun r hr => ?_⟩⟩
          have h0 : r = 0 := by omega
          subst h0
          rw [← hP]
          have : P / C ^ (1 - 1 - 0) % C = P := by
            show P / 1 % 256 = P
            omega
          rw [this]
          rfl
      · rw [show decide (((D : Nat) : Int) > 0) = false from decide_eq_false (by omega)]
        conv => whnf
        rw [hk2]
        refine .inl ⟨_, ?_, e, 8 * (e : Int) - 8, .slice none 0 0, [], (.keep (.skip (.skip (.keep (.keep (.skip (.skip (.skip (.skip (.skip (.skip (.skip (.skip (.skip (.skip (.skip (.skip (.skip (.skip (.skip (.skip (.skip (.skip (.skip (.skip (.skip (.skip (.skip (.skip (.skip (.nil))))))))))))))))))))))))))))))), rfl, rfl, ?_⟩
        · omega
        · exact ⟨⟨by omega, rfl⟩, .inl ⟨rfl, rfl, by rw [← hP]; omega⟩⟩
    · have h1 := of_decide_eq_false h1
      obtain rfl : e = 0 := by omega
      have hn0 : n = 0 := by simpa using hz
      subst hn0
      conv => whnf
      show Value.string ⟨#[]⟩ = Value.string (nb 0)
      rw [nb_zero]
  · conv => whnf
    refine br_intro (fun h1 => ?_) (fun h1 => ?_)
    · have h1 := of_decide_eq_true h1
      obtain ⟨e, rfl⟩ : ∃ e', e = e' + 1 := ⟨e - 1, by omega⟩
      have hsh := shrk (n := n) k (e := e) (by omega) (by omega)
      obtain ⟨P, hP⟩ : ∃ P, P = n / C ^ e := ⟨_, rfl⟩
      obtain ⟨Q, hQ⟩ : ∃ Q, Q = n / C ^ (e + 1) := ⟨_, rfl⟩
      rw [← hP] at hsh
      obtain ⟨D, hD⟩ : ∃ D, D = P % 256 := ⟨_, rfl⟩
      have ed : Int.tmod ((P : Nat) : Int) 256 = ((D : Nat) : Int) := by rw [hD]; rfl
      have hDlt : D < 256 := by omega
      have hsp := digit_split n e
      rw [← hP, ← hD, ← hQ] at hsp
      rw [← hQ] at hl1 hl2 hg
      have g1 := push_lt hl1 hDlt
      have g2 := push_ge (d := D) hl2 hm.1
      rw [← hsp] at g1 g2
      have hk2 : IntKind.i64.wrap (k - 8) = 8 * (e : Int) - 8 := by rw [wrapi64 (by omega) (by omega)]; omega
      conv => whnf
      rw [show decide (0 ≤ k) = true from decide_eq_true (by omega)]
      conv => whnf
      rw [hsh, ed]
      by_cases h2 : 0 < D
      · rw [show decide (((D : Nat) : Int) > 0) = true from decide_eq_true (by omega)]
        conv => whnf
        rw [show decide (0 ≤ k) = true from decide_eq_true (by omega)]
        conv => whnf
        rw [hsh, u8_mod]
        refine ⟨⟨by decide, rfl, ?_⟩, ?_⟩
        · show (m + 1) * 1 ≤ _
          omega
        conv => whnf
        refine ⟨[0, 4], ?_⟩
        conv => whnf
        intro _
        conv => whnf
        rw [hk2]
        refine .inr ⟨[0], [0, 3, 4], ?_⟩
        conv => whnf
        intro _
        conv => whnf
        refine ⟨_, ?_, e, 8 * (e : Int) - 8, .slice (some ⟨0, 0, none⟩) (m + 1) capU, [some (.flat true (m + 1) 1 _)], (.keep (.skip (.skip (.keep (.keep (.skip (.skip (.skip (.skip (.skip (.skip (.skip (.skip (.skip (.skip (.skip (.skip (.skip (.skip (.skip (.skip (.skip (.skip (.skip (.skip (.skip (.skip (.skip (.skip (.skip (.nil))))))))))))))))))))))))))))))), rfl, rfl, ?_⟩
        · omega
        · refine ⟨⟨by omega, rfl⟩, .inr ⟨m + 1, _, rfl, rfl, ⟨by omega, by omega⟩, by rw [← hP]; exact g1, by rw [← hP]; exact g2, fun r hr => ?_⟩⟩
          rw [← hP]
          exact push_rows hsp hDlt hg r hr
      · rw [show decide (((D : Nat) : Int) > 0) = false from decide_eq_false (by omega)]
        conv => whnf
        refine br_yes ?_ ?_
        · exact decide_eq_true (by omega)
        conv => whnf
        rw [show decide (0 ≤ k) = true from decide_eq_true (by omega)]
        conv => whnf
        rw [hsh, u8_mod]
        refine ⟨⟨by decide, rfl, ?_⟩, ?_⟩
        · show (m + 1) * 1 ≤ _
          omega
        conv => whnf
        refine ⟨[0, 4], ?_⟩
        conv => whnf
        intro _
        conv => whnf
        rw [hk2]
        refine .inr ⟨[0], [0, 3, 4], ?_⟩
        conv => whnf
        intro _
        conv => whnf
        refine ⟨_, ?_, e, 8 * (e : Int) - 8, .slice (some ⟨0, 0, none⟩) (m + 1) capU, [some (.flat true (m + 1) 1 _)], (.keep (.skip (.skip (.keep (.keep (.skip (.skip (.skip (.skip (.skip (.skip (.skip (.skip (.skip (.skip (.skip (.skip (.skip (.skip (.skip (.skip (.skip (.skip (.skip (.skip (.skip (.skip (.skip (.skip (.skip (.nil))))))))))))))))))))))))))))))), rfl, rfl, ?_⟩
        · omega
        · refine ⟨⟨by omega, rfl⟩, .inr ⟨m + 1, _, rfl, rfl, ⟨by omega, by omega⟩, by rw [← hP]; exact g1, by rw [← hP]; exact g2, fun r hr => ?_⟩⟩
          rw [← hP]
          exact push_rows hsp hDlt hg r hr
    · have h1 := of_decide_eq_false h1
      obtain rfl : e = 0 := by omega
      rw [Nat.pow_zero, Nat.div_one] at hl1 hl2 hg
      obtain ⟨m, rfl⟩ : ∃ m', m = m' + 1 := ⟨m - 1, by omega⟩
      have hs := bytesOf_be hg
      conv => whnf
      refine ⟨⟨by show 0 + (m + 1) ≤ m + 1; omega, fun r hr => ⟨_, by show g (0 + r) = _; rw [Nat.zero_add]; exact hg r hr⟩⟩, ?_⟩
      rw [show (Blk.flat true (m + 1) 1 g).row = g from rfl, hs]
      conv => whnf
      show Value.string (be (m + 1) n) = Value.string (nb n)
      rw [nb_be hl1 (.inr (by rw [show m + 1 - 1 = m by omega] at hl2; exact hl2))]
end Go.Proofs.YtgakcbdahbagkaaGreat
/- Contracts of rational: ratios of machine integers. -/
set_option linter.unusedVariables false
set_option linter.unusedSimpArgs false
set_option maxRecDepth 20000
set_option maxHeartbeats 1000000
namespace Go.Proofs.YtgakcbdahbagkaaGreat
open Go Go.Ae

def Emc : Env := { tt := tt, eqs := [], Φ := fun g => match g with
  | 98 => some (.p textS)
  | 104 => some (.p textS)
  | _ => none }
theorem Emcok : EnvOk Tryz.prog Emc := ⟨tt_ok, fun t h => by simp [Emc] at h, (fun g S h => by
  simp only [Emc] at h
  split at h
  · cases h; exact text_ok
  · cases h; exact rdigits_ok
  · cases h), fun g F h => by simp [Emc] at h⟩

theorem ratio_ok : Snd Tryz.prog 69 ratioS := by
  refine snd_of Emcok Dok Tryz.func69 (enters_of Tryz.func69 (by kernel_rfl) rfl) (fun _ => rfl) (fun _ => rfl) ?_
  intro ⟨n, d⟩ hp
  have hp : n.natAbs < 72057594037927936 ∧ d ≠ 0 ∧ d < 72057594037927936 := hp
  obtain ⟨g, hg⟩ : ∃ g, g = Int.gcd n d := ⟨_, rfl⟩
  obtain ⟨hd1, hd2, hg0⟩ := div_self_gcd hp.2.1 hg
  have hgd : g ≤ d := by
    have h3 := Nat.div_le_self d g
    rcases Nat.lt_or_ge d g with h | h
    · rw [Nat.div_eq_of_lt h] at hd2; omega
    · exact h
  have fin : ∀ v : Value, v = encQ (mkRat n d) → v = ratioS.val (n, d) := fun v h => h
  conv => whnf
  refine .inl ⟨fun mm tz hz => ∃ (a : Int) (b : Int), Pat [some (.int .i64 n), some (.int .i64 d), none, none, some (.pointer (some ⟨0, 0, none⟩)), some (.int .i64 a), some (.int .i64 b), none, none, none, none, none, none, none, none, none, none, none, none, none, none, none, none, none, none, none, none, none, none, none, none, none, none, none, none, none, none, none, none, none, none, none, none] tz ∧ hz = [some (.expl true 3 [[.bool false, .string ⟨#[]⟩, .string ⟨#[]⟩]])] ∧ b.natAbs = mm ∧ (((-72057594037927936 < a ∧ a < 72057594037927936) ∧ -72057594037927936 < b ∧ b < 72057594037927936) ∧ Int.gcd a b = g), .inr ⟨[0], [0, 1, 4, 5, 6], ?_⟩, ?_⟩
  · conv => whnf
    intro _
    conv => whnf
    refine ⟨_, n, d, (.keep (.keep (.skip (.skip (.keep (.keep (.keep (.skip (.skip (.skip (.skip (.skip (.skip (.skip (.skip (.skip (.skip (.skip (.skip (.skip (.skip (.skip (.skip (.skip (.skip (.skip (.skip (.skip (.skip (.skip (.skip (.skip (.skip (.skip (.skip (.skip (.skip (.skip (.skip (.skip (.skip (.skip (.skip (.nil)))))))))))))))))))))))))))))))))))))))))))), rfl, rfl, ?_⟩
    exact ⟨⟨⟨by omega, by omega⟩, by omega, by omega⟩, hg.symm⟩
  rintro mm tms _ ⟨a, b, hpat, rfl, rfl, ⟨hab, he⟩⟩
  obtain ⟨az, rfl⟩ : ∃ az : Nat → Value, tms = [.int .i64 n, .int .i64 d, az 2, az 3, .pointer (some ⟨0, 0, none⟩), .int .i64 a, .int .i64 b, az 7, az 8, az 9, az 10, az 11, az 12, az 13, az 14, az 15, az 16, az 17, az 18, az 19, az 20, az 21, az 22, az 23, az 24, az 25, az 26, az 27, az 28, az 29, az 30, az 31, az 32, az 33, az 34, az 35, az 36, az 37, az 38, az 39, az 40, az 41, az 42] := pat_fill hpat
  clear hpat
  conv => whnf
  refine br_intro (fun h1 => ?_) (fun h1 => ?_)
  · have h1 : b ≠ 0 := by
      intro e
      subst e
      simp at h1
    have hlt : (Int.tmod a b).natAbs < b.natAbs := by
      rw [Int.natAbs_tmod]; exact Nat.mod_lt _ (by omega)
    obtain ⟨r, hr⟩ : ∃ r, r = Int.tmod a b := ⟨_, rfl⟩
    rw [← hr] at hlt
    conv => whnf
    refine .inl ⟨5, [[], [], [], [1, 2], [0, 1], [0, 1, 2, 3, 4]], by kernel_rfl, ?_⟩
    conv => whnf
    rw [show decide (b ≠ 0) = true from decide_eq_true h1]
    conv => whnf
    rw [← hr]
    refine .inr ⟨[0], [0, 1, 4, 5, 6], ?_⟩
    conv => whnf
    intro _
    conv => whnf
    refine ⟨_, ?_, b, r, (.keep (.keep (.skip (.skip (.keep (.keep (.keep (.skip (.skip (.skip (.skip (.skip (.skip (.skip (.skip (.skip (.skip (.skip (.skip (.skip (.skip (.skip (.skip (.skip (.skip (.skip (.skip (.skip (.skip (.skip (.skip (.skip (.skip (.skip (.skip (.skip (.skip (.skip (.skip (.skip (.skip (.skip (.skip (.nil)))))))))))))))))))))))))))))))))))))))))))), rfl, rfl, ?_⟩
    · exact hlt
    · exact ⟨⟨hab.2, by omega, by omega⟩, by rw [hr, gcd_step]; exact he⟩
  · have h1 : b = 0 := by simpa using h1
    subst h1
    have he : a.natAbs = g := by rw [← he, Int.gcd_zero_right]
    have em := max_neg a hab.1
    rw [he] at em
    have en := max_neg n (by omega)
    obtain ⟨N, hN⟩ : ∃ N, N = n.natAbs := ⟨_, rfl⟩
    rw [← hN] at en
    conv => whnf
    rw [em]
    by_cases h2 : n = 0
    · subst h2
      conv => whnf
      exact fin _ (encQ_zero d).symm
    · refine br_intro (fun h => absurd (by simpa using h) h2) (fun _ => ?_)
      have eq := encQ_mk h2 hp.2.1 hg
      rw [← hN] at eq
      have ed := tdiv_wrap (a := N) (g := g) (by omega)
      have ed2 := tdiv_wrap (a := d) (g := g) hp.2.2
      obtain ⟨x, hx⟩ : ∃ x, x = nb (N / g) := ⟨_, rfl⟩
      obtain ⟨y, hy⟩ : ∃ y, y = nb (d / g) := ⟨_, rfl⟩
      have ex : textS.val (N / g) = .string x := by rw [hx]; rfl
      have ey : textS.val (d / g) = .string y := by rw [hy]; rfl
      rw [← hx] at eq
      conv => whnf
      rw [en, show decide (((g : Nat) : Int) ≠ 0) = true from decide_eq_true (by omega)]
      conv => whnf
      rw [ed]
      refine ⟨N / g, rfl, by show N / g < _; exact Nat.lt_of_le_of_lt (Nat.div_le_self _ _) (by omega), ?_⟩
      rw [ex]
      conv => whnf
      refine br_intro (fun h3 => ?_) (fun h3 => ?_)
      · have h3 : d ≠ g := by
          intro e
          rw [e] at h3
          simp at h3
        have e4 : denS (d / g) = y := by
          rw [hy]; unfold denS; rw [if_neg (fun h => h3 (hd1.1 h))]
        rw [e4] at eq
        conv => whnf
        rw [show decide (((g : Nat) : Int) ≠ 0) = true from decide_eq_true (by omega)]
        conv => whnf
        rw [ed2]
        refine ⟨d / g, rfl, by show d / g < _; exact Nat.lt_of_le_of_lt (Nat.div_le_self _ _) hp.2.2, ?_⟩
        rw [ey]
        conv => whnf
        exact fin _ eq.symm
      · have h3 : d = g := by
          have : ((d : Nat) : Int) = g := by simpa using h3
          omega
        have e4 : denS (d / g) = ⟨#[]⟩ := by unfold denS; rw [if_pos (hd1.2 h3)]
        rw [e4] at eq
        conv => whnf
        exact fin _ eq.symm

theorem pack_ok2 : Snd Tryz.prog 75 ratioS := by
  refine snd_of Emcok Dok Tryz.func75 (enters_of Tryz.func75 (by kernel_rfl) rfl) (fun _ => rfl) (fun _ => rfl) ?_
  intro ⟨n, d⟩ hp
  have hp : n.natAbs < 72057594037927936 ∧ d ≠ 0 ∧ d < 72057594037927936 := hp
  obtain ⟨g, hg⟩ : ∃ g, g = Int.gcd n d := ⟨_, rfl⟩
  obtain ⟨hd1, hd2, hg0⟩ := div_self_gcd hp.2.1 hg
  have fin : ∀ v : Value, v = encQ (mkRat n d) → v = ratioS.val (n, d) := fun v h => h
  obtain ⟨N, hN⟩ : ∃ N, N = n.natAbs := ⟨_, rfl⟩
  obtain ⟨B, hB⟩ : ∃ B, B = decide (n < 0) := ⟨_, rfl⟩
  have ed := tdiv_wrap (a := N) (g := g) (by omega)
  have ed2 := tdiv_wrap (a := d) (g := g) hp.2.2
  obtain ⟨x, hx⟩ : ∃ x, x = nb (N / g) := ⟨_, rfl⟩
  obtain ⟨y, hy⟩ : ∃ y, y = nb (d / g) := ⟨_, rfl⟩
  have ex : textS.val (N / g) = .string x := by rw [hx]; rfl
  have ey : textS.val (d / g) = .string y := by rw [hy]; rfl
  conv => whnf
  refine br_intro (fun h1 => ?_) (fun h1 => ?_)
  · have h1' := of_decide_eq_true h1
    have h1' : n < 0 := h1'
    have e0 : IntKind.i64.wrap (0 - n) = (N : Int) := by rw [wrapi64 (by omega) (by omega)]; omega
    have h2 : n ≠ 0 := by omega
    have eq := encQ_mk h2 hp.2.1 hg
    rw [← hN, ← hx, ← hB] at eq
    conv => whnf
    rw [show decide ((n, d).fst < 0) = B from hB.symm]
    rw [show IntKind.i64.wrap (0 - (n, d).fst) = (N : Int) from e0]
    refine br_intro (fun h => absurd (by simpa using h) (show N ≠ 0 by omega)) (fun _ => ?_)
    conv => whnf
    refine .inl ⟨fun mm tz hz => ∃ (a : Nat) (b : Nat), Pat [some (.int .i64 N), some (.int .i64 d), none, none, some (.pointer (some ⟨0, 0, none⟩)), some (.pointer (some ⟨1, 0, none⟩)), some (.int .i64 a), some (.int .i64 b), none, none, none, none, none, none, none, none, none, none, none, none, none, none, none, none, none, none, none, none, none, none, none, none, none, none, none, none, none, none, none, none, none] tz ∧ hz = [some (.expl true 3 [[.bool false, .string ⟨#[]⟩, .string ⟨#[]⟩]]), some (.expl true 3 [[.bool B, .string ⟨#[]⟩, .string ⟨#[]⟩]])] ∧ b = mm ∧ ((a < 72057594037927936 ∧ b < 72057594037927936) ∧ Nat.gcd a b = g), .inr ⟨[0, 1], [0, 1, 4, 5, 6, 7], ?_⟩, ?_⟩
    · conv => whnf
      intro _
      conv => whnf
      refine ⟨_, N, d, (.keep (.keep (.skip (.skip (.keep (.keep (.keep (.keep (.skip (.skip (.skip (.skip (.skip (.skip (.skip (.skip (.skip (.skip (.skip (.skip (.skip (.skip (.skip (.skip (.skip (.skip (.skip (.skip (.skip (.skip (.skip (.skip (.skip (.skip (.skip (.skip (.skip (.skip (.skip (.skip (.skip (.nil)))))))))))))))))))))))))))))))))))))))))), rfl, rfl, ?_⟩
      exact ⟨⟨by omega, by omega⟩, by rw [hg, hN]; rfl⟩
    rintro mm tms _ ⟨a, b, hpat, rfl, rfl, ⟨hab, he⟩⟩
    obtain ⟨az, rfl⟩ : ∃ az : Nat → Value, tms = [.int .i64 N, .int .i64 d, az 2, az 3, .pointer (some ⟨0, 0, none⟩), .pointer (some ⟨1, 0, none⟩), .int .i64 a, .int .i64 b, az 8, az 9, az 10, az 11, az 12, az 13, az 14, az 15, az 16, az 17, az 18, az 19, az 20, az 21, az 22, az 23, az 24, az 25, az 26, az 27, az 28, az 29, az 30, az 31, az 32, az 33, az 34, az 35, az 36, az 37, az 38, az 39, az 40] := pat_fill hpat
    clear hpat
    conv => whnf
    refine br_intro (fun h1 => ?_) (fun h1 => ?_)
    · have h1 : 0 < b := by
        have := of_decide_eq_true h1
        omega
      have hlt := Nat.mod_lt a h1
      conv => whnf
      refine .inl ⟨5, [[], [], [], [1, 2], [0, 1], [0, 1, 2, 3, 4]], by kernel_rfl, ?_⟩
      conv => whnf
      rw [show decide (((b : Nat) : Int) ≠ 0) = true from decide_eq_true (by omega)]
      conv => whnf
      rw [show Int.tmod ((a : Nat) : Int) ((b : Nat) : Int) = ((a % b : Nat) : Int) from rfl]
      refine .inr ⟨[0, 1], [0, 1, 4, 5, 6, 7], ?_⟩
      conv => whnf
      intro _
      conv => whnf
      refine ⟨_, ?_, b, a % b, (.keep (.keep (.skip (.skip (.keep (.keep (.keep (.keep (.skip (.skip (.skip (.skip (.skip (.skip (.skip (.skip (.skip (.skip (.skip (.skip (.skip (.skip (.skip (.skip (.skip (.skip (.skip (.skip (.skip (.skip (.skip (.skip (.skip (.skip (.skip (.skip (.skip (.skip (.skip (.skip (.skip (.nil)))))))))))))))))))))))))))))))))))))))))), rfl, rfl, ?_⟩
      · exact hlt
      · exact ⟨⟨hab.2, by omega⟩, by rw [Nat.gcd_comm, ← Nat.gcd_rec, Nat.gcd_comm]; exact he⟩
    · have h1 : b = 0 := by
        have := of_decide_eq_false h1
        omega
      subst h1
      obtain rfl : a = g := by rw [← he, Nat.gcd_zero_right]
      conv => whnf
      rw [show decide (((a : Nat) : Int) ≠ 0) = true from decide_eq_true (by omega)]
      conv => whnf
      rw [ed]
      refine ⟨N / a, rfl, by show N / a < _; exact Nat.lt_of_le_of_lt (Nat.div_le_self _ _) (by omega), ?_⟩
      rw [ex]
      conv => whnf
      rw [show decide (((a : Nat) : Int) ≠ 0) = true from decide_eq_true (by omega)]
      obtain ⟨q, hq⟩ : ∃ q, q = d / a := ⟨_, rfl⟩
      rw [← hq] at ed2 ey eq hd1 hd2 hy
      conv => whnf
      rw [ed2]
      refine br_intro (fun h3 => ?_) (fun h3 => ?_)
      · have h3 : q ≠ 1 := by
          have := of_decide_eq_true h3
          omega
        have e4 : denS q = y := by
          rw [hy]; unfold denS; rw [if_neg h3]
        rw [e4] at eq
        conv => whnf
        rw [show decide (((a : Nat) : Int) ≠ 0) = true from decide_eq_true (by omega)]
        conv => whnf
        rw [ed2]
        refine ⟨q, rfl, by show q < _; rw [hq]; exact Nat.lt_of_le_of_lt (Nat.div_le_self _ _) hp.2.2, ?_⟩
        rw [ey]
        conv => whnf
        exact fin _ eq.symm
      · have h3 : q = 1 := by
          have := of_decide_eq_false h3
          omega
        have e4 : denS q = ⟨#[]⟩ := by unfold denS; rw [if_pos h3]
        rw [e4] at eq
        conv => whnf
        exact fin _ eq.symm
  · have h1' := of_decide_eq_false h1
    have h1' : ¬ n < 0 := h1'
    have e0 : n = (N : Int) := by omega
    by_cases h2 : n = 0
    · subst h2
      conv => whnf
      exact fin _ (encQ_zero d).symm
    · have eq := encQ_mk h2 hp.2.1 hg
      rw [← hN, ← hx, ← hB] at eq
      conv => whnf
      rw [show decide ((n, d).fst < 0) = B from hB.symm]
      refine br_intro (fun h => absurd (by simpa using h) h2) (fun _ => ?_)
      conv => whnf
      rw [show (n, d).fst = (N : Int) from e0]
      refine .inl ⟨fun mm tz hz => ∃ (a : Nat) (b : Nat), Pat [some (.int .i64 N), some (.int .i64 d), none, none, some (.pointer (some ⟨0, 0, none⟩)), some (.pointer (some ⟨1, 0, none⟩)), some (.int .i64 a), some (.int .i64 b), none, none, none, none, none, none, none, none, none, none, none, none, none, none, none, none, none, none, none, none, none, none, none, none, none, none, none, none, none, none, none, none, none] tz ∧ hz = [some (.expl true 3 [[.bool false, .string ⟨#[]⟩, .string ⟨#[]⟩]]), some (.expl true 3 [[.bool B, .string ⟨#[]⟩, .string ⟨#[]⟩]])] ∧ b = mm ∧ ((a < 72057594037927936 ∧ b < 72057594037927936) ∧ Nat.gcd a b = g), .inr ⟨[0, 1], [0, 1, 4, 5, 6, 7], ?_⟩, ?_⟩
      · conv => whnf
        intro _
        conv => whnf
        refine ⟨_, N, d, (.keep (.keep (.skip (.skip (.keep (.keep (.keep (.keep (.skip (.skip (.skip (.skip (.skip (.skip (.skip (.skip (.skip (.skip (.skip (.skip (.skip (.skip (.skip (.skip (.skip (.skip (.skip (.skip (.skip (.skip (.skip (.skip (.skip (.skip (.skip (.skip (.skip (.skip (.skip (.skip (.skip (.nil)))))))))))))))))))))))))))))))))))))))))), rfl, rfl, ?_⟩
        exact ⟨⟨by omega, by omega⟩, by rw [hg, hN]; rfl⟩
      rintro mm tms _ ⟨a, b, hpat, rfl, rfl, ⟨hab, he⟩⟩
      obtain ⟨az, rfl⟩ : ∃ az : Nat → Value, tms = [.int .i64 N, .int .i64 d, az 2, az 3, .pointer (some ⟨0, 0, none⟩), .pointer (some ⟨1, 0, none⟩), .int .i64 a, .int .i64 b, az 8, az 9, az 10, az 11, az 12, az 13, az 14, az 15, az 16, az 17, az 18, az 19, az 20, az 21, az 22, az 23, az 24, az 25, az 26, az 27, az 28, az 29, az 30, az 31, az 32, az 33, az 34, az 35, az 36, az 37, az 38, az 39, az 40] := pat_fill hpat
      clear hpat
      conv => whnf
      refine br_intro (fun h1 => ?_) (fun h1 => ?_)
      · have h1 : 0 < b := by
          have := of_decide_eq_true h1
          omega
        have hlt := Nat.mod_lt a h1
        conv => whnf
        refine .inl ⟨5, [[], [], [], [1, 2], [0, 1], [0, 1, 2, 3, 4]], by kernel_rfl, ?_⟩
        conv => whnf
        rw [show decide (((b : Nat) : Int) ≠ 0) = true from decide_eq_true (by omega)]
        conv => whnf
        rw [show Int.tmod ((a : Nat) : Int) ((b : Nat) : Int) = ((a % b : Nat) : Int) from rfl]
        refine .inr ⟨[0, 1], [0, 1, 4, 5, 6, 7], ?_⟩
        conv => whnf
        intro _
        conv => whnf
        refine ⟨_, ?_, b, a % b, (.keep (.keep (.skip (.skip (.keep (.keep (.keep (.keep (.skip (.skip (.skip (.skip (.skip (.skip (.skip (.skip (.skip (.skip (.skip (.skip (.skip (.skip (.skip (.skip (.skip (.skip (.skip (.skip (.skip (.skip (.skip (.skip (.skip (.skip (.skip (.skip (.skip (.skip (.skip (.skip (.skip (.nil)))))))))))))))))))))))))))))))))))))))))), rfl, rfl, ?_⟩
        · exact hlt
        · exact ⟨⟨hab.2, by omega⟩, by rw [Nat.gcd_comm, ← Nat.gcd_rec, Nat.gcd_comm]; exact he⟩
      · have h1 : b = 0 := by
          have := of_decide_eq_false h1
          omega
        subst h1
        obtain rfl : a = g := by rw [← he, Nat.gcd_zero_right]
        conv => whnf
        rw [show decide (((a : Nat) : Int) ≠ 0) = true from decide_eq_true (by omega)]
        conv => whnf
        rw [ed]
        refine ⟨N / a, rfl, by show N / a < _; exact Nat.lt_of_le_of_lt (Nat.div_le_self _ _) (by omega), ?_⟩
        rw [ex]
        conv => whnf
        rw [show decide (((a : Nat) : Int) ≠ 0) = true from decide_eq_true (by omega)]
        obtain ⟨q, hq⟩ : ∃ q, q = d / a := ⟨_, rfl⟩
        rw [← hq] at ed2 ey eq hd1 hd2 hy
        conv => whnf
        rw [ed2]
        refine br_intro (fun h3 => ?_) (fun h3 => ?_)
        · have h3 : q ≠ 1 := by
            have := of_decide_eq_true h3
            omega
          have e4 : denS q = y := by
            rw [hy]; unfold denS; rw [if_neg h3]
          rw [e4] at eq
          conv => whnf
          rw [show decide (((a : Nat) : Int) ≠ 0) = true from decide_eq_true (by omega)]
          conv => whnf
          rw [ed2]
          refine ⟨q, rfl, by show q < _; rw [hq]; exact Nat.lt_of_le_of_lt (Nat.div_le_self _ _) hp.2.2, ?_⟩
          rw [ey]
          conv => whnf
          exact fin _ eq.symm
        · have h3 : q = 1 := by
            have := of_decide_eq_false h3
            omega
          have e4 : denS q = ⟨#[]⟩ := by unfold denS; rw [if_pos h3]
          rw [e4] at eq
          conv => whnf
          exact fin _ eq.symm
end Go.Proofs.YtgakcbdahbagkaaGreat
/- Contracts of rational: fractions in lowest terms. -/
set_option linter.unusedVariables false
set_option linter.unusedSimpArgs false
set_option maxRecDepth 20000
set_option maxHeartbeats 1000000
namespace Go.Proofs.YtgakcbdahbagkaaGreat
open Go Go.Ae

def Emd : Env := { tt := tt, eqs := [], Φ := fun g => match g with
  | 65 => some (.p ofS)
  | 80 => some (.p cmpS)
  | _ => none }
theorem Emdok : EnvOk Tryz.prog Emd := ⟨tt_ok, fun t h => by simp [Emd] at h, (fun g S h => by
  simp only [Emd] at h
  split at h
  · cases h; exact of_ok
  · cases h; exact cmp_ok
  · cases h), fun g F h => by simp [Emd] at h⟩

theorem is_ok : Snd Tryz.prog 90 isS := by
  refine snd_of Emdok Dok Tryz.func90 (enters_of Tryz.func90 (by kernel_rfl) rfl) (fun _ => rfl) (fun _ => rfl) ?_
  intro ⟨⟨b, s⟩, n⟩ hp
  have hp : s.size ≤ 549755813888 ∧ -9223372036854775808 ≤ n ∧ n < 9223372036854775808 := hp
  obtain ⟨V, m, hV⟩ := EI.mk' n
  have hm : m.size ≤ 549755813888 := by
    rw [hV.size]
    have := nby_i64 hp.2
    omega
  obtain ⟨q, hq⟩ : ∃ q, q = cmpZ (IV.z (b, s)) n := ⟨_, rfl⟩
  conv => whnf
  refine .inl ⟨3, [[], [], [1], [0, 1, 2], [0, 1, 2, 3], [0, 1, 2, 3, 4]], by kernel_rfl, ?_⟩
  conv => whnf
  refine ⟨n, rfl, ⟨by omega, by omega⟩, ?_⟩
  rw [show ofS.val n = .agg ⟨[.bool V, .string m]⟩ from hV.enc]
  conv => whnf
  refine ⟨((b, s), (V, m)), rfl, ⟨hp.1, hm⟩, ?_⟩
  rw [show cmpS.val ((b, s), (V, m)) = .int .i64 q from by show Value.int .i64 (cmpZ (IV.z (b, s)) (IV.z (V, m))) = _; rw [hV.val, hq]]
  conv => whnf
  show Value.bool (q == 0) = Value.bool (decide (IV.z (b, s) = n))
  congr 1
  rw [hq]
  unfold cmpZ
  split
  · rw [decide_eq_false (by omega)]; rfl
  · split
    · rw [decide_eq_false (by omega)]; rfl
    · rw [decide_eq_true (by omega)]; rfl

theorem integer_ok : Snd Tryz.prog 89 integerS := by
  refine snd_of E0ok Dok Tryz.func89 (enters_of Tryz.func89 (by kernel_rfl) rfl) (fun _ => rfl) (fun _ => rfl) ?_
  intro ⟨b, s⟩ _
  conv => whnf
  rfl

def Eme : Env := { tt := tt, eqs := [], Φ := fun g => match g with
  | 65 => some (.p ofS)
  | 90 => some (.p isS)
  | 89 => some (.p integerS)
  | _ => none }
theorem Emeok : EnvOk Tryz.prog Eme := ⟨tt_ok, fun t h => by simp [Eme] at h, (fun g S h => by
  simp only [Eme] at h
  split at h
  · cases h; exact of_ok
  · cases h; exact is_ok
  · cases h; exact integer_ok
  · cases h), fun g F h => by simp [Eme] at h⟩

theorem ofR_ok : Snd Tryz.prog 62 ofRS := by
  refine snd_of Emeok Dok Tryz.func62 (enters_of Tryz.func62 (by kernel_rfl) rfl) (fun _ => rfl) (fun _ => rfl) ?_
  intro ⟨b, s, t⟩ hp
  have hp : t.size ≤ 549755813888 := hp
  conv => whnf
  refine .inl ⟨10, [[], [0], [], [2], [0, 1, 2, 3], [], [5], [0, 1, 2, 3, 4, 5, 6], [0, 1, 2, 3, 4, 5, 6, 7], [], [0, 1, 2, 3, 4, 5, 6, 7, 8, 9]], by kernel_rfl, ?_⟩
  conv => whnf
  refine ⟨(b, s), rfl, trivial, ?_⟩
  conv => whnf
  refine ⟨(false, t), rfl, trivial, ?_⟩
  conv => whnf
  refine ⟨((false, t), 0), rfl, ⟨hp, r0⟩, ?_⟩
  by_cases h : bnat t = 0
  · rw [show isS.val ((false, t), 0) = .bool true from by
      show Value.bool (decide (((bnat t : Nat) : Int) = 0)) = _
      rw [h]; rfl]
    obtain ⟨v, hv⟩ : ∃ v, v = nb 1 := ⟨_, rfl⟩
    conv => whnf
    refine ⟨(1 : Int), rfl, r1, ?_⟩
    rw [show ofS.val (1 : Int) = .agg ⟨[.bool false, .string v]⟩ from by rw [hv]; rfl]
    conv => whnf
    show Value.agg ⟨[.bool b, .string s, .bool false, .string v]⟩ = fracV (b, s) (false, RV.den (b, s, t))
    unfold RV.den
    rw [if_pos h, ← hv]
    rfl
  · rw [show isS.val ((false, t), 0) = .bool false from by
      show Value.bool (decide (((bnat t : Nat) : Int) = 0)) = _
      rw [decide_eq_false (by omega)]]
    conv => whnf
    show Value.agg ⟨[.bool b, .string s, .bool false, .string t]⟩ = fracV (b, s) (false, RV.den (b, s, t))
    unfold RV.den
    rw [if_neg h]
    rfl

def Emf : Env := { tt := tt, eqs := [], Φ := fun g => match g with
  | 90 => some (.p isS)
  | 95 => some (.p gcdS)
  | 96 => some (.p divS)
  | _ => none }
theorem Emfok : EnvOk Tryz.prog Emf := ⟨tt_ok, fun t h => by simp [Emf] at h, (fun g S h => by
  simp only [Emf] at h
  split at h
  · cases h; exact is_ok
  · cases h; exact gcd_ok
  · cases h; exact div_ok
  · cases h), fun g F h => by simp [Emf] at h⟩

theorem number_ok : Snd Tryz.prog 66 numberS := by
  refine snd_of Emfok Dok Tryz.func66 (enters_of Tryz.func66 (by kernel_rfl) rfl) (fun _ => rfl) (fun _ => rfl) ?_
  intro ⟨⟨b, s⟩, ⟨c, t⟩⟩ hp
  have hp : s.size ≤ 549755813888 ∧ t.size ≤ 549755813888 ∧ 0 < IV.z (c, t) := hp
  obtain ⟨x, hx⟩ : ∃ x, x = IV.z (b, s) := ⟨_, rfl⟩
  obtain ⟨d, hd⟩ : ∃ d, d = (IV.z (c, t)).natAbs := ⟨_, rfl⟩
  have hd2 : IV.z (c, t) = ((d : Nat) : Int) := by omega
  have hd0 : d ≠ 0 := by omega
  obtain ⟨q, hq⟩ : ∃ q, q = mkRat x d := ⟨_, rfl⟩
  have fin : ∀ v : Value, v = encQ q → v = numberS.val ((b, s), (c, t)) := fun v h => by rw [h, hq, hx, hd]; rfl
  conv => whnf
  refine ⟨((b, s), 0), rfl, ⟨hp.1, r0⟩, ?_⟩
  rw [show isS.val ((b, s), 0) = .bool (decide (x = 0)) from by rw [hx]; rfl]
  by_cases h1 : x = 0
  · rw [decide_eq_true h1]
    conv => whnf
    exact fin _ (by rw [hq, h1]; exact (encQ_zero d).symm)
  · rw [decide_eq_false h1]
    obtain ⟨g, hg⟩ : ∃ g, g = Int.gcd x d := ⟨_, rfl⟩
    obtain ⟨gs, hgs⟩ := EI.nonneg (show 0 ≤ ((g : Nat) : Int) by omega)
    obtain ⟨qb, qs, hn⟩ := EI.mk' q.num
    obtain ⟨es, he⟩ := EI.nonneg (show 0 ≤ ((q.den : Nat) : Int) by omega)
    have hg0 : ((g : Nat) : Int) ≠ 0 := by
      have : 0 < g := by rw [hg]; exact Int.gcd_pos_of_ne_zero_left _ h1
      omega
    have hgle : g ≤ d := by
      have h3 := (div_self_gcd hd0 hg).2.1
      rcases Nat.lt_or_ge d g with h | h
      · rw [Nat.div_eq_of_lt h] at h3; omega
      · exact h
    have hds : nby d ≤ 549755813888 := by rw [hd]; exact IV.nby (i := (c, t)) hp.2.1
    have gsz : gs.size ≤ 549755813888 := by
      rw [hgs.size, Int.natAbs_natCast]
      exact Nat.le_trans (nby_mono hgle) hds
    have esz : es.size ≤ 549755813888 := by
      rw [he.size, Int.natAbs_natCast]
      exact Nat.le_trans (nby_mono (by rw [hq]; exact den_le x hd0)) hds
    have hqn : x.fdiv ((g : Nat) : Int) = q.num := by rw [hg, hq]; exact mk_num x hd0
    have hqd : ((d : Nat) : Int).fdiv ((g : Nat) : Int) = ((q.den : Nat) : Int) := by rw [hg, hq]; exact mk_den x hd0
    conv => whnf
    refine ⟨((b, s), (c, t)), rfl, ⟨hp.1, hp.2.1⟩, ?_⟩
    rw [show gcdS.val ((b, s), (c, t)) = .agg ⟨[.bool false, .string gs]⟩ from by
      show encI ((Int.gcd (IV.z (b, s)) (IV.z (c, t)) : Nat) : Int) = _
      rw [← hx, hd2, ← hg, hgs.enc]]
    conv => whnf
    obtain ⟨fb, fs, hf⟩ := EI.mk' (x.fmod ((g : Nat) : Int))
    refine ⟨((b, s), (false, gs)), rfl, ⟨hp.1, gsz⟩, ?_⟩
    rw [show divS.val ((b, s), (false, gs)) = .tuple ⟨[.agg ⟨[.bool qb, .string qs]⟩, .agg ⟨[.bool fb, .string fs]⟩, .int .i64 0]⟩ from by
      simp only [divS, hgs.val, if_neg hg0]
      rw [← hx, hqn, hn.enc, hf.enc]]
    conv => whnf
    obtain ⟨kb, ks, hk⟩ := EI.mk' (((d : Nat) : Int).fmod ((g : Nat) : Int))
    refine ⟨((c, t), (false, gs)), rfl, ⟨hp.2.1, gsz⟩, ?_⟩
    rw [show divS.val ((c, t), (false, gs)) = .tuple ⟨[.agg ⟨[.bool false, .string es]⟩, .agg ⟨[.bool kb, .string ks]⟩, .int .i64 0]⟩ from by
      simp only [divS, hgs.val, if_neg hg0, hd2]
      rw [hqd, he.enc, hk.enc]]
    conv => whnf
    refine ⟨((false, es), 1), rfl, ⟨esz, r1⟩, ?_⟩
    rw [show isS.val ((false, es), 1) = .bool (decide (((q.den : Nat) : Int) = 1)) from by
      show Value.bool (decide (IV.z (false, es) = 1)) = _
      rw [he.val]]
    have enc : ∀ y, denS q.den = y → Value.agg ⟨[.bool qb, .string qs, .string y]⟩ = encQ q := fun y hy => by
      unfold encQ
      rw [← hn.mag, ← hn.sign, hy]
    by_cases h2 : q.den = 1
    · rw [decide_eq_true (by omega)]
      conv => whnf
      exact fin _ (enc _ (by unfold denS; rw [if_pos h2]))
    · rw [decide_eq_false (by omega)]
      conv => whnf
      exact fin _ (enc _ (by unfold denS; rw [if_neg h2, he.mag, Int.natAbs_natCast]))
end Go.Proofs.YtgakcbdahbagkaaGreat
/- Contracts of rational: what is made of small numbers, and of large ones. -/
set_option linter.unusedVariables false
set_option linter.unusedSimpArgs false
set_option maxRecDepth 20000
set_option maxHeartbeats 1000000
namespace Go.Proofs.YtgakcbdahbagkaaGreat
open Go Go.Ae

def Emg : Env := { tt := tt, eqs := [], Φ := fun g => match g with
  | 69 => some (.p ratioS)
  | _ => none }
theorem Emgok : EnvOk Tryz.prog Emg := ⟨tt_ok, fun t h => by simp [Emg] at h, (fun g S h => by
  simp only [Emg] at h
  split at h
  · cases h; exact ratio_ok
  · cases h), fun g F h => by simp [Emg] at h⟩

theorem add1_ok : Snd Tryz.prog 68 add1S := by
  refine snd_of Emgok Dok Tryz.func68 (enters_of Tryz.func68 (by kernel_rfl) rfl) (fun _ => rfl) (fun _ => rfl) ?_
  intro ⟨⟨n, d⟩, ⟨m, e⟩⟩ hp
  obtain ⟨h1, h2, h3, h4⟩ := I4.bounds hp
  simp only at h1 h2 h3 h4
  obtain ⟨x, hx⟩ : ∃ x, x = n * (e : Int) := ⟨_, rfl⟩
  obtain ⟨y, hy⟩ : ∃ y, y = m * (d : Int) := ⟨_, rfl⟩
  obtain ⟨k, hk⟩ : ∃ k, k = d * e := ⟨_, rfl⟩
  rw [← hx] at h1
  rw [← hy] at h2
  rw [← hk] at h4
  have e1 : IntKind.i64.wrap (IntKind.i64.wrap (n * (e : Int)) + IntKind.i64.wrap (m * (d : Int))) = x + y := by
    rw [← hx, ← hy, wrapi64 (x := x) (by omega) (by omega), wrapi64 (x := y) (by omega) (by omega), wrapi64 (by omega) (by omega)]
  have e2 : IntKind.i64.wrap ((d : Int) * (e : Int)) = (k : Int) := by
    rw [← Int.natCast_mul, ← hk, wrapi64 (by omega) (by omega)]
  conv => whnf
  rw [show IntKind.i64.wrap (IntKind.i64.wrap (((n, d), m, e).fst.fst * (((n, d), m, e).snd.snd : Int)) + IntKind.i64.wrap (((n, d), m, e).snd.fst * (((n, d), m, e).fst.snd : Int))) = x + y from e1]
  rw [show IntKind.i64.wrap ((((n, d), m, e).fst.snd : Int) * (((n, d), m, e).snd.snd : Int)) = (k : Int) from e2]
  refine ⟨(x + y, k), rfl, ⟨by show (x + y).natAbs < _; omega, by show k ≠ 0; omega, by show k < _; omega⟩, ?_⟩
  obtain ⟨v, hv⟩ : ∃ v, v = mkRat (x + y) k := ⟨_, rfl⟩
  rw [show ratioS.val (x + y, k) = (RV.of v).v from by rw [hv]; rfl]
  conv => whnf
  show (RV.of v).v = encQ (mkRat (n * e + m * d) (d * e))
  rw [hv, hx, hy, hk]
  rfl
theorem mul1_ok : Snd Tryz.prog 72 mul1S := by
  refine snd_of Emgok Dok Tryz.func72 (enters_of Tryz.func72 (by kernel_rfl) rfl) (fun _ => rfl) (fun _ => rfl) ?_
  intro ⟨⟨n, d⟩, ⟨m, e⟩⟩ hp
  obtain ⟨h1, h2, h3, h4⟩ := I4.bounds hp
  simp only at h1 h2 h3 h4
  obtain ⟨x, hx⟩ : ∃ x, x = n * m := ⟨_, rfl⟩
  obtain ⟨k, hk⟩ : ∃ k, k = d * e := ⟨_, rfl⟩
  rw [← hx] at h3
  rw [← hk] at h4
  have e1 : IntKind.i64.wrap (n * m) = x := by
    rw [← hx, wrapi64 (x := x) (by omega) (by omega)]
  have e2 : IntKind.i64.wrap ((d : Int) * (e : Int)) = (k : Int) := by
    rw [← Int.natCast_mul, ← hk, wrapi64 (by omega) (by omega)]
  conv => whnf
  rw [show IntKind.i64.wrap (((n, d), m, e).fst.fst * ((n, d), m, e).snd.fst) = x from e1]
  rw [show IntKind.i64.wrap ((((n, d), m, e).fst.snd : Int) * (((n, d), m, e).snd.snd : Int)) = (k : Int) from e2]
  refine ⟨(x, k), rfl, ⟨by show x.natAbs < _; omega, by show k ≠ 0; omega, by show k < _; omega⟩, ?_⟩
  obtain ⟨v, hv⟩ : ∃ v, v = mkRat x k := ⟨_, rfl⟩
  rw [show ratioS.val (x, k) = (RV.of v).v from by rw [hv]; rfl]
  conv => whnf
  show (RV.of v).v = encQ (mkRat (n * m) (d * e))
  rw [hv, hx, hk]
  rfl

theorem cmp1_ok : Snd Tryz.prog 86 cmp1S := by
  refine snd_of E0ok Dok Tryz.func86 (enters_of Tryz.func86 (by kernel_rfl) rfl) (fun _ => rfl) (fun _ => rfl) ?_
  intro ⟨⟨n, d⟩, ⟨m, e⟩⟩ hp
  obtain ⟨h1, h2, h3, h4⟩ := I4.bounds hp
  simp only at h1 h2 h3 h4
  obtain ⟨x, hx⟩ : ∃ x, x = n * (e : Int) := ⟨_, rfl⟩
  obtain ⟨y, hy⟩ : ∃ y, y = m * (d : Int) := ⟨_, rfl⟩
  rw [← hx] at h1
  rw [← hy] at h2
  have e1 : IntKind.i64.wrap (n * (e : Int)) = x := by rw [← hx, wrapi64 (x := x) (by omega) (by omega)]
  have e2 : IntKind.i64.wrap (m * (d : Int)) = y := by rw [← hy, wrapi64 (x := y) (by omega) (by omega)]
  have fin : ∀ z : Int, z = cmpZ x y → Value.int .i64 z = cmp1S.val ((n, d), (m, e)) := fun z h => by rw [h, hx, hy]; rfl
  conv => whnf
  rw [show IntKind.i64.wrap (((n, d), m, e).fst.fst * (((n, d), m, e).snd.snd : Int)) = x from e1, show IntKind.i64.wrap (((n, d), m, e).snd.fst * (((n, d), m, e).fst.snd : Int)) = y from e2]
  refine br_intro (fun h => ?_) (fun h => ?_)
  · have h := of_decide_eq_true h
    conv => whnf
    exact fin _ (cmpZ_lt h).symm
  · have h := of_decide_eq_false h
    conv => whnf
    refine br_intro (fun h5 => ?_) (fun h5 => ?_)
    · have h5 := of_decide_eq_true h5
      conv => whnf
      exact fin _ (cmpZ_gt h5).symm
    · have h5 := of_decide_eq_false h5
      conv => whnf
      refine fin _ ?_
      unfold cmpZ
      rw [if_neg h, if_neg (show ¬ y < x from h5)]

def Emh : Env := { tt := tt, eqs := [], Φ := fun g => match g with
  | 64 => some (.p mulS)
  | 71 => some (.p addS)
  | 80 => some (.p cmpS)
  | 66 => some (.p numberS)
  | _ => none }
theorem Emhok : EnvOk Tryz.prog Emh := ⟨tt_ok, fun t h => by simp [Emh] at h, (fun g S h => by
  simp only [Emh] at h
  split at h
  · cases h; exact mul_ok
  · cases h; exact add_ok
  · cases h; exact cmp_ok
  · cases h; exact number_ok
  · cases h), fun g F h => by simp [Emh] at h⟩

theorem add2_ok : Snd Tryz.prog 70 add2S := by
  refine snd_of Emhok Dok Tryz.func70 (enters_of Tryz.func70 (by kernel_rfl) rfl) (fun _ => rfl) (fun _ => rfl) ?_
  intro ⟨⟨⟨b, s⟩, ⟨c, t⟩⟩, ⟨⟨b', s'⟩, ⟨c', t'⟩⟩⟩ hp
  have hp : ((s.size ≤ 17179869184 ∧ t.size ≤ 17179869184) ∧ 0 < IV.z (c, t)) ∧ (s'.size ≤ 17179869184 ∧ t'.size ≤ 17179869184) ∧ 0 < IV.z (c', t') := hp
  obtain ⟨⟨⟨hs, ht⟩, hd⟩, ⟨hs', ht'⟩, hd'⟩ := hp
  obtain ⟨B1, m1, h1⟩ := EI.mk' (IV.z (b, s) * IV.z (c', t'))
  obtain ⟨B2, m2, h2⟩ := EI.mk' (IV.z (b', s') * IV.z (c, t))
  obtain ⟨B3, m3, h3⟩ := EI.mk' (IV.z (b, s) * IV.z (c', t') + IV.z (b', s') * IV.z (c, t))
  obtain ⟨B4, m4, h4⟩ := EI.mk' (IV.z (c, t) * IV.z (c', t'))
  have z1 := h1.mul_size (nby_z hs) (nby_z ht')
  have z2 := h2.mul_size (nby_z hs') (nby_z ht)
  have z4 := h4.mul_size (nby_z ht) (nby_z ht')
  have z3 : m3.size ≤ 34359738369 := h3.add_size (by rw [← h1.size]; omega) (by rw [← h2.size]; omega)
  have hpos := Int.mul_pos hd hd'
  conv => whnf
  refine .inl ⟨15, [[], [0], [], [2], [0, 1, 2, 3], [], [5], [], [7], [0, 1, 2, 3, 4, 5, 6, 7, 8], [0, 1, 2, 3, 4, 5, 6, 7, 8, 9], [], [11], [], [13], [0, 1, 2, 3, 4, 5, 6, 7, 8, 9, 10, 11, 12, 13, 14], [0, 1, 2, 3, 4, 5, 6, 7, 8, 9, 10, 11, 12, 13, 14, 15], [0, 1, 2, 3, 4, 5, 6, 7, 8, 9, 10, 11, 12, 13, 14, 15, 16], [0, 1, 2, 3, 4, 5, 6, 7, 8, 9, 10, 11, 12, 13, 14, 15, 16, 17]], by kernel_rfl, ?_⟩
  conv => whnf
  refine ⟨((b, s), (c', t')), rfl, ⟨by show s.size ≤ _; omega, by show t'.size ≤ _; omega⟩, ?_⟩
  rw [show mulS.val ((b, s), (c', t')) = .agg ⟨[.bool B1, .string m1]⟩ from h1.enc]
  conv => whnf
  refine ⟨((b', s'), (c, t)), rfl, ⟨by show s'.size ≤ _; omega, by show t.size ≤ _; omega⟩, ?_⟩
  rw [show mulS.val ((b', s'), (c, t)) = .agg ⟨[.bool B2, .string m2]⟩ from h2.enc]
  conv => whnf
  refine ⟨((B1, m1), (B2, m2)), rfl, ⟨by show m1.size ≤ _; omega, by show m2.size ≤ _; omega⟩, ?_⟩
  rw [show addS.val ((B1, m1), (B2, m2)) = .agg ⟨[.bool B3, .string m3]⟩ from by
    show encI (IV.z (B1, m1) + IV.z (B2, m2)) = _
    rw [h1.val, h2.val, h3.enc]]
  conv => whnf
  refine ⟨((c, t), (c', t')), rfl, ⟨by show t.size ≤ _; omega, by show t'.size ≤ _; omega⟩, ?_⟩
  rw [show mulS.val ((c, t), (c', t')) = .agg ⟨[.bool B4, .string m4]⟩ from h4.enc]
  conv => whnf
  refine ⟨((B3, m3), (B4, m4)), rfl, ⟨by show m3.size ≤ _; omega, by show m4.size ≤ _; omega, by show 0 < IV.z (B4, m4); rw [h4.val]; exact hpos⟩, ?_⟩
  obtain ⟨v, hv⟩ : ∃ v, v = mkRat (IV.z (B3, m3)) (IV.z (B4, m4)).natAbs := ⟨_, rfl⟩
  rw [show numberS.val ((B3, m3), (B4, m4)) = (RV.of v).v from by rw [hv]; rfl]
  rw [h3.val, h4.val] at hv
  conv => whnf
  show (RV.of v).v = encQ _
  rw [hv]
  rfl

theorem mul2_ok : Snd Tryz.prog 73 mul2S := by
  refine snd_of Emhok Dok Tryz.func73 (enters_of Tryz.func73 (by kernel_rfl) rfl) (fun _ => rfl) (fun _ => rfl) ?_
  intro ⟨⟨⟨b, s⟩, ⟨c, t⟩⟩, ⟨⟨b', s'⟩, ⟨c', t'⟩⟩⟩ hp
  have hp : ((s.size ≤ 17179869184 ∧ t.size ≤ 17179869184) ∧ 0 < IV.z (c, t)) ∧ (s'.size ≤ 17179869184 ∧ t'.size ≤ 17179869184) ∧ 0 < IV.z (c', t') := hp
  obtain ⟨⟨⟨hs, ht⟩, hd⟩, ⟨hs', ht'⟩, hd'⟩ := hp
  obtain ⟨B3, m3, h3⟩ := EI.mk' (IV.z (b, s) * IV.z (b', s'))
  obtain ⟨B4, m4, h4⟩ := EI.mk' (IV.z (c, t) * IV.z (c', t'))
  have z3 := h3.mul_size (nby_z hs) (nby_z hs')
  have z4 := h4.mul_size (nby_z ht) (nby_z ht')
  have hpos := Int.mul_pos hd hd'
  conv => whnf
  refine .inl ⟨9, [[], [0], [], [2], [0, 1, 2, 3], [], [5], [], [7], [0, 1, 2, 3, 4, 5, 6, 7, 8], [0, 1, 2, 3, 4, 5, 6, 7, 8, 9], [0, 1, 2, 3, 4, 5, 6, 7, 8, 9, 10], [0, 1, 2, 3, 4, 5, 6, 7, 8, 9, 10, 11]], by kernel_rfl, ?_⟩
  conv => whnf
  refine ⟨((b, s), (b', s')), rfl, ⟨by show s.size ≤ _; omega, by show s'.size ≤ _; omega⟩, ?_⟩
  rw [show mulS.val ((b, s), (b', s')) = .agg ⟨[.bool B3, .string m3]⟩ from h3.enc]
  conv => whnf
  refine ⟨((c, t), (c', t')), rfl, ⟨by show t.size ≤ _; omega, by show t'.size ≤ _; omega⟩, ?_⟩
  rw [show mulS.val ((c, t), (c', t')) = .agg ⟨[.bool B4, .string m4]⟩ from h4.enc]
  conv => whnf
  refine ⟨((B3, m3), (B4, m4)), rfl, ⟨by show m3.size ≤ _; omega, by show m4.size ≤ _; omega, by show 0 < IV.z (B4, m4); rw [h4.val]; exact hpos⟩, ?_⟩
  obtain ⟨v, hv⟩ : ∃ v, v = mkRat (IV.z (B3, m3)) (IV.z (B4, m4)).natAbs := ⟨_, rfl⟩
  rw [show numberS.val ((B3, m3), (B4, m4)) = (RV.of v).v from by rw [hv]; rfl]
  rw [h3.val, h4.val] at hv
  conv => whnf
  show (RV.of v).v = encQ _
  rw [hv]
  rfl

theorem cmp2_ok : Snd Tryz.prog 87 cmp2S := by
  refine snd_of Emhok Dok Tryz.func87 (enters_of Tryz.func87 (by kernel_rfl) rfl) (fun _ => rfl) (fun _ => rfl) ?_
  intro ⟨⟨⟨b, s⟩, ⟨c, t⟩⟩, ⟨⟨b', s'⟩, ⟨c', t'⟩⟩⟩ hp
  have hp : ((s.size ≤ 17179869184 ∧ t.size ≤ 17179869184) ∧ 0 < IV.z (c, t)) ∧ (s'.size ≤ 17179869184 ∧ t'.size ≤ 17179869184) ∧ 0 < IV.z (c', t') := hp
  obtain ⟨⟨⟨hs, ht⟩, hd⟩, ⟨hs', ht'⟩, hd'⟩ := hp
  obtain ⟨B1, m1, h1⟩ := EI.mk' (IV.z (b, s) * IV.z (c', t'))
  obtain ⟨B2, m2, h2⟩ := EI.mk' (IV.z (b', s') * IV.z (c, t))
  have z1 := h1.mul_size (nby_z hs) (nby_z ht')
  have z2 := h2.mul_size (nby_z hs') (nby_z ht)
  obtain ⟨q, hq⟩ : ∃ q, q = cmpZ (IV.z (b, s) * IV.z (c', t')) (IV.z (b', s') * IV.z (c, t)) := ⟨_, rfl⟩
  conv => whnf
  refine .inl ⟨9, [[], [0], [], [2], [0, 1, 2, 3], [], [5], [], [7], [0, 1, 2, 3, 4, 5, 6, 7, 8], [0, 1, 2, 3, 4, 5, 6, 7, 8, 9], [0, 1, 2, 3, 4, 5, 6, 7, 8, 9, 10]], by kernel_rfl, ?_⟩
  conv => whnf
  refine ⟨((b, s), (c', t')), rfl, ⟨by show s.size ≤ _; omega, by show t'.size ≤ _; omega⟩, ?_⟩
  rw [show mulS.val ((b, s), (c', t')) = .agg ⟨[.bool B1, .string m1]⟩ from h1.enc]
  conv => whnf
  refine ⟨((b', s'), (c, t)), rfl, ⟨by show s'.size ≤ _; omega, by show t.size ≤ _; omega⟩, ?_⟩
  rw [show mulS.val ((b', s'), (c, t)) = .agg ⟨[.bool B2, .string m2]⟩ from h2.enc]
  conv => whnf
  refine ⟨((B1, m1), (B2, m2)), rfl, ⟨by show m1.size ≤ _; omega, by show m2.size ≤ _; omega⟩, ?_⟩
  rw [show cmpS.val ((B1, m1), (B2, m2)) = .int .i64 q from by
    show Value.int .i64 (cmpZ (IV.z (B1, m1)) (IV.z (B2, m2))) = _
    rw [h1.val, h2.val, hq]]
  conv => whnf
  show Value.int .i64 q = _
  rw [hq]
  rfl
end Go.Proofs.YtgakcbdahbagkaaGreat
/- Contracts of rational: the operations. -/
set_option linter.unusedVariables false
set_option linter.unusedSimpArgs false
set_option maxRecDepth 20000
set_option maxHeartbeats 1000000
namespace Go.Proofs.YtgakcbdahbagkaaGreat
open Go Go.Ae

def Emj : Env := { tt := tt, eqs := [], Φ := fun g => match g with
  | 97 => some (.p machS)
  | 62 => some (.p ofRS)
  | 68 => some (.p add1S)
  | 70 => some (.p add2S)
  | 72 => some (.p mul1S)
  | 73 => some (.p mul2S)
  | 86 => some (.p cmp1S)
  | 87 => some (.p cmp2S)
  | _ => none }
theorem Emjok : EnvOk Tryz.prog Emj := ⟨tt_ok, fun t h => by simp [Emj] at h, (fun g S h => by
  simp only [Emj] at h
  split at h
  · cases h; exact mach_ok
  · cases h; exact ofR_ok
  · cases h; exact add1_ok
  · cases h; exact add2_ok
  · cases h; exact mul1_ok
  · cases h; exact mul2_ok
  · cases h; exact cmp1_ok
  · cases h; exact cmp2_ok
  · cases h), fun g F h => by simp [Emj] at h⟩

theorem bothR_ft : FTOk Tryz.prog 67 (fnK Emj drawT Tryz.f67) := by
  exact ft_of Emjok Dok Tryz.func67 (enters_of Tryz.func67 (by kernel_rfl) rfl)
theorem bothI_ft : FTOk Tryz.prog 85 (fnK Emj drawT Tryz.f85) := by
  exact ft_of Emjok Dok Tryz.func85 (enters_of Tryz.func85 (by kernel_rfl) rfl)

def EmkW : FuncId → Option FT := fun g => match g with
  | 67 => some (fnK Emj drawT Tryz.f67)
  | 85 => some (fnK Emj drawT Tryz.f85)
  | _ => none
def Emk : Env := { tt := tt, eqs := [], Ψ := EmkW, Φ := fun g => match g with
  | _ => none }
theorem Emkok : EnvOk Tryz.prog Emk := ⟨tt_ok, fun t h => by simp [Emk] at h, (fun g S h => by
  change none = some S at h
  cases h), (fun g F h => by
  simp only [Emk, EmkW] at h
  split at h
  · cases h; exact bothR_ft
  · cases h; exact bothI_ft
  · cases h)⟩

theorem qadd_ok : Snd Tryz.prog 31 qaddS := by
  refine snd_of Emkok Dok Tryz.func31 (enters_of Tryz.func31 (by kernel_rfl) rfl) (fun _ => rfl) (fun _ => rfl) ?_
  intro ⟨⟨b, s, t⟩, ⟨c, u, v⟩⟩ hp
  have hp : RV.ok (b, s, t) ∧ RV.ok (c, u, v) := hp
  obtain ⟨w, hw⟩ : ∃ w, w = RV.q (b, s, t) + RV.q (c, u, v) := ⟨_, rfl⟩
  have fin : ∀ x : Value, x = (RV.of w).v → x = qaddS.val ((b, s, t), (c, u, v)) := fun x h => by rw [h, hw]; rfl
  obtain ⟨x, hx⟩ : ∃ x, x = RV.den (b, s, t) := ⟨_, rfl⟩
  obtain ⟨y, hy⟩ : ∃ y, y = RV.den (c, u, v) := ⟨_, rfl⟩
  have ex : ofRS.val (b, s, t) = .agg ⟨[.bool b, .string s, .bool false, .string x]⟩ := by rw [hx]; rfl
  have ey : ofRS.val (c, u, v) = .agg ⟨[.bool c, .string u, .bool false, .string y]⟩ := by rw [hy]; rfl
  have f1 := RV.fracOk hp.1
  have f2 := RV.fracOk hp.2
  have e2 : add2S.val (((b, s), (false, x)), ((c, u), (false, y))) = (RV.of w).v := by rw [hx, hy, hw]; exact add2_q (b, s, t) (c, u, v)
  rw [← hx] at f1
  rw [← hy] at f2
  have e1 := add1_q (b, s, t) (c, u, v)
  have hn := RV.tinyR (i := (b, s, t))
  have hm := RV.tinyR (i := (c, u, v))
  rw [← hw] at e1
  obtain ⟨n, hn2⟩ : ∃ n, n = RV.n (b, s, t) := ⟨_, rfl⟩
  obtain ⟨m, hm2⟩ : ∃ n, n = RV.n (c, u, v) := ⟨_, rfl⟩
  obtain ⟨d, hd2⟩ : ∃ n, n = RV.d (b, s, t) := ⟨_, rfl⟩
  obtain ⟨e, he2⟩ : ∃ n, n = RV.d (c, u, v) := ⟨_, rfl⟩
  rw [← hn2, ← hd2] at hn e1
  rw [← hm2, ← he2] at hm e1
  conv => whnf
  refine ⟨(b, s, t), rfl, trivial, ?_⟩
  by_cases h1 : RV.tiny (b, s, t)
  · rw [show machS.val (b, s, t) = .tuple ⟨[.int .i64 n, .int .i64 d, .bool true]⟩ from by simp only [machS, if_pos h1, decide_eq_true h1, hn2, hd2]]
    conv => whnf
    refine ⟨(c, u, v), rfl, trivial, ?_⟩
    by_cases h2 : RV.tiny (c, u, v)
    · rw [show machS.val (c, u, v) = .tuple ⟨[.int .i64 m, .int .i64 e, .bool true]⟩ from by simp only [machS, if_pos h2, decide_eq_true h2, hm2, he2]]
      conv => whnf
      refine ⟨((n, d), (m, e)), rfl, ⟨hn h1, hm h2⟩, ?_⟩
      rw [show add1S.val ((n, d), (m, e)) = (RV.of w).v from e1]
      conv => whnf
      exact fin _ rfl
    · rw [show machS.val (c, u, v) = .tuple ⟨[.int .i64 0, .int .i64 0, .bool false]⟩ from by simp only [machS, if_neg h2, decide_eq_false h2]]
      conv => whnf
      refine .inl ⟨5, [[], [], [1], [], [1, 2, 3], [0, 1, 2, 3, 4], [0, 1, 2, 3, 4, 5]], by kernel_rfl, ?_⟩
      conv => whnf
      refine ⟨(b, s, t), rfl, by have := hp.1.2; show t.size ≤ _; exact Nat.le_trans this (by decide), ?_⟩
      rw [ex]
      conv => whnf
      refine ⟨(c, u, v), rfl, by have := hp.2.2; show v.size ≤ _; exact Nat.le_trans this (by decide), ?_⟩
      rw [ey]
      conv => whnf
      refine ⟨(((b, s), (false, x)), ((c, u), (false, y))), rfl, ⟨f1, f2⟩, ?_⟩
      rw [show add2S.val (((b, s), (false, x)), ((c, u), (false, y))) = (RV.of w).v from e2]
      conv => whnf
      exact fin _ rfl
  · rw [show machS.val (b, s, t) = .tuple ⟨[.int .i64 0, .int .i64 0, .bool false]⟩ from by simp only [machS, if_neg h1, decide_eq_false h1]]
    conv => whnf
    obtain ⟨k1, k2, k3, hk⟩ : ∃ (k1 k2 : Int) (k3 : Bool), machS.val (c, u, v) = .tuple ⟨[.int .i64 k1, .int .i64 k2, .bool k3]⟩ := ⟨_, _, _, rfl⟩
    refine ⟨(c, u, v), rfl, trivial, ?_⟩
    rw [hk]
    conv => whnf
    refine .inl ⟨5, [[], [], [1], [], [1, 2, 3], [0, 1, 2, 3, 4], [0, 1, 2, 3, 4, 5]], by kernel_rfl, ?_⟩
    conv => whnf
    refine ⟨(b, s, t), rfl, by have := hp.1.2; show t.size ≤ _; exact Nat.le_trans this (by decide), ?_⟩
    rw [ex]
    conv => whnf
    refine ⟨(c, u, v), rfl, by have := hp.2.2; show v.size ≤ _; exact Nat.le_trans this (by decide), ?_⟩
    rw [ey]
    conv => whnf
    refine ⟨(((b, s), (false, x)), ((c, u), (false, y))), rfl, ⟨f1, f2⟩, ?_⟩
    rw [show add2S.val (((b, s), (false, x)), ((c, u), (false, y))) = (RV.of w).v from e2]
    conv => whnf
    exact fin _ rfl

theorem qmul_ok : Snd Tryz.prog 34 qmulS := by
  refine snd_of Emkok Dok Tryz.func34 (enters_of Tryz.func34 (by kernel_rfl) rfl) (fun _ => rfl) (fun _ => rfl) ?_
  intro ⟨⟨b, s, t⟩, ⟨c, u, v⟩⟩ hp
  have hp : RV.ok (b, s, t) ∧ RV.ok (c, u, v) := hp
  obtain ⟨w, hw⟩ : ∃ w, w = RV.q (b, s, t) * RV.q (c, u, v) := ⟨_, rfl⟩
  have fin : ∀ x : Value, x = (RV.of w).v → x = qmulS.val ((b, s, t), (c, u, v)) := fun x h => by rw [h, hw]; rfl
  obtain ⟨x, hx⟩ : ∃ x, x = RV.den (b, s, t) := ⟨_, rfl⟩
  obtain ⟨y, hy⟩ : ∃ y, y = RV.den (c, u, v) := ⟨_, rfl⟩
  have ex : ofRS.val (b, s, t) = .agg ⟨[.bool b, .string s, .bool false, .string x]⟩ := by rw [hx]; rfl
  have ey : ofRS.val (c, u, v) = .agg ⟨[.bool c, .string u, .bool false, .string y]⟩ := by rw [hy]; rfl
  have f1 := RV.fracOk hp.1
  have f2 := RV.fracOk hp.2
  have e2 : mul2S.val (((b, s), (false, x)), ((c, u), (false, y))) = (RV.of w).v := by rw [hx, hy, hw]; exact mul2_q (b, s, t) (c, u, v)
  rw [← hx] at f1
  rw [← hy] at f2
  have e1 := mul1_q (b, s, t) (c, u, v)
  have hn := RV.tinyR (i := (b, s, t))
  have hm := RV.tinyR (i := (c, u, v))
  rw [← hw] at e1
  obtain ⟨n, hn2⟩ : ∃ n, n = RV.n (b, s, t) := ⟨_, rfl⟩
  obtain ⟨m, hm2⟩ : ∃ n, n = RV.n (c, u, v) := ⟨_, rfl⟩
  obtain ⟨d, hd2⟩ : ∃ n, n = RV.d (b, s, t) := ⟨_, rfl⟩
  obtain ⟨e, he2⟩ : ∃ n, n = RV.d (c, u, v) := ⟨_, rfl⟩
  rw [← hn2, ← hd2] at hn e1
  rw [← hm2, ← he2] at hm e1
  conv => whnf
  refine ⟨(b, s, t), rfl, trivial, ?_⟩
  by_cases h1 : RV.tiny (b, s, t)
  · rw [show machS.val (b, s, t) = .tuple ⟨[.int .i64 n, .int .i64 d, .bool true]⟩ from by simp only [machS, if_pos h1, decide_eq_true h1, hn2, hd2]]
    conv => whnf
    refine ⟨(c, u, v), rfl, trivial, ?_⟩
    by_cases h2 : RV.tiny (c, u, v)
    · rw [show machS.val (c, u, v) = .tuple ⟨[.int .i64 m, .int .i64 e, .bool true]⟩ from by simp only [machS, if_pos h2, decide_eq_true h2, hm2, he2]]
      conv => whnf
      refine ⟨((n, d), (m, e)), rfl, ⟨hn h1, hm h2⟩, ?_⟩
      rw [show mul1S.val ((n, d), (m, e)) = (RV.of w).v from e1]
      conv => whnf
      exact fin _ rfl
    · rw [show machS.val (c, u, v) = .tuple ⟨[.int .i64 0, .int .i64 0, .bool false]⟩ from by simp only [machS, if_neg h2, decide_eq_false h2]]
      conv => whnf
      refine .inl ⟨5, [[], [], [1], [], [1, 2, 3], [0, 1, 2, 3, 4], [0, 1, 2, 3, 4, 5]], by kernel_rfl, ?_⟩
      conv => whnf
      refine ⟨(b, s, t), rfl, by have := hp.1.2; show t.size ≤ _; exact Nat.le_trans this (by decide), ?_⟩
      rw [ex]
      conv => whnf
      refine ⟨(c, u, v), rfl, by have := hp.2.2; show v.size ≤ _; exact Nat.le_trans this (by decide), ?_⟩
      rw [ey]
      conv => whnf
      refine ⟨(((b, s), (false, x)), ((c, u), (false, y))), rfl, ⟨f1, f2⟩, ?_⟩
      rw [show mul2S.val (((b, s), (false, x)), ((c, u), (false, y))) = (RV.of w).v from e2]
      conv => whnf
      exact fin _ rfl
  · rw [show machS.val (b, s, t) = .tuple ⟨[.int .i64 0, .int .i64 0, .bool false]⟩ from by simp only [machS, if_neg h1, decide_eq_false h1]]
    conv => whnf
    obtain ⟨k1, k2, k3, hk⟩ : ∃ (k1 k2 : Int) (k3 : Bool), machS.val (c, u, v) = .tuple ⟨[.int .i64 k1, .int .i64 k2, .bool k3]⟩ := ⟨_, _, _, rfl⟩
    refine ⟨(c, u, v), rfl, trivial, ?_⟩
    rw [hk]
    conv => whnf
    refine .inl ⟨5, [[], [], [1], [], [1, 2, 3], [0, 1, 2, 3, 4], [0, 1, 2, 3, 4, 5]], by kernel_rfl, ?_⟩
    conv => whnf
    refine ⟨(b, s, t), rfl, by have := hp.1.2; show t.size ≤ _; exact Nat.le_trans this (by decide), ?_⟩
    rw [ex]
    conv => whnf
    refine ⟨(c, u, v), rfl, by have := hp.2.2; show v.size ≤ _; exact Nat.le_trans this (by decide), ?_⟩
    rw [ey]
    conv => whnf
    refine ⟨(((b, s), (false, x)), ((c, u), (false, y))), rfl, ⟨f1, f2⟩, ?_⟩
    rw [show mul2S.val (((b, s), (false, x)), ((c, u), (false, y))) = (RV.of w).v from e2]
    conv => whnf
    exact fin _ rfl

theorem qcmp_ok : Snd Tryz.prog 54 qcmpS := by
  refine snd_of Emkok Dok Tryz.func54 (enters_of Tryz.func54 (by kernel_rfl) rfl) (fun _ => rfl) (fun _ => rfl) ?_
  intro ⟨⟨b, s, t⟩, ⟨c, u, v⟩⟩ hp
  have hp : RV.ok (b, s, t) ∧ RV.ok (c, u, v) := hp
  obtain ⟨w, hw⟩ : ∃ w, w = cmpQ (RV.q (b, s, t)) (RV.q (c, u, v)) := ⟨_, rfl⟩
  have fin : ∀ x : Value, x = .int .i64 w → x = qcmpS.val ((b, s, t), (c, u, v)) := fun x h => by rw [h, hw]; rfl
  obtain ⟨x, hx⟩ : ∃ x, x = RV.den (b, s, t) := ⟨_, rfl⟩
  obtain ⟨y, hy⟩ : ∃ y, y = RV.den (c, u, v) := ⟨_, rfl⟩
  have ex : ofRS.val (b, s, t) = .agg ⟨[.bool b, .string s, .bool false, .string x]⟩ := by rw [hx]; rfl
  have ey : ofRS.val (c, u, v) = .agg ⟨[.bool c, .string u, .bool false, .string y]⟩ := by rw [hy]; rfl
  have f1 := RV.fracOk hp.1
  have f2 := RV.fracOk hp.2
  have e2 : cmp2S.val (((b, s), (false, x)), ((c, u), (false, y))) = .int .i64 w := by rw [hx, hy, hw]; exact cmp2_q (b, s, t) (c, u, v)
  rw [← hx] at f1
  rw [← hy] at f2
  have e1 := cmp1_q (b, s, t) (c, u, v)
  have hn := RV.tinyR (i := (b, s, t))
  have hm := RV.tinyR (i := (c, u, v))
  rw [← hw] at e1
  obtain ⟨n, hn2⟩ : ∃ n, n = RV.n (b, s, t) := ⟨_, rfl⟩
  obtain ⟨m, hm2⟩ : ∃ n, n = RV.n (c, u, v) := ⟨_, rfl⟩
  obtain ⟨d, hd2⟩ : ∃ n, n = RV.d (b, s, t) := ⟨_, rfl⟩
  obtain ⟨e, he2⟩ : ∃ n, n = RV.d (c, u, v) := ⟨_, rfl⟩
  rw [← hn2, ← hd2] at hn e1
  rw [← hm2, ← he2] at hm e1
  conv => whnf
  refine ⟨(b, s, t), rfl, trivial, ?_⟩
  by_cases h1 : RV.tiny (b, s, t)
  · rw [show machS.val (b, s, t) = .tuple ⟨[.int .i64 n, .int .i64 d, .bool true]⟩ from by simp only [machS, if_pos h1, decide_eq_true h1, hn2, hd2]]
    conv => whnf
    refine ⟨(c, u, v), rfl, trivial, ?_⟩
    by_cases h2 : RV.tiny (c, u, v)
    · rw [show machS.val (c, u, v) = .tuple ⟨[.int .i64 m, .int .i64 e, .bool true]⟩ from by simp only [machS, if_pos h2, decide_eq_true h2, hm2, he2]]
      conv => whnf
      refine ⟨((n, d), (m, e)), rfl, ⟨hn h1, hm h2⟩, ?_⟩
      rw [show cmp1S.val ((n, d), (m, e)) = .int .i64 w from e1]
      conv => whnf
      exact fin _ rfl
    · rw [show machS.val (c, u, v) = .tuple ⟨[.int .i64 0, .int .i64 0, .bool false]⟩ from by simp only [machS, if_neg h2, decide_eq_false h2]]
      conv => whnf
      refine .inl ⟨5, [[], [], [1], [], [1, 2, 3], [0, 1, 2, 3, 4], [0, 1, 2, 3, 4, 5]], by kernel_rfl, ?_⟩
      conv => whnf
      refine ⟨(b, s, t), rfl, by have := hp.1.2; show t.size ≤ _; exact Nat.le_trans this (by decide), ?_⟩
      rw [ex]
      conv => whnf
      refine ⟨(c, u, v), rfl, by have := hp.2.2; show v.size ≤ _; exact Nat.le_trans this (by decide), ?_⟩
      rw [ey]
      conv => whnf
      refine ⟨(((b, s), (false, x)), ((c, u), (false, y))), rfl, ⟨f1, f2⟩, ?_⟩
      rw [show cmp2S.val (((b, s), (false, x)), ((c, u), (false, y))) = .int .i64 w from e2]
      conv => whnf
      exact fin _ rfl
  · rw [show machS.val (b, s, t) = .tuple ⟨[.int .i64 0, .int .i64 0, .bool false]⟩ from by simp only [machS, if_neg h1, decide_eq_false h1]]
    conv => whnf
    obtain ⟨k1, k2, k3, hk⟩ : ∃ (k1 k2 : Int) (k3 : Bool), machS.val (c, u, v) = .tuple ⟨[.int .i64 k1, .int .i64 k2, .bool k3]⟩ := ⟨_, _, _, rfl⟩
    refine ⟨(c, u, v), rfl, trivial, ?_⟩
    rw [hk]
    conv => whnf
    refine .inl ⟨5, [[], [], [1], [], [1, 2, 3], [0, 1, 2, 3, 4], [0, 1, 2, 3, 4, 5]], by kernel_rfl, ?_⟩
    conv => whnf
    refine ⟨(b, s, t), rfl, by have := hp.1.2; show t.size ≤ _; exact Nat.le_trans this (by decide), ?_⟩
    rw [ex]
    conv => whnf
    refine ⟨(c, u, v), rfl, by have := hp.2.2; show v.size ≤ _; exact Nat.le_trans this (by decide), ?_⟩
    rw [ey]
    conv => whnf
    refine ⟨(((b, s), (false, x)), ((c, u), (false, y))), rfl, ⟨f1, f2⟩, ?_⟩
    rw [show cmp2S.val (((b, s), (false, x)), ((c, u), (false, y))) = .int .i64 w from e2]
    conv => whnf
    exact fin _ rfl

end Go.Proofs.YtgakcbdahbagkaaGreat
/- Contracts of rational: differences, signs, checks. -/
set_option linter.unusedVariables false
set_option linter.unusedSimpArgs false
set_option maxRecDepth 20000
set_option maxHeartbeats 1000000
namespace Go.Proofs.YtgakcbdahbagkaaGreat
open Go Go.Ae

def Eml : Env := { tt := tt, eqs := eqsL, Φ := fun g => match g with
  | 31 => some (.p qaddS)
  | 62 => some (.p ofRS)
  | 66 => some (.p numberS)
  | 80 => some (.p cmpS)
  | 65 => some (.p ofS)
  | 91 => some (.p negS)
  | _ => none }
theorem Emlok : EnvOk Tryz.prog Eml := ⟨tt_ok, eqs_ok, (fun g S h => by
  simp only [Eml] at h
  split at h
  · cases h; exact qadd_ok
  · cases h; exact ofR_ok
  · cases h; exact number_ok
  · cases h; exact cmp_ok
  · cases h; exact of_ok
  · cases h; exact neg_ok
  · cases h), fun g F h => by simp [Eml] at h⟩

theorem qsub_ok : Snd Tryz.prog 33 qsubS := by
  refine snd_of Emlok Dok Tryz.func33 (enters_of Tryz.func33 (by kernel_rfl) rfl) (fun _ => rfl) (fun _ => rfl) ?_
  intro ⟨⟨b, s, t⟩, ⟨c, u, v⟩⟩ hp
  have hp : RV.ok (b, s, t) ∧ RV.ok (c, u, v) := hp
  obtain ⟨w, hw⟩ : ∃ w, w = RV.q (b, s, t) - RV.q (c, u, v) := ⟨_, rfl⟩
  conv => whnf
  refine ⟨((b, s, t), (!c, u, v)), rfl, hp, ?_⟩
  rw [show qaddS.val ((b, s, t), (!c, u, v)) = (RV.of w).v from by
    rw [hw]
    show encQ (RV.q (b, s, t) + RV.q (!c, u, v)) = encQ _
    rw [neg_q', ← Rat.sub_eq_add_neg]]
  conv => whnf
  show (RV.of w).v = encQ _
  rw [hw]
  rfl

theorem qsign_ok : Snd Tryz.prog 45 qsignS := by
  refine snd_of Emlok Dok Tryz.func45 (enters_of Tryz.func45 (by kernel_rfl) rfl) (fun _ => rfl) (fun _ => rfl) ?_
  intro ⟨b, s, t⟩ hp
  have hp : RV.ok (b, s, t) := hp
  obtain ⟨x, hx⟩ : ∃ x, x = RV.den (b, s, t) := ⟨_, rfl⟩
  obtain ⟨w, hw⟩ : ∃ w, w = cmpQ (RV.q (b, s, t)) 0 := ⟨_, rfl⟩
  conv => whnf
  refine ⟨(b, s, t), rfl, by have := hp.2; show t.size ≤ _; exact Nat.le_trans this (by decide), ?_⟩
  rw [show ofRS.val (b, s, t) = .agg ⟨[.bool b, .string s, .bool false, .string x]⟩ from by rw [hx]; rfl]
  conv => whnf
  refine ⟨((b, s), (false, ⟨#[]⟩)), rfl, ⟨by have := hp.1; show s.size ≤ _; exact Nat.le_trans this (by decide), Nat.zero_le _⟩, ?_⟩
  rw [show cmpS.val ((b, s), (false, ⟨#[]⟩)) = .int .i64 w from by rw [hw, sign_q]; rfl]
  conv => whnf
  show Value.int .i64 w = _
  rw [hw]
  rfl

theorem qof_ok : Snd Tryz.prog 30 qofS := by
  refine snd_of Emlok Dok Tryz.func30 (enters_of Tryz.func30 (by kernel_rfl) rfl) (fun _ => rfl) (fun _ => rfl) ?_
  intro (n : Int) hp
  have hp : -9223372036854775808 ≤ n ∧ n < 9223372036854775808 := hp
  obtain ⟨w, hw⟩ : ∃ w : Rat, w = (n : Rat) := ⟨_, rfl⟩
  obtain ⟨B, m, hE⟩ := EI.mk' n
  obtain ⟨k, hF⟩ := EI.nonneg (show 0 ≤ (1 : Int) by decide)
  have hm := hE.size
  have hk := hF.size
  have h8 := nby_i64 hp
  have h1 := nby_i64 r1
  conv => whnf
  refine ⟨n, rfl, hp, ?_⟩
  rw [show ofS.val n = .agg ⟨[.bool B, .string m]⟩ from hE.enc]
  conv => whnf
  refine ⟨(1 : Int), rfl, r1, ?_⟩
  rw [show ofS.val (1 : Int) = .agg ⟨[.bool false, .string k]⟩ from hF.enc]
  conv => whnf
  refine ⟨((B, m), (false, k)), rfl, ⟨by show m.size ≤ _; omega, by show k.size ≤ _; omega, by show 0 < IV.z (false, k); rw [hF.val]; decide⟩, ?_⟩
  rw [show numberS.val ((B, m), (false, k)) = (RV.of w).v from by
    rw [hw, of_q n]
    show encQ (mkRat (IV.z (B, m)) (IV.z (false, k)).natAbs) = _
    rw [hE.val, hF.val]; rfl]
  conv => whnf
  show (RV.of w).v = encQ _
  rw [hw]
  rfl

theorem qnew_ok : Snd Tryz.prog 63 qnewS := by
  refine snd_of Emlok Dok Tryz.func63 (enters_of Tryz.func63 (by kernel_rfl) rfl) (fun _ => rfl) (fun _ => rfl) ?_
  intro ⟨⟨b, s⟩, ⟨c, t⟩⟩ hp
  have hp : s.size ≤ 549755813888 ∧ t.size ≤ 549755813888 := hp
  obtain ⟨x, hx⟩ : ∃ x, x = IV.z (b, s) := ⟨_, rfl⟩
  obtain ⟨y, hy⟩ : ∃ y, y = IV.z (c, t) := ⟨_, rfl⟩
  obtain ⟨w, hw⟩ : ∃ w, w = Rat.divInt x y := ⟨_, rfl⟩
  have ec : cmpS.val ((c, t), (false, ⟨#[]⟩)) = .int .i64 (cmpZ y 0) := by rw [hy]; rfl
  have fin0 : y = 0 → ∀ v, v = encQ 0 → Value.tuple ⟨[v, .int .i64 10]⟩ = qnewS.val ((b, s), (c, t)) := fun h v hv => by
    show _ = quoV (IV.z (b, s)) (IV.z (c, t))
    rw [← hy, hv]; unfold quoV; rw [if_pos h, h, Rat.divInt_zero]
  have fin : y ≠ 0 → ∀ v, v = encQ w → Value.tuple ⟨[v, .int .i64 0]⟩ = qnewS.val ((b, s), (c, t)) := fun h v hv => by
    show _ = quoV (IV.z (b, s)) (IV.z (c, t))
    rw [← hx, ← hy, hv]; unfold quoV; rw [if_neg h, hw]
  conv => whnf
  refine ⟨((c, t), (false, ⟨#[]⟩)), rfl, ⟨hp.2, Nat.zero_le _⟩, ?_⟩
  rw [ec]
  rcases Int.lt_trichotomy y 0 with h | h | h
  · rw [cmpZ_lt h]
    obtain ⟨B, m, hE⟩ := EI.mk' (-x)
    obtain ⟨k, hF⟩ := EI.nonneg (show 0 ≤ -y by omega)
    have hm : m.size ≤ 549755813888 := by rw [hE.size, Int.natAbs_neg, hx]; exact nby_z hp.1
    have hk : k.size ≤ 549755813888 := by rw [hF.size, Int.natAbs_neg, hy]; exact nby_z hp.2
    conv => whnf
    refine .inl ⟨3, [[], [0], [], [0, 1, 2], [0, 1, 2, 3], [0, 1, 2, 3, 4]], by kernel_rfl, ?_⟩
    conv => whnf
    refine ⟨(b, s), rfl, hp.1, ?_⟩
    rw [show negS.val (b, s) = .agg ⟨[.bool B, .string m]⟩ from by show encI (-IV.z (b, s)) = _; rw [← hx, hE.enc]]
    conv => whnf
    refine ⟨(c, t), rfl, hp.2, ?_⟩
    rw [show negS.val (c, t) = .agg ⟨[.bool false, .string k]⟩ from by show encI (-IV.z (c, t)) = _; rw [← hy, hF.enc]]
    conv => whnf
    refine ⟨((B, m), (false, k)), rfl, ⟨hm, hk, by show 0 < IV.z (false, k); rw [hF.val]; omega⟩, ?_⟩
    rw [show numberS.val ((B, m), (false, k)) = (RV.of w).v from by
      rw [hw, divInt_negs h]
      show encQ (mkRat (IV.z (B, m)) (IV.z (false, k)).natAbs) = _
      rw [hE.val, hF.val]; rfl]
    conv => whnf
    exact fin (by omega) _ rfl
  · rw [h]
    conv => whnf
    exact fin0 h _ encQ0.symm
  · rw [cmpZ_gt h]
    conv => whnf
    refine ⟨((b, s), (c, t)), rfl, ⟨hp.1, hp.2, by show 0 < IV.z (c, t); omega⟩, ?_⟩
    rw [show numberS.val ((b, s), (c, t)) = (RV.of w).v from by
      rw [hw, divInt_pos h, hx, hy]; rfl]
    conv => whnf
    exact fin (by omega) _ rfl

end Go.Proofs.YtgakcbdahbagkaaGreat
/- Contracts of the reference rationals: parts, lowest terms. -/
set_option linter.unusedVariables false
set_option linter.unusedSimpArgs false
set_option maxRecDepth 20000
set_option maxHeartbeats 1000000
namespace Go.Proofs.YtgakcbdahbagkaaGreat
open Go Go.Ae

def Eqa : Env := { tt := tt, eqs := [], Φ := fun g => match g with
  | 82 => some (.p addS)
  | 79 => some (.p ofS)
  | 106 => some (.p gcdS)
  | 107 => some (.p divS)
  | 105 => some (.p negS)
  | _ => none }
theorem Eqaok : EnvOk Tryz.prog Eqa := ⟨tt_ok, fun t h => by simp [Eqa] at h, (fun g S h => by
  simp only [Eqa] at h
  split at h
  · cases h; exact radd_ok
  · cases h; exact rof_ok
  · cases h; exact rgcd_ok
  · cases h; exact rdiv_ok
  · cases h; exact rneg_ok
  · cases h), fun g F h => by simp [Eqa] at h⟩

theorem parts_ok : Snd Tryz.prog 76 partsS := by
  refine snd_of Eqaok Dok Tryz.func76 (enters_of Tryz.func76 (by kernel_rfl) rfl) (fun _ => rfl) (fun _ => rfl) ?_
  intro ⟨b, s, t⟩ hp
  have hp : s.size ≤ 8589934592 ∧ t.size ≤ 8589934592 := hp
  obtain ⟨B, m, hE⟩ := EI.mk' (RV.n (b, s, t))
  obtain ⟨k, hF⟩ := EI.nonneg (show 0 ≤ ((bnat t : Nat) : Int) by omega)
  obtain ⟨j, hG⟩ := EI.nonneg (show 0 ≤ (1 : Int) by decide)
  have fin : ∀ (v : Value), v = encI ((RV.d (b, s, t) : Nat) : Int) → Value.tuple ⟨[.agg ⟨[.bool B, .string m]⟩, v]⟩ = partsS.val (b, s, t) := fun v h => by
    rw [h, ← hE.enc]; rfl
  conv => whnf
  refine ⟨((b, s), (false, ⟨#[]⟩)), rfl, ⟨by show s.size ≤ _; omega, Nat.zero_le _⟩, ?_⟩
  rw [show addS.val ((b, s), (false, ⟨#[]⟩)) = .agg ⟨[.bool B, .string m]⟩ from by
    show encI (IV.z (b, s) + 0) = _
    rw [Int.add_zero]; exact hE.enc]
  conv => whnf
  refine ⟨((false, t), (false, ⟨#[]⟩)), rfl, ⟨by show t.size ≤ _; omega, Nat.zero_le _⟩, ?_⟩
  rw [show addS.val ((false, t), (false, ⟨#[]⟩)) = .agg ⟨[.bool false, .string k]⟩ from by
    show encI (((bnat t : Nat) : Int) + 0) = _
    rw [Int.add_zero]; exact hF.enc]
  conv => whnf
  rw [hF.nil]
  by_cases h : bnat t = 0
  · rw [decide_eq_true (by omega)]
    have fin := fin (.agg ⟨[.bool false, .string j]⟩) (by rw [← hG.enc]; unfold RV.d; rw [if_pos h]; rfl)
    conv => whnf
    refine ⟨(1 : Int), rfl, r1, ?_⟩
    rw [show ofS.val (1 : Int) = .agg ⟨[.bool false, .string j]⟩ from hG.enc]
    conv => whnf
    refine .inr (.inl ⟨(.br 0 (.br 1 (.br 2 (.br 3 .leaf .leaf) .leaf) (.br 2 (.br 1 (.br 3 .leaf .leaf) .leaf) .leaf)) (.br 1 (.br 0 (.br 2 (.br 3 .leaf .leaf) .leaf) .leaf) .leaf)), by kernel_rfl, ?_⟩)
    repeat' ((conv => whnf); first | exact True.intro | refine And.intro ?_ ?_)
    all_goals conv => whnf
    all_goals exact fin
  · rw [decide_eq_false (by omega)]
    have fin := fin (.agg ⟨[.bool false, .string k]⟩) (by rw [← hF.enc]; unfold RV.d; rw [if_neg h])
    conv => whnf
    refine .inr (.inl ⟨(.br 0 (.br 1 (.br 2 (.br 3 .leaf .leaf) .leaf) (.br 2 (.br 1 (.br 3 .leaf .leaf) .leaf) .leaf)) (.br 1 (.br 0 (.br 2 (.br 3 .leaf .leaf) .leaf) .leaf) .leaf)), by kernel_rfl, ?_⟩)
    repeat' ((conv => whnf); first | exact True.intro | refine And.intro ?_ ?_)
    all_goals conv => whnf
    all_goals exact fin

theorem reduce_ok : Snd Tryz.prog 77 reduceS := by
  refine snd_of Eqaok Dok Tryz.func77 (enters_of Tryz.func77 (by kernel_rfl) rfl) (fun _ => rfl) (fun _ => rfl) ?_
  intro ⟨⟨b, s⟩, ⟨c, t⟩⟩ hp
  have hp : s.size ≤ 549755813888 ∧ t.size ≤ 549755813888 ∧ 0 < IV.z (c, t) := hp
  obtain ⟨x, hx⟩ : ∃ x, x = IV.z (b, s) := ⟨_, rfl⟩
  obtain ⟨d, hd⟩ : ∃ d, d = (IV.z (c, t)).natAbs := ⟨_, rfl⟩
  have hd2 : IV.z (c, t) = ((d : Nat) : Int) := by omega
  have hd0 : d ≠ 0 := by omega
  obtain ⟨q, hq⟩ : ∃ q, q = mkRat x d := ⟨_, rfl⟩
  have fin : ∀ v : Value, v = encQ q → v = reduceS.val ((b, s), (c, t)) := fun v h => by rw [h, hq, hx, hd]; rfl
  obtain ⟨B, m, hE⟩ := EI.mk' x
  obtain ⟨k, hF⟩ := EI.nonneg (show 0 ≤ ((d : Nat) : Int) by omega)
  have hds : nby d ≤ 549755813888 := by rw [hd]; exact IV.nby (i := (c, t)) hp.2.1
  have hms : m.size ≤ 549755813888 := by rw [hE.size, hx]; exact nby_z hp.1
  have hks : k.size ≤ 549755813888 := by rw [hF.size, Int.natAbs_natCast]; exact hds
  conv => whnf
  refine .inl ⟨5, [[], [], [0, 1], [], [], [0, 1, 2, 3, 4], [0, 1, 2, 3, 4, 5], [0, 1, 2, 3, 4, 5, 6]], by kernel_rfl, ?_⟩
  conv => whnf
  refine ⟨((b, s), (false, ⟨#[]⟩)), rfl, ⟨hp.1, Nat.zero_le _⟩, ?_⟩
  rw [show addS.val ((b, s), (false, ⟨#[]⟩)) = .agg ⟨[.bool B, .string m]⟩ from by
    show encI (IV.z (b, s) + 0) = _
    rw [Int.add_zero, ← hx]; exact hE.enc]
  conv => whnf
  refine ⟨((c, t), (false, ⟨#[]⟩)), rfl, ⟨hp.2.1, Nat.zero_le _⟩, ?_⟩
  rw [show addS.val ((c, t), (false, ⟨#[]⟩)) = .agg ⟨[.bool false, .string k]⟩ from by
    show encI (IV.z (c, t) + 0) = _
    rw [Int.add_zero, hd2]; exact hF.enc]
  conv => whnf
  rw [hE.nil]
  by_cases h1 : x = 0
  · rw [decide_eq_true h1]
    conv => whnf
    exact fin _ (by rw [hq, h1]; exact (encQ_zero d).symm)
  · rw [decide_eq_false h1]
    obtain ⟨g, hg⟩ : ∃ g, g = Int.gcd x d := ⟨_, rfl⟩
    obtain ⟨gs, hgs⟩ := EI.nonneg (show 0 ≤ ((g : Nat) : Int) by omega)
    obtain ⟨qb, qs, hn⟩ := EI.mk' q.num
    obtain ⟨es, he⟩ := EI.nonneg (show 0 ≤ ((q.den : Nat) : Int) by omega)
    have hg0 : ((g : Nat) : Int) ≠ 0 := by
      have : 0 < g := by rw [hg]; exact Int.gcd_pos_of_ne_zero_left _ h1
      omega
    have hgle : g ≤ d := by
      have h3 := (div_self_gcd hd0 hg).2.1
      rcases Nat.lt_or_ge d g with h | h
      · rw [Nat.div_eq_of_lt h] at h3; omega
      · exact h
    have gsz : gs.size ≤ 549755813888 := by
      rw [hgs.size, Int.natAbs_natCast]
      exact Nat.le_trans (nby_mono hgle) hds
    have hqn : x.fdiv ((g : Nat) : Int) = q.num := by rw [hg, hq]; exact mk_num x hd0
    have hqd : ((d : Nat) : Int).fdiv ((g : Nat) : Int) = ((q.den : Nat) : Int) := by rw [hg, hq]; exact mk_den x hd0
    conv => whnf
    refine ⟨((B, m), (false, k)), rfl, ⟨hms, hks⟩, ?_⟩
    rw [show gcdS.val ((B, m), (false, k)) = .agg ⟨[.bool false, .string gs]⟩ from by
      show encI ((Int.gcd (IV.z (B, m)) (IV.z (false, k)) : Nat) : Int) = _
      rw [hE.val, hF.val, ← hg, hgs.enc]]
    conv => whnf
    obtain ⟨fb, fs, hf⟩ := EI.mk' (x.fmod ((g : Nat) : Int))
    refine ⟨((B, m), (false, gs)), rfl, ⟨hms, gsz⟩, ?_⟩
    rw [show divS.val ((B, m), (false, gs)) = .tuple ⟨[.agg ⟨[.bool qb, .string qs]⟩, .agg ⟨[.bool fb, .string fs]⟩, .int .i64 0]⟩ from by
      simp only [divS, hgs.val, hE.val, if_neg hg0]
      rw [hqn, hn.enc, hf.enc]]
    conv => whnf
    obtain ⟨kb, ks, hk⟩ := EI.mk' (((d : Nat) : Int).fmod ((g : Nat) : Int))
    refine ⟨((false, k), (false, gs)), rfl, ⟨hks, gsz⟩, ?_⟩
    rw [show divS.val ((false, k), (false, gs)) = .tuple ⟨[.agg ⟨[.bool false, .string es]⟩, .agg ⟨[.bool kb, .string ks]⟩, .int .i64 0]⟩ from by
      simp only [divS, hgs.val, hF.val, if_neg hg0]
      rw [hqd, he.enc, hk.enc]]
    conv => whnf
    have enc : ∀ y, denS q.den = y → Value.agg ⟨[.bool qb, .string qs, .string y]⟩ = encQ q := fun y hy => by
      unfold encQ
      rw [← hn.mag, ← hn.sign, hy]
    have ees : es = nb q.den := he.mag
    have hone : (es.toList == (⟨#[1]⟩ : ByteArray).toList) = decide (q.den = 1) := by
      rw [str_eq, ees, show (⟨#[1]⟩ : ByteArray) = nb 1 from nb_1.symm]
      by_cases h : q.den = 1
      · rw [h]; simp
      · rw [decide_eq_false h, decide_eq_false (fun e => h (nb_inj e))]
    rw [hone]
    by_cases h2 : q.den = 1
    · rw [decide_eq_true h2]
      conv => whnf
      exact fin _ (enc _ (by unfold denS; rw [if_pos h2]))
    · rw [decide_eq_false h2]
      conv => whnf
      exact fin _ (enc _ (by unfold denS; rw [if_neg h2, he.mag, Int.natAbs_natCast]))
end Go.Proofs.YtgakcbdahbagkaaGreat
/- Contracts of the reference rationals: the operations. -/
set_option linter.unusedVariables false
set_option linter.unusedSimpArgs false
set_option maxRecDepth 20000
set_option maxHeartbeats 1000000
namespace Go.Proofs.YtgakcbdahbagkaaGreat
open Go Go.Ae

def Eqb : Env := { tt := tt, eqs := eqsL, Φ := fun g => match g with
  | 74 => some (.p machS)
  | 75 => some (.p ratioS)
  | 76 => some (.p partsS)
  | 77 => some (.p reduceS)
  | 79 => some (.p ofS)
  | 82 => some (.p addS)
  | 78 => some (.p mulS)
  | 112 => some (.p cmpS)
  | _ => none }
theorem Eqbok : EnvOk Tryz.prog Eqb := ⟨tt_ok, eqs_ok, (fun g S h => by
  simp only [Eqb] at h
  split at h
  · cases h; exact small_ok
  · cases h; exact pack_ok2
  · cases h; exact parts_ok
  · cases h; exact reduce_ok
  · cases h; exact rof_ok
  · cases h; exact radd_ok
  · cases h; exact rmul_ok
  · cases h; exact rcmp_ok
  · cases h), fun g F h => by simp [Eqb] at h⟩

theorem rqof_ok : Snd Tryz.prog 39 qofS := by
  refine snd_of Eqbok Dok Tryz.func39 (enters_of Tryz.func39 (by kernel_rfl) rfl) (fun _ => rfl) (fun _ => rfl) ?_
  intro (n : Int) hp
  have hp : -9223372036854775808 ≤ n ∧ n < 9223372036854775808 := hp
  obtain ⟨w, hw⟩ : ∃ w : Rat, w = (n : Rat) := ⟨_, rfl⟩
  obtain ⟨B, m, hE⟩ := EI.mk' n
  obtain ⟨k, hF⟩ := EI.nonneg (show 0 ≤ (1 : Int) by decide)
  have hm := hE.size
  have hk := hF.size
  have h8 := nby_i64 hp
  have h1 := nby_i64 r1
  conv => whnf
  refine ⟨n, rfl, hp, ?_⟩
  rw [show ofS.val n = .agg ⟨[.bool B, .string m]⟩ from hE.enc]
  conv => whnf
  refine ⟨(1 : Int), rfl, r1, ?_⟩
  rw [show ofS.val (1 : Int) = .agg ⟨[.bool false, .string k]⟩ from hF.enc]
  conv => whnf
  refine ⟨((B, m), (false, k)), rfl, ⟨by show m.size ≤ _; omega, by show k.size ≤ _; omega, by show 0 < IV.z (false, k); rw [hF.val]; decide⟩, ?_⟩
  rw [show reduceS.val ((B, m), (false, k)) = (RV.of w).v from by
    rw [hw, of_q n]
    show encQ (mkRat (IV.z (B, m)) (IV.z (false, k)).natAbs) = _
    rw [hE.val, hF.val]; rfl]
  conv => whnf
  show (RV.of w).v = encQ _
  rw [hw]
  rfl

end Go.Proofs.YtgakcbdahbagkaaGreat
/- Contracts of the reference rationals: sum, product, comparison. -/
set_option linter.unusedVariables false
set_option linter.unusedSimpArgs false
set_option maxRecDepth 20000
set_option maxHeartbeats 1000000
namespace Go.Proofs.YtgakcbdahbagkaaGreat
open Go Go.Ae

theorem rqadd_ok : Snd Tryz.prog 49 qaddS := by
  refine snd_of Eqbok Dok Tryz.func49 (enters_of Tryz.func49 (by kernel_rfl) rfl) (fun _ => rfl) (fun _ => rfl) ?_
  intro ⟨⟨b, s, t⟩, ⟨c, u, v⟩⟩ hp
  have hp : (s.size ≤ 8589934592 ∧ t.size ≤ 8589934592) ∧ u.size ≤ 8589934592 ∧ v.size ≤ 8589934592 := hp
  have hn := RV.tinyR (i := (b, s, t))
  have hm := RV.tinyR (i := (c, u, v))
  obtain ⟨n, hn2⟩ : ∃ n, n = RV.n (b, s, t) := ⟨_, rfl⟩
  obtain ⟨m, hm2⟩ : ∃ n, n = RV.n (c, u, v) := ⟨_, rfl⟩
  obtain ⟨d, hd2⟩ : ∃ n, n = RV.d (b, s, t) := ⟨_, rfl⟩
  obtain ⟨e, he2⟩ : ∃ n, n = RV.d (c, u, v) := ⟨_, rfl⟩
  have hd0 : d ≠ 0 := by rw [hd2]; exact RV.d_pos _
  have he0 : e ≠ 0 := by rw [he2]; exact RV.d_pos _
  rw [← hn2, ← hd2] at hn
  rw [← hm2, ← he2] at hm
  obtain ⟨B, p, hP⟩ := EI.mk' n
  obtain ⟨q, hQ⟩ := EI.nonneg (show 0 ≤ ((d : Nat) : Int) by omega)
  obtain ⟨D, p', hP'⟩ := EI.mk' m
  obtain ⟨q', hQ'⟩ := EI.nonneg (show 0 ≤ ((e : Nat) : Int) by omega)
  have sn : nby n.natAbs ≤ 8589934593 := by rw [hn2]; exact nby_z (b := b) (Nat.le_succ_of_le hp.1.1)
  have sm : nby m.natAbs ≤ 8589934593 := by rw [hm2]; exact nby_z (b := c) (Nat.le_succ_of_le hp.2.1)
  have sd : nby (Int.natAbs ((d : Nat) : Int)) ≤ 8589934593 := by
    rw [hd2, ← RV.den_z]
    exact nby_z (Nat.le_trans (RV.den_size _) (Nat.succ_le_succ hp.1.2))
  have se : nby (Int.natAbs ((e : Nat) : Int)) ≤ 8589934593 := by
    rw [he2, ← RV.den_z]
    exact nby_z (Nat.le_trans (RV.den_size _) (Nat.succ_le_succ hp.2.2))
  have zp : p.size ≤ 8589934593 := by rw [hP.size]; exact sn
  have zq : q.size ≤ 8589934593 := by rw [hQ.size]; exact sd
  have zp' : p'.size ≤ 8589934593 := by rw [hP'.size]; exact sm
  have zq' : q'.size ≤ 8589934593 := by rw [hQ'.size]; exact se
  have pa : partsS.val (b, s, t) = .tuple ⟨[.agg ⟨[.bool B, .string p]⟩, .agg ⟨[.bool false, .string q]⟩]⟩ := by
    rw [← hP.enc, ← hQ.enc, hn2, hd2]; rfl
  have pb : partsS.val (c, u, v) = .tuple ⟨[.agg ⟨[.bool D, .string p']⟩, .agg ⟨[.bool false, .string q']⟩]⟩ := by
    rw [← hP'.enc, ← hQ'.enc, hm2, he2]; rfl
  obtain ⟨w, hw⟩ : ∃ w, w = mkRat (n * e + m * d) (d * e) := ⟨_, rfl⟩
  have fin : ∀ x : Value, x = (RV.of w).v → x = qaddS.val ((b, s, t), (c, u, v)) := fun x h => by
    rw [h, hw, hn2, hm2, hd2, he2]
    show encQ _ = encQ (RV.q (b, s, t) + RV.q (c, u, v))
    rw [add_q]
  conv => whnf
  refine ⟨(b, s, t), rfl, trivial, ?_⟩
  by_cases h1 : RV.tiny (b, s, t)
  · rw [show machS.val (b, s, t) = .tuple ⟨[.int .i64 n, .int .i64 d, .bool true]⟩ from by simp only [machS, if_pos h1, decide_eq_true h1, hn2, hd2]]
    conv => whnf
    refine ⟨(c, u, v), rfl, trivial, ?_⟩
    by_cases h2 : RV.tiny (c, u, v)
    · rw [show machS.val (c, u, v) = .tuple ⟨[.int .i64 m, .int .i64 e, .bool true]⟩ from by simp only [machS, if_pos h2, decide_eq_true h2, hm2, he2]]
      have hok : I4.ok ((n, d), (m, e)) := ⟨hn h1, hm h2⟩
      obtain ⟨b1, b2, b3, b4⟩ := I4.bounds hok
      simp only at b1 b2 b3 b4
      conv => whnf
      obtain ⟨x, hx⟩ : ∃ x, x = n * (e : Int) := ⟨_, rfl⟩
      obtain ⟨y, hy⟩ : ∃ y, y = m * (d : Int) := ⟨_, rfl⟩
      obtain ⟨k, hk⟩ : ∃ k, k = d * e := ⟨_, rfl⟩
      rw [← hx] at b1
      rw [← hy] at b2
      rw [← hk] at b4
      have e1 : IntKind.i64.wrap (IntKind.i64.wrap (n * (e : Int)) + IntKind.i64.wrap (m * (d : Int))) = x + y := by
        rw [← hx, ← hy, wrapi64 (x := x) (by omega) (by omega), wrapi64 (x := y) (by omega) (by omega), wrapi64 (by omega) (by omega)]
      have e2 : IntKind.i64.wrap ((d : Int) * (e : Int)) = (k : Int) := by
        rw [← Int.natCast_mul, ← hk, wrapi64 (by omega) (by omega)]
      rw [e1, e2]
      refine ⟨(x + y, k), rfl, ⟨by show (x + y).natAbs < _; omega, by show k ≠ 0; omega, by show k < _; omega⟩, ?_⟩
      rw [show ratioS.val (x + y, k) = (RV.of w).v from by rw [hw, hx, hy, hk]; rfl]
      conv => whnf
      exact fin _ rfl
    · rw [show machS.val (c, u, v) = .tuple ⟨[.int .i64 0, .int .i64 0, .bool false]⟩ from by simp only [machS, if_neg h2, decide_eq_false h2]]
      conv => whnf
      refine ⟨(b, s, t), rfl, hp.1, ?_⟩
      rw [pa]
      conv => whnf
      refine ⟨(c, u, v), rfl, hp.2, ?_⟩
      rw [pb]
      obtain ⟨B1, m1, g1⟩ := EI.mk' (n * (e : Int))
      obtain ⟨B2, m2, g2⟩ := EI.mk' (m * (d : Int))
      obtain ⟨B3, m3, g3⟩ := EI.mk' (n * (e : Int) + m * (d : Int))
      obtain ⟨B4, m4, g4⟩ := EI.mk' ((d : Int) * (e : Int))
      have z1 := g1.mul_size sn se
      have z2 := g2.mul_size sm sd
      have z4 := g4.mul_size sd se
      have z3 : m3.size ≤ 17179869187 := g3.add_size (by rw [← g1.size]; omega) (by rw [← g2.size]; omega)
      have hpos : (0 : Int) < (d : Int) * (e : Int) := Int.mul_pos (by omega) (by omega)
      conv => whnf
      refine .inl ⟨9, [[], [], [0, 1], [], [], [0, 1, 2, 3, 4], [0, 1, 2, 3, 4, 5], [], [], [0, 1, 2, 3, 4, 5, 6, 7, 8], [0, 1, 2, 3, 4, 5, 6, 7, 8, 9], [0, 1, 2, 3, 4, 5, 6, 7, 8, 9, 10]], by kernel_rfl, ?_⟩
      conv => whnf
      refine ⟨((B, p), (false, q')), rfl, ⟨by show p.size ≤ _; omega, by show q'.size ≤ _; omega⟩, ?_⟩
      rw [show mulS.val ((B, p), (false, q')) = .agg ⟨[.bool B1, .string m1]⟩ from by show encI (IV.z (B, p) * IV.z (false, q')) = _; rw [hP.val, hQ'.val, g1.enc]]
      conv => whnf
      refine ⟨((D, p'), (false, q)), rfl, ⟨by show p'.size ≤ _; omega, by show q.size ≤ _; omega⟩, ?_⟩
      rw [show mulS.val ((D, p'), (false, q)) = .agg ⟨[.bool B2, .string m2]⟩ from by show encI (IV.z (D, p') * IV.z (false, q)) = _; rw [hP'.val, hQ.val, g2.enc]]
      conv => whnf
      refine ⟨((B1, m1), (B2, m2)), rfl, ⟨by show m1.size ≤ _; omega, by show m2.size ≤ _; omega⟩, ?_⟩
      rw [show addS.val ((B1, m1), (B2, m2)) = .agg ⟨[.bool B3, .string m3]⟩ from by show encI (IV.z (B1, m1) + IV.z (B2, m2)) = _; rw [g1.val, g2.val, g3.enc]]
      conv => whnf
      refine ⟨((false, q), (false, q')), rfl, ⟨by show q.size ≤ _; omega, by show q'.size ≤ _; omega⟩, ?_⟩
      rw [show mulS.val ((false, q), (false, q')) = .agg ⟨[.bool B4, .string m4]⟩ from by show encI (IV.z (false, q) * IV.z (false, q')) = _; rw [hQ.val, hQ'.val, g4.enc]]
      conv => whnf
      refine ⟨((B3, m3), (B4, m4)), rfl, ⟨by show m3.size ≤ _; omega, by show m4.size ≤ _; omega, by show 0 < IV.z (B4, m4); rw [g4.val]; exact hpos⟩, ?_⟩
      rw [show reduceS.val ((B3, m3), (B4, m4)) = (RV.of w).v from by
        show encQ (mkRat (IV.z (B3, m3)) (IV.z (B4, m4)).natAbs) = _
        rw [g3.val, g4.val, hw, ← Int.natCast_mul, Int.natAbs_natCast]; rfl]
      conv => whnf
      exact fin _ rfl
  · rw [show machS.val (b, s, t) = .tuple ⟨[.int .i64 0, .int .i64 0, .bool false]⟩ from by simp only [machS, if_neg h1, decide_eq_false h1]]
    conv => whnf
    obtain ⟨k1, k2, k3, hk⟩ : ∃ (k1 k2 : Int) (k3 : Bool), machS.val (c, u, v) = .tuple ⟨[.int .i64 k1, .int .i64 k2, .bool k3]⟩ := ⟨_, _, _, rfl⟩
    refine ⟨(c, u, v), rfl, trivial, ?_⟩
    rw [hk]
    conv => whnf
    refine ⟨(b, s, t), rfl, hp.1, ?_⟩
    rw [pa]
    conv => whnf
    refine ⟨(c, u, v), rfl, hp.2, ?_⟩
    rw [pb]
    obtain ⟨B1, m1, g1⟩ := EI.mk' (n * (e : Int))
    obtain ⟨B2, m2, g2⟩ := EI.mk' (m * (d : Int))
    obtain ⟨B3, m3, g3⟩ := EI.mk' (n * (e : Int) + m * (d : Int))
    obtain ⟨B4, m4, g4⟩ := EI.mk' ((d : Int) * (e : Int))
    have z1 := g1.mul_size sn se
    have z2 := g2.mul_size sm sd
    have z4 := g4.mul_size sd se
    have z3 : m3.size ≤ 17179869187 := g3.add_size (by rw [← g1.size]; omega) (by rw [← g2.size]; omega)
    have hpos : (0 : Int) < (d : Int) * (e : Int) := Int.mul_pos (by omega) (by omega)
    conv => whnf
    refine .inl ⟨9, [[], [], [0, 1], [], [], [0, 1, 2, 3, 4], [0, 1, 2, 3, 4, 5], [], [], [0, 1, 2, 3, 4, 5, 6, 7, 8], [0, 1, 2, 3, 4, 5, 6, 7, 8, 9], [0, 1, 2, 3, 4, 5, 6, 7, 8, 9, 10]], by kernel_rfl, ?_⟩
    conv => whnf
    refine ⟨((B, p), (false, q')), rfl, ⟨by show p.size ≤ _; omega, by show q'.size ≤ _; omega⟩, ?_⟩
    rw [show mulS.val ((B, p), (false, q')) = .agg ⟨[.bool B1, .string m1]⟩ from by show encI (IV.z (B, p) * IV.z (false, q')) = _; rw [hP.val, hQ'.val, g1.enc]]
    conv => whnf
    refine ⟨((D, p'), (false, q)), rfl, ⟨by show p'.size ≤ _; omega, by show q.size ≤ _; omega⟩, ?_⟩
    rw [show mulS.val ((D, p'), (false, q)) = .agg ⟨[.bool B2, .string m2]⟩ from by show encI (IV.z (D, p') * IV.z (false, q)) = _; rw [hP'.val, hQ.val, g2.enc]]
    conv => whnf
    refine ⟨((B1, m1), (B2, m2)), rfl, ⟨by show m1.size ≤ _; omega, by show m2.size ≤ _; omega⟩, ?_⟩
    rw [show addS.val ((B1, m1), (B2, m2)) = .agg ⟨[.bool B3, .string m3]⟩ from by show encI (IV.z (B1, m1) + IV.z (B2, m2)) = _; rw [g1.val, g2.val, g3.enc]]
    conv => whnf
    refine ⟨((false, q), (false, q')), rfl, ⟨by show q.size ≤ _; omega, by show q'.size ≤ _; omega⟩, ?_⟩
    rw [show mulS.val ((false, q), (false, q')) = .agg ⟨[.bool B4, .string m4]⟩ from by show encI (IV.z (false, q) * IV.z (false, q')) = _; rw [hQ.val, hQ'.val, g4.enc]]
    conv => whnf
    refine ⟨((B3, m3), (B4, m4)), rfl, ⟨by show m3.size ≤ _; omega, by show m4.size ≤ _; omega, by show 0 < IV.z (B4, m4); rw [g4.val]; exact hpos⟩, ?_⟩
    rw [show reduceS.val ((B3, m3), (B4, m4)) = (RV.of w).v from by
      show encQ (mkRat (IV.z (B3, m3)) (IV.z (B4, m4)).natAbs) = _
      rw [g3.val, g4.val, hw, ← Int.natCast_mul, Int.natAbs_natCast]; rfl]
    conv => whnf
    exact fin _ rfl

theorem rqmul_ok : Snd Tryz.prog 38 qmulS := by
  refine snd_of Eqbok Dok Tryz.func38 (enters_of Tryz.func38 (by kernel_rfl) rfl) (fun _ => rfl) (fun _ => rfl) ?_
  intro ⟨⟨b, s, t⟩, ⟨c, u, v⟩⟩ hp
  have hp : (s.size ≤ 8589934592 ∧ t.size ≤ 8589934592) ∧ u.size ≤ 8589934592 ∧ v.size ≤ 8589934592 := hp
  have hn := RV.tinyR (i := (b, s, t))
  have hm := RV.tinyR (i := (c, u, v))
  obtain ⟨n, hn2⟩ : ∃ n, n = RV.n (b, s, t) := ⟨_, rfl⟩
  obtain ⟨m, hm2⟩ : ∃ n, n = RV.n (c, u, v) := ⟨_, rfl⟩
  obtain ⟨d, hd2⟩ : ∃ n, n = RV.d (b, s, t) := ⟨_, rfl⟩
  obtain ⟨e, he2⟩ : ∃ n, n = RV.d (c, u, v) := ⟨_, rfl⟩
  have hd0 : d ≠ 0 := by rw [hd2]; exact RV.d_pos _
  have he0 : e ≠ 0 := by rw [he2]; exact RV.d_pos _
  rw [← hn2, ← hd2] at hn
  rw [← hm2, ← he2] at hm
  obtain ⟨B, p, hP⟩ := EI.mk' n
  obtain ⟨q, hQ⟩ := EI.nonneg (show 0 ≤ ((d : Nat) : Int) by omega)
  obtain ⟨D, p', hP'⟩ := EI.mk' m
  obtain ⟨q', hQ'⟩ := EI.nonneg (show 0 ≤ ((e : Nat) : Int) by omega)
  have sn : nby n.natAbs ≤ 8589934593 := by rw [hn2]; exact nby_z (b := b) (Nat.le_succ_of_le hp.1.1)
  have sm : nby m.natAbs ≤ 8589934593 := by rw [hm2]; exact nby_z (b := c) (Nat.le_succ_of_le hp.2.1)
  have sd : nby (Int.natAbs ((d : Nat) : Int)) ≤ 8589934593 := by
    rw [hd2, ← RV.den_z]
    exact nby_z (Nat.le_trans (RV.den_size _) (Nat.succ_le_succ hp.1.2))
  have se : nby (Int.natAbs ((e : Nat) : Int)) ≤ 8589934593 := by
    rw [he2, ← RV.den_z]
    exact nby_z (Nat.le_trans (RV.den_size _) (Nat.succ_le_succ hp.2.2))
  have zp : p.size ≤ 8589934593 := by rw [hP.size]; exact sn
  have zq : q.size ≤ 8589934593 := by rw [hQ.size]; exact sd
  have zp' : p'.size ≤ 8589934593 := by rw [hP'.size]; exact sm
  have zq' : q'.size ≤ 8589934593 := by rw [hQ'.size]; exact se
  have pa : partsS.val (b, s, t) = .tuple ⟨[.agg ⟨[.bool B, .string p]⟩, .agg ⟨[.bool false, .string q]⟩]⟩ := by
    rw [← hP.enc, ← hQ.enc, hn2, hd2]; rfl
  have pb : partsS.val (c, u, v) = .tuple ⟨[.agg ⟨[.bool D, .string p']⟩, .agg ⟨[.bool false, .string q']⟩]⟩ := by
    rw [← hP'.enc, ← hQ'.enc, hm2, he2]; rfl
  obtain ⟨w, hw⟩ : ∃ w, w = mkRat (n * m) (d * e) := ⟨_, rfl⟩
  have fin : ∀ x : Value, x = (RV.of w).v → x = qmulS.val ((b, s, t), (c, u, v)) := fun x h => by
    rw [h, hw, hn2, hm2, hd2, he2]
    show encQ _ = encQ (RV.q (b, s, t) * RV.q (c, u, v))
    rw [mul_q]
  conv => whnf
  refine ⟨(b, s, t), rfl, trivial, ?_⟩
  by_cases h1 : RV.tiny (b, s, t)
  · rw [show machS.val (b, s, t) = .tuple ⟨[.int .i64 n, .int .i64 d, .bool true]⟩ from by simp only [machS, if_pos h1, decide_eq_true h1, hn2, hd2]]
    conv => whnf
    refine ⟨(c, u, v), rfl, trivial, ?_⟩
    by_cases h2 : RV.tiny (c, u, v)
    · rw [show machS.val (c, u, v) = .tuple ⟨[.int .i64 m, .int .i64 e, .bool true]⟩ from by simp only [machS, if_pos h2, decide_eq_true h2, hm2, he2]]
      have hok : I4.ok ((n, d), (m, e)) := ⟨hn h1, hm h2⟩
      obtain ⟨b1, b2, b3, b4⟩ := I4.bounds hok
      simp only at b1 b2 b3 b4
      conv => whnf
      obtain ⟨x, hx⟩ : ∃ x, x = n * m := ⟨_, rfl⟩
      obtain ⟨k, hk⟩ : ∃ k, k = d * e := ⟨_, rfl⟩
      rw [← hx] at b3
      rw [← hk] at b4
      have e1 : IntKind.i64.wrap (n * m) = x := by
        rw [← hx, wrapi64 (x := x) (by omega) (by omega)]
      have e2 : IntKind.i64.wrap ((d : Int) * (e : Int)) = (k : Int) := by
        rw [← Int.natCast_mul, ← hk, wrapi64 (by omega) (by omega)]
      rw [e1, e2]
      refine ⟨(x, k), rfl, ⟨by show x.natAbs < _; omega, by show k ≠ 0; omega, by show k < _; omega⟩, ?_⟩
      rw [show ratioS.val (x, k) = (RV.of w).v from by rw [hw, hx, hk]; rfl]
      conv => whnf
      exact fin _ rfl
    · rw [show machS.val (c, u, v) = .tuple ⟨[.int .i64 0, .int .i64 0, .bool false]⟩ from by simp only [machS, if_neg h2, decide_eq_false h2]]
      conv => whnf
      refine ⟨(b, s, t), rfl, hp.1, ?_⟩
      rw [pa]
      conv => whnf
      refine ⟨(c, u, v), rfl, hp.2, ?_⟩
      rw [pb]
      obtain ⟨B1, m1, g1⟩ := EI.mk' (n * m)
      obtain ⟨B4, m4, g4⟩ := EI.mk' ((d : Int) * (e : Int))
      have z1 := g1.mul_size sn sm
      have z4 := g4.mul_size sd se
      have hpos : (0 : Int) < (d : Int) * (e : Int) := Int.mul_pos (by omega) (by omega)
      conv => whnf
      refine .inl ⟨5, [[], [], [0, 1], [], [], [0, 1, 2, 3, 4], [0, 1, 2, 3, 4, 5], [0, 1, 2, 3, 4, 5, 6]], by kernel_rfl, ?_⟩
      conv => whnf
      refine ⟨((B, p), (D, p')), rfl, ⟨by show p.size ≤ _; omega, by show p'.size ≤ _; omega⟩, ?_⟩
      rw [show mulS.val ((B, p), (D, p')) = .agg ⟨[.bool B1, .string m1]⟩ from by show encI (IV.z (B, p) * IV.z (D, p')) = _; rw [hP.val, hP'.val, g1.enc]]
      conv => whnf
      refine ⟨((false, q), (false, q')), rfl, ⟨by show q.size ≤ _; omega, by show q'.size ≤ _; omega⟩, ?_⟩
      rw [show mulS.val ((false, q), (false, q')) = .agg ⟨[.bool B4, .string m4]⟩ from by show encI (IV.z (false, q) * IV.z (false, q')) = _; rw [hQ.val, hQ'.val, g4.enc]]
      conv => whnf
      refine ⟨((B1, m1), (B4, m4)), rfl, ⟨by show m1.size ≤ _; omega, by show m4.size ≤ _; omega, by show 0 < IV.z (B4, m4); rw [g4.val]; exact hpos⟩, ?_⟩
      rw [show reduceS.val ((B1, m1), (B4, m4)) = (RV.of w).v from by
        show encQ (mkRat (IV.z (B1, m1)) (IV.z (B4, m4)).natAbs) = _
        rw [g1.val, g4.val, hw, ← Int.natCast_mul, Int.natAbs_natCast]; rfl]
      conv => whnf
      exact fin _ rfl
  · rw [show machS.val (b, s, t) = .tuple ⟨[.int .i64 0, .int .i64 0, .bool false]⟩ from by simp only [machS, if_neg h1, decide_eq_false h1]]
    conv => whnf
    obtain ⟨k1, k2, k3, hk⟩ : ∃ (k1 k2 : Int) (k3 : Bool), machS.val (c, u, v) = .tuple ⟨[.int .i64 k1, .int .i64 k2, .bool k3]⟩ := ⟨_, _, _, rfl⟩
    refine ⟨(c, u, v), rfl, trivial, ?_⟩
    rw [hk]
    conv => whnf
    refine ⟨(b, s, t), rfl, hp.1, ?_⟩
    rw [pa]
    conv => whnf
    refine ⟨(c, u, v), rfl, hp.2, ?_⟩
    rw [pb]
    obtain ⟨B1, m1, g1⟩ := EI.mk' (n * m)
    obtain ⟨B4, m4, g4⟩ := EI.mk' ((d : Int) * (e : Int))
    have z1 := g1.mul_size sn sm
    have z4 := g4.mul_size sd se
    have hpos : (0 : Int) < (d : Int) * (e : Int) := Int.mul_pos (by omega) (by omega)
    conv => whnf
    refine .inl ⟨5, [[], [], [0, 1], [], [], [0, 1, 2, 3, 4], [0, 1, 2, 3, 4, 5], [0, 1, 2, 3, 4, 5, 6]], by kernel_rfl, ?_⟩
    conv => whnf
    refine ⟨((B, p), (D, p')), rfl, ⟨by show p.size ≤ _; omega, by show p'.size ≤ _; omega⟩, ?_⟩
    rw [show mulS.val ((B, p), (D, p')) = .agg ⟨[.bool B1, .string m1]⟩ from by show encI (IV.z (B, p) * IV.z (D, p')) = _; rw [hP.val, hP'.val, g1.enc]]
    conv => whnf
    refine ⟨((false, q), (false, q')), rfl, ⟨by show q.size ≤ _; omega, by show q'.size ≤ _; omega⟩, ?_⟩
    rw [show mulS.val ((false, q), (false, q')) = .agg ⟨[.bool B4, .string m4]⟩ from by show encI (IV.z (false, q) * IV.z (false, q')) = _; rw [hQ.val, hQ'.val, g4.enc]]
    conv => whnf
    refine ⟨((B1, m1), (B4, m4)), rfl, ⟨by show m1.size ≤ _; omega, by show m4.size ≤ _; omega, by show 0 < IV.z (B4, m4); rw [g4.val]; exact hpos⟩, ?_⟩
    rw [show reduceS.val ((B1, m1), (B4, m4)) = (RV.of w).v from by
      show encQ (mkRat (IV.z (B1, m1)) (IV.z (B4, m4)).natAbs) = _
      rw [g1.val, g4.val, hw, ← Int.natCast_mul, Int.natAbs_natCast]; rfl]
    conv => whnf
    exact fin _ rfl

theorem rqcmp_ok : Snd Tryz.prog 81 qcmpS := by
  refine snd_of Eqbok Dok Tryz.func81 (enters_of Tryz.func81 (by kernel_rfl) rfl) (fun _ => rfl) (fun _ => rfl) ?_
  intro ⟨⟨b, s, t⟩, ⟨c, u, v⟩⟩ hp
  have hp : (s.size ≤ 8589934592 ∧ t.size ≤ 8589934592) ∧ u.size ≤ 8589934592 ∧ v.size ≤ 8589934592 := hp
  have hn := RV.tinyR (i := (b, s, t))
  have hm := RV.tinyR (i := (c, u, v))
  obtain ⟨n, hn2⟩ : ∃ n, n = RV.n (b, s, t) := ⟨_, rfl⟩
  obtain ⟨m, hm2⟩ : ∃ n, n = RV.n (c, u, v) := ⟨_, rfl⟩
  obtain ⟨d, hd2⟩ : ∃ n, n = RV.d (b, s, t) := ⟨_, rfl⟩
  obtain ⟨e, he2⟩ : ∃ n, n = RV.d (c, u, v) := ⟨_, rfl⟩
  have hd0 : d ≠ 0 := by rw [hd2]; exact RV.d_pos _
  have he0 : e ≠ 0 := by rw [he2]; exact RV.d_pos _
  rw [← hn2, ← hd2] at hn
  rw [← hm2, ← he2] at hm
  obtain ⟨B, p, hP⟩ := EI.mk' n
  obtain ⟨q, hQ⟩ := EI.nonneg (show 0 ≤ ((d : Nat) : Int) by omega)
  obtain ⟨D, p', hP'⟩ := EI.mk' m
  obtain ⟨q', hQ'⟩ := EI.nonneg (show 0 ≤ ((e : Nat) : Int) by omega)
  have sn : nby n.natAbs ≤ 8589934593 := by rw [hn2]; exact nby_z (b := b) (Nat.le_succ_of_le hp.1.1)
  have sm : nby m.natAbs ≤ 8589934593 := by rw [hm2]; exact nby_z (b := c) (Nat.le_succ_of_le hp.2.1)
  have sd : nby (Int.natAbs ((d : Nat) : Int)) ≤ 8589934593 := by
    rw [hd2, ← RV.den_z]
    exact nby_z (Nat.le_trans (RV.den_size _) (Nat.succ_le_succ hp.1.2))
  have se : nby (Int.natAbs ((e : Nat) : Int)) ≤ 8589934593 := by
    rw [he2, ← RV.den_z]
    exact nby_z (Nat.le_trans (RV.den_size _) (Nat.succ_le_succ hp.2.2))
  have zp : p.size ≤ 8589934593 := by rw [hP.size]; exact sn
  have zq : q.size ≤ 8589934593 := by rw [hQ.size]; exact sd
  have zp' : p'.size ≤ 8589934593 := by rw [hP'.size]; exact sm
  have zq' : q'.size ≤ 8589934593 := by rw [hQ'.size]; exact se
  have pa : partsS.val (b, s, t) = .tuple ⟨[.agg ⟨[.bool B, .string p]⟩, .agg ⟨[.bool false, .string q]⟩]⟩ := by
    rw [← hP.enc, ← hQ.enc, hn2, hd2]; rfl
  have pb : partsS.val (c, u, v) = .tuple ⟨[.agg ⟨[.bool D, .string p']⟩, .agg ⟨[.bool false, .string q']⟩]⟩ := by
    rw [← hP'.enc, ← hQ'.enc, hm2, he2]; rfl
  obtain ⟨w, hw⟩ : ∃ w, w = cmpZ (n * e) (m * d) := ⟨_, rfl⟩
  have fin : ∀ x : Int, x = w → Value.int .i64 x = qcmpS.val ((b, s, t), (c, u, v)) := fun x h => by
    rw [h, hw, hn2, hm2, hd2, he2]
    show Value.int .i64 _ = .int .i64 (cmpQ (RV.q (b, s, t)) (RV.q (c, u, v)))
    rw [cmp_q]
  conv => whnf
  refine ⟨(b, s, t), rfl, trivial, ?_⟩
  by_cases h1 : RV.tiny (b, s, t)
  · rw [show machS.val (b, s, t) = .tuple ⟨[.int .i64 n, .int .i64 d, .bool true]⟩ from by simp only [machS, if_pos h1, decide_eq_true h1, hn2, hd2]]
    conv => whnf
    refine ⟨(c, u, v), rfl, trivial, ?_⟩
    by_cases h2 : RV.tiny (c, u, v)
    · rw [show machS.val (c, u, v) = .tuple ⟨[.int .i64 m, .int .i64 e, .bool true]⟩ from by simp only [machS, if_pos h2, decide_eq_true h2, hm2, he2]]
      have hok : I4.ok ((n, d), (m, e)) := ⟨hn h1, hm h2⟩
      obtain ⟨b1, b2, b3, b4⟩ := I4.bounds hok
      simp only at b1 b2 b3 b4
      conv => whnf
      obtain ⟨x, hx⟩ : ∃ x, x = n * (e : Int) := ⟨_, rfl⟩
      obtain ⟨y, hy⟩ : ∃ y, y = m * (d : Int) := ⟨_, rfl⟩
      rw [← hx] at b1
      rw [← hy] at b2
      have e1 : IntKind.i64.wrap (n * (e : Int)) = x := by rw [← hx, wrapi64 (x := x) (by omega) (by omega)]
      have e2 : IntKind.i64.wrap (m * (d : Int)) = y := by rw [← hy, wrapi64 (x := y) (by omega) (by omega)]
      rw [← hx, ← hy] at hw
      rw [e1, e2]
      refine br_intro (fun h => ?_) (fun h => ?_)
      · have h := of_decide_eq_true h
        conv => whnf
        exact fin _ (hw.trans (cmpZ_lt h)).symm
      · have h := of_decide_eq_false h
        conv => whnf
        rw [e1, e2]
        refine br_intro (fun h5 => ?_) (fun h5 => ?_)
        · have h5 := of_decide_eq_true h5
          conv => whnf
          exact fin _ (hw.trans (cmpZ_gt h5)).symm
        · have h5 := of_decide_eq_false h5
          conv => whnf
          refine fin _ ?_
          rw [hw]
          unfold cmpZ
          rw [if_neg h, if_neg (show ¬ y < x from h5)]
    · rw [show machS.val (c, u, v) = .tuple ⟨[.int .i64 0, .int .i64 0, .bool false]⟩ from by simp only [machS, if_neg h2, decide_eq_false h2]]
      conv => whnf
      refine ⟨(b, s, t), rfl, hp.1, ?_⟩
      rw [pa]
      conv => whnf
      refine ⟨(c, u, v), rfl, hp.2, ?_⟩
      rw [pb]
      obtain ⟨B1, m1, g1⟩ := EI.mk' (n * (e : Int))
      obtain ⟨B2, m2, g2⟩ := EI.mk' (m * (d : Int))
      have z1 := g1.mul_size sn se
      have z2 := g2.mul_size sm sd
      conv => whnf
      refine .inl ⟨5, [[], [], [0, 1], [], [], [0, 1, 2, 3, 4], [0, 1, 2, 3, 4, 5], [0, 1, 2, 3, 4, 5, 6]], by kernel_rfl, ?_⟩
      conv => whnf
      refine ⟨((B, p), (false, q')), rfl, ⟨by show p.size ≤ _; omega, by show q'.size ≤ _; omega⟩, ?_⟩
      rw [show mulS.val ((B, p), (false, q')) = .agg ⟨[.bool B1, .string m1]⟩ from by show encI (IV.z (B, p) * IV.z (false, q')) = _; rw [hP.val, hQ'.val, g1.enc]]
      conv => whnf
      refine ⟨((D, p'), (false, q)), rfl, ⟨by show p'.size ≤ _; omega, by show q.size ≤ _; omega⟩, ?_⟩
      rw [show mulS.val ((D, p'), (false, q)) = .agg ⟨[.bool B2, .string m2]⟩ from by show encI (IV.z (D, p') * IV.z (false, q)) = _; rw [hP'.val, hQ.val, g2.enc]]
      conv => whnf
      refine ⟨((B1, m1), (B2, m2)), rfl, ⟨by show m1.size ≤ _; omega, by show m2.size ≤ _; omega⟩, ?_⟩
      rw [show cmpS.val ((B1, m1), (B2, m2)) = .int .i64 w from by show Value.int .i64 (cmpZ (IV.z (B1, m1)) (IV.z (B2, m2))) = _; rw [g1.val, g2.val, hw]]
      conv => whnf
      exact fin _ rfl
  · rw [show machS.val (b, s, t) = .tuple ⟨[.int .i64 0, .int .i64 0, .bool false]⟩ from by simp only [machS, if_neg h1, decide_eq_false h1]]
    conv => whnf
    obtain ⟨k1, k2, k3, hk⟩ : ∃ (k1 k2 : Int) (k3 : Bool), machS.val (c, u, v) = .tuple ⟨[.int .i64 k1, .int .i64 k2, .bool k3]⟩ := ⟨_, _, _, rfl⟩
    refine ⟨(c, u, v), rfl, trivial, ?_⟩
    rw [hk]
    conv => whnf
    refine ⟨(b, s, t), rfl, hp.1, ?_⟩
    rw [pa]
    conv => whnf
    refine ⟨(c, u, v), rfl, hp.2, ?_⟩
    rw [pb]
    obtain ⟨B1, m1, g1⟩ := EI.mk' (n * (e : Int))
    obtain ⟨B2, m2, g2⟩ := EI.mk' (m * (d : Int))
    have z1 := g1.mul_size sn se
    have z2 := g2.mul_size sm sd
    conv => whnf
    refine .inl ⟨5, [[], [], [0, 1], [], [], [0, 1, 2, 3, 4], [0, 1, 2, 3, 4, 5], [0, 1, 2, 3, 4, 5, 6]], by kernel_rfl, ?_⟩
    conv => whnf
    refine ⟨((B, p), (false, q')), rfl, ⟨by show p.size ≤ _; omega, by show q'.size ≤ _; omega⟩, ?_⟩
    rw [show mulS.val ((B, p), (false, q')) = .agg ⟨[.bool B1, .string m1]⟩ from by show encI (IV.z (B, p) * IV.z (false, q')) = _; rw [hP.val, hQ'.val, g1.enc]]
    conv => whnf
    refine ⟨((D, p'), (false, q)), rfl, ⟨by show p'.size ≤ _; omega, by show q.size ≤ _; omega⟩, ?_⟩
    rw [show mulS.val ((D, p'), (false, q)) = .agg ⟨[.bool B2, .string m2]⟩ from by show encI (IV.z (D, p') * IV.z (false, q)) = _; rw [hP'.val, hQ.val, g2.enc]]
    conv => whnf
    refine ⟨((B1, m1), (B2, m2)), rfl, ⟨by show m1.size ≤ _; omega, by show m2.size ≤ _; omega⟩, ?_⟩
    rw [show cmpS.val ((B1, m1), (B2, m2)) = .int .i64 w from by show Value.int .i64 (cmpZ (IV.z (B1, m1)) (IV.z (B2, m2))) = _; rw [g1.val, g2.val, hw]]
    conv => whnf
    exact fin _ rfl

def Eqd : Env := { tt := tt, eqs := [], Φ := fun g => match g with
  | 49 => some (.p qaddS)
  | 81 => some (.p qcmpS)
  | _ => none }
theorem Eqdok : EnvOk Tryz.prog Eqd := ⟨tt_ok, fun t h => by simp [Eqd] at h, (fun g S h => by
  simp only [Eqd] at h
  split at h
  · cases h; exact rqadd_ok
  · cases h; exact rqcmp_ok
  · cases h), fun g F h => by simp [Eqd] at h⟩

theorem rqsub_ok : Snd Tryz.prog 43 qsubS := by
  refine snd_of Eqdok Dok Tryz.func43 (enters_of Tryz.func43 (by kernel_rfl) rfl) (fun _ => rfl) (fun _ => rfl) ?_
  intro ⟨⟨b, s, t⟩, ⟨c, u, v⟩⟩ hp
  have hp : RV.ok (b, s, t) ∧ RV.ok (c, u, v) := hp
  obtain ⟨w, hw⟩ : ∃ w, w = RV.q (b, s, t) - RV.q (c, u, v) := ⟨_, rfl⟩
  conv => whnf
  refine ⟨((b, s, t), (!c, u, v)), rfl, hp, ?_⟩
  rw [show qaddS.val ((b, s, t), (!c, u, v)) = (RV.of w).v from by
    rw [hw]
    show encQ (RV.q (b, s, t) + RV.q (!c, u, v)) = encQ _
    rw [neg_q', ← Rat.sub_eq_add_neg]]
  conv => whnf
  show (RV.of w).v = encQ _
  rw [hw]
  rfl

end Go.Proofs.YtgakcbdahbagkaaGreat
