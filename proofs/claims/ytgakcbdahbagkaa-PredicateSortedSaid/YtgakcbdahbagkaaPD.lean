import Derived.WalkKit
import Derived.ProofKit
import Derived.OpenShut
import Derived.ShutString
import Derived.ChangeOld
import Derived.Below
import Derived.Deep.Slices
import Derived.Deep.Strs
import Derived.Test.YtgakcbdahbagkaaPC
/- Predicates: triangles, segments, wedges. -/
set_option linter.unusedVariables false
set_option linter.unusedSimpArgs false
namespace Go.Ae
open Go

theorem half_code (p : Q2) : halfR p = if cmpQ p.1 0 = 0 ∧ cmpQ p.2 0 = 0 then 0 else if cmpQ p.2 0 > 0 ∨ cmpQ p.2 0 = 0 ∧ cmpQ p.1 0 > 0 then 1 else 2 := by
  unfold halfR
  simp only [cmpQ_zero, cmpQ_pos]
def cmpI (a b : Int) : Int := if a < b then -1 else if b < a then 1 else 0
def cmpIntS : PSpec := { ι := Int × Int, args := fun i => [.int .i64 i.1, .int .i64 i.2], pre := fun _ => True, val := fun i => .int .i64 (cmpI i.1 i.2) }
def nanS : PSpec := { ι := Int, args := fun i => [.int .i64 i], pre := fun _ => True, val := fun _ => .bool false }
theorem ang_code (u v : Q2) : angR u v = if cmpI (halfR u) (halfR v) ≠ 0 then cmpI (halfR u) (halfR v) else -cmpQ (crossR u v) 0 := by
  unfold angR cmpI
  by_cases h1 : halfR u < halfR v
  · rw [if_pos h1, if_pos h1, if_pos (by decide)]
  · rw [if_neg h1, if_neg h1]
    by_cases h2 : halfR v < halfR u
    · rw [if_pos h2, if_pos h2, if_pos (by decide)]
    · rw [if_neg h2, if_neg h2, if_neg (by decide)]

theorem cen_code {a b c : Q2} {k D : Rat} (hk : k = ((1 : Int) : Rat) / (D + D)) (hD : D = orR a b c) :
    addR a (scR k ((subR c a).2 * dotR (subR b a) (subR b a) - (subR b a).2 * dotR (subR c a) (subR c a), (subR b a).1 * dotR (subR c a) (subR c a) - (subR c a).1 * dotR (subR b a) (subR b a))) = cenR a b c := by
  have hk : k = (2 * crossR (subR b a) (subR c a))⁻¹ := by
    rw [hk, hD, Rat.div_def, show orR a b c + orR a b c = 2 * crossR (subR b a) (subR c a) by unfold orR; grind]
    rw [show ((1 : Int) : Rat) = 1 from rfl]; grind
  unfold cenR
  simp only [Rat.div_def, ← hk]
  rfl
/-! rows of the circle's determinant -/
abbrev R3 := RV × RV × RV
def R3.v (i : R3) : Value := .agg ⟨[.bool i.1.1, .string i.1.2.1, .string i.1.2.2, .bool i.2.1.1, .string i.2.1.2.1, .string i.2.1.2.2, .bool i.2.2.1, .string i.2.2.2.1, .string i.2.2.2.2]⟩
def R3.get (i : R3) : Nat → RV | 0 => i.1 | 1 => i.2.1 | _ => i.2.2
def R3.sz (k : Nat) (i : R3) : Prop := i.1.sz k ∧ i.2.1.sz k ∧ i.2.2.sz k
def R3.rows (i : R3) : Nat → List Value := fun r => (i.get r).cells
def rowC (p d : Q2) : R3 := (RV.of (subR p d).1, RV.of (subR p d).2, RV.of (dotR (subR p d) (subR p d)))
def inc1S : QSpec := { ι := PV × PV, args := fun i => [i.1.v, .pointer (some ⟨0, 0, none⟩)], blks := fun i => [.flat false 1 6 (fun _ => i.2.cells)], pre := fun i => i.1.sz 1048576 ∧ i.2.sz 1048576, val := fun i => (rowC i.1.p i.2.p).v, new := fun _ => none }
def R3.cells (i : R3) : List Value := [.bool i.1.1, .string i.1.2.1, .string i.1.2.2, .bool i.2.1.1, .string i.2.1.2.1, .string i.2.1.2.2, .bool i.2.2.1, .string i.2.2.2.1, .string i.2.2.2.2]
def inc2S : QSpec := { ι := (Nat × Nat) × (R3 × R3), args := fun i => [.int .i64 i.1.1, .int .i64 i.1.2, .pointer (some ⟨0, 0, none⟩), .pointer (some ⟨1, 0, none⟩)], blks := fun i => [.flat false 1 9 (fun _ => i.2.1.cells), .flat false 1 9 (fun _ => i.2.2.cells)], pre := fun i => (i.1 = (1, 2) ∨ i.1 = (0, 2) ∨ i.1 = (0, 1)) ∧ i.2.1.sz 67108864 ∧ i.2.2.sz 67108864, val := fun i => (RV.of ((i.2.1.get i.1.1).q * (i.2.2.get i.1.2).q - (i.2.1.get i.1.2).q * (i.2.2.get i.1.1).q)).v, new := fun _ => none }
theorem R3.blk (i : R3) : BlkLe (.flat false 1 9 (fun _ => i.cells)) (.expl true 9 [i.cells]) :=
  blk_rows rfl (fun r hr => by
    have : r = 0 := by omega
    subst this; rfl) (fun r hr => rfl)
/-- A row of the determinant, its numbers behind variables. -/
theorem hideC {p d : Q2} (hp : Q2.sz 1048576 p) (hd : Q2.sz 1048576 d) : ∃ x y z : RV, rowC p d = (x, y, z) ∧ x.q = (subR p d).1 ∧ y.q = (subR p d).2 ∧ z.q = dotR (subR p d) (subR p d) ∧ x.sz 67108864 ∧ y.sz 67108864 ∧ z.sz 67108864 ∧ QB x.q 67108864 ∧ QB y.q 67108864 ∧ QB z.q 67108864 := by
  have h := sub_sz hp hd
  have h2 := dot_sz h h
  refine ⟨_, _, _, rfl, RV.of_q _, RV.of_q _, RV.of_q _, RV.of_sz (h.1.mono (by decide)), RV.of_sz (h.2.mono (by decide)), RV.of_sz (h2.mono (by decide)), ?_, ?_, ?_⟩
  · rw [RV.of_q]; exact h.1.mono (by decide)
  · rw [RV.of_q]; exact h.2.mono (by decide)
  · rw [RV.of_q]; exact h2.mono (by decide)
theorem R3.get_sz {i : R3} {k : Nat} (h : i.sz k) (n : Nat) : (i.get n).sz k := by
  unfold R3.get
  split
  · exact h.1
  · exact h.2.1
  · exact h.2.2
def fromS : QSpec := { ι := PV × PV, args := fun i => [i.2.v, .pointer (some ⟨0, 0, none⟩)], blks := fun i => [.flat false 1 6 (fun _ => i.1.cells)], pre := fun i => i.1.sz 1048576 ∧ i.2.sz 1048576, val := fun i => (ptV (fromR i.1.p i.2.p)).v, new := fun _ => none }
theorem from_sz {u p : Q2} {k l : Nat} (hu : Q2.sz k u) (hp : Q2.sz l p) : Q2.sz (k + l + (k + l) + 1) (fromR u p) := ⟨dot_sz hu hp, cross_sz hu hp⟩
theorem pt_blk (p : PV) : BlkLe (.flat false 1 6 (fun _ => p.cells)) (.expl true 6 [p.cells]) :=
  blk_rows rfl (fun r hr => by
    have : r = 0 := by omega
    subst this; rfl) (fun r hr => rfl)

/-! triangles -/
def TV.w (t : TV) : Value := .agg ⟨[.bool t.1.1.1, .string t.1.1.2.1, .string t.1.1.2.2, .bool t.1.2.1, .string t.1.2.2.1, .string t.1.2.2.2, .bool t.2.1.1.1, .string t.2.1.1.2.1, .string t.2.1.1.2.2, .bool t.2.1.2.1, .string t.2.1.2.2.1, .string t.2.1.2.2.2, .bool t.2.2.1.1, .string t.2.2.1.2.1, .string t.2.2.1.2.2, .bool t.2.2.2.1, .string t.2.2.2.2.1, .string t.2.2.2.2.2]⟩
def insideS : PSpec := { ι := TV × PV, args := fun i => [i.1.w, i.2.v], pre := fun i => (i.1.1.sz 1048576 ∧ i.1.2.1.sz 1048576 ∧ i.1.2.2.sz 1048576) ∧ i.2.sz 1048576, val := fun i => .int .i64 (insR i.1.1.p i.1.2.1.p i.1.2.2.p i.2.p) }
def sg (q : Rat) : Int := cmpQ q 0
theorem sg_cases (q : Rat) : (q < 0 ∧ sg q = -1) ∨ (q = 0 ∧ sg q = 0) ∨ (0 < q ∧ sg q = 1) := cmpQ_cases q
theorem sg_neg (q : Rat) : sg (-q) = -sg q := cmpQ_neg' q
theorem or_sum (a b c p : Q2) : orR a b p + orR b c p + orR c a p = orR a b c := by unfold orR crossR subR; grind
theorem sg_sum {x y z : Rat} {n : Int} (hn : n ≠ 0) (hx : sg x = n) (hy : sg y = n) (hz : sg z = n) : sg (x + y + z) = n := by
  rcases sg_cases x with ⟨a, b⟩ | ⟨a, b⟩ | ⟨a, b⟩
  · rcases sg_cases y with ⟨c, d⟩ | ⟨c, d⟩ | ⟨c, d⟩
    · rcases sg_cases z with ⟨e, f⟩ | ⟨e, f⟩ | ⟨e, f⟩
      · rw [← hx, b]; exact cmpQ_lt (by grind)
      · omega
      · omega
    · omega
    · omega
  · omega
  · rcases sg_cases y with ⟨c, d⟩ | ⟨c, d⟩ | ⟨c, d⟩
    · omega
    · omega
    · rcases sg_cases z with ⟨e, f⟩ | ⟨e, f⟩ | ⟨e, f⟩
      · omega
      · omega
      · rw [← hx, b]; exact cmpQ_gt (by grind)
def inR (a b c p : Q2) : Prop := sg (orR a b c) ≠ 0 ∧ sg (orR a b p) = sg (orR a b c) ∧ sg (orR b c p) = sg (orR a b c) ∧ sg (orR c a p) = sg (orR a b c)
instance (a b c p : Q2) : Decidable (inR a b c p) := inferInstanceAs (Decidable (_ ∧ _))
def onR (a b c p : Q2) : Prop := betR a b p ∨ betR b c p ∨ betR c a p
instance (a b c p : Q2) : Decidable (onR a b c p) := inferInstanceAs (Decidable (_ ∨ _))
theorem in_code {a b c p : Q2} : (sg (orR a b p) ≠ 0 ∧ sg (orR b c p) = sg (orR a b p) ∧ sg (orR c a p) = sg (orR a b p)) ↔ inR a b c p := by
  unfold inR
  constructor
  · rintro ⟨h1, h2, h3⟩
    have := sg_sum h1 rfl h2 h3
    rw [or_sum] at this
    rw [this]
    exact ⟨h1, rfl, h2, h3⟩
  · rintro ⟨h1, h2, h3, h4⟩
    rw [h2]
    exact ⟨h1, h3, h4⟩
theorem insR_eq (a b c p : Q2) : insR a b c p = if onR a b c p then 0 else if inR a b c p then 1 else -1 := by
  unfold insR
  by_cases h0 : onR a b c p
  · rw [if_pos h0, if_pos (show betR a b p ∨ betR b c p ∨ betR c a p from h0)]
  · rw [if_neg h0, if_neg (show ¬ (betR a b p ∨ betR b c p ∨ betR c a p) from h0)]
    have := in_code (a := a) (b := b) (c := c) (p := p)
    unfold sg at this
    by_cases h : inR a b c p
    · rw [if_pos h, if_pos (this.2 h)]
    · rw [if_neg h, if_neg (fun e => h (this.1 e))]
theorem in_not_on {a b c p : Q2} (h : inR a b c p) : ¬ onR a b c p := by
  obtain ⟨h1, h2, h3, h4⟩ := h
  have z : ∀ {x : Rat}, x = 0 → sg x = 0 := fun e => cmpQ_eq e
  rintro (⟨e, _⟩ | ⟨e, _⟩ | ⟨e, _⟩) <;> have := z e <;> omega
theorem ins_one {a b c p : Q2} : insR a b c p = 1 ↔ inR a b c p := by
  rw [insR_eq]
  by_cases h : inR a b c p
  · rw [if_neg (in_not_on h), if_pos h]; simp [h]
  · by_cases h0 : onR a b c p
    · rw [if_pos h0]; simp [h]
    · rw [if_neg h0, if_neg h]; simp [h]
theorem ins_zero {a b c p : Q2} : insR a b c p = 0 ↔ onR a b c p := by
  rw [insR_eq]
  by_cases h : onR a b c p
  · rw [if_pos h]; simp [h]
  · rw [if_neg h]
    by_cases h0 : inR a b c p
    · rw [if_pos h0]; simp [h]
    · rw [if_neg h0]; simp [h]
theorem ins_range (a b c p : Q2) : insR a b c p = -1 ∨ insR a b c p = 0 ∨ insR a b c p = 1 := by
  rw [insR_eq]; split
  · exact .inr (.inl rfl)
  · split
    · exact .inr (.inr rfl)
    · exact .inl rfl
theorem bet_symm {a b p : Q2} : betR a b p ↔ betR b a p := by
  unfold betR
  rw [or_swap b a p]
  have : dotR (subR b p) (subR a p) = dotR (subR a p) (subR b p) := by unfold dotR; grind
  rw [this]
  constructor <;> rintro ⟨h, k⟩ <;> exact ⟨by grind, k⟩
theorem on_perm1 {a b c p : Q2} : onR b a c p ↔ onR a b c p := by
  unfold onR
  rw [bet_symm (a := b) (b := a), bet_symm (a := a) (b := c), bet_symm (a := c) (b := b)]
  constructor <;> rintro (h | h | h) <;> simp [h]
theorem on_perm2 {a b c p : Q2} : onR c a b p ↔ onR a b c p := by
  unfold onR
  constructor <;> rintro (h | h | h) <;> simp [h]
theorem sg_swap (a b c : Q2) : sg (orR b a c) = -sg (orR a b c) := by rw [or_swap, sg_neg]
theorem in_perm1 {a b c p : Q2} : inR b a c p ↔ inR a b c p := by
  unfold inR
  have e0 := sg_swap a b c
  have e1 := sg_swap a b p
  have e2 := sg_swap b c p
  have e3 := sg_swap c a p
  constructor <;> rintro ⟨h1, h2, h3, h4⟩ <;> refine ⟨?_, ?_, ?_, ?_⟩ <;> omega
theorem in_perm2 {a b c p : Q2} : inR c a b p ↔ inR a b c p := by
  unfold inR
  have : orR c a b = orR a b c := by rw [or_rot, or_rot]
  rw [this]
  constructor <;> rintro ⟨h1, h2, h3, h4⟩ <;> refine ⟨?_, ?_, ?_, ?_⟩ <;> assumption
theorem ins_perm1 (a b c p : Q2) : insR b a c p = insR a b c p := by
  rw [insR_eq, insR_eq]; simp only [on_perm1, in_perm1]
theorem ins_perm2 (a b c p : Q2) : insR c a b p = insR a b c p := by
  rw [insR_eq, insR_eq]; simp only [on_perm2, in_perm2]

/-! segments -/
theorem dot_nonneg (u : Q2) : 0 ≤ dotR u u := by
  have := sq_nonneg u.1
  have := sq_nonneg u.2
  show 0 ≤ u.1 * u.1 + u.2 * u.2
  grind
theorem dot_zero {u : Q2} (h : dotR u u ≤ 0) : u.1 = 0 ∧ u.2 = 0 := by
  have h : u.1 * u.1 + u.2 * u.2 ≤ 0 := h
  have s1 := sq_nonneg u.1
  have s2 := sq_nonneg u.2
  exact ⟨Classical.byContradiction fun hn => by have := sq_pos hn; grind, Classical.byContradiction fun hn => by have := sq_pos hn; grind⟩
theorem bet_at {a b : Q2} {t : Rat} : betR a b (atR a b t) ↔ (0 ≤ t ∧ t ≤ 1) ∨ (a.1 = b.1 ∧ a.2 = b.2) := by
  unfold betR
  have e1 : orR a b (atR a b t) = 0 := by unfold orR crossR subR atR; grind
  have e2 : dotR (subR a (atR a b t)) (subR b (atR a b t)) = -(dotR (subR b a) (subR b a) * (t * (1 - t))) := by unfold dotR subR atR; grind
  rw [e2]
  have hn := dot_nonneg (subR b a)
  by_cases hab : a.1 = b.1 ∧ a.2 = b.2
  · have : dotR (subR b a) (subR b a) = 0 := by unfold dotR subR; rw [hab.1, hab.2]; grind
    rw [this]
    exact ⟨fun _ => .inr hab, fun _ => ⟨e1, by grind⟩⟩
  · have hp : 0 < dotR (subR b a) (subR b a) := by
      rcases Classical.em (dotR (subR b a) (subR b a) ≤ 0) with h | h
      · obtain ⟨h1, h2⟩ := dot_zero h
        exact absurd ⟨by unfold subR at h1; grind, by unfold subR at h2; grind⟩ hab
      · grind
    have c := cmpQ_mul (q := t * (1 - t)) hp
    generalize dotR (subR b a) (subR b a) = z at *
    have c1 := cmpQ_mul2 t (1 - t)
    rw [c1] at c
    have key : 0 ≤ z * (t * (1 - t)) ↔ 0 ≤ cmpQ (z * (t * (1 - t))) 0 := (cmpQ_ge (p := z * (t * (1 - t))) (q := 0)).symm
    rw [c] at key
    constructor
    · rintro ⟨_, h⟩
      have h := key.1 (by grind)
      left
      rcases cmpQ_cases t with ⟨x, y⟩ | ⟨x, y⟩ | ⟨x, y⟩ <;> rcases cmpQ_cases (1 - t) with ⟨x', y'⟩ | ⟨x', y'⟩ | ⟨x', y'⟩ <;> rw [y, y'] at h <;> first | (exact ⟨by grind, by grind⟩) | (exfalso; revert h; decide) | (exfalso; grind)
    · rintro (⟨h1, h2⟩ | h)
      · refine ⟨e1, ?_⟩
        have : 0 ≤ z * (t * (1 - t)) := Rat.mul_nonneg (by grind) (Rat.mul_nonneg h1 (by grind))
        grind
      · exact absurd h hab
theorem bet_ends (a b : Q2) : betR a b a ∧ betR a b b := by
  unfold betR orR crossR dotR subR
  dsimp only
  refine ⟨⟨by grind, by grind⟩, by grind, by grind⟩
theorem bet_back {a b p : Q2} (h : betR a b p) (h2 : betR a p b) : b.1 = p.1 ∧ b.2 = p.2 := by
  have h3 : dotR (subR b p) (subR b p) = dotR (subR a p) (subR b p) + dotR (subR a b) (subR p b) := by unfold dotR subR; grind
  obtain ⟨e1, e2⟩ := dot_zero (u := subR b p) (by rw [h3]; have := h.2; have := h2.2; grind)
  unfold subR at e1 e2
  exact ⟨by grind, by grind⟩
theorem bet_dist {a b p : Q2} (h : betR a b p) : dstR a p ≤ dstR a b := by
  have h3 : dstR a b = dstR a p + dotR (subR b p) (subR b p) - 2 * dotR (subR a p) (subR b p) := by unfold dstR dotR subR; grind
  have := dot_nonneg (subR b p)
  have := h.2
  grind

/-! wedges -/
def wedRef (u v w : Q2) : Prop := (halfR u ≠ 0 ∧ halfR v ≠ 0 ∧ halfR w ≠ 0) ∧ if angR u v < 0 then angR u w < 0 ∧ angR w v < 0 else angR u w < 0 ∨ angR w v < 0
instance (u v w : Q2) : Decidable (wedRef u v w) := inferInstanceAs (Decidable (_ ∧ _))
/-- A direction turned into the upper half. -/
def upR (u : Q2) : Q2 := if halfR u = 2 then ngR u else u
theorem up_H1 {u : Q2} (h : halfR u ≠ 0) : H1 (upR u) := by
  unfold upR
  rcases half_cases u with ⟨_, _, c⟩ | ⟨a, c⟩ | ⟨a, c⟩
  · exact absurd c h
  · rw [if_neg (by omega)]; exact a
  · rw [if_pos c]; exact H2_ng.1 a
def hs (u : Q2) : Int := if halfR u = 2 then -1 else 1
theorem cross_up (u v : Q2) : sg (crossR u v) = hs u * hs v * sg (crossR (upR u) (upR v)) := by
  unfold hs upR
  by_cases h1 : halfR u = 2 <;> by_cases h2 : halfR v = 2
  · rw [if_pos h1, if_pos h2, if_pos h1, if_pos h2, cross_ng]; omega
  · rw [if_pos h1, if_neg h2, if_pos h1, if_neg h2, show crossR (ngR u) v = -crossR u v by unfold crossR ngR; grind, sg_neg]; omega
  · rw [if_neg h1, if_pos h2, if_neg h1, if_pos h2, show crossR u (ngR v) = -crossR u v by unfold crossR ngR; grind, sg_neg]; omega
  · rw [if_neg h1, if_neg h2, if_neg h1, if_neg h2]; omega
/-- What three directions of the upper half say of each other. -/
theorem sg_trans {u v w : Q2} (hu : H1 u) (hv : H1 v) (hw : H1 w) : 0 ≤ sg (crossR u v) → 0 ≤ sg (crossR v w) → 0 ≤ sg (crossR u w) ∧ (sg (crossR u w) = 0 → sg (crossR u v) = 0 ∧ sg (crossR v w) = 0) := by
  intro h1 h2
  obtain ⟨h3, h4⟩ := cross_trans1 hu hv hw (cmpQ_ge.1 h1) (cmpQ_ge.1 h2)
  exact ⟨cmpQ_ge.2 h3, fun h => by
    obtain ⟨h5, h6⟩ := h4 (cmpQ_zero.1 h)
    exact ⟨cmpQ_eq h5, cmpQ_eq h6⟩⟩
theorem sg_anti (u v : Q2) : sg (crossR v u) = -sg (crossR u v) := by rw [cross_anti u v, sg_neg]
theorem ang_sg (u v : Q2) : angR u v = if halfR u < halfR v then -1 else if halfR v < halfR u then 1 else -sg (crossR u v) := rfl
theorem dot_cross0 {u v : Q2} (hu : halfR u ≠ 0) (hv : halfR v ≠ 0) (h : crossR u v = 0) : (0 < dotR u v ↔ halfR u = halfR v) := by
  have key : ∀ {u v : Q2}, H1 u → H1 v → crossR u v = 0 → 0 < dotR u v := by
    intro u v hu hv h
    unfold H1 at hu hv
    unfold crossR at h
    unfold dotR
    rcases hu with hu | ⟨hu, hu1⟩
    · rcases hv with hv | ⟨hv, hv1⟩
      · -- both strictly above
        have p1 := Rat.mul_pos hu hv
        have e : u.1 * v.1 * (u.2 * v.2) = (u.1 * v.2) * (u.1 * v.2) := by
          have : u.2 * v.1 = u.1 * v.2 := by grind
          calc u.1 * v.1 * (u.2 * v.2) = (u.1 * v.2) * (u.2 * v.1) := by grind
            _ = _ := by rw [this]
        have s := sq_nonneg (u.1 * v.2)
        rw [← e] at s
        have : 0 ≤ u.1 * v.1 := by
          rcases Classical.em (0 ≤ u.1 * v.1) with h | h
          · exact h
          · have := Rat.mul_pos (show 0 < -(u.1 * v.1) by grind) p1
            grind
        grind
      · rw [hv] at h
        have := Rat.mul_pos hu hv1
        grind
    · rcases hv with hv | ⟨hv, hv1⟩
      · rw [hu] at h
        have := Rat.mul_pos hu1 hv
        grind
      · have := Rat.mul_pos hu1 hv1
        rw [hu, hv]; grind
  rcases half_cases u with ⟨_, _, c⟩ | ⟨a, c⟩ | ⟨a, c⟩
  · exact absurd c hu
  · rcases half_cases v with ⟨_, _, c'⟩ | ⟨a', c'⟩ | ⟨a', c'⟩
    · exact absurd c' hv
    · exact ⟨fun _ => by omega, fun _ => key a a' h⟩
    · have := key a (H2_ng.1 a') (by show crossR u (ngR v) = 0; unfold crossR ngR at *; grind)
      have e : dotR u (ngR v) = -dotR u v := by unfold dotR ngR; grind
      exact ⟨fun _ => by exfalso; grind, fun _ => by omega⟩
  · rcases half_cases v with ⟨_, _, c'⟩ | ⟨a', c'⟩ | ⟨a', c'⟩
    · exact absurd c' hv
    · have := key (H2_ng.1 a) a' (by show crossR (ngR u) v = 0; unfold crossR ngR at *; grind)
      have e : dotR (ngR u) v = -dotR u v := by unfold dotR ngR; grind
      exact ⟨fun _ => by exfalso; grind, fun _ => by omega⟩
    · have := key (H2_ng.1 a) (H2_ng.1 a') (by rw [cross_ng]; exact h)
      have e : dotR (ngR u) (ngR v) = dotR u v := by unfold dotR ngR; grind
      exact ⟨fun _ => by omega, fun _ => by grind⟩
theorem from_cross (u v w : Q2) : crossR (fromR u v) (fromR u w) = dotR u u * crossR v w := by unfold crossR fromR dotR crossR; grind
theorem half_nz {u : Q2} : halfR u ≠ 0 ↔ ¬ (u.1 = 0 ∧ u.2 = 0) := by
  rcases half_cases u with ⟨a, b, c⟩ | ⟨a, c⟩ | ⟨a, c⟩
  · exact ⟨fun h => absurd c h, fun h => absurd ⟨a, b⟩ h⟩
  · exact ⟨fun _ h => by unfold H1 at a; grind, fun _ => by omega⟩
  · exact ⟨fun _ h => by unfold H2 at a; grind, fun _ => by omega⟩
theorem dot_pos {u : Q2} (h : halfR u ≠ 0) : 0 < dotR u u := by
  rcases Classical.em (dotR u u ≤ 0) with h2 | h2
  · exact absurd (dot_zero h2) (half_nz.1 h)
  · grind
theorem half_from {u x : Q2} (hu : halfR u ≠ 0) (hx : halfR x ≠ 0) : halfR (fromR u x) = if 0 < sg (crossR u x) ∨ (sg (crossR u x) = 0 ∧ halfR u = halfR x) then 1 else 2 := by
  have hz : ¬ ((fromR u x).1 = 0 ∧ (fromR u x).2 = 0) := by
    rintro ⟨h1, h2⟩
    have h1 : dotR u x = 0 := h1
    have h2 : crossR u x = 0 := h2
    have e : dotR u u * dotR x x = dotR u x * dotR u x + crossR u x * crossR u x := by unfold dotR crossR; grind
    have := Rat.mul_pos (dot_pos hu) (dot_pos hx)
    rw [e, h1, h2] at this
    grind
  rw [show halfR (fromR u x) = if 0 < (fromR u x).2 ∨ (fromR u x).2 = 0 ∧ 0 < (fromR u x).1 then 1 else 2 from if_neg hz]
  have hc : (0 < (fromR u x).2 ∨ (fromR u x).2 = 0 ∧ 0 < (fromR u x).1) ↔ (0 < sg (crossR u x) ∨ (sg (crossR u x) = 0 ∧ halfR u = halfR x)) := by
    show (0 < crossR u x ∨ crossR u x = 0 ∧ 0 < dotR u x) ↔ _
    rcases sg_cases (crossR u x) with ⟨h, k⟩ | ⟨h, k⟩ | ⟨h, k⟩ <;> rw [k]
    · constructor <;> rintro (a | ⟨a, b⟩)
      · exfalso; grind
      · exfalso; grind
      · exfalso; omega
      · exfalso; omega
    · have := dot_cross0 hu hx h
      constructor
      · rintro (a | ⟨a, b⟩)
        · exfalso; grind
        · exact .inr ⟨rfl, this.1 b⟩
      · rintro (a | ⟨a, b⟩)
        · exfalso; omega
        · exact .inr ⟨h, this.2 b⟩
    · exact ⟨fun _ => .inl (by omega), fun _ => .inl h⟩
  by_cases h : 0 < sg (crossR u x) ∨ (sg (crossR u x) = 0 ∧ halfR u = halfR x)
  · rw [if_pos h, if_pos (hc.2 h)]
  · rw [if_neg h, if_neg (fun e => h (hc.1 e))]
theorem half_range {u : Q2} (h : halfR u ≠ 0) : (halfR u = 1 ∧ hs u = 1) ∨ (halfR u = 2 ∧ hs u = -1) := by
  unfold hs
  rcases half_cases u with ⟨_, _, c⟩ | ⟨_, c⟩ | ⟨_, c⟩
  · exact absurd c h
  · exact .inl ⟨c, by rw [if_neg (by omega)]⟩
  · exact .inr ⟨c, by rw [if_pos c]⟩
theorem sg_range (q : Rat) : sg q = -1 ∨ sg q = 0 ∨ sg q = 1 := cmpQ_range q 0
/-- All that the halves and the sides of three directions say. -/
structure Tri (u v w : Q2) (a b c x y z : Int) : Prop where
  hu : halfR u = a
  hv : halfR v = b
  hw : halfR w = c
  ra : a = 1 ∨ a = 2
  rb : b = 1 ∨ b = 2
  rc : c = 1 ∨ c = 2
  uv : sg (crossR u v) = x
  uw : sg (crossR u w) = y
  wv : sg (crossR w v) = z
theorem from_ang {u v w : Q2} (hu : halfR u ≠ 0) (hv : halfR v ≠ 0) (hw : halfR w ≠ 0) : angR (fromR u v) (fromR u w) =
    if halfR (fromR u v) < halfR (fromR u w) then -1 else if halfR (fromR u w) < halfR (fromR u v) then 1 else -sg (crossR v w) := by
  rw [ang_sg, from_cross]
  unfold sg
  rw [cmpQ_mul (dot_pos hu)]
theorem wed_table {a b c : Int} (ha : a = 1 ∨ a = 2) (hb : b = 1 ∨ b = 2) (hc : c = 1 ∨ c = 2) {x y z : Int} (hx : x = -1 ∨ x = 0 ∨ x = 1) (hy : y = -1 ∨ y = 0 ∨ y = 1) (hz : z = -1 ∨ z = 0 ∨ z = 1) {X Y Z sa sb sc : Int}
    (h1 : a = 1 → sa = 1) (h1' : a = 2 → sa = -1) (h2 : b = 1 → sb = 1) (h2' : b = 2 → sb = -1) (h3 : c = 1 → sc = 1) (h3' : c = 2 → sc = -1) (eX : x = sa * sb * X) (eY : y = sa * sc * Y) (eZ : z = sc * sb * Z)
    (t1 : 0 ≤ Y → 0 ≤ Z → 0 ≤ X ∧ (X = 0 → Y = 0 ∧ Z = 0)) (t2 : 0 ≤ X → 0 ≤ -Z → 0 ≤ Y ∧ (Y = 0 → X = 0 ∧ -Z = 0)) (t3 : 0 ≤ -X → 0 ≤ Y → 0 ≤ -Z ∧ (-Z = 0 → -X = 0 ∧ Y = 0)) (t4 : 0 ≤ -Y → 0 ≤ X → 0 ≤ Z ∧ (Z = 0 → -Y = 0 ∧ X = 0)) (t5 : 0 ≤ Z → 0 ≤ -X → 0 ≤ -Y ∧ (-Y = 0 → Z = 0 ∧ -X = 0)) (t6 : 0 ≤ -Z → 0 ≤ -Y → 0 ≤ -X ∧ (-X = 0 → -Z = 0 ∧ -Y = 0))
    {hv hw : Int} (ehv : hv = if 0 < x ∨ (x = 0 ∧ a = b) then 1 else 2) (ehw : hw = if 0 < y ∨ (y = 0 ∧ a = c) then 1 else 2) :
    (((if hw < 1 then -1 else if 1 < hw then 1 else -(-y)) : Int) ≠ 0 ∧ (((if hv < 1 then -1 else if 1 < hv then 1 else -(-x)) : Int) = 0 ∨ ((if hw < hv then -1 else if hv < hw then 1 else -z) : Int) < 0)) ↔
      (if ((if a < b then -1 else if b < a then 1 else -x) : Int) < 0 then ((if a < c then -1 else if c < a then 1 else -y) : Int) < 0 ∧ ((if c < b then -1 else if b < c then 1 else -z) : Int) < 0 else ((if a < c then -1 else if c < a then 1 else -y) : Int) < 0 ∨ ((if c < b then -1 else if b < c then 1 else -z) : Int) < 0) := by
  subst ehv; subst ehw
  rcases ha with rfl | rfl <;> rcases hb with rfl | rfl <;> rcases hc with rfl | rfl
  all_goals
    first | have q1 := h1 rfl | have q1 := h1' rfl
    first | have q2 := h2 rfl | have q2 := h2' rfl
    first | have q3 := h3 rfl | have q3 := h3' rfl
    rw [q1, q2] at eX
    rw [q1, q3] at eY
    rw [q3, q2] at eZ
    clear h1 h1' h2 h2' h3 h3' q1 q2 q3
    rcases hx with hx | hx | hx <;> rcases hy with hy | hy | hy <;> rcases hz with hz | hz | hz <;> first | (exfalso; omega) | (rw [hx, hy, hz]; decide)
theorem wed_eq (u v w : Q2) : wedR u v w ↔ wedRef u v w := by
  unfold wedR wedRef
  by_cases hu : halfR u = 0
  · simp [hu]
  by_cases hv : halfR v = 0
  · simp [hv]
  by_cases hw : halfR w = 0
  · simp [hw]
  have ru := half_range hu
  have rv := half_range hv
  have rw' := half_range hw
  have e1 := from_ang hu hw hu
  have e2 := from_ang hu hv hu
  have e3 := from_ang hu hw hv
  have f1 : halfR (fromR u u) = 1 := by
    rw [half_from hu hu, if_pos]
    exact .inr ⟨cmpQ_eq (by unfold crossR; grind), rfl⟩
  rw [f1, sg_anti u w] at e1
  rw [f1, sg_anti u v] at e2
  have T := wed_table (a := halfR u) (b := halfR v) (c := halfR w) (by omega) (by omega) (by omega) (sg_range (crossR u v)) (sg_range (crossR u w)) (sg_range (crossR w v)) (sa := hs u) (sb := hs v) (sc := hs w)
    (by omega) (by omega) (by omega) (by omega) (by omega) (by omega) (cross_up u v) (cross_up u w) (cross_up w v)
    (sg_trans (up_H1 hu) (up_H1 hw) (up_H1 hv))
    (by have := sg_trans (up_H1 hu) (up_H1 hv) (up_H1 hw); rw [sg_anti (upR w) (upR v)] at this; exact this)
    (by have := sg_trans (up_H1 hv) (up_H1 hu) (up_H1 hw); rw [sg_anti (upR w) (upR v), sg_anti (upR u) (upR v)] at this; exact this)
    (by have := sg_trans (up_H1 hw) (up_H1 hu) (up_H1 hv); rw [sg_anti (upR u) (upR w)] at this; exact this)
    (by have := sg_trans (up_H1 hw) (up_H1 hv) (up_H1 hu); rw [sg_anti (upR u) (upR w), sg_anti (upR u) (upR v)] at this; exact this)
    (by have := sg_trans (up_H1 hv) (up_H1 hw) (up_H1 hu); rw [sg_anti (upR u) (upR w), sg_anti (upR u) (upR v), sg_anti (upR w) (upR v)] at this; exact this)
    (half_from hu hv) (half_from hu hw)
  rw [← e1, ← e2, ← e3, ← ang_sg u v, ← ang_sg u w, ← ang_sg w v] at T
  constructor
  · rintro ⟨_, _, _, h⟩; exact ⟨⟨hu, hv, hw⟩, T.1 h⟩
  · rintro ⟨_, h⟩; exact ⟨hu, hv, hw, T.2 h⟩
end Go.Ae
/- Lists of points: sorting by insertion; equality; sizes. -/
set_option linter.unusedVariables false
set_option linter.unusedSimpArgs false
namespace Go.Ae
open Go

/-! sizes of lists -/
instance (k : Nat) (p : PV) : Decidable (p.sz k) := inferInstanceAs (Decidable ((_ ∧ _) ∧ (_ ∧ _)))
def anyBig (k : Nat) (l : List PV) : Bool := l.any fun p => decide (¬ p.sz k)
def bigS (k : Nat) : QSpec := { ι := PL, args := fun i => [i.val], blks := fun i => i.blks, pre := fun i => i.list.length ≤ 1099511627776, val := fun i => .bool (anyBig k i.list), new := fun _ => none }
theorem anyBig_true {k : Nat} {l : List PV} {p : PV} (h : p ∈ l) (hg : ¬ p.sz k) : anyBig k l = true := List.any_eq_true.2 ⟨p, h, decide_eq_true hg⟩
theorem anyBig_false {k : Nat} {l : List PV} (h : anyBig k l = false) : ∀ p ∈ l, p.sz k := fun p hp => by
  refine Classical.byContradiction fun hg => ?_
  rw [anyBig_true hp hg] at h; cases h
def smallUp (k : Nat) (l : List PV) (i : Nat) : Prop := ∀ p ∈ l.take i, p.sz k
theorem smallUp_start (k : Nat) (l : List PV) : smallUp k l 0 := fun p hp => by simp at hp
theorem smallUp_step {k : Nat} {l : List PV} {i : Nat} {p : PV} (h : smallUp k l i) (hp : l[i]? = some p) (hg : p.sz k) : smallUp k l (i + 1) := fun q hq => by
  rw [List.take_add_one, hp] at hq
  simp only [Option.toList_some, List.mem_append, List.mem_singleton] at hq
  rcases hq with hq | rfl
  · exact h q hq
  · exact hg
theorem smallUp_end {k : Nat} {l : List PV} (h : smallUp k l l.length) : anyBig k l = false := by
  cases e : anyBig k l
  · rfl
  · obtain ⟨p, hp, hg⟩ := List.any_eq_true.1 e
    rw [smallUp, List.take_length] at h
    exact absurd (h p hp) (of_decide_eq_true hg)

theorem lit_blk (l : List PV) : BlkLe (.flat false l.length 6 (rowsP l)) (.expl true 6 (l.map PV.cells)) :=
  blk_rows (by simp) (fun r hr => by
    unfold rowsP
    rw [List.getD_eq_getElem?_getD, List.getD_eq_getElem?_getD, List.getElem?_map, List.getElem?_eq_getElem hr]
    rfl) (fun r hr => rfl)

/-! equality of lists -/
/-- A list as the second one of two. -/
def PL.valAt (i : PL) (k : Nat) : Value := match i with | none => .slice none 0 0 | some j => .slice (some ⟨k, 0, none⟩) j.1.length j.2
abbrev PL2 := PL × PL
def sameS : QSpec := { ι := PL2, args := fun i => [i.1.val, i.2.valAt i.1.blks.length], blks := fun i => i.1.blks ++ i.2.blks, pre := fun i => i.1.list.length ≤ 1099511627776 ∧ i.2.list.length ≤ 1099511627776, val := fun i => .bool (decide (i.1.list = i.2.list)), new := fun _ => none }
def eqUp (l m : List PV) (i : Nat) : Prop := l.take i = m.take i
theorem eqUp_start (l m : List PV) : eqUp l m 0 := rfl
theorem eqUp_step {l m : List PV} {i : Nat} {p q : PV} (h : eqUp l m i) (hp : l[i]? = some p) (hq : m[i]? = some q) (e : p = q) : eqUp l m (i + 1) := by
  unfold eqUp at *
  rw [List.take_add_one, List.take_add_one, hp, hq, h, e]
theorem eqUp_end {l m : List PV} (h : eqUp l m l.length) (hl : l.length = m.length) : l = m := by
  unfold eqUp at h
  rw [List.take_length] at h
  rw [h, hl, List.take_length]
theorem ne_at {l m : List PV} {i : Nat} {p q : PV} (hp : l[i]? = some p) (hq : m[i]? = some q) (e : p ≠ q) : l ≠ m := fun h => by
  subst h; rw [hp] at hq; exact e (Option.some.inj hq)

/-! insertion -/
section
variable (f : PV → PV → Int)
/-- An element into a sorted list that stands the other way round. -/
def insB (x : PV) : List PV → List PV
  | [] => [x]
  | y :: r => if f x y < 0 then y :: insB x r else x :: y :: r
def srtB (l : List PV) : List PV := l.foldl (fun a x => insB f x a) []
def sortL (l : List PV) : List PV := (srtB f l).reverse
theorem srtB_snoc {l : List PV} {x : PV} : srtB f (l ++ [x]) = insB f x (srtB f l) := by unfold srtB; rw [List.foldl_append]; rfl
theorem insB_length (x : PV) : ∀ r, (insB f x r).length = r.length + 1
  | [] => rfl
  | y :: r => by
    unfold insB
    split
    · rw [List.length_cons, insB_length x r, List.length_cons]
    · rfl
theorem srtB_length (l : List PV) : (srtB f l).length = l.length := by
  have key : ∀ (l a : List PV), (l.foldl (fun a x => insB f x a) a).length = a.length + l.length := by
    intro l
    induction l with
    | nil => intro a; rfl
    | cons x l ih => intro a; rw [List.foldl_cons, ih, insB_length, List.length_cons]; omega
  have := key l []
  simpa [srtB] using this
theorem sortL_length (l : List PV) : (sortL f l).length = l.length := by unfold sortL; rw [List.length_reverse, srtB_length]
theorem insB_perm (x : PV) : ∀ r, (insB f x r).Perm (x :: r)
  | [] => .refl _
  | y :: r => by
    unfold insB
    split
    · exact ((insB_perm x r).cons y).trans (.swap x y r)
    · exact .refl _
theorem srtB_perm (l : List PV) : (srtB f l).Perm l := by
  have key : ∀ (l a : List PV), (l.foldl (fun a x => insB f x a) a).Perm (a ++ l) := by
    intro l
    induction l with
    | nil => intro a; rw [List.append_nil]; exact .refl _
    | cons x l ih =>
      intro a
      rw [List.foldl_cons]
      refine (ih _).trans (((insB_perm f x a).append_right l).trans ?_)
      exact List.perm_middle.symm
  simpa [srtB] using key l []
theorem sortL_perm (l : List PV) : (sortL f l).Perm l := (List.reverse_perm _).trans (srtB_perm f l)
theorem sortL_mem {l : List PV} {x : PV} : x ∈ sortL f l ↔ x ∈ l := (sortL_perm f l).mem_iff
end
/-- A comparison that orders. -/
structure Ordering' (f : PV → PV → Int) : Prop where
  anti : ∀ x y, f y x = -f x y
  trans : ∀ x y z, f x y ≤ 0 → f y z ≤ 0 → f x z ≤ 0
theorem insB_sorted {f : PV → PV → Int} (hf : Ordering' f) (x : PV) : ∀ r : List PV, r.Pairwise (fun a b => f b a ≤ 0) → (insB f x r).Pairwise (fun a b => f b a ≤ 0)
  | [], _ => by simp [insB]
  | y :: r, h => by
    rw [List.pairwise_cons] at h
    unfold insB
    split
    · rename_i hxy
      rw [List.pairwise_cons]
      refine ⟨fun z hz => ?_, insB_sorted hf x r h.2⟩
      rcases List.mem_cons.1 ((insB_perm f x r).mem_iff.1 hz) with rfl | hz
      · omega
      · exact h.1 z hz
    · rename_i hxy
      rw [List.pairwise_cons, List.pairwise_cons]
      have hyx : f y x ≤ 0 := by have := hf.anti x y; omega
      refine ⟨fun z hz => ?_, h⟩
      rcases List.mem_cons.1 hz with rfl | hz
      · exact hyx
      · exact hf.trans _ _ _ (h.1 z hz) hyx
theorem sortL_sorted {f : PV → PV → Int} (hf : Ordering' f) (l : List PV) : (sortL f l).Pairwise (fun a b => f a b ≤ 0) := by
  have key : ∀ (l a : List PV), a.Pairwise (fun a b => f b a ≤ 0) → (l.foldl (fun a x => insB f x a) a).Pairwise (fun a b => f b a ≤ 0) := by
    intro l
    induction l with
    | nil => exact fun a h => h
    | cons x l ih => intro a h; rw [List.foldl_cons]; exact ih _ (insB_sorted hf x a h)
  have := key l [] List.Pairwise.nil
  unfold sortL
  rw [List.pairwise_reverse]
  exact this
/-- The whole list when the first i have been sorted. -/
def partL (f : PV → PV → Int) (l : List PV) (i : Nat) : List PV := (srtB f (l.take i)).reverse ++ l.drop i
theorem partL_one (f : PV → PV → Int) (l : List PV) {i : Nat} (h : i ≤ 1) : partL f l i = l := by
  unfold partL
  match i, h with
  | 0, _ => simp [srtB]
  | 1, _ =>
    cases l with
    | nil => simp [srtB]
    | cons a l => simp [srtB, insB]
theorem partL_end (f : PV → PV → Int) {l : List PV} {i : Nat} (h : l.length ≤ i) : partL f l i = sortL f l := by
  unfold partL sortL
  rw [List.take_of_length_le h, List.drop_eq_nil_of_le h, List.append_nil]
theorem partL_length (f : PV → PV → Int) (l : List PV) (i : Nat) : (partL f l i).length = l.length := by
  unfold partL
  rw [List.length_append, List.length_reverse, srtB_length, ← List.length_append, List.take_append_drop]
/-- While x, the i-th element, moves down: r stands before it, B behind it. -/
structure Mid (f : PV → PV → Int) (l : List PV) (i j : Nat) (x : PV) (r B L : List PV) : Prop where
  at_ : l[i]? = some x
  acc : srtB f (l.take i) = B ++ r
  ins : insB f x (srtB f (l.take i)) = B ++ insB f x r
  len : r.length = j
  all : L = r.reverse ++ x :: (B.reverse ++ l.drop (i + 1))
theorem Mid.start {f : PV → PV → Int} {l : List PV} {i : Nat} {x : PV} (h : l[i]? = some x) : Mid f l i i x (srtB f (l.take i)) [] (partL f l i) := by
  have hi : i < l.length := (List.getElem?_eq_some_iff.1 h).1
  refine ⟨h, rfl, rfl, ?_, ?_⟩
  · rw [srtB_length, List.length_take]; omega
  · unfold partL
    rw [List.drop_eq_getElem_cons hi]
    rw [List.getElem?_eq_getElem hi] at h
    rw [Option.some.inj h]; rfl
theorem Mid.step {f : PV → PV → Int} {l : List PV} {i j : Nat} {x y : PV} {r B L : List PV} (h : Mid f l i j x (y :: r) B L) (hf : f x y < 0) :
    Mid f l i (j - 1) x r (B ++ [y]) (r.reverse ++ x :: y :: (B.reverse ++ l.drop (i + 1))) := by
  refine ⟨h.at_, by rw [h.acc]; simp, ?_, ?_, by simp⟩
  · have e : insB f x (y :: r) = y :: insB f x r := by
      show (if f x y < 0 then _ else _) = _
      rw [if_pos hf]
    rw [h.ins, e]
    simp
  · have := h.len; simp at this; omega
theorem Mid.done {f : PV → PV → Int} {l : List PV} {i j : Nat} {x : PV} {r B L : List PV} (h : Mid f l i j x r B L) (hs : insB f x r = x :: r) : L = partL f l (i + 1) := by
  rw [h.all]
  unfold partL
  rw [List.take_add_one, h.at_]
  simp only [Option.toList_some]
  rw [srtB_snoc, h.ins, hs]
  simp
theorem ins_stop {f : PV → PV → Int} {x y : PV} {r : List PV} (h : ¬ f x y < 0) : insB f x (y :: r) = x :: y :: r := by
  unfold insB; rw [if_neg h]
theorem rowsP_at {L A R : List PV} {p : PV} (h : L = A ++ p :: R) {j : Nat} (hj : A.length = j) : rowsP L j = p.cells := by
  subst h; subst hj
  unfold rowsP
  rw [List.getD_eq_getElem?_getD]
  simp
/-- Two neighbours exchanged. -/
theorem rows_swap {A R : List PV} {x y : PV} {n j : Nat} {f g : Nat → List Value} (hj : A.length + 1 = j) (hf : ∀ r, r < n → f r = rowsP (A ++ y :: x :: R) r)
    (hg : ∀ r, g r = if r = j - 1 then x.cells else if r = j then y.cells else f r) : ∀ r, r < n → g r = rowsP (A ++ x :: y :: R) r := fun r hr => by
  rw [hg]
  by_cases h1 : r = j - 1
  · rw [if_pos h1, rowsP_at rfl (by omega)]
  · rw [if_neg h1]
    by_cases h2 : r = j
    · rw [if_pos h2, rowsP_at (A := A ++ [x]) (p := y) (R := R) (by simp) (by simp; omega)]
    · rw [if_neg h2, hf r hr]
      unfold rowsP
      rw [List.getD_eq_getElem?_getD, List.getD_eq_getElem?_getD]
      congr 2
      rcases Nat.lt_or_ge r A.length with h | h
      · rw [List.getElem?_append_left h, List.getElem?_append_left h]
      · rw [List.getElem?_append_right h, List.getElem?_append_right h]
        obtain ⟨k, hk⟩ : ∃ k, r - A.length = k + 2 := ⟨r - A.length - 2, by omega⟩
        rw [hk]; rfl
/-- Directions in the order of their angles, then of their lengths. -/
def cmpV (a b : PV) : Int := if angR a.p b.p ≠ 0 then angR a.p b.p else cmpQ (dotR a.p a.p) (dotR b.p b.p)
def cmpPS : PSpec := { ι := PV2, args := fun i => [i.1.v, i.2.v], pre := fun i => i.1.sz 1048576 ∧ i.2.sz 1048576, val := fun i => .int .i64 (cmpV i.1 i.2) }
def orS : QSpec := { ι := Int × Int, args := fun i => [.slice (some ⟨0, 0, none⟩) 2 2], blks := fun i => [.flat false 2 1 (fun r => [.int .i64 (if r = 0 then i.1 else i.2)])], pre := fun _ => True, val := fun i => .int .i64 (if i.1 ≠ 0 then i.1 else i.2), new := fun _ => none }
theorem or_blk (a b : Int) : BlkLe (.flat false 2 1 (fun r => [.int .i64 (if r = 0 then a else b)])) (.expl true 1 [[.int .i64 a], [.int .i64 b]]) :=
  blk_rows rfl (fun r hr => by
    have : r = 0 ∨ r = 1 := by omega
    rcases this with rfl | rfl <;> rfl) (fun r hr => rfl)
theorem ang_p (a b : PV) : angR b.p a.p = -angR a.p b.p := ang_anti a.p b.p
theorem cmpQ_swap (p q : Rat) : cmpQ q p = -cmpQ p q := by
  rw [cmpQ_sub q p, cmpQ_sub p q, show q - p = -(p - q) by grind, cmpQ_neg']
theorem cmpV_ord : Ordering' cmpV := by
  refine ⟨fun x y => ?_, fun x y z h1 h2 => ?_⟩
  · unfold cmpV
    rw [ang_p x y, cmpQ_swap (dotR x.p x.p)]
    by_cases h : angR x.p y.p = 0
    · rw [h]; simp
    · rw [if_pos h, if_pos (by omega)]
  · have k1 : angR x.p y.p ≤ 0 := by
      unfold cmpV at h1; split at h1 <;> omega
    have k2 : angR y.p z.p ≤ 0 := by
      unfold cmpV at h2; split at h2 <;> omega
    obtain ⟨k3, k4⟩ := ang_trans k1 k2
    unfold cmpV
    by_cases h : angR x.p z.p = 0
    · obtain ⟨e1, e2⟩ := k4 h
      rw [if_neg (by simp [h])]
      unfold cmpV at h1 h2
      rw [if_neg (by simp [e1])] at h1
      rw [if_neg (by simp [e2])] at h2
      have := cmpQ_le.1 h1
      have := cmpQ_le.1 h2
      exact cmpQ_le.2 (by grind)
    · rw [if_pos h]; exact k3
def insSS (g : FuncId) : WSpec := { ι := List PV × Nat, args := fun i => [.slice (some ⟨0, 0, none⟩) i.1.length i.2, .int .i64 0, .int .i64 i.1.length, .func (.func g) #[] #[]], blks := fun i => [.flat true i.1.length 6 (rowsP i.1)], pre := fun i => i.1.length ≤ 12 ∧ ∀ p ∈ i.1, p.sz 1048576, val := fun _ => .tuple ⟨[]⟩, post := fun i => [.flat true i.1.length 6 (rowsP (sortL cmpV i.1))], new := fun _ => [] }
def stabS (g : FuncId) : WSpec := { insSS g with args := fun i => [.slice (some ⟨0, 0, none⟩) i.1.length i.2, .int .i64 i.1.length, .func (.func g) #[] #[]] }
def sortSS (g : FuncId) : WSpec := { insSS g with args := fun i => [.slice (some ⟨0, 0, none⟩) i.1.length i.2, .func (.func g) #[] #[]] }
def sortedS (g : FuncId) : QSpec := { ι := List PV × Nat, args := fun i => [.slice (some ⟨0, 0, none⟩) i.1.length i.2, .func (.func g) #[] #[]], blks := fun i => [.flat false i.1.length 6 (rowsP i.1)], pre := fun i => i.1.length ≤ 12 ∧ ∀ p ∈ i.1, p.sz 1048576, val := fun i => .slice (some ⟨1, 0, none⟩) i.1.length capU, new := fun i => some (.flat true i.1.length 6 (rowsP (sortL cmpV i.1))) }
def canonP (p : PV) : PV := ptV p.p
def sortR (l : List PV) : List PV := sortL cmpV (l.map canonP)
def predSortS : QSpec := { ι := PL, args := fun i => [i.val], blks := fun i => i.blks, pre := fun i => (i.list.length ≤ 12 ∨ 1000 < i.list.length) ∧ i.list.length ≤ 1099511627776 ∧ ∀ p ∈ i.list, p.sz 524288, val := fun i => if 1000 < i.list.length then .tuple ⟨[.slice none 0 0, .int .i64 4]⟩ else .tuple ⟨[.slice (some ⟨i.blks.length, 0, none⟩) i.list.length capU, .int .i64 0]⟩, new := fun i => if 1000 < i.list.length then none else some (.flat true i.list.length 6 (rowsP (sortR i.list))) }
theorem wres_w1 {S : WSpec} {i : S.ι} {n e : Nat} {gp g0 f : Nat → List Value} {o : Bool} {H : Heap} (hb : S.blks i = [.flat o n e g0]) (hpost : S.post i = [.flat true n e gp]) (hval : S.val i = .tuple ⟨[]⟩) (hnew : S.new i = [])
    (h : ∀ r, r < n → f r = gp r) (hs : ∀ r, r < n → allS (gp r) = true) : wRes S i (.tuple ⟨[]⟩) (some (.flat true n e f) :: H) := by
  refine ⟨[], List.nodup_nil, fun p hp => (by cases hp), by rw [hnew]; rfl, fun j b q hb' hq ho => ?_, fun j p b hp => by simp at hp, .tuple ⟨[]⟩, by rw [hval]; rfl, .refl _⟩
  rw [hb] at hb'
  rw [hpost] at hq
  cases j with
  | zero =>
    simp at hb' hq
    subst hq
    exact ⟨_, rfl, rfl, BlkLe.flat_rows (fun h => h) h hs⟩
  | succ j => simp at hb'
end Go.Ae
/- Lists of points: the comparison over rationals. -/
set_option linter.unusedVariables false
set_option linter.unusedSimpArgs false
namespace Go.Ae
open Go

def cmp2 (a b : Q2) : Int := if angR a b ≠ 0 then angR a b else cmpQ (dotR a a) (dotR b b)
theorem add_zeroP (q : Q2) : addR q (PV.p (zeroR, zeroR)) = q := by
  show (q.1 + zeroR.q, q.2 + zeroR.q) = q
  rw [zeroR_q]
  ext <;> dsimp only <;> grind
theorem cen_sz {a b c : Q2} (ha : Q2.sz 12 a) (hb : Q2.sz 12 b) (hc : Q2.sz 12 c) : Q2.sz 1048576 (cenR a b c) := by
  have hu := sub_sz hb ha
  have hv := sub_sz hc ha
  have hd : QB (2 * crossR (subR b a) (subR c a)) _ := QB.mul (show QB (2 : Rat) 1 from ex_nby (n := 2) (by decide)) (cross_sz hu hv)
  have hU := dot_sz hu hu
  have hV := dot_sz hv hv
  exact ⟨(ha.1.add (((hv.2.mul hU).sub (hu.2.mul hV)).div hd (by decide))).mono (by decide), (ha.2.add (((hu.1.mul hV).sub (hv.1.mul hU)).div hd (by decide))).mono (by decide)⟩
theorem cen_hide {a b c : Q2} (ha : Q2.sz 12 a) (hb : Q2.sz 12 b) (hc : Q2.sz 12 c) : ∃ (m : PV) (e : Int), cenV a b c = (m, e) ∧ m.sz 1048576 := by
  refine ⟨(cenV a b c).1, (cenV a b c).2, rfl, ?_⟩
  unfold cenV
  by_cases h : orR a b c = 0
  · rw [if_pos h]; exact ⟨zeroR_sz _, zeroR_sz _⟩
  · rw [if_neg h]; exact ptV_sz (cen_sz ha hb hc) (Nat.le_refl _)
/-! the statements' contracts -/
def law4S : PSpec := { ι := PV4, args := fun i => [i.1.v, i.2.1.v, i.2.2.1.v, i.2.2.2.v], pre := fun _ => True, val := fun _ => .bool true }
def law3S : PSpec := { ι := PV3, args := fun i => [i.1.v, i.2.1.v, i.2.2.v], pre := fun _ => True, val := fun _ => .bool true }
def law3nS : PSpec := { ι := PV3 × Int, args := fun i => [i.1.1.v, i.1.2.1.v, i.1.2.2.v, .int .u8 i.2], pre := fun i => 0 ≤ i.2 ∧ i.2 < 256, val := fun _ => .bool true }
def law3qS : PSpec := { ι := PV3 × RV, args := fun i => [i.1.1.v, i.1.2.1.v, i.1.2.2.v, i.2.v], pre := fun _ => True, val := fun _ => .bool true }
def lawLS : QSpec := { ι := PL, args := fun i => [i.val], blks := fun i => i.blks, pre := fun i => i.ok, val := fun _ => .bool true, new := fun _ => none }
end Go.Ae
/- Predicates: laws of wedges. -/
set_option linter.unusedVariables false
set_option linter.unusedSimpArgs false
namespace Go.Ae
open Go

theorem ang_congr {u w : Q2} (h : angR u w = 0) (v : Q2) : angR w v = angR u v := by
  have h' : angR w u = 0 := by rw [ang_anti u w, h]; rfl
  have key : ∀ {x y : Q2}, angR x y = 0 → angR y x = 0 → ∀ z, angR x z ≤ 0 → angR y z ≤ 0 ∧ (angR y z = 0 → angR x z = 0) := fun {x y} h1 h2 z h3 => by
    obtain ⟨k1, k2⟩ := ang_trans (u := y) (v := x) (w := z) (by omega) h3
    exact ⟨k1, fun e => (k2 e).2⟩
  have a1 := key h h' v
  have a2 := key h' h v
  have r1 := ang_range u v
  have r2 := ang_range w v
  omega
theorem half_zero {u : Q2} : halfR u = 0 ↔ u.1 = 0 ∧ u.2 = 0 := by
  have := half_nz (u := u)
  constructor
  · intro h; exact Classical.byContradiction fun hn => this.2 hn h
  · intro h; exact Classical.byContradiction fun hn => this.1 hn h
theorem wed_zero {u v w : Q2} (h : halfR u = 0 ∨ halfR v = 0 ∨ halfR w = 0) : ¬ wedR u v w := fun hw => by
  obtain ⟨h1, h2, h3, _⟩ := hw
  rcases h with h | h | h
  · exact h1 h
  · exact h2 h
  · exact h3 h
theorem wed_same {u v w : Q2} (h : angR u w = 0 ∨ angR v w = 0) : ¬ wedR u v w ∧ ¬ wedR v u w := by
  rw [wed_eq, wed_eq]
  unfold wedRef
  have e1 := ang_anti u v
  have e2 := ang_anti u w
  have e3 := ang_anti v w
  rcases h with h | h
  · have := ang_congr h v
    constructor
    · rintro ⟨_, k⟩
      split at k <;> omega
    · rintro ⟨_, k⟩
      split at k <;> omega
  · have := ang_congr h u
    constructor
    · rintro ⟨_, k⟩
      split at k <;> omega
    · rintro ⟨_, k⟩
      split at k <;> omega
theorem wed_both {u v w : Q2} (hu : halfR u ≠ 0) (hv : halfR v ≠ 0) (hw : halfR w ≠ 0) (h1 : angR u w ≠ 0) (h : angR u v = 0) : wedR u v w ∧ wedR v u w := by
  rw [wed_eq, wed_eq]
  unfold wedRef
  have e1 := ang_anti u v
  have e2 := ang_anti u w
  have e3 := ang_anti v w
  have := ang_congr h w
  constructor
  · refine ⟨⟨hu, hv, hw⟩, ?_⟩
    rw [if_neg (by omega)]; omega
  · refine ⟨⟨hv, hu, hw⟩, ?_⟩
    rw [if_neg (by omega)]; omega
theorem wed_one {u v w : Q2} (hu : halfR u ≠ 0) (hv : halfR v ≠ 0) (hw : halfR w ≠ 0) (h1 : angR u w ≠ 0) (h2 : angR v w ≠ 0) (h : angR u v ≠ 0) : wedR v u w ↔ ¬ wedR u v w := by
  rw [wed_eq, wed_eq]
  unfold wedRef
  have e1 := ang_anti u v
  have e2 := ang_anti u w
  have e3 := ang_anti v w
  simp only [hu, hv, hw, ne_eq, not_false_eq_true, true_and, and_true]
  by_cases k : angR u v < 0
  · rw [if_pos k, if_neg (by omega)]; omega
  · rw [if_neg k, if_pos (by omega)]; omega
theorem or_zero (u v : Q2) {o : Q2} (ho : o = (((0 : Int) : Rat), ((0 : Int) : Rat))) : orR o u v = crossR u v := by
  subst ho
  unfold orR crossR subR
  dsimp only
  rw [show ((0 : Int) : Rat) = 0 from rfl]
  grind
theorem wed_left {u v w : Q2} (hu : halfR u ≠ 0) (hv : halfR v ≠ 0) (hw : halfR w ≠ 0) (h1 : angR u w ≠ 0) (hc : 0 < crossR u v) : wedR u v w ↔ 0 < crossR u w ∧ 0 < crossR w v := by
  have su : sg (crossR u v) = 1 := cmpQ_gt hc
  have e3 := from_ang hu hw hv
  have e2 := from_ang hu hv hu
  have e1 := from_ang hu hw hu
  have f1 : halfR (fromR u u) = 1 := by
    rw [half_from hu hu, if_pos]
    exact .inr ⟨cmpQ_eq (by unfold crossR; grind), rfl⟩
  have fv : halfR (fromR u v) = 1 := by rw [half_from hu hv, if_pos (.inl (by omega))]
  have fw := half_from hu hw
  rw [f1, fv, sg_anti u v, su] at e2
  rw [fv] at e3
  rw [f1, sg_anti u w] at e1
  have hcw : 0 < crossR u w ↔ sg (crossR u w) = 1 := cmpQ_one.symm
  have hcv : 0 < crossR w v ↔ sg (crossR w v) = 1 := cmpQ_one.symm
  have r1 := sg_range (crossR u w)
  have r2 := sg_range (crossR w v)
  have hne : ¬ (halfR u = halfR w ∧ sg (crossR u w) = 0) := fun ⟨k1, k2⟩ => h1 (ang_zero.2 ⟨k1, cmpQ_zero.1 k2⟩)
  rw [hcw, hcv]
  unfold wedR
  constructor
  · rintro ⟨_, _, _, k1, k2⟩
    rw [e1] at k1
    rw [e2, e3] at k2
    by_cases hp : 0 < sg (crossR u w) ∨ sg (crossR u w) = 0 ∧ halfR u = halfR w
    · rw [if_pos hp] at fw
      rw [fw] at k1 k2
      simp at k2
      omega
    · rw [if_neg hp] at fw
      rw [fw] at k1 k2
      simp at k2
  · rintro ⟨k1, k2⟩
    have fw : halfR (fromR u w) = 1 := by rw [fw, if_pos (.inl (by omega))]
    refine ⟨hu, hv, hw, ?_, .inr ?_⟩
    · rw [e1, fw, k1]; decide
    · rw [e3, fw, k2]; decide
end Go.Ae
/- Predicates: counting equal points. -/
set_option linter.unusedVariables false
set_option linter.unusedSimpArgs false
namespace Go.Ae
open Go

def cnt (p : PV) (l : List PV) : Nat := l.countP fun q => decide (cmpR p.p q.p = 0)
theorem cnt_step {p q : PV} {l : List PV} {k : Nat} (h : l[k]? = some q) : cnt p (l.take (k + 1)) = cnt p (l.take k) + if cmpR p.p q.p = 0 then 1 else 0 := by
  unfold cnt
  rw [List.take_add_one, h]
  simp [List.countP_append, List.countP_cons]
theorem cnt_le (p : PV) (l : List PV) : cnt p l ≤ l.length := List.countP_le_length
theorem cnt_take_le (p : PV) (l : List PV) (k : Nat) : cnt p (l.take k) ≤ l.length := Nat.le_trans (cnt_le p _) (by rw [List.length_take]; exact Nat.min_le_right _ _)
theorem cnt_sort (p : PV) (l : List PV) : cnt p (sortR l) = cnt p l := by
  unfold cnt sortR
  rw [(sortL_perm cmpV _).countP_eq, List.countP_map]
  congr 1
  funext q
  show decide (cmpR p.p (canonP q).p = 0) = _
  rw [show (canonP q).p = q.p from ptV_p q.p]
theorem sortR_length (l : List PV) : (sortR l).length = l.length := by unfold sortR; rw [sortL_length, List.length_map]
theorem sortR_sz {l : List PV} {k : Nat} (hk : 1 ≤ k) (h : ∀ p ∈ l, p.sz k) : ∀ p ∈ sortR l, p.sz k := fun p hp => by
  unfold sortR at hp
  rw [sortL_mem] at hp
  obtain ⟨q, hq, rfl⟩ := List.mem_map.1 hp
  exact ptV_sz (PV.psz (h q hq) hk) (Nat.le_refl _)
theorem sortR_next {l : List PV} {i : Nat} {x y : PV} (hx : (sortR l)[i]? = some x) (hy : (sortR l)[i + 1]? = some y) : cmpV x y ≤ 0 := by
  have h := sortL_sorted cmpV_ord (l.map canonP)
  obtain ⟨h1, h2⟩ := List.getElem?_eq_some_iff.1 hx
  obtain ⟨h3, h4⟩ := List.getElem?_eq_some_iff.1 hy
  have := List.pairwise_iff_getElem.1 h i (i + 1) h1 h3 (by omega)
  have h2 : (sortL cmpV (l.map canonP))[i] = x := h2
  have h4 : (sortL cmpV (l.map canonP))[i + 1] = y := h4
  rw [h2, h4] at this
  exact this
theorem cmpV_le {x y : PV} (h : cmpV x y ≤ 0) : angR x.p y.p ≤ 0 ∧ (angR x.p y.p = 0 → dotR x.p x.p ≤ dotR y.p y.p) := by
  unfold cmpV at h
  by_cases h0 : angR x.p y.p = 0
  · rw [if_neg (by simp [h0])] at h
    exact ⟨by omega, fun _ => cmpQ_le.1 h⟩
  · rw [if_pos h0] at h
    exact ⟨h, fun e => absurd e h0⟩
theorem dst_zero {o : Q2} (ho : o = (((0 : Int) : Rat), ((0 : Int) : Rat))) (x : Q2) : dstR o x = dotR x x := by
  subst ho
  unfold dstR dotR subR
  dsimp only
  rw [show ((0 : Int) : Rat) = 0 from rfl]
  grind
end Go.Ae
/- The arguments of a statement, opened: structs of plain cells. -/
set_option linter.unusedVariables false
set_option linter.unusedSimpArgs false
namespace Go.Ae
open Go Go.RowKit

section
variable {P : Program} {w : World} {r : Reach} {base : Nat} {t : TypeId} {v : Value}
theorem cell_bool (ht : P.underlying t = some .bool) (h : Cell.okWide P w r base t v) : ∃ b, v = .bool b := by
  simp only [Cell.okWide, ht] at h
  cases v <;> simp_all [Cell.ok]
theorem cell_string (ht : P.underlying t = some .string) (h : Cell.okWide P w r base t v) : ∃ s, v = .string s := by
  simp only [Cell.okWide, ht] at h
  cases v <;> simp_all [Cell.ok]
/-- A struct's cells. -/
theorem open_cells {fs : Array Field} (ht : P.underlying t = some (.struct fs)) {ts : List TypeId} (hts : P.cellTypes P.depth t = some ts) (h : Value.okWide P w r base t v) :
    ∃ l : List Value, v = .agg ⟨l⟩ ∧ l.length = P.cellsOf t ∧ ∀ i x, l[i]? = some x → ∃ u, ts[i % ts.length]? = some u ∧ Cell.okWide P w r base u x := by
  simp only [Value.okWide, ht] at h
  obtain ⟨cs, rfl, h2, ts', h3, _, h5⟩ := h
  rw [hts] at h3
  cases h3
  exact ⟨cs.toList, rfl, h2, fun i x hx => h5 i x (by simpa using hx)⟩
theorem open_rat {fs : Array Field} (ht : P.underlying t = some (.struct fs)) {b s : TypeId} (hts : P.cellTypes P.depth t = some [b, s, s]) (hn : P.cellsOf t = 3) (hb : P.underlying b = some .bool) (hs : P.underlying s = some .string)
    (h : Value.okWide P w r base t v) : ∃ i : RV, v = i.v := by
  obtain ⟨l, rfl, hl, hc⟩ := open_cells ht hts h
  rw [hn] at hl
  match l, hl with
  | [x, y, z], _ =>
    obtain ⟨u, hu, h0⟩ := hc 0 x rfl
    obtain ⟨u1, hu1, h1⟩ := hc 1 y rfl
    obtain ⟨u2, hu2, h2⟩ := hc 2 z rfl
    cases hu; cases hu1; cases hu2
    obtain ⟨b0, rfl⟩ := cell_bool hb h0
    obtain ⟨s1, rfl⟩ := cell_string hs h1
    obtain ⟨s2, rfl⟩ := cell_string hs h2
    exact ⟨(b0, s1, s2), rfl⟩
theorem open_pt {fs : Array Field} (ht : P.underlying t = some (.struct fs)) {b s : TypeId} (hts : P.cellTypes P.depth t = some [b, s, s, b, s, s]) (hn : P.cellsOf t = 6) (hb : P.underlying b = some .bool) (hs : P.underlying s = some .string)
    (h : Value.okWide P w r base t v) : ∃ p : PV, v = p.v := by
  obtain ⟨l, rfl, hl, hc⟩ := open_cells ht hts h
  rw [hn] at hl
  match l, hl with
  | [x, y, z, x', y', z'], _ =>
    obtain ⟨u, hu, h0⟩ := hc 0 x rfl
    obtain ⟨u1, hu1, h1⟩ := hc 1 y rfl
    obtain ⟨u2, hu2, h2⟩ := hc 2 z rfl
    obtain ⟨u3, hu3, h3⟩ := hc 3 x' rfl
    obtain ⟨u4, hu4, h4⟩ := hc 4 y' rfl
    obtain ⟨u5, hu5, h5⟩ := hc 5 z' rfl
    cases hu; cases hu1; cases hu2; cases hu3; cases hu4; cases hu5
    obtain ⟨b0, rfl⟩ := cell_bool hb h0
    obtain ⟨s1, rfl⟩ := cell_string hs h1
    obtain ⟨s2, rfl⟩ := cell_string hs h2
    obtain ⟨b3, rfl⟩ := cell_bool hb h3
    obtain ⟨s4, rfl⟩ := cell_string hs h4
    obtain ⟨s5, rfl⟩ := cell_string hs h5
    exact ⟨((b0, s1, s2), (b3, s4, s5)), rfl⟩
theorem open_box {fs : Array Field} (ht : P.underlying t = some (.struct fs)) {b s : TypeId} (hts : P.cellTypes P.depth t = some [b, s, s, b, s, s, b, s, s, b, s, s]) (hn : P.cellsOf t = 12) (hb : P.underlying b = some .bool) (hs : P.underlying s = some .string)
    (h : Value.okWide P w r base t v) : ∃ p : XV, v = p.v := by
  obtain ⟨l, rfl, hl, hc⟩ := open_cells ht hts h
  rw [hn] at hl
  match l, hl with
  | [x, y, z, x', y', z', x2, y2, z2, x3, y3, z3], _ =>
    obtain ⟨u, hu, h0⟩ := hc 0 x rfl
    obtain ⟨u1, hu1, h1⟩ := hc 1 y rfl
    obtain ⟨u2, hu2, h2⟩ := hc 2 z rfl
    obtain ⟨u3, hu3, h3⟩ := hc 3 x' rfl
    obtain ⟨u4, hu4, h4⟩ := hc 4 y' rfl
    obtain ⟨u5, hu5, h5⟩ := hc 5 z' rfl
    obtain ⟨u6, hu6, h6⟩ := hc 6 x2 rfl
    obtain ⟨u7, hu7, h7⟩ := hc 7 y2 rfl
    obtain ⟨u8, hu8, h8⟩ := hc 8 z2 rfl
    obtain ⟨u9, hu9, h9⟩ := hc 9 x3 rfl
    obtain ⟨u10, hu10, h10⟩ := hc 10 y3 rfl
    obtain ⟨u11, hu11, h11⟩ := hc 11 z3 rfl
    cases hu; cases hu1; cases hu2; cases hu3; cases hu4; cases hu5; cases hu6; cases hu7; cases hu8; cases hu9; cases hu10; cases hu11
    obtain ⟨b0, rfl⟩ := cell_bool hb h0
    obtain ⟨s1, rfl⟩ := cell_string hs h1
    obtain ⟨s2, rfl⟩ := cell_string hs h2
    obtain ⟨b3, rfl⟩ := cell_bool hb h3
    obtain ⟨s4, rfl⟩ := cell_string hs h4
    obtain ⟨s5, rfl⟩ := cell_string hs h5
    obtain ⟨b6, rfl⟩ := cell_bool hb h6
    obtain ⟨s7, rfl⟩ := cell_string hs h7
    obtain ⟨s8, rfl⟩ := cell_string hs h8
    obtain ⟨b9, rfl⟩ := cell_bool hb h9
    obtain ⟨s10, rfl⟩ := cell_string hs h10
    obtain ⟨s11, rfl⟩ := cell_string hs h11
    exact ⟨(((b0, s1, s2), (b3, s4, s5)), ((b6, s7, s8), (b9, s10, s11))), rfl⟩
end
theorem wf_i64 {n : Int} (h : (Lit.int .i64 n).wf = true) : ok1 n := by
  have h2 : decide (IntKind.i64.min ≤ n ∧ n ≤ IntKind.i64.max) = true := by
    first | exact h | simpa [Lit.wf] using h
  have h3 := of_decide_eq_true h2
  have e1 : IntKind.i64.min = -9223372036854775808 := by decide
  have e2 : IntKind.i64.max = 9223372036854775807 := by decide
  rw [e1, e2] at h3
  exact ⟨by omega, by omega⟩
theorem wf_u8 {n : Int} (h : (Lit.int .u8 n).wf = true) : 0 ≤ n ∧ n < 256 := by
  have h2 : decide (IntKind.u8.min ≤ n ∧ n ≤ IntKind.u8.max) = true := by
    first | exact h | simpa [Lit.wf] using h
  have h3 := of_decide_eq_true h2
  have e1 : IntKind.u8.min = 0 := by decide
  have e2 : IntKind.u8.max = 255 := by decide
  rw [e1, e2] at h3
  exact ⟨by omega, by omega⟩
/-- A contract of a function that answers a bool, as the statements' frame wants it. -/
theorem calls_of_snd {P : Program} {f : FuncId} {S : PSpec} (h : Snd P f S) {i : S.ι} (hp : S.pre i) {as : List Value} (ha : S.args i = as) (hpl : allPlain2 as = true) {b : Bool} (hv : S.val i = .bool b) (w : World) :
    Calls P f ⟨as⟩ w fun e w' => e = .returned (.bool b) ∧ Below w.heap.size w w' := by
  have h1 := h.calls i hp (fun _ => none) as w 0 (by rw [ha]; exact (allPlain2_spec hpl).1 _)
  rw [callsIn_wide] at h1
  refine h1.mono fun e w' ⟨v', he, hr, hb⟩ => ⟨?_, hb⟩
  rw [hv] at hr
  rw [he, hr.to_bool]
end Go.Ae
/- The arguments of a statement, opened: slices of points. -/
set_option linter.unusedVariables false
set_option linter.unusedSimpArgs false
namespace Go.Ae
open Go Go.RowKit Go.ChangeShapes Go.WideShapes Go.ChangeAt

theorem calls_of_qsnd {P : Program} {f : FuncId} {S : QSpec} (h : QSnd P f S) {i : S.ι} (hp : S.pre i) {avs : List Value} {ν : Nu} {w : World} (ha : LRel ν (S.args i) avs) (hH : HRel ν ((S.blks i).map some) w)
    (hν : ∀ id, (S.blks i).length ≤ id → ν id = none) {b : Bool} (hv : S.val i = .bool b) :
    Calls P f ⟨avs⟩ w fun e w' => e = .returned (.bool b) ∧ Below w.heap.size w w' := by
  have h1 := h.calls i hp ν avs w 0 ha hH hν
  rw [callsIn_wide] at h1
  refine h1.mono fun e w' ⟨v', ν', he, hq⟩ => ⟨?_, hq.below⟩
  have hr := hq.val
  rw [hv] at hr
  rw [he, hr.to_bool]
section
variable {H : Type} {enc : TypeId × Value → H} {P : Program} {w : World} {base : Nat} {spare : Nat → Bool} {held : Bool}
/-- The types of a point. -/
structure PtTy (P : Program) (tr tp b s : TypeId) : Prop where
  rat : ∃ f0 f1 f2, P.underlying tr = some (.struct #[f0, f1, f2]) ∧ (f0.type = b ∧ f0.offset = 0) ∧ (f1.type = s ∧ f1.offset = 1) ∧ f2.type = s ∧ f2.offset = 2
  pt : ∃ f0 f1, P.underlying tp = some (.struct #[f0, f1]) ∧ (f0.type = tr ∧ f0.offset = 0) ∧ f1.type = tr ∧ f1.offset = 3
  bool : P.underlying b = some .bool
  str : P.underlying s = some .string
  cr : P.cellsOf tr = 3
  cp : P.cellsOf tp = 6
  cb : P.cellsOf b = 1
  cs : P.cellsOf s = 1
theorem trod_rat {tr tp b s : TypeId} (T : PtTy P tr tp b s) {n : Nat} {l : List Value} {y : DataW H × List MemPlace} (h : DataW.trod enc P w base spare held n tr l = some y) : ∃ i : RV, l = i.cells := by
  obtain ⟨f0, f1, f2, hu, ⟨t0, o0⟩, ⟨t1, o1⟩, t2, o2⟩ := T.rat
  obtain ⟨y0, y1, y2, m, _, hl, h0, h1, h2⟩ := Deep.trod_struct3 hu h
  rw [T.cr] at hl
  rw [t0, o0, T.cb] at h0
  rw [t1, o1, T.cs] at h1
  rw [t2, o2, T.cs] at h2
  match l, hl with
  | [x, y, z], _ =>
    obtain ⟨b, e0, _⟩ := DataW.trod_bool T.bool h0
    obtain ⟨s1, e1, _⟩ := DataW.trod_string T.str h1
    obtain ⟨s2, e2, _⟩ := DataW.trod_string T.str h2
    simp at e0 e1 e2
    subst e0; subst e1; subst e2
    exact ⟨(b, s1, s2), rfl⟩
theorem trod_pt {tr tp b s : TypeId} (T : PtTy P tr tp b s) {n : Nat} {l : List Value} {y : DataW H × List MemPlace} (h : DataW.trod enc P w base spare held n tp l = some y) : ∃ p : PV, l = p.cells := by
  obtain ⟨f0, f1, hu, ⟨t0, o0⟩, t1, o1⟩ := T.pt
  obtain ⟨y0, y1, m, _, hl, h0, h1⟩ := trod_struct2 hu h
  rw [T.cp] at hl
  rw [t0, o0, T.cr] at h0
  rw [t1, o1, T.cr] at h1
  obtain ⟨i, e0⟩ := trod_rat T h0
  obtain ⟨j, e1⟩ := trod_rat T h1
  match l, hl with
  | [x, y, z, x', y', z'], _ =>
    have e0 : [x, y, z] = i.cells := e0
    have e1 : [x', y', z'] = j.cells := e1
    refine ⟨(i, j), ?_⟩
    show [x, y, z] ++ [x', y', z'] = i.cells ++ j.cells
    rw [e0, e1]
theorem open_points {tl tr tp b s : TypeId} (T : PtTy P tr tp b s) (ht : P.underlying tl = some (.slice tp)) {v : Value} {d : DataW H} {ps : List MemPlace} {r : Reach} {b0 : Nat} (hv : Value.okWide P w r b0 tl v)
    (h : DataW.Trod enc P w base (fun _ => true) held tl v d ps) :
    ∃ (i : PL) (ν : Nu), i.ok ∧ VRel ν i.val v ∧ HRel ν (i.blks.map some) w ∧ ∀ id, i.blks.length ≤ id → ν id = none := by
  obtain ⟨a0, len0, cap0, rfl⟩ := okWide_slice ht hv
  obtain ⟨fuel, hf⟩ := h
  rcases Deep.open_slice ht hf with ⟨hcs, _⟩ | ⟨a, len, cap, m, n, D, Pl, hcs, hb, hl, hm, hmm, _, hx⟩
  · simp [Value.cells] at hcs
    obtain ⟨rfl, rfl, rfl⟩ := hcs
    refine ⟨none, fun _ => none, Nat.zero_le _, .snil, ⟨fun id b h => by simp [PL.blks] at h, fun i j bi bj li lj h => by simp [PL.blks] at h⟩, fun _ _ => rfl⟩
  · simp [Value.cells] at hcs
    obtain ⟨rfl, rfl, rfl⟩ := hcs
    have hmm : m = cap0 := hmm
    subst hmm
    simp only [Value.okWide, ht, Cell.okWide, Cell.ok] at hv
    obtain ⟨_, _, _, hsp, row, cells, hshape, _⟩ := hv
    have hlive : a.block < w.heap.size := by
      unfold World.shape? at hshape
      split at hshape
      · rename_i hh
        exact (Array.getElem?_eq_some_iff.1 hh).1
      · cases hshape
    obtain ⟨V, hV⟩ := Deep.choose_lt (α := PV) (n := m) (p := fun i p => ∀ j, j < 6 → w.cell? ((a.add (i * 6)).add j) = p.cells[j]?) (fun i hi => by
      obtain ⟨cs', h1, h2⟩ := hx i hi
      rw [T.cp] at h1
      obtain ⟨p, rfl⟩ := trod_pt T h2
      obtain ⟨_, _, hc⟩ := World.cells?_some h1
      exact ⟨p, hc⟩)
    have hlm : len0 ≤ m := hl
    refine ⟨some ((List.range len0).map V, capU), fun id => if id = 0 then some ⟨a.block, a.off, 6, m⟩ else none, ?_, ?_, ⟨fun id b hid => ?_, fun i j bi bj li lj h1 h2 h3 h4 => ?_⟩, fun id hid => ?_⟩
    · show ((List.range len0).map V).length ≤ _
      have hm2 : m ≤ 9223372036854775807 := hm
      rw [List.length_map, List.length_range]
      omega
    · have e : a = Loc.at ⟨a.block, a.off, 6, m⟩ 0 0 := by
        obtain ⟨b0, o0, s0⟩ := a
        have : s0 = none := hsp
        subst this
        simp [Loc.at]
      have := VRel.slice (ν := fun id => if id = 0 then some ⟨a.block, a.off, 6, m⟩ else none) 0 0 len0 capU m ⟨a.block, a.off, 6, m⟩ rfl (.inr rfl) hlm (by simp)
      rw [← e] at this
      show VRel _ (.slice (some ⟨0, 0, none⟩) ((List.range len0).map V).length capU) _
      rw [List.length_map, List.length_range]
      exact this
    · cases id with
      | succ id => simp [PL.blks] at hid
      | zero =>
        simp [PL.blks] at hid
        subst hid
        refine ⟨_, rfl, ⟨rfl, fun r hr => rfl, fun r hr j v hjv => ?_, fun _ r hr v hv => ?_, fun r hr v hv => ?_, fun h => (by cases h), hlive⟩⟩
        · have hr2 : r < len0 := hr
          have hr : r < ((List.range len0).map V).length := by rw [List.length_map, List.length_range]; exact hr2
          obtain ⟨p, hp, _, hrow⟩ := rowsP_get hr
          have hpV : V r = p := by
            rw [List.getElem?_map, List.getElem?_range hr2] at hp
            simpa using hp
          have hjv : (rowsP ((List.range len0).map V) r)[j]? = some v := hjv
          rw [hrow] at hjv
          have hj : j < 6 := (List.getElem?_eq_some_iff.1 hjv).1
          have hc := hV r (by omega) j hj
          rw [hpV, hjv] at hc
          refine ⟨v, ?_, ?_⟩
          · rw [← hc]
            congr 1
            obtain ⟨b0, o0, s0⟩ := a
            have : s0 = none := hsp
            subst this
            by_cases h2 : r * 6 = 0
            · have h3 : r = 0 := by omega
              by_cases h1 : j = 0 <;> simp [Loc.at, Addr.add, h1, h3, Nat.add_assoc]
            · by_cases h1 : j = 0 <;> simp [Loc.at, Addr.add, h1, h2, Nat.add_assoc]
          · have hs : allS p.cells = true := rfl
            exact VRel.scal_self (allS_spec hs v (List.mem_of_getElem? hjv))
        · exact allS_spec (rowsP_allS _ r) v hv
        · have := allS_spec (rowsP_allS ((List.range len0).map V) r) v hv
          cases v <;> first | rfl | simp [scal] at this
    · cases i with
      | succ i => simp [PL.blks] at h1
      | zero =>
        cases j with
        | zero => exact absurd rfl h3
        | succ j => simp [PL.blks] at h2
    · have : id ≠ 0 := by
        intro e; subst e
        have hid : 1 ≤ 0 := hid
        omega
      simp [this]
end
end Go.Ae
