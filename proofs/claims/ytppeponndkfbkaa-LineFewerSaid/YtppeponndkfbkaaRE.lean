import Derived.WalkKit
import Derived.ProofKit
import Derived.OpenShut
import Derived.ShutString
import Derived.ChangeOld
import Derived.Below
import Derived.Deep.Slices
import Derived.Deep.Strs
import Derived.SizedLaws
import Derived.Test.YtppeponndkfbkaaRD
set_option linter.unusedVariables false
set_option linter.unusedSimpArgs false
/- Lines: what the laws call. -/
namespace Go.Ae
open Go
/-- Whether one of a list has a property. -/
def anyLS (g : FuncId) (f : R3 → Bool) : QSpec := { ι := LL, args := fun i => [i.val, .func (.func g) #[] #[]], blks := fun i => i.blks, pre := fun i => i.list.length ≤ 1099511627776, val := fun i => .bool (i.list.any f), new := fun _ => none }
def anyPS (g : FuncId) (f : PV → Bool) : QSpec := { ι := PL, args := fun i => [i.val, .func (.func g) #[] #[]], blks := fun i => i.blks, pre := fun i => i.list.length ≤ 1099511627776, val := fun i => .bool (i.list.any f), new := fun _ => none }
def noneUp {α : Type} (f : α → Bool) (l : List α) (i : Nat) : Prop := (l.take i).any f = false
theorem noneUp_start {α : Type} (f : α → Bool) (l : List α) : noneUp f l 0 := rfl
theorem noneUp_step {α : Type} {f : α → Bool} {l : List α} {i : Nat} {x : α} (h : noneUp f l i) (hx : l[i]? = some x) (hf : f x = false) : noneUp f l (i + 1) := by
 unfold noneUp at *
 rw [List.take_add_one, hx, List.any_append, h]
 simp [hf]
theorem noneUp_end {α : Type} {f : α → Bool} {l : List α} (h : noneUp f l l.length) : l.any f = false := by
 unfold noneUp at h
 rw [List.take_length] at h
 exact h
theorem any_of {α : Type} {f : α → Bool} {l : List α} {x : α} (h : x ∈ l) (hf : f x = true) : l.any f = true := List.any_eq_true.2 ⟨x, h, hf⟩
theorem rowsP_get2 {l : List PV} {k : Nat} (h : k < l.length) : ∃ m : PV, l[k]? = some m ∧ m ∈ l ∧ rowsP l k = m.cells := by
 have e := List.getElem?_eq_getElem h
 refine ⟨_, e, List.getElem_mem h, ?_⟩
 unfold rowsP
 rw [List.getD_eq_getElem?_getD, e]; rfl
def longL (m : R3) : Bool := decide m.long
def longP (p : PV) : Bool := decide p.long
def greatL (l : List R3) (ps : List PV) : Bool := decide (8 < l.length) || l.any longL || ps.any longP
/-- Lines as the second argument, behind some blocks. -/
def greatLS : QSpec := { ι := LL × PL, args := fun i => [i.1.val, i.2.valAt i.1.blks.length], blks := fun i => i.1.blks ++ i.2.blks, pre := fun i => i.1.list.length ≤ 9223372036854775807 ∧ i.2.list.length ≤ 1099511627776, val := fun i => .bool (greatL i.1.list i.2.list), new := fun _ => none }
theorem lit_blkL (l : List R3) : BlkLe (.flat false l.length 9 (rowsLn l)) (.expl true 9 (l.map R3.cells)) :=
 blk_rows (by simp) (fun r hr => by
  unfold rowsLn
  rw [List.getD_eq_getElem?_getD, List.getD_eq_getElem?_getD, List.getElem?_map, List.getElem?_eq_getElem hr]
  rfl) (fun r hr => rfl)
/-! the example of the chapter -/
def exL : Q3 := (-2, 2, 0)
def exB : Q4 := ((0, 0), (4, 4))
def exR : List Q2 := [(0, 0), (4, 4), (0, 4)]
theorem ex_thr : thrV (((0 : Int) : Rat), ((0 : Int) : Rat)) (((2 : Int) : Rat), ((2 : Int) : Rat)) = (linV exL, 0) := by
 unfold thrV
 rw [if_neg (by decide +kernel)]
 congr 2
 decide +kernel
theorem ex_sid : sidV exL (((0 : Int) : Rat), ((1 : Int) : Rat)) = (1, 0) := by decide +kernel
theorem ex_foot : footV 1 exL (((0 : Int) : Rat), ((2 : Int) : Rat)) = (ptV (((1 : Int) : Rat), ((1 : Int) : Rat)), 0) := by
 unfold footV
 rw [if_pos (by decide +kernel)]
 congr 2
 decide +kernel
theorem ex_part : partR exB [exL] = exR := by decide +kernel
theorem ex_nd : firstNd exR = none := by decide +kernel
theorem ex_clean : cleanL exR = exR := cleanL_stop ex_nd
theorem ex_rot : rotR exR = exR := by decide +kernel
theorem ex_E : comE exB [exL] = 0 := by
 unfold comE
 rw [if_neg (by decide +kernel), if_neg (by decide), ex_part, if_neg (by decide), ex_clean, if_neg (by decide)]
theorem ex_P : comP exB [exL] = exR := by unfold comP; rw [ex_part, ex_clean, ex_rot]
theorem zeroP_p : zeroP.p = (0, 0) := by
 show (zeroR.q, zeroR.q) = _
 rw [zeroR_q]
theorem ex_ok {m : PV} {l : R3} (hm : m.p = (((4 : Int) : Rat), ((4 : Int) : Rat))) (sm : m.sz 1) (hl : l.q = exL) (sl : l.sz 1048576) : comOk (zeroP, m) [l] := by
 have hB : XV.p (zeroP, m) = exB := by
  show (zeroP.p, m.p) = _
  rw [zeroP_p, hm]; rfl
 have hq : qs [l] = [exL] := by show [l.q] = _; rw [hl]
 refine ⟨⟨zeroP_sz _, PV.sz_mono sm (by decide)⟩, by show 1 ≤ 1099511627776; decide, fun n hn => by simp at hn; rw [hn]; exact sl, fun _ k hk => ?_⟩
 ·rw [hB, hq]
  have hk : k ≤ 1 := hk
  have small : ∀ P : List Q2, (∀ v ∈ P, Q2.sz 1 v) → P.length ≤ 4 → P.length ≤ 274877906944 ∧ ∀ v ∈ P, Q2.sz 262144 v := fun P h1 h2 => ⟨by omega, fun v hv => Q2.mono (h1 v hv) (by decide)⟩
  have e4 : Q2.sz 1 ((4 : Rat), (4 : Rat)) := ofsz 4 4 (by decide) (by decide)
  have e0 : Q2.sz 1 ((0 : Rat), (0 : Rat)) := ofsz 0 0 (by decide) (by decide)
  rcases (show k = 0 ∨ k = 1 by omega) with rfl | rfl
  ·show (boxR exB).length ≤ _ ∧ ∀ v ∈ boxR exB, _
   refine small _ (fun v hv => ?_) (by decide)
   simp only [boxR, exB, List.mem_cons, List.mem_nil_iff, or_false] at hv
   rcases hv with rfl | rfl | rfl | rfl
   ·exact e0
   ·exact ⟨e4.1, e0.2⟩
   ·exact e4
   ·exact ⟨e0.1, e4.2⟩
  ·show (partR exB [exL]).length ≤ _ ∧ ∀ v ∈ partR exB [exL], _
   rw [ex_part]
   refine small _ (fun v hv => ?_) (by decide)
   simp only [exR, List.mem_cons, List.mem_nil_iff, or_false] at hv
   rcases hv with rfl | rfl | rfl
   ·exact e0
   ·exact e4
   ·exact ⟨e0.1, e4.2⟩
end Go.Ae
/- Lines: plain laws. -/
namespace Go.Ae
open Go
theorem great_false {l : List R3} {ps : List PV} (h : greatL l ps = false) : (∀ m ∈ l, R3.sz 20 m) ∧ ∀ p ∈ ps, PV.sz 20 p := by
 unfold greatL at h
 rw [Bool.or_eq_false_iff, Bool.or_eq_false_iff] at h
 obtain ⟨⟨_, h1⟩, h2⟩ := h
 refine ⟨fun m hm => R3.not_long fun e => ?_, fun p hp => PV.not_long fun e => ?_⟩
 ·rw [any_of hm (decide_eq_true e : longL m = true)] at h1; cases h1
 ·rw [any_of hp (decide_eq_true e : longP p = true)] at h2; cases h2
theorem great_len {l : List R3} {ps : List PV} (h : greatL l ps = false) : l.length ≤ 8 := by
 unfold greatL at h
 rw [Bool.or_eq_false_iff, Bool.or_eq_false_iff] at h
 have := of_decide_eq_false h.1.1
 omega
theorem thr_isL {p q : Q2} (h : p ≠ q) : isL (thrR p q) := fun ⟨h1, h2⟩ => h (Prod.ext (by unfold thrR at h2; dsimp only at h2; grind) (by unfold thrR at h1; dsimp only at h1; grind))
theorem thr_val (p q r : Q2) : valR (thrR p q) r = orR p q r := by rw [valR_eq, orR_eq]; unfold thrR; dsimp only; grind
theorem thrV_ne {p q : Q2} (h : cmpR p q ≠ 0) : thrV p q = (linV (thrR p q), 0) := if_neg h
/-! feet -/
theorem chkV_ok {l : Q3} (h : isL l) : chkV l = 0 := if_neg h
theorem chkV_no {l : Q3} (h : ¬ isL l) : chkV l = 12 := if_pos (Classical.byContradiction h)
/-! bisectors -/
/-! where lines meet -/
end Go.Ae
/- Lines: a box cut by lines, as the laws ask for it. -/
namespace Go.Ae
open Go
theorem cut_all {m : Q3} {P : List Q2} (h : ∀ v ∈ P, 0 ≤ valR m v) : cutR m P = P := by
 rw [cutF_eq]
 have : ∀ E : List (Q2 × Q2), (∀ e ∈ E, 0 ≤ valR m e.1 ∧ 0 ≤ valR m e.2) → E.flatMap (cutF m) = E.map Prod.fst := by
  intro E
  induction E with
  | nil => intro _; rfl
  | cons e E ih =>
   intro hE
   have he := hE e (List.mem_cons_self ..)
   rw [List.flatMap_cons, ih (fun x hx => hE x (List.mem_cons_of_mem _ hx)), List.map_cons]
   show (keepP m e.1 ++ crossP m e.1 e.2) ++ _ = _
   rw [keep_pos he.1, cross_no (fun h => by rcases h with ⟨_, h⟩ | ⟨h, _⟩ <;> grind)]
   rfl
 rw [this _ (fun e he => ⟨h _ (edges_mem he).1, h _ (edges_mem he).2⟩), edges_fst]
theorem cut_none {m : Q3} {P : List Q2} (h : ∀ v ∈ P, valR m v < 0) : cutR m P = [] := by
 rw [cutF_eq, List.flatMap_eq_nil_iff]
 intro e he
 have h1 := h _ (edges_mem he).1
 have h2 := h _ (edges_mem he).2
 show keepP m e.1 ++ crossP m e.1 e.2 = []
 rw [keep_neg h1, cross_no (fun h => by rcases h with ⟨h, _⟩ | ⟨_, h⟩ <;> grind)]
 rfl
theorem cut_const {m : Q3} (h : ¬ isL m) (P : List Q2) : cutR m P = P ∨ cutR m P = [] := by
 have h0 : m.1 = 0 ∧ m.2.1 = 0 := Classical.byContradiction fun e => h e
 have hv : ∀ v : Q2, valR m v = -m.2.2 := fun v => by rw [valR_eq, h0.1, h0.2]; grind
 by_cases hc : 0 ≤ -m.2.2
 ·exact .inl (cut_all fun v _ => by rw [hv]; exact hc)
 ·exact .inr (cut_none fun v _ => by rw [hv]; grind)
theorem small_nil : Small [] := ⟨fun v hv => (by cases hv), fun e he => (by cases he)⟩
theorem small_cut' {m : Q3} {P : List Q2} (hs : smallL m) (h : Small P) : Small (cutR m P) := by
 by_cases hm : isL m
 ·exact small_cut hm hs h
 ·rcases cut_const hm P with e | e
  ·rw [e]; exact h
  ·rw [e]; exact small_nil
theorem small_cuts' : ∀ (l : List Q3) (P : List Q2), (∀ m ∈ l, smallL m) → Small P → Small (l.foldl (fun P m => cutR m P) P) := by
 intro l
 induction l with
 | nil => intro P _ h; exact h
 | cons m l ih =>
  intro P hl h
  exact ih _ (fun k hk => hl k (List.mem_cons_of_mem _ hk)) (small_cut' (hl m (List.mem_cons_self ..)) h)
theorem part_len : ∀ (l : List Q3) (P : List Q2), (l.foldl (fun P m => cutR m P) P).length ≤ P.length * 2 ^ l.length := by
 intro l
 induction l with
 | nil => intro P; simp
 | cons m l ih =>
  intro P
  refine Nat.le_trans (ih (cutR m P)) ?_
  have := cutR_len m P
  rw [List.length_cons, Nat.pow_succ]
  refine Nat.le_trans (Nat.mul_le_mul_right _ this) ?_
  rw [Nat.mul_comm 2, Nat.mul_assoc, Nat.mul_comm 2]
  exact Nat.le_refl _
theorem com_ok {b : XV} {l : List R3} (h1 : b.1.sz 20) (h2 : b.2.sz 20) (hl : ∀ m ∈ l, m.sz 20) (hb : l.length ≤ 1099511627776) (hn : l.length ≤ 36 ∨ 60 < l.length) : comOk b l := by
 refine ⟨⟨PV.sz_mono h1 (by decide), PV.sz_mono h2 (by decide)⟩, hb, fun m hm => R3.sz_mono (hl m hm) (by decide), fun h60 k hk => ⟨?_, fun v hv => ?_⟩⟩
 ·have hn : l.length ≤ 36 := by omega
  have := part_len ((qs l).take k) (boxR b.p)
  refine Nat.le_trans this ?_
  have hk' : ((qs l).take k).length ≤ 36 := by simp [qs]; omega
  refine Nat.le_trans (Nat.mul_le_mul_left _ (Nat.pow_le_pow_right (by decide) hk')) ?_
  show 4 * 2 ^ 36 ≤ 274877906944
  decide
 ·have := small_cuts' ((qs l).take k) (boxR b.p) (fun m hm => by
   obtain ⟨r, hr, rfl⟩ := List.mem_map.1 (List.mem_of_mem_take hm)
   exact R3.qsz (hl r hr) (by decide)) (box_small (b := b.p) (PV.psz h1 (by decide)) (PV.psz h2 (by decide)))
  exact Q2.mono (this.1 v hv) (by decide)
/-! what Common answers -/
theorem part_app (b : Q4) (l : List Q3) (m : Q3) : partR b (l ++ [m]) = cutR m (partR b l) := by unfold partR; rw [List.foldl_append]; rfl
theorem com_eq {b : Q4} {l : List Q3} {e : Int} (h : comE b l = e) : (e = 1 ∧ (¬ okB b ∨ badL l = true)) ∨ (okB b ∧ badL l = false ∧ ((e = 4 ∧ 60 < l.length) ∨ (l.length ≤ 60 ∧ ((e = 11 ∧ partR b l = []) ∨ (partR b l ≠ [] ∧ ((e = 12 ∧ (cleanL (partR b l)).length < 3) ∨ (e = 0 ∧ 3 ≤ (cleanL (partR b l)).length))))))) := by
 subst h
 unfold comE
 split
 ·rename_i h; exact .inl ⟨rfl, h⟩
 ·rename_i h
  have h1 : okB b := Classical.byContradiction fun e => h (.inl e)
  have h2 : badL l = false := by
   cases e : badL l
   ·rfl
   ·exact absurd (.inr e) h
  refine .inr ⟨h1, h2, ?_⟩
  split
  ·rename_i h; exact .inl ⟨rfl, h⟩
  ·rename_i h
   refine .inr ⟨by omega, ?_⟩
   split
   ·rename_i h; exact .inl ⟨rfl, h⟩
   ·rename_i h
    refine .inr ⟨h, ?_⟩
    split
    ·rename_i h; exact .inl ⟨rfl, h⟩
    ·rename_i h; exact .inr ⟨rfl, by omega⟩
theorem com_zero {b : Q4} {l : List Q3} (h1 : okB b) (h2 : badL l = false) (h3 : l.length ≤ 60) (h4 : partR b l ≠ []) (h5 : 3 ≤ (cleanL (partR b l)).length) : comE b l = 0 := by
 unfold comE
 rw [if_neg (fun e => e.elim (fun e => e h1) (fun e => by rw [h2] at e; cases e)), if_neg (by omega), if_neg h4, if_neg (by omega)]
theorem com_bad {b : Q4} {l : List Q3} (h : ¬ okB b ∨ badL l = true) : comE b l = 1 := if_pos h
theorem bad_app (l m : List Q3) : badL (l ++ m) = (badL l || badL m) := List.any_append
theorem bad_one {m : Q3} (h : isL m) : badL [m] = false := by
 unfold badL
 rw [List.any_cons, List.any_nil, Bool.or_false]
 exact decide_eq_false fun e => e h
/-- A ring that Common answers. -/
structure ComRing (b : Q4) (l : List Q3) : Prop where
 okb : okB b
 good : badL l = false
 few : l.length ≤ 60
 turn : Turn (partR b l)
 flat : ¬ Flat (partR b l)
 ring : Ring (cleanL (partR b l))
theorem com_ring {b : Q4} {l : List Q3} (h : comE b l = 0) : ComRing b l := by
 rcases com_eq h with ⟨e, _⟩ | ⟨h1, h2, ⟨e, _⟩ | ⟨h3, ⟨e, _⟩ | ⟨h4, ⟨e, _⟩ | ⟨_, h5⟩⟩⟩⟩
 ·cases e
 ·cases e
 ·cases e
 ·cases e
 ·have hT := (part_spec h1 l).1
  have hF : ¬ Flat (partR b l) := fun hF => by have := clean_flat hF; omega
  exact ⟨h1, h2, h3, hT, hF, clean_ring hT hF⟩
theorem ring_rot {P : List Q2} (h : Ring P) : Turn (rotR P) ∧ (rotR P).Nodup ∧ 3 ≤ (rotR P).length := ⟨rotR_turn h.turn, rotR_nodup h.nodup, by rw [rotR_length]; exact h.three⟩
theorem at2_inj {l : List Q2} (h : l.Nodup) {i j : Nat} (hi : i < l.length) (hj : j < l.length) (e : at2 l i = at2 l j) : i = j := by
 have h1 := at2_some hi
 have h2 := at2_some hj
 rw [e] at h1
 exact (List.getElem?_inj hi h).1 (h1.trans h2.symm)
theorem com_hull {b : Q4} {l : List Q3} (c : ComRing b l) (p : Q2) : Hull (comP b l) p ↔ Hull (partR b l) p :=
 (SameH.of_mem (P := comP b l) (Q := cleanL (partR b l)) (fun v => rotR_mem) p).trans ((clean_same c.turn c.flat).1 p)
/-- Inside a ring, or on it. -/
def rinB (L : List Q2) (p : Q2) : Prop := ∀ k, k < L.length → 0 ≤ orR (at2 L k) (at2 L (nxt L.length k)) p
theorem ins_of {L : List Q2} {p : Q2} (hT : Turn L) (h : Hull L p) : rinB L p := fun k hk => edge_hull hT (edge_at hk) h
theorem com_three {b : Q4} {l : List Q3} (c : ComRing b l) : Turn (comP b l) ∧ (comP b l).Nodup ∧ 3 ≤ (comP b l).length := ring_rot c.ring
theorem qs_app (l : List R3) (m : R3) : qs (l ++ [m]) = qs l ++ [m.q] := by unfold qs; rw [List.map_append]; rfl
theorem qs_len (l : List R3) : (qs l).length = l.length := List.length_map ..
/-! fewer -/
theorem flat_cut {m : Q3} {P : List Q2} (h : Flat P) : Flat (cutR m P) := by
 obtain ⟨f, hf, h⟩ := h
 refine ⟨f, hf, fun v hv => ?_⟩
 rcases mem_cut hv with ⟨h1, _⟩ | ⟨e, he, hx⟩
 ·exact h v h1
 ·rw [(crossP_spec hx).2.1]
  exact atR_flat (h _ (edges_mem he).1) (h _ (edges_mem he).2)
theorem fewer_err {b : Q4} {l : List Q3} {m : Q3} (hm : isL m) (hn : l.length + 1 ≤ 60) (h : comE b l ≠ 0) : comE b (l ++ [m]) ≠ 0 ∧ (comE b l = 12 ∨ comE b (l ++ [m]) = comE b l) := by
 rcases com_eq (rfl : comE b l = comE b l) with ⟨e, h1⟩ | ⟨h1, h2, ⟨e, h3⟩ | ⟨h3, ⟨e, h4⟩ | ⟨h4, ⟨e, h5⟩ | ⟨e, _⟩⟩⟩⟩
 ·have : comE b (l ++ [m]) = 1 := com_bad (h1.imp id fun h => by rw [bad_app, h]; rfl)
  rw [this, e]; exact ⟨by decide, .inr rfl⟩
 ·omega
 ·have : comE b (l ++ [m]) = 11 := by
   rcases com_eq (rfl : comE b (l ++ [m]) = comE b (l ++ [m])) with ⟨_, g⟩ | ⟨_, _, ⟨_, g⟩ | ⟨_, ⟨e, _⟩ | ⟨g, _⟩⟩⟩
   ·rcases g with g | g
    ·exact absurd h1 g
    ·rw [bad_app, h2, bad_one hm] at g; cases g
   ·simp at g; omega
   ·exact e
   ·rw [part_app, h4] at g; exact absurd rfl g
  rw [this, e]; exact ⟨by decide, .inr rfl⟩
 ·refine ⟨fun e0 => ?_, .inl e⟩
  have c := com_ring e0
  have hF : Flat (partR b l) := Classical.byContradiction fun hF => by
   have := (ring_eq (part_spec h1 l).1 hF).2
   omega
  exact c.flat (by rw [part_app]; exact flat_cut hF)
 ·exact absurd e h
theorem fewer_in {b : Q4} {l : List Q3} {m : Q3} (c : ComRing b l) {v : Q2} (hv : v ∈ comP b (l ++ [m])) : rinB (comP b l) v := by
 have h1 : v ∈ partR b (l ++ [m]) := (clean_sub _).subset (rotR_mem.1 hv)
 have h2 : Hull (cutR m (partR b l)) v := by rw [← part_app]; exact .of_mem h1
 exact ins_of (com_three c).1 ((com_hull c v).2 ((hull_cut_iff c.turn).1 h2).1)
theorem fewer_codes {b : Q4} {l : List Q3} {m : Q3} (c : ComRing b l) (hm : isL m) (hn : l.length + 1 ≤ 60) : comE b (l ++ [m]) = 0 ∨ comE b (l ++ [m]) = 11 ∨ comE b (l ++ [m]) = 12 := by
 rcases com_eq (rfl : comE b (l ++ [m]) = comE b (l ++ [m])) with ⟨_, g⟩ | ⟨_, _, ⟨_, g⟩ | ⟨_, ⟨e, _⟩ | ⟨_, ⟨e, _⟩ | ⟨e, _⟩⟩⟩⟩
 ·rcases g with g | g
  ·exact absurd c.okb g
  ·rw [bad_app, c.good, bad_one hm] at g; cases g
 ·simp at g; omega
 ·exact .inr (.inl e)
 ·exact .inr (.inr e)
 ·exact .inl e
theorem edge_ne {b : Q4} {l : List Q3} (c : ComRing b l) {k : Nat} (hk : k < (comP b l).length) : at2 (comP b l) k ≠ at2 (comP b l) (nxt (comP b l).length k) := fun e => by
 obtain ⟨_, h1, h2⟩ := com_three c
 exact nxt_ne hk (by omega) (at2_inj h1 hk (nxt_lt hk) e).symm
theorem part_edge {b : Q4} {l : List Q3} (c : ComRing b l) {k : Nat} (hk : k < (comP b l).length) : partR b (l ++ [thrR (at2 (comP b l) k) (at2 (comP b l) (nxt (comP b l).length k))]) = partR b l := by
 rw [part_app]
 refine cut_all fun v hv => ?_
 rw [thr_val]
 exact edge_hull (com_three c).1 (edge_at hk) ((com_hull c v).2 (.of_mem hv))
theorem com_edge {b : Q4} {l : List Q3} (c : ComRing b l) (hn : l.length + 1 ≤ 60) {k : Nat} (hk : k < (comP b l).length) {m : Q3} (hm : m = thrR (at2 (comP b l) k) (at2 (comP b l) (nxt (comP b l).length k))) :
  comE b (l ++ [m]) = 0 ∧ comP b (l ++ [m]) = comP b l := by
 have hp := part_edge c hk
 rw [← hm] at hp
 have h3 := c.ring.three
 refine ⟨com_zero c.okb ?_ (by simp; omega) ?_ ?_, ?_⟩
 ·rw [bad_app, c.good, bad_one (by rw [hm]; exact thr_isL (edge_ne c hk))]; rfl
 ·rw [hp]; intro e; rw [e] at h3; exact absurd h3 (by decide)
 ·rw [hp]; exact h3
 ·unfold comP; rw [hp]
theorem com_ok_edge {b : XV} {l : List R3} {m : R3} (h : comOk b l) (hn : l.length + 1 ≤ 60) (hm : m.sz 1048576) (hp : partR b.p (qs l ++ [m.q]) = partR b.p (qs l)) : comOk b (l ++ [m]) := by
 obtain ⟨h1, h2, h3, h4⟩ := h
 have hq : qs (l ++ [m]) = qs l ++ [m.q] := by unfold qs; rw [List.map_append]; rfl
 have hl : (qs l).length = l.length := by unfold qs; rw [List.length_map]
 refine ⟨h1, by simp; omega, fun r hr => ?_, fun _ k hk => ?_⟩
 ·rcases List.mem_append.1 hr with hr | hr
  ·exact h3 r hr
  ·rw [List.mem_singleton.1 hr]; exact hm
 ·rw [hq]
  rcases Nat.lt_or_ge l.length k with hlt | hge
  ·have e : (qs l ++ [m.q]).take k = qs l ++ [m.q] := List.take_of_length_le (by simp [hl]; omega)
   rw [e, hp]
   have := h4 (by omega) l.length (Nat.le_refl _)
   rw [← hl, List.take_length] at this
   exact this
  ·rw [List.take_append_of_le_length (by omega)]
   exact h4 (by omega) k hge
theorem com_bound {b : XV} {l : List R3} (h : comOk b l) (hn : l.length ≤ 60) : (comP b.p (qs l)).length ≤ 274877906944 ∧ ∀ v ∈ comP b.p (qs l), Q2.sz 262144 v := by
 have := h.2.2.2 hn l.length (Nat.le_refl _)
 rw [← qs_len, List.take_length] at this
 refine ⟨?_, fun v hv => this.2 v ((clean_sub _).subset (rotR_mem.1 hv))⟩
 unfold comP
 rw [rotR_length]
 exact Nat.le_trans (clean_sub _).length_le this.1
theorem com_small {b : XV} {l : List R3} (h1 : b.1.sz 20) (h2 : b.2.sz 20) (hl : ∀ m ∈ l, m.sz 20) : ∀ v ∈ comP b.p (qs l), Q2.sz 200 v := fun v hv => by
 have := small_cuts' (qs l) (boxR b.p) (fun m hm => by
  obtain ⟨r, hr, rfl⟩ := List.mem_map.1 hm
  exact R3.qsz (hl r hr) (by decide)) (box_small (b := b.p) (PV.psz h1 (by decide)) (PV.psz h2 (by decide)))
 exact this.1 v ((clean_sub _).subset (rotR_mem.1 hv))
/-! parts -/
/-! contracts -/
instance (L : List Q2) (p : Q2) : Decidable (rinB L p) := inferInstanceAs (Decidable (∀ k, k < L.length → _))
/-- 'inside' of the laws. -/
def rinsS : QSpec := { ι := (List Q2 × Nat) × PV, args := fun i => [.slice (some ⟨0, 0, none⟩) i.1.1.length i.1.2, i.2.v], blks := fun i => [.flat false i.1.1.length 6 (rowsQ i.1.1)], pre := fun i => i.1.1.length ≤ 1099511627776 ∧ (∀ v ∈ i.1.1, Q2.sz 1048576 v) ∧ i.2.sz 1048576, val := fun i => .bool (decide (rinB i.1.1 i.2.p ∧ 2 < i.1.1.length)), new := fun _ => none }
/-- 'slices.Clone' of lines. -/
def lcloneS : QSpec := { ι := LL, args := fun i => [i.val], blks := fun i => i.blks, pre := fun i => i.list.length * 120 ≤ 140737488355328, val := fun i => match i with | none => .slice none 0 0 | some i => .slice (some ⟨1, 0, none⟩) i.1.length capU, new := fun i => match i with | none => none | some i => some (.flat true i.1.length 9 (rowsLn i.1)) }
theorem rowsLn_app {l : List R3} {m : R3} {n : Nat} {f : Nat → List Value} (hn : n = l.length) (hf : f 0 = m.cells) : ∀ r, r < n + 1 → appGet (rowsLn l) n f r = rowsLn (l ++ [m]) r := fun r hr => by
 unfold rowsLn
 by_cases h : r < n
 ·rw [appGet_lo h, List.getD_eq_getElem?_getD, List.getD_eq_getElem?_getD, List.getElem?_append_left (by omega)]
 ·obtain rfl : r = l.length := by omega
  rw [appGet_hi (by omega), ← hn, Nat.sub_self, hf, hn, List.getD_eq_getElem?_getD, List.getElem?_append_right (Nat.le_refl _), Nat.sub_self]
  rfl
theorem Src.fl_m (m : Nat) (g : Nat → List Value) : (Src.fl m g).m = m := rfl
theorem one_rowLn (m : R3) {f : Nat → List Value} (hf : f 0 = m.cells) : ∀ r, r < 1 → f r = rowsLn [m] r := fun r hr => by
 obtain rfl : r = 0 := by omega
 exact hf
def fewerS : QSpec := { ι := (XV × LL) × (R3 × Nat), args := fun i => [i.1.1.v, i.1.2.val, i.2.1.v, .int .u8 i.2.2], blks := fun i => i.1.2.blks, pre := fun i => i.1.2.list.length * 120 ≤ 140737488351232 ∧ i.2.2 < 256, val := fun _ => .bool true, new := fun _ => none }
end Go.Ae
/- The arguments of a statement, opened: structs of plain cells. -/
namespace Go.Ae
open Go Go.RowKit
section
variable {P : Program} {w : World} {r : Reach} {base : Nat} {t : TypeId} {v : Value}
theorem cell_bool (ht : P.underlying t = some .bool) (h : Cell.okWide P w r base t v) : ∃ b, v = .bool b := by
 simp only [Cell.okWide, ht] at h
 cases v <;> simp_all [Cell.ok]
theorem cell_string (ht : P.underlying t = some .string) (h : Cell.okWide P w r base t v) : ∃ s, v = .string s := by
 simp only [Cell.okWide, ht] at h
 cases v <;> simp_all [Cell.ok]
/-- A struct's cells. -/
theorem open_cells {fs : Array Field} (ht : P.underlying t = some (.struct fs)) {ts : List TypeId} (hts : P.cellTypes P.depth t = some ts) (h : Value.okWide P w r base t v) :
  ∃ l : List Value, v = .agg ⟨l⟩ ∧ l.length = P.cellsOf t ∧ ∀ i x, l[i]? = some x → ∃ u, ts[i % ts.length]? = some u ∧ Cell.okWide P w r base u x := by
 simp only [Value.okWide, ht] at h
 obtain ⟨cs, rfl, h2, ts', h3, _, h5⟩ := h
 rw [hts] at h3
 cases h3
 exact ⟨cs.toList, rfl, h2, fun i x hx => h5 i x (by simpa using hx)⟩
theorem open_box {fs : Array Field} (ht : P.underlying t = some (.struct fs)) {b s : TypeId} (hts : P.cellTypes P.depth t = some [b, s, s, b, s, s, b, s, s, b, s, s]) (hn : P.cellsOf t = 12) (hb : P.underlying b = some .bool) (hs : P.underlying s = some .string)
  (h : Value.okWide P w r base t v) : ∃ p : XV, v = p.v := by
 obtain ⟨l, rfl, hl, hc⟩ := open_cells ht hts h
 rw [hn] at hl
 match l, hl with
 | [x, y, z, x', y', z', x2, y2, z2, x3, y3, z3], _ =>
  obtain ⟨u, hu, h0⟩ := hc 0 x rfl
  obtain ⟨u1, hu1, h1⟩ := hc 1 y rfl
  obtain ⟨u2, hu2, h2⟩ := hc 2 z rfl
  obtain ⟨u3, hu3, h3⟩ := hc 3 x' rfl
  obtain ⟨u4, hu4, h4⟩ := hc 4 y' rfl
  obtain ⟨u5, hu5, h5⟩ := hc 5 z' rfl
  obtain ⟨u6, hu6, h6⟩ := hc 6 x2 rfl
  obtain ⟨u7, hu7, h7⟩ := hc 7 y2 rfl
  obtain ⟨u8, hu8, h8⟩ := hc 8 z2 rfl
  obtain ⟨u9, hu9, h9⟩ := hc 9 x3 rfl
  obtain ⟨u10, hu10, h10⟩ := hc 10 y3 rfl
  obtain ⟨u11, hu11, h11⟩ := hc 11 z3 rfl
  cases hu; cases hu1; cases hu2; cases hu3; cases hu4; cases hu5; cases hu6; cases hu7; cases hu8; cases hu9; cases hu10; cases hu11
  obtain ⟨b0, rfl⟩ := cell_bool hb h0
  obtain ⟨s1, rfl⟩ := cell_string hs h1
  obtain ⟨s2, rfl⟩ := cell_string hs h2
  obtain ⟨b3, rfl⟩ := cell_bool hb h3
  obtain ⟨s4, rfl⟩ := cell_string hs h4
  obtain ⟨s5, rfl⟩ := cell_string hs h5
  obtain ⟨b6, rfl⟩ := cell_bool hb h6
  obtain ⟨s7, rfl⟩ := cell_string hs h7
  obtain ⟨s8, rfl⟩ := cell_string hs h8
  obtain ⟨b9, rfl⟩ := cell_bool hb h9
  obtain ⟨s10, rfl⟩ := cell_string hs h10
  obtain ⟨s11, rfl⟩ := cell_string hs h11
  exact ⟨(((b0, s1, s2), (b3, s4, s5)), ((b6, s7, s8), (b9, s10, s11))), rfl⟩
end
theorem wf_u8 {n : Int} (h : (Lit.int .u8 n).wf = true) : 0 ≤ n ∧ n < 256 := by
 have h2 : decide (IntKind.u8.min ≤ n ∧ n ≤ IntKind.u8.max) = true := by
  first | exact h | simpa [Lit.wf] using h
 have h3 := of_decide_eq_true h2
 have e1 : IntKind.u8.min = 0 := by decide
 have e2 : IntKind.u8.max = 255 := by decide
 rw [e1, e2] at h3
 exact ⟨by omega, by omega⟩
end Go.Ae
/- The arguments of a statement, opened: slices of points. -/
namespace Go.Ae
open Go Go.RowKit Go.ChangeShapes Go.WideShapes Go.ChangeAt
theorem calls_of_qsnd {P : Program} {f : FuncId} {S : QSpec} (h : QSnd P f S) {i : S.ι} (hp : S.pre i) {avs : List Value} {ν : Nu} {w : World} (ha : LRel ν (S.args i) avs) (hH : HRel ν ((S.blks i).map some) w)
  (hν : ∀ id, (S.blks i).length ≤ id → ν id = none) {b : Bool} (hv : S.val i = .bool b) :
  Calls P f ⟨avs⟩ w fun e w' => e = .returned (.bool b) ∧ Below w.heap.size w w' := by
 have h1 := h.calls i hp ν avs w 0 ha hH hν
 rw [callsIn_wide] at h1
 refine h1.mono fun e w' ⟨v', ν', he, hq⟩ => ⟨?_, hq.below⟩
 have hr := hq.val
 rw [hv] at hr
 rw [he, hr.to_bool]
section
variable {H : Type} {enc : TypeId × Value → H} {P : Program} {w : World} {base : Nat} {spare : Nat → Bool} {held : Bool}
/-- The types of a point. -/
structure PtTy (P : Program) (tr tp b s : TypeId) : Prop where
 rat : ∃ f0 f1 f2, P.underlying tr = some (.struct #[f0, f1, f2]) ∧ (f0.type = b ∧ f0.offset = 0) ∧ (f1.type = s ∧ f1.offset = 1) ∧ f2.type = s ∧ f2.offset = 2
 pt : ∃ f0 f1, P.underlying tp = some (.struct #[f0, f1]) ∧ (f0.type = tr ∧ f0.offset = 0) ∧ f1.type = tr ∧ f1.offset = 3
 bool : P.underlying b = some .bool
 str : P.underlying s = some .string
 cr : P.cellsOf tr = 3
 cp : P.cellsOf tp = 6
 cb : P.cellsOf b = 1
 cs : P.cellsOf s = 1
theorem trod_rat {tr tp b s : TypeId} (T : PtTy P tr tp b s) {n : Nat} {l : List Value} {y : DataW H × List MemPlace} (h : DataW.trod enc P w base spare held n tr l = some y) : ∃ i : RV, l = i.cells := by
 obtain ⟨f0, f1, f2, hu, ⟨t0, o0⟩, ⟨t1, o1⟩, t2, o2⟩ := T.rat
 obtain ⟨y0, y1, y2, m, _, hl, h0, h1, h2⟩ := Deep.trod_struct3 hu h
 rw [T.cr] at hl
 rw [t0, o0, T.cb] at h0
 rw [t1, o1, T.cs] at h1
 rw [t2, o2, T.cs] at h2
 match l, hl with
 | [x, y, z], _ =>
  obtain ⟨b, e0, _⟩ := DataW.trod_bool T.bool h0
  obtain ⟨s1, e1, _⟩ := DataW.trod_string T.str h1
  obtain ⟨s2, e2, _⟩ := DataW.trod_string T.str h2
  simp at e0 e1 e2
  subst e0; subst e1; subst e2
  exact ⟨(b, s1, s2), rfl⟩
end
end Go.Ae
/- Arguments of a statement: a line. -/
namespace Go.Ae
open Go Go.RowKit Go.ChangeShapes Go.WideShapes Go.ChangeAt
section
variable {P : Program} {w : World} {r : Reach} {base : Nat} {t : TypeId} {v : Value}
theorem open_ln {fs : Array Field} (ht : P.underlying t = some (.struct fs)) {b s : TypeId} (hts : P.cellTypes P.depth t = some [b, s, s, b, s, s, b, s, s]) (hn : P.cellsOf t = 9) (hb : P.underlying b = some .bool) (hs : P.underlying s = some .string)
  (h : Value.okWide P w r base t v) : ∃ p : R3, v = p.v := by
 obtain ⟨l, rfl, hl, hc⟩ := open_cells ht hts h
 rw [hn] at hl
 match l, hl with
 | [x, y, z, x', y', z', x2, y2, z2], _ =>
  obtain ⟨u, hu, h0⟩ := hc 0 x rfl
  obtain ⟨u1, hu1, h1⟩ := hc 1 y rfl
  obtain ⟨u2, hu2, h2⟩ := hc 2 z rfl
  obtain ⟨u3, hu3, h3⟩ := hc 3 x' rfl
  obtain ⟨u4, hu4, h4⟩ := hc 4 y' rfl
  obtain ⟨u5, hu5, h5⟩ := hc 5 z' rfl
  obtain ⟨u6, hu6, h6⟩ := hc 6 x2 rfl
  obtain ⟨u7, hu7, h7⟩ := hc 7 y2 rfl
  obtain ⟨u8, hu8, h8⟩ := hc 8 z2 rfl
  cases hu; cases hu1; cases hu2; cases hu3; cases hu4; cases hu5; cases hu6; cases hu7; cases hu8
  obtain ⟨b0, rfl⟩ := cell_bool hb h0
  obtain ⟨s1, rfl⟩ := cell_string hs h1
  obtain ⟨s2, rfl⟩ := cell_string hs h2
  obtain ⟨b3, rfl⟩ := cell_bool hb h3
  obtain ⟨s4, rfl⟩ := cell_string hs h4
  obtain ⟨s5, rfl⟩ := cell_string hs h5
  obtain ⟨b6, rfl⟩ := cell_bool hb h6
  obtain ⟨s7, rfl⟩ := cell_string hs h7
  obtain ⟨s8, rfl⟩ := cell_string hs h8
  exact ⟨((b0, s1, s2), (b3, s4, s5), (b6, s7, s8)), rfl⟩
end
/-- The types of a line. -/
structure LnTy (P : Program) (tr tn : TypeId) : Prop where
 ln : ∃ f0 f1 f2, P.underlying tn = some (.struct #[f0, f1, f2]) ∧ (f0.type = tr ∧ f0.offset = 0) ∧ (f1.type = tr ∧ f1.offset = 3) ∧ f2.type = tr ∧ f2.offset = 6
 cn : P.cellsOf tn = 9
section
variable {H : Type} {enc : TypeId × Value → H} {P : Program} {w : World} {base : Nat} {spare : Nat → Bool} {held : Bool}
theorem trod_ln {tr tp tn b s : TypeId} (T : PtTy P tr tp b s) (U : LnTy P tr tn) {n : Nat} {l : List Value} {y : DataW H × List MemPlace} (h : DataW.trod enc P w base spare held n tn l = some y) : ∃ p : R3, l = p.cells := by
 obtain ⟨f0, f1, f2, hu, ⟨t0, o0⟩, ⟨t1, o1⟩, t2, o2⟩ := U.ln
 obtain ⟨y0, y1, y2, m, _, hl, h0, h1, h2⟩ := Deep.trod_struct3 hu h
 rw [U.cn] at hl
 rw [t0, o0, T.cr] at h0
 rw [t1, o1, T.cr] at h1
 rw [t2, o2, T.cr] at h2
 obtain ⟨i, e0⟩ := trod_rat T h0
 obtain ⟨j, e1⟩ := trod_rat T h1
 obtain ⟨k, e2⟩ := trod_rat T h2
 match l, hl with
 | [x, y, z, x', y', z', x2, y2, z2], _ =>
  have e0 : [x, y, z] = i.cells := e0
  have e1 : [x', y', z'] = j.cells := e1
  have e2 : [x2, y2, z2] = k.cells := e2
  refine ⟨(i, j, k), ?_⟩
  show [x, y, z] ++ ([x', y', z'] ++ [x2, y2, z2]) = i.cells ++ (j.cells ++ k.cells)
  rw [e0, e1, e2]
theorem open_lines {tl tr tp tn b s : TypeId} (T : PtTy P tr tp b s) (U : LnTy P tr tn) (ht : P.underlying tl = some (.slice tn)) {v : Value} {d : DataW H} {ps : List MemPlace} {r : Reach} {b0 : Nat} (hv : Value.okWide P w r b0 tl v)
  (h : DataW.Trod enc P w base (fun _ => true) held tl v d ps) :
  ∃ (i : LL) (ν : Nu), i.list.length ≤ 9223372036854775807 ∧ (∀ B m, (∀ elems spare, d = .slice elems spare → (elems.length + spare.length) * B ≤ m) → i.list.length * B ≤ m) ∧ VRel ν i.val v ∧ HRel ν (i.blks.map some) w ∧ ∀ id, i.blks.length ≤ id → ν id = none := by
 obtain ⟨a0, len0, cap0, rfl⟩ := okWide_slice ht hv
 obtain ⟨fuel, hf⟩ := h
 rcases Deep.open_slice ht hf with ⟨hcs, _⟩ | ⟨a, len, cap, m, n, D, Pl, hcs, hb, hl, hm, hmm, hd, hx⟩
 ·simp [Value.cells] at hcs
  obtain ⟨rfl, rfl, rfl⟩ := hcs
  refine ⟨none, fun _ => none, Nat.zero_le _, fun B m _ => by show 0 * B ≤ m; omega, .snil, ⟨fun id b h => by simp [LL.blks] at h, fun i j bi bj li lj h => by simp [LL.blks] at h⟩, fun _ _ => rfl⟩
 ·simp [Value.cells] at hcs
  obtain ⟨rfl, rfl, rfl⟩ := hcs
  have hmm : m = cap0 := hmm
  subst hmm
  simp only [Value.okWide, ht, Cell.okWide, Cell.ok] at hv
  obtain ⟨_, _, _, hsp, row, cells, hshape, _⟩ := hv
  have hlive : a.block < w.heap.size := by
   unfold World.shape? at hshape
   split at hshape
   ·rename_i hh
    exact (Array.getElem?_eq_some_iff.1 hh).1
   ·cases hshape
  obtain ⟨V, hV⟩ := Deep.choose_lt (α := R3) (n := m) (p := fun i p => ∀ j, j < 9 → w.cell? ((a.add (i * 9)).add j) = p.cells[j]?) (fun i hi => by
   obtain ⟨cs', h1, h2⟩ := hx i hi
   rw [U.cn] at h1
   obtain ⟨p, rfl⟩ := trod_ln T U h2
   obtain ⟨_, _, hc⟩ := World.cells?_some h1
   exact ⟨p, hc⟩)
  have hlm : len0 ≤ m := hl
  refine ⟨some ((List.range len0).map V, capU), fun id => if id = 0 then some ⟨a.block, a.off, 9, m⟩ else none, ?_, ?_, ?_, ⟨fun id b hid => ?_, fun i j bi bj li lj h1 h2 h3 h4 => ?_⟩, fun id hid => ?_⟩
  ·show ((List.range len0).map V).length ≤ _
   have hm2 : m ≤ 9223372036854775807 := hm
   rw [List.length_map, List.length_range]
   omega
  ·intro B M hB
   have hd := hB _ _ (congrArg Prod.fst hd)
   show ((List.range len0).map V).length * B ≤ M
   rw [List.length_map, List.length_range]
   refine Nat.le_trans (Nat.mul_le_mul_right _ ?_) hd
   simp
  ·have e : a = Loc.at ⟨a.block, a.off, 9, m⟩ 0 0 := by
    obtain ⟨b0, o0, s0⟩ := a
    have : s0 = none := hsp
    subst this
    simp [Loc.at]
   have := VRel.slice (ν := fun id => if id = 0 then some ⟨a.block, a.off, 9, m⟩ else none) 0 0 len0 capU m ⟨a.block, a.off, 9, m⟩ rfl (.inr rfl) hlm (by simp)
   rw [← e] at this
   show VRel _ (.slice (some ⟨0, 0, none⟩) ((List.range len0).map V).length capU) _
   rw [List.length_map, List.length_range]
   exact this
  ·cases id with
   | succ id => simp [LL.blks] at hid
   | zero =>
    simp [LL.blks] at hid
    subst hid
    refine ⟨_, rfl, ⟨rfl, fun r hr => rfl, fun r hr j v hjv => ?_, fun _ r hr v hv => ?_, fun r hr v hv => ?_, fun h => (by cases h), (fun r h => by cases h), hlive⟩⟩
    ·have hr2 : r < len0 := hr
     have hr : r < ((List.range len0).map V).length := by rw [List.length_map, List.length_range]; exact hr2
     obtain ⟨p, hp, _, hrow⟩ := rowsLn_get hr
     have hpV : V r = p := by
      rw [List.getElem?_map, List.getElem?_range hr2] at hp
      simpa using hp
     have hjv : (rowsLn ((List.range len0).map V) r)[j]? = some v := hjv
     rw [hrow] at hjv
     have hj : j < 9 := (List.getElem?_eq_some_iff.1 hjv).1
     have hc := hV r (by omega) j hj
     rw [hpV, hjv] at hc
     refine ⟨v, ?_, ?_⟩
     ·rw [← hc]
      congr 1
      obtain ⟨b0, o0, s0⟩ := a
      have : s0 = none := hsp
      subst this
      by_cases h2 : r * 9 = 0
      ·have h3 : r = 0 := by omega
       by_cases h1 : j = 0 <;> simp [Loc.at, Addr.add, h1, h3, Nat.add_assoc]
      ·by_cases h1 : j = 0 <;> simp [Loc.at, Addr.add, h1, h2, Nat.add_assoc]
     ·have hs : allS p.cells = true := rfl
      exact VRel.scal_self (allS_spec hs v (List.mem_of_getElem? hjv))
    ·exact allS_spec (rowsLn_allS _ r) v hv
    ·have := allS_spec (rowsLn_allS ((List.range len0).map V) r) v hv
     cases v <;> first | rfl | simp [scal] at this
  ·cases i with
   | succ i => simp [LL.blks] at h1
   | zero =>
    cases j with
    | zero => exact absurd rfl h3
    | succ j => simp [LL.blks] at h2
  ·have : id ≠ 0 := by
    intro e; subst e
    have hid : 1 ≤ 0 := hid
    omega
   simp [this]
end
end Go.Ae
