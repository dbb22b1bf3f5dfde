import Derived.WalkKit
import Derived.ProofKit
import Derived.OpenShut
import Derived.ShutString
import Derived.ChangeOld
import Derived.Below
import Derived.Deep.Slices
import Derived.Deep.Strs
import Derived.SizedLaws
import Derived.Test.YtppeponndkfbkaaGreatRD
set_option linter.unusedVariables false
set_option linter.unusedSimpArgs false
/- Lines: what the laws call. -/
namespace Go.Ae
open Go
/-- Whether one of a list has a property. -/
def anyLS (g : FuncId) (f : R3 → Bool) : QSpec := { ι := LL, args := fun i => [i.val, .func (.func g) #[] #[]], blks := fun i => i.blks, pre := fun i => i.list.length ≤ 1099511627776, val := fun i => .bool (i.list.any f), new := fun _ => none }
def anyPS (g : FuncId) (f : PV → Bool) : QSpec := { ι := PL, args := fun i => [i.val, .func (.func g) #[] #[]], blks := fun i => i.blks, pre := fun i => i.list.length ≤ 1099511627776, val := fun i => .bool (i.list.any f), new := fun _ => none }
def noneUp {α : Type} (f : α → Bool) (l : List α) (i : Nat) : Prop := (l.take i).any f = false
theorem noneUp_start {α : Type} (f : α → Bool) (l : List α) : noneUp f l 0 := rfl
theorem noneUp_step {α : Type} {f : α → Bool} {l : List α} {i : Nat} {x : α} (h : noneUp f l i) (hx : l[i]? = some x) (hf : f x = false) : noneUp f l (i + 1) := by
 unfold noneUp at *
 rw [List.take_add_one, hx, List.any_append, h]
 simp [hf]
theorem noneUp_end {α : Type} {f : α → Bool} {l : List α} (h : noneUp f l l.length) : l.any f = false := by
 unfold noneUp at h
 rw [List.take_length] at h
 exact h
theorem any_of {α : Type} {f : α → Bool} {l : List α} {x : α} (h : x ∈ l) (hf : f x = true) : l.any f = true := List.any_eq_true.2 ⟨x, h, hf⟩
theorem rowsP_get2 {l : List PV} {k : Nat} (h : k < l.length) : ∃ m : PV, l[k]? = some m ∧ m ∈ l ∧ rowsP l k = m.cells := by
 have e := List.getElem?_eq_getElem h
 refine ⟨_, e, List.getElem_mem h, ?_⟩
 unfold rowsP
 rw [List.getD_eq_getElem?_getD, e]; rfl
def longL (m : R3) : Bool := decide m.long
def longP (p : PV) : Bool := decide p.long
def greatL (l : List R3) (ps : List PV) : Bool := decide (8 < l.length) || l.any longL || ps.any longP
/-- Lines as the second argument, behind some blocks. -/
def greatLS : QSpec := { ι := LL × PL, args := fun i => [i.1.val, i.2.valAt i.1.blks.length], blks := fun i => i.1.blks ++ i.2.blks, pre := fun i => i.1.list.length ≤ 9223372036854775807 ∧ i.2.list.length ≤ 1099511627776, val := fun i => .bool (greatL i.1.list i.2.list), new := fun _ => none }
theorem lit_blkL (l : List R3) : BlkLe (.flat false l.length 9 (rowsLn l)) (.expl true 9 (l.map R3.cells)) :=
 blk_rows (by simp) (fun r hr => by
  unfold rowsLn
  rw [List.getD_eq_getElem?_getD, List.getD_eq_getElem?_getD, List.getElem?_map, List.getElem?_eq_getElem hr]
  rfl) (fun r hr => rfl)
/-! the example of the chapter -/
def exL : Q3 := (-2, 2, 0)
def exB : Q4 := ((0, 0), (4, 4))
def exR : List Q2 := [(0, 0), (4, 4), (0, 4)]
theorem ex_thr : thrV (((0 : Int) : Rat), ((0 : Int) : Rat)) (((2 : Int) : Rat), ((2 : Int) : Rat)) = (linV exL, 0) := by
 unfold thrV
 rw [if_neg (by decide +kernel)]
 congr 2
 decide +kernel
theorem ex_sid : sidV exL (((0 : Int) : Rat), ((1 : Int) : Rat)) = (1, 0) := by decide +kernel
theorem ex_foot : footV 1 exL (((0 : Int) : Rat), ((2 : Int) : Rat)) = (ptV (((1 : Int) : Rat), ((1 : Int) : Rat)), 0) := by
 unfold footV
 rw [if_pos (by decide +kernel)]
 congr 2
 decide +kernel
theorem ex_part : partR exB [exL] = exR := by decide +kernel
theorem ex_nd : firstNd exR = none := by decide +kernel
theorem ex_clean : cleanL exR = exR := cleanL_stop ex_nd
theorem ex_rot : rotR exR = exR := by decide +kernel
theorem ex_E : comE exB [exL] = 0 := by
 unfold comE
 rw [if_neg (by decide +kernel), if_neg (by decide), ex_part, if_neg (by decide), ex_clean, if_neg (by decide)]
theorem ex_P : comP exB [exL] = exR := by unfold comP; rw [ex_part, ex_clean, ex_rot]
theorem zeroP_p : zeroP.p = (0, 0) := by
 show (zeroR.q, zeroR.q) = _
 rw [zeroR_q]
theorem ex_ok {m : PV} {l : R3} (hm : m.p = (((4 : Int) : Rat), ((4 : Int) : Rat))) (sm : m.sz 1) (hl : l.q = exL) (sl : l.sz 1048576) : comOk (zeroP, m) [l] := by
 have hB : XV.p (zeroP, m) = exB := by
  show (zeroP.p, m.p) = _
  rw [zeroP_p, hm]; rfl
 have hq : qs [l] = [exL] := by show [l.q] = _; rw [hl]
 refine ⟨⟨zeroP_sz _, PV.sz_mono sm (by decide)⟩, by show 1 ≤ 1099511627776; decide, fun n hn => by simp at hn; rw [hn]; exact sl, fun _ k hk => ?_⟩
 ·rw [hB, hq]
  have hk : k ≤ 1 := hk
  have small : ∀ P : List Q2, (∀ v ∈ P, Q2.sz 1 v) → P.length ≤ 4 → P.length ≤ 274877906944 ∧ ∀ v ∈ P, Q2.sz 262144 v := fun P h1 h2 => ⟨by omega, fun v hv => Q2.mono (h1 v hv) (by decide)⟩
  have e4 : Q2.sz 1 ((4 : Rat), (4 : Rat)) := ofsz 4 4 (by decide) (by decide)
  have e0 : Q2.sz 1 ((0 : Rat), (0 : Rat)) := ofsz 0 0 (by decide) (by decide)
  rcases (show k = 0 ∨ k = 1 by omega) with rfl | rfl
  ·show (boxR exB).length ≤ _ ∧ ∀ v ∈ boxR exB, _
   refine small _ (fun v hv => ?_) (by decide)
   simp only [boxR, exB, List.mem_cons, List.mem_nil_iff, or_false] at hv
   rcases hv with rfl | rfl | rfl | rfl
   ·exact e0
   ·exact ⟨e4.1, e0.2⟩
   ·exact e4
   ·exact ⟨e0.1, e4.2⟩
  ·show (partR exB [exL]).length ≤ _ ∧ ∀ v ∈ partR exB [exL], _
   rw [ex_part]
   refine small _ (fun v hv => ?_) (by decide)
   simp only [exR, List.mem_cons, List.mem_nil_iff, or_false] at hv
   rcases hv with rfl | rfl | rfl
   ·exact e0
   ·exact e4
   ·exact ⟨e0.1, e4.2⟩
end Go.Ae
/- Lines: plain laws. -/
namespace Go.Ae
open Go
theorem great_false {l : List R3} {ps : List PV} (h : greatL l ps = false) : (∀ m ∈ l, R3.sz 20 m) ∧ ∀ p ∈ ps, PV.sz 20 p := by
 unfold greatL at h
 rw [Bool.or_eq_false_iff, Bool.or_eq_false_iff] at h
 obtain ⟨⟨_, h1⟩, h2⟩ := h
 refine ⟨fun m hm => R3.not_long fun e => ?_, fun p hp => PV.not_long fun e => ?_⟩
 ·rw [any_of hm (decide_eq_true e : longL m = true)] at h1; cases h1
 ·rw [any_of hp (decide_eq_true e : longP p = true)] at h2; cases h2
theorem great_len {l : List R3} {ps : List PV} (h : greatL l ps = false) : l.length ≤ 8 := by
 unfold greatL at h
 rw [Bool.or_eq_false_iff, Bool.or_eq_false_iff] at h
 have := of_decide_eq_false h.1.1
 omega
/-! feet -/
theorem sidV_ok {l : Q3} (h : isL l) (p : Q2) : sidV l p = (cmpQ (valR l p) 0, 0) := if_pos h
/-! bisectors -/
/-! where lines meet -/
end Go.Ae
/- Lines: a box cut by lines, as the laws ask for it. -/
namespace Go.Ae
open Go
theorem cut_all {m : Q3} {P : List Q2} (h : ∀ v ∈ P, 0 ≤ valR m v) : cutR m P = P := by
 rw [cutF_eq]
 have : ∀ E : List (Q2 × Q2), (∀ e ∈ E, 0 ≤ valR m e.1 ∧ 0 ≤ valR m e.2) → E.flatMap (cutF m) = E.map Prod.fst := by
  intro E
  induction E with
  | nil => intro _; rfl
  | cons e E ih =>
   intro hE
   have he := hE e (List.mem_cons_self ..)
   rw [List.flatMap_cons, ih (fun x hx => hE x (List.mem_cons_of_mem _ hx)), List.map_cons]
   show (keepP m e.1 ++ crossP m e.1 e.2) ++ _ = _
   rw [keep_pos he.1, cross_no (fun h => by rcases h with ⟨_, h⟩ | ⟨h, _⟩ <;> grind)]
   rfl
 rw [this _ (fun e he => ⟨h _ (edges_mem he).1, h _ (edges_mem he).2⟩), edges_fst]
theorem cut_none {m : Q3} {P : List Q2} (h : ∀ v ∈ P, valR m v < 0) : cutR m P = [] := by
 rw [cutF_eq, List.flatMap_eq_nil_iff]
 intro e he
 have h1 := h _ (edges_mem he).1
 have h2 := h _ (edges_mem he).2
 show keepP m e.1 ++ crossP m e.1 e.2 = []
 rw [keep_neg h1, cross_no (fun h => by rcases h with ⟨h, _⟩ | ⟨_, h⟩ <;> grind)]
 rfl
theorem cut_const {m : Q3} (h : ¬ isL m) (P : List Q2) : cutR m P = P ∨ cutR m P = [] := by
 have h0 : m.1 = 0 ∧ m.2.1 = 0 := Classical.byContradiction fun e => h e
 have hv : ∀ v : Q2, valR m v = -m.2.2 := fun v => by rw [valR_eq, h0.1, h0.2]; grind
 by_cases hc : 0 ≤ -m.2.2
 ·exact .inl (cut_all fun v _ => by rw [hv]; exact hc)
 ·exact .inr (cut_none fun v _ => by rw [hv]; grind)
theorem small_nil : Small [] := ⟨fun v hv => (by cases hv), fun e he => (by cases he)⟩
theorem small_cut' {m : Q3} {P : List Q2} (hs : smallL m) (h : Small P) : Small (cutR m P) := by
 by_cases hm : isL m
 ·exact small_cut hm hs h
 ·rcases cut_const hm P with e | e
  ·rw [e]; exact h
  ·rw [e]; exact small_nil
theorem small_cuts' : ∀ (l : List Q3) (P : List Q2), (∀ m ∈ l, smallL m) → Small P → Small (l.foldl (fun P m => cutR m P) P) := by
 intro l
 induction l with
 | nil => intro P _ h; exact h
 | cons m l ih =>
  intro P hl h
  exact ih _ (fun k hk => hl k (List.mem_cons_of_mem _ hk)) (small_cut' (hl m (List.mem_cons_self ..)) h)
theorem part_len : ∀ (l : List Q3) (P : List Q2), (l.foldl (fun P m => cutR m P) P).length ≤ P.length * 2 ^ l.length := by
 intro l
 induction l with
 | nil => intro P; simp
 | cons m l ih =>
  intro P
  refine Nat.le_trans (ih (cutR m P)) ?_
  have := cutR_len m P
  rw [List.length_cons, Nat.pow_succ]
  refine Nat.le_trans (Nat.mul_le_mul_right _ this) ?_
  rw [Nat.mul_comm 2, Nat.mul_assoc, Nat.mul_comm 2]
  exact Nat.le_refl _
theorem com_ok {b : XV} {l : List R3} (h1 : b.1.sz 20) (h2 : b.2.sz 20) (hl : ∀ m ∈ l, m.sz 20) (hb : l.length ≤ 1099511627776) (hn : l.length ≤ 36 ∨ 60 < l.length) : comOk b l := by
 refine ⟨⟨PV.sz_mono h1 (by decide), PV.sz_mono h2 (by decide)⟩, hb, fun m hm => R3.sz_mono (hl m hm) (by decide), fun h60 k hk => ⟨?_, fun v hv => ?_⟩⟩
 ·have hn : l.length ≤ 36 := by omega
  have := part_len ((qs l).take k) (boxR b.p)
  refine Nat.le_trans this ?_
  have hk' : ((qs l).take k).length ≤ 36 := by simp [qs]; omega
  refine Nat.le_trans (Nat.mul_le_mul_left _ (Nat.pow_le_pow_right (by decide) hk')) ?_
  show 4 * 2 ^ 36 ≤ 274877906944
  decide
 ·have := small_cuts' ((qs l).take k) (boxR b.p) (fun m hm => by
   obtain ⟨r, hr, rfl⟩ := List.mem_map.1 (List.mem_of_mem_take hm)
   exact R3.qsz (hl r hr) (by decide)) (box_small (b := b.p) (PV.psz h1 (by decide)) (PV.psz h2 (by decide)))
  exact Q2.mono (this.1 v hv) (by decide)
/-! what Common answers -/
theorem com_eq {b : Q4} {l : List Q3} {e : Int} (h : comE b l = e) : (e = 1 ∧ (¬ okB b ∨ badL l = true)) ∨ (okB b ∧ badL l = false ∧ ((e = 4 ∧ 60 < l.length) ∨ (l.length ≤ 60 ∧ ((e = 11 ∧ partR b l = []) ∨ (partR b l ≠ [] ∧ ((e = 12 ∧ (cleanL (partR b l)).length < 3) ∨ (e = 0 ∧ 3 ≤ (cleanL (partR b l)).length))))))) := by
 subst h
 unfold comE
 split
 ·rename_i h; exact .inl ⟨rfl, h⟩
 ·rename_i h
  have h1 : okB b := Classical.byContradiction fun e => h (.inl e)
  have h2 : badL l = false := by
   cases e : badL l
   ·rfl
   ·exact absurd (.inr e) h
  refine .inr ⟨h1, h2, ?_⟩
  split
  ·rename_i h; exact .inl ⟨rfl, h⟩
  ·rename_i h
   refine .inr ⟨by omega, ?_⟩
   split
   ·rename_i h; exact .inl ⟨rfl, h⟩
   ·rename_i h
    refine .inr ⟨h, ?_⟩
    split
    ·rename_i h; exact .inl ⟨rfl, h⟩
    ·rename_i h; exact .inr ⟨rfl, by omega⟩
theorem com_zero {b : Q4} {l : List Q3} (h1 : okB b) (h2 : badL l = false) (h3 : l.length ≤ 60) (h4 : partR b l ≠ []) (h5 : 3 ≤ (cleanL (partR b l)).length) : comE b l = 0 := by
 unfold comE
 rw [if_neg (fun e => e.elim (fun e => e h1) (fun e => by rw [h2] at e; cases e)), if_neg (by omega), if_neg h4, if_neg (by omega)]
theorem com_bad {b : Q4} {l : List Q3} (h : ¬ okB b ∨ badL l = true) : comE b l = 1 := if_pos h
/-- A ring that Common answers. -/
structure ComRing (b : Q4) (l : List Q3) : Prop where
 okb : okB b
 good : badL l = false
 few : l.length ≤ 60
 turn : Turn (partR b l)
 flat : ¬ Flat (partR b l)
 ring : Ring (cleanL (partR b l))
theorem com_ring {b : Q4} {l : List Q3} (h : comE b l = 0) : ComRing b l := by
 rcases com_eq h with ⟨e, _⟩ | ⟨h1, h2, ⟨e, _⟩ | ⟨h3, ⟨e, _⟩ | ⟨h4, ⟨e, _⟩ | ⟨_, h5⟩⟩⟩⟩
 ·cases e
 ·cases e
 ·cases e
 ·cases e
 ·have hT := (part_spec h1 l).1
  have hF : ¬ Flat (partR b l) := fun hF => by have := clean_flat hF; omega
  exact ⟨h1, h2, h3, hT, hF, clean_ring hT hF⟩
theorem ring_rot {P : List Q2} (h : Ring P) : Turn (rotR P) ∧ (rotR P).Nodup ∧ 3 ≤ (rotR P).length := ⟨rotR_turn h.turn, rotR_nodup h.nodup, by rw [rotR_length]; exact h.three⟩
theorem at2_inj {l : List Q2} (h : l.Nodup) {i j : Nat} (hi : i < l.length) (hj : j < l.length) (e : at2 l i = at2 l j) : i = j := by
 have h1 := at2_some hi
 have h2 := at2_some hj
 rw [e] at h1
 exact (List.getElem?_inj hi h).1 (h1.trans h2.symm)
theorem com_hull {b : Q4} {l : List Q3} (c : ComRing b l) (p : Q2) : Hull (comP b l) p ↔ Hull (partR b l) p :=
 (SameH.of_mem (P := comP b l) (Q := cleanL (partR b l)) (fun v => rotR_mem) p).trans ((clean_same c.turn c.flat).1 p)
/-- Inside a ring, or on it. -/
def rinB (L : List Q2) (p : Q2) : Prop := ∀ k, k < L.length → 0 ≤ orR (at2 L k) (at2 L (nxt L.length k)) p
theorem ins_of {L : List Q2} {p : Q2} (hT : Turn L) (h : Hull L p) : rinB L p := fun k hk => edge_hull hT (edge_at hk) h
theorem com_three {b : Q4} {l : List Q3} (c : ComRing b l) : Turn (comP b l) ∧ (comP b l).Nodup ∧ 3 ≤ (comP b l).length := ring_rot c.ring
theorem qs_len (l : List R3) : (qs l).length = l.length := List.length_map ..
/-! fewer -/
theorem com_bound {b : XV} {l : List R3} (h : comOk b l) (hn : l.length ≤ 60) : (comP b.p (qs l)).length ≤ 274877906944 ∧ ∀ v ∈ comP b.p (qs l), Q2.sz 262144 v := by
 have := h.2.2.2 hn l.length (Nat.le_refl _)
 rw [← qs_len, List.take_length] at this
 refine ⟨?_, fun v hv => this.2 v ((clean_sub _).subset (rotR_mem.1 hv))⟩
 unfold comP
 rw [rotR_length]
 exact Nat.le_trans (clean_sub _).length_le this.1
/-! parts -/
theorem least_at (f : Q3) : ∀ L : List Q2, L ≠ [] → ∃ v ∈ L, ∀ u ∈ L, valR f v ≤ valR f u := by
 intro L
 induction L with
 | nil => intro h; exact absurd rfl h
 | cons a L ih =>
  intro _
  cases L with
  | nil => exact ⟨a, List.mem_cons_self .., fun u hu => by rw [List.mem_singleton.1 hu]; exact Rat.le_refl⟩
  | cons c L =>
   obtain ⟨v, hv, h⟩ := ih (by simp)
   by_cases hle : valR f a ≤ valR f v
   ·refine ⟨a, List.mem_cons_self .., fun u hu => ?_⟩
    rcases List.mem_cons.1 hu with rfl | hu
    ·exact Rat.le_refl
    ·exact Rat.le_trans hle (h u hu)
   ·refine ⟨v, List.mem_cons_of_mem _ hv, fun u hu => ?_⟩
    rcases List.mem_cons.1 hu with rfl | hu
    ·grind
    ·exact h u hu
theorem cone (f : Q3) (u v w p : Q2) : orR u v w * (valR f p - valR f v) = orR u v p * (valR f w - valR f v) + orR v w p * (valR f u - valR f v) := by
 simp only [orR_eq, valR_eq]; grind
theorem hull_of_ins {L : List Q2} {p : Q2} (h : Ring L) (hp : rinB L p) : Hull L p := fun f hf => by
 obtain ⟨v, hv, hmin⟩ := least_at f L (fun e => by have := h.three; rw [e] at this; exact absurd this (by decide))
 obtain ⟨k, hk, rfl⟩ := mem_at2 hv
 have hc := h.corner k hk
 have h1 := hp (prv L.length k) (prv_lt hk)
 rw [nxt_prv hk] at h1
 have h2 := hp k hk
 have e := cone f (at2 L (prv L.length k)) (at2 L k) (at2 L (nxt L.length k)) p
 have h3 := hmin _ (at2_mem (nxt_lt hk))
 have h4 := hmin _ (at2_mem (prv_lt hk))
 have h5 := Rat.mul_nonneg h1 (show 0 ≤ valR f (at2 L (nxt L.length k)) - valR f (at2 L k) by grind)
 have h6 := Rat.mul_nonneg h2 (show 0 ≤ valR f (at2 L (prv L.length k)) - valR f (at2 L k) by grind)
 have h7 : 0 ≤ valR f p - valR f (at2 L k) := by
  rcases Rat.le_total (a := 0) (b := valR f p - valR f (at2 L k)) with h | h
  ·exact h
  ·have h8 := Rat.mul_nonneg (Rat.le_of_lt hc) (show 0 ≤ -(valR f p - valR f (at2 L k)) by grind)
   have h9 : orR (at2 L (prv L.length k)) (at2 L k) (at2 L (nxt L.length k)) * (valR f p - valR f (at2 L k)) = 0 := by grind
   rcases Rat.mul_eq_zero.1 h9 with h | h <;> grind
 have := hf _ hv
 grind
theorem edge_unique {P : List Q2} (h : Ring P) {u v w : Q2} (h1 : (u, v) ∈ edges P) (h2 : (v, w) ∈ edges P) : 0 < orR u v w := by
 obtain ⟨i, hi, e1⟩ := edge_idx h1
 obtain ⟨j, hj, e2⟩ := edge_idx h2
 have a1 : u = at2 P i := congrArg Prod.fst e1
 have a2 : v = at2 P (nxt P.length i) := congrArg Prod.snd e1
 have b1 : v = at2 P j := congrArg Prod.fst e2
 have b2 : w = at2 P (nxt P.length j) := congrArg Prod.snd e2
 have e := at2_inj h.nodup (nxt_lt hi) hj (a2.symm.trans b1)
 subst e
 have := h.corner _ hj
 rw [prv_nxt hi] at this
 rw [a1, a2, b2]; exact this
theorem ring_rotR {P : List Q2} (h : Ring P) : Ring (rotR P) := by
 obtain ⟨h1, _, h3⟩ := ring_rot h
 have hm : ∀ e, e ∈ edges (rotR P) → e ∈ edges P := fun e he => by
  have := edges_rot he
  rwa [List.take_append_drop] at this
 exact ⟨h1, h3, fun k hk => edge_unique h (hm _ (edge_prv hk)) (hm _ (edge_at hk))⟩
theorem com_rring {b : Q4} {l : List Q3} (c : ComRing b l) : Ring (comP b l) := ring_rotR c.ring
theorem rin_iff {b : Q4} {l : List Q3} (c : ComRing b l) (p : Q2) : rinB (comP b l) p ↔ inBx b p ∧ ∀ m ∈ l, 0 ≤ valR m p := by
 rw [← (part_spec c.okb l).2 p, ← com_hull c p]
 exact ⟨hull_of_ins (com_rring c), ins_of (com_three c).1⟩
theorem good_all {l : List Q3} (h : badL l = false) : ∀ m ∈ l, isL m := fun m hm => Classical.byContradiction fun e => by
 have : badL l = true := List.any_eq_true.2 ⟨m, hm, decide_eq_true e⟩
 rw [h] at this; cases this
theorem vert_in {b : Q4} {l : List Q3} (c : ComRing b l) {v : Q2} (hv : v ∈ comP b l) : inBx b v ∧ ∀ m ∈ l, 0 ≤ valR m v :=
 (rin_iff c v).1 (ins_of (com_three c).1 (.of_mem hv))
theorem corner_next {P : List Q2} (h : Ring P) {k : Nat} (hk : k < P.length) : 0 < orR (at2 P k) (at2 P (nxt P.length k)) (at2 P (nxt P.length (nxt P.length k))) := by
 have := h.corner _ (nxt_lt hk)
 rwa [prv_nxt hk] at this
theorem least_first {P : List Q2} (h : Ring P) {k : Nat} (hk : k < (rotR P).length) (h0 : 0 < k) : 0 < cmpR (at2 (rotR P) k) (at2 (rotR P) 0) := by
 obtain ⟨_, hn, h3⟩ := ring_rot h
 obtain ⟨a, A, e, hle⟩ := rotR_head (l := P) (fun e => by have := h.three; rw [e] at this; exact absurd this (by decide))
 have ea : at2 (rotR P) 0 = a := by rw [e]; rfl
 have h1 := leP_iff.1 (hle _ (rotR_mem.1 (at2_mem hk)))
 rw [← ea] at h1
 have h2 : cmpR (at2 (rotR P) k) (at2 (rotR P) 0) ≠ 0 := fun e => by
  have := at2_inj hn hk (by omega) (cmpR_eq0.1 e)
  omega
 omega
theorem hull_flat {P Q : List Q2} (h : SameH P Q) (hf : Flat P) : Flat Q := by
 obtain ⟨f, h1, h2⟩ := hf
 refine ⟨f, h1, fun v hv => ?_⟩
 have hv : Hull P v := (h v).2 (.of_mem hv)
 have a := hv f (fun u hu => by rw [h2 u hu]; exact Rat.le_refl)
 have c := hv (negL f) (fun u hu => by rw [valR_neg, h2 u hu]; grind)
 rw [valR_neg] at c
 grind
theorem hull_nil {P Q : List Q2} (h : SameH P Q) (hp : P = []) : Q = [] := by
 cases Q with
 | nil => rfl
 | cons a Q =>
  have := (h a).2 (.of_mem (List.mem_cons_self ..))
  rw [hp] at this
  exact absurd this (Hull.nil a)
theorem com_same {b : Q4} {l l' : List Q3} (h : ∀ m, m ∈ l ↔ m ∈ l') (h1 : l.length ≤ 60) (h2 : l'.length ≤ 60) : comE b l = comE b l' ∧ (comE b l = 0 → comP b l = comP b l') := by
 have hb : badL l = badL l' := by
  cases e : badL l
  ·cases e' : badL l'
   ·rfl
   ·obtain ⟨m, hm, hd⟩ := List.any_eq_true.1 e'
    exact absurd (good_all e m ((h m).2 hm)) (of_decide_eq_true hd)
  ·obtain ⟨m, hm, hd⟩ := List.any_eq_true.1 e
   exact (List.any_eq_true.2 ⟨m, (h m).1 hm, hd⟩ : badL l' = true).symm
 by_cases ho : okB b
 ·cases hbb : badL l with
  | true =>
   rw [com_bad (.inr hbb), com_bad (.inr (hb ▸ hbb))]
   exact ⟨rfl, fun e => by cases e⟩
  | false =>
   obtain ⟨t1, s1⟩ := part_spec ho l
   obtain ⟨t2, s2⟩ := part_spec ho l'
   have hs : SameH (partR b l) (partR b l') := fun p => by
    rw [s1, s2]
    exact ⟨fun ⟨x, y⟩ => ⟨x, fun m hm => y m ((h m).2 hm)⟩, fun ⟨x, y⟩ => ⟨x, fun m hm => y m ((h m).1 hm)⟩⟩
   by_cases hn : partR b l = []
   ·have hn' := hull_nil hs hn
    unfold comE
    rw [if_neg (fun e => e.elim (fun e => e ho) (fun e => by rw [hbb] at e; cases e)), if_neg (by omega), if_pos hn, if_neg (fun e => e.elim (fun e => e ho) (fun e => by rw [← hb, hbb] at e; cases e)), if_neg (by omega), if_pos hn']
    exact ⟨rfl, fun e => by cases e⟩
   ·have hn' : partR b l' ≠ [] := fun e => hn (hull_nil hs.symm e)
    by_cases hF : Flat (partR b l)
    ·have a := (ring_flat hF).2
     have c := (ring_flat (hull_flat hs hF)).2
     unfold comE
     rw [if_neg (fun e => e.elim (fun e => e ho) (fun e => by rw [hbb] at e; cases e)), if_neg (by omega), if_neg hn, if_pos a, if_neg (fun e => e.elim (fun e => e ho) (fun e => by rw [← hb, hbb] at e; cases e)), if_neg (by omega), if_neg hn', if_pos c]
     exact ⟨rfl, fun e => by cases e⟩
    ·have hF' : ¬ Flat (partR b l') := fun e => hF (hull_flat hs.symm e)
     have r1 := clean_ring t1 hF
     have r2 := clean_ring t2 hF'
     rw [com_zero ho hbb h1 hn r1.three, com_zero ho (hb ▸ hbb) h2 hn' r2.three]
     refine ⟨rfl, fun _ => ?_⟩
     exact least_unique (P := partR b l) r1.turn r2.turn r1.nodup r2.nodup (fun v => r1.ext.trans (Xtr.iff (clean_same t1 hF).1 v)) (fun v => (r2.ext.trans (Xtr.iff (clean_same t2 hF').1 v)).trans (Xtr.iff hs.symm v))
 ·rw [com_bad (.inl ho), com_bad (.inl ho)]
  exact ⟨rfl, fun e => by cases e⟩
theorem parts_err {b : Q4} {l : List Q3} (hn : l.length ≤ 60) (h : comE b l ≠ 0) : comE b l = 1 ∨ comE b l = 12 ∨ (comE b l = 11 ∧ ∀ p, ¬ (inBx b p ∧ ∀ m ∈ l, 0 ≤ valR m p)) := by
 rcases com_eq (rfl : comE b l = comE b l) with ⟨e, _⟩ | ⟨h1, _, ⟨_, g⟩ | ⟨_, ⟨e, h4⟩ | ⟨_, ⟨e, _⟩ | ⟨e, _⟩⟩⟩⟩
 ·exact .inl e
 ·omega
 ·exact .inr (.inr ⟨e, fun p hp => by
   have := ((part_spec h1 l).2 p).2 hp
   rw [h4] at this
   exact Hull.nil p this⟩)
 ·exact .inr (.inl e)
 ·exact absurd e h
/-! contracts -/
instance (L : List Q2) (p : Q2) : Decidable (rinB L p) := inferInstanceAs (Decidable (∀ k, k < L.length → _))
/-- 'inside' of the laws. -/
def rinsS : QSpec := { ι := (List Q2 × Nat) × PV, args := fun i => [.slice (some ⟨0, 0, none⟩) i.1.1.length i.1.2, i.2.v], blks := fun i => [.flat false i.1.1.length 6 (rowsQ i.1.1)], pre := fun i => i.1.1.length ≤ 1099511627776 ∧ (∀ v ∈ i.1.1, Q2.sz 1048576 v) ∧ i.2.sz 1048576, val := fun i => .bool (decide (rinB i.1.1 i.2.p ∧ 2 < i.1.1.length)), new := fun _ => none }
/-- 'slices.Clone' of lines. -/
def lcloneS : QSpec := { ι := LL, args := fun i => [i.val], blks := fun i => i.blks, pre := fun i => i.list.length * 120 ≤ 140737488355328, val := fun i => match i with | none => .slice none 0 0 | some i => .slice (some ⟨1, 0, none⟩) i.1.length capU, new := fun i => match i with | none => none | some i => some (.flat true i.1.length 9 (rowsLn i.1)) }
end Go.Ae
/- Lines: what LineParts and LineCommon call besides. -/
namespace Go.Ae
open Go
theorem pt_blk1 {o : Bool} (p : PV) : BlkLe (.flat false 1 6 (fun _ => p.cells)) (.expl o 6 [p.cells]) :=
 ⟨(fun h => by cases h), rfl, Nat.le_refl _, fun r hr => by
  have : r = 0 := by have : r < 1 := hr; omega
  subst this; rfl, fun r hr v hv => allS_spec (show allS p.cells = true from rfl) v hv⟩
/-! 'left' of the laws -/
def onL (m : Q3) (p : Q2) : Prop := isL m ∧ 0 ≤ valR m p
instance (m : Q3) (p : Q2) : Decidable (onL m p) := inferInstanceAs (Decidable (_ ∧ _))
def left1S : QSpec := { ι := R3 × PV, args := fun i => [i.1.v, .pointer (some ⟨0, 0, none⟩)], blks := fun i => [.flat false 1 6 (fun _ => i.2.cells)], pre := fun i => lsz i.1 ∧ psz' i.2, val := fun i => .bool (decide (¬ onL i.1.q i.2.p)), new := fun _ => none }
theorem sidV_no {l : Q3} (h : ¬ isL l) (p : Q2) : sidV l p = (0, 1) := if_neg h
def leftB (b : Q4) (l : List Q3) (p : Q2) : Prop := inBx b p ∧ ∀ m ∈ l, onL m p
instance (b : Q4) (p : Q2) : Decidable (inBx b p) := inferInstanceAs (Decidable (_ ∧ _ ∧ _ ∧ _))
instance (b : Q4) (l : List Q3) (p : Q2) : Decidable (leftB b l p) := inferInstanceAs (Decidable (_ ∧ _))
def leftS : QSpec := { ι := (XV × LL) × PV, args := fun i => [i.1.1.v, i.1.2.val, i.2.v], blks := fun i => i.1.2.blks, pre := fun i => (i.1.1.1.sz 1048576 ∧ i.1.1.2.sz 1048576) ∧ i.1.2.list.length ≤ 1099511627776 ∧ (∀ m ∈ i.1.2.list, m.sz 1048576) ∧ i.2.sz 1048576, val := fun i => .bool (decide (leftB i.1.1.p (qs i.1.2.list) i.2.p)), new := fun _ => none }
def leftUp (l : List R3) (p : Q2) (i : Nat) : Prop := ∀ m ∈ l.take i, onL m.q p
theorem leftUp_start (l : List R3) (p : Q2) : leftUp l p 0 := fun m hm => by simp at hm
theorem leftUp_step {l : List R3} {p : Q2} {i : Nat} {m : R3} (h : leftUp l p i) (hp : l[i]? = some m) (hg : onL m.q p) : leftUp l p (i + 1) := fun q hq => by
 rw [List.take_add_one, hp] at hq
 simp only [Option.toList_some, List.mem_append, List.mem_singleton] at hq
 rcases hq with hq | rfl
 ·exact h q hq
 ·exact hg
theorem leftUp_end {l : List R3} {p : Q2} (h : leftUp l p l.length) : ∀ m ∈ qs l, onL m p := fun m hm => by
 obtain ⟨r, hr, rfl⟩ := List.mem_map.1 hm
 rw [leftUp, List.take_length] at h
 exact h r hr
theorem leftB_good {b : Q4} {l : List Q3} (h : badL l = false) (p : Q2) : leftB b l p ↔ inBx b p ∧ ∀ m ∈ l, 0 ≤ valR m p :=
 ⟨fun ⟨h1, h2⟩ => ⟨h1, fun m hm => (h2 m hm).2⟩, fun ⟨h1, h2⟩ => ⟨h1, fun m hm => ⟨good_all h m hm, h2 m hm⟩⟩⟩
def lpartsS : QSpec := { ι := (XV × LL) × PV, args := fun i => [i.1.1.v, i.1.2.val, i.2.v], blks := fun i => i.1.2.blks, pre := fun i => i.1.2.list.length * 120 ≤ 140737488351232, val := fun _ => .bool true, new := fun _ => none }
theorem nxt2_i {k n : Nat} (hk : k < n) (hn : n ≤ 1099511627776) : Int.tmod (IntKind.i64.wrap ((k : Int) + 2)) (n : Int) = (nxt n (nxt n k) : Int) := by
 rw [wrapi64 (by omega) (by omega)]
 show Int.tmod ((k + 2 : Nat) : Int) (n : Int) = (((k + 1) % n + 1) % n : Nat)
 rw [Nat.mod_add_mod]
 rfl
/-! a list turned round -/
def RevL (l : List R3) (i : Nat) (f : Nat → List Value) : Prop := ∀ r, r < l.length → f r = if r < i ∨ l.length < r + i + 1 then rowsLn l (l.length - 1 - r) else rowsLn l r
theorem revL_start {l : List R3} {f : Nat → List Value} (h : ∀ r, r < l.length → f r = rowsLn l r) : RevL l 0 f := fun r hr => by
 rw [if_neg (by omega)]; exact h r hr
theorem revL_get {l : List R3} {i : Nat} {f : Nat → List Value} (h : RevL l i f) (hi : i + i + 1 < l.length) : f i = rowsLn l i ∧ f (l.length - 1 - i) = rowsLn l (l.length - 1 - i) := by
 refine ⟨?_, ?_⟩
 ·rw [h i (by omega), if_neg (by omega)]
 ·rw [h _ (by omega), if_neg (by omega)]
theorem revL_step {l : List R3} {i : Nat} {f g : Nat → List Value} (h : RevL l i f) (hi : i + i + 1 < l.length)
  (hg : ∀ r, g r = if r = l.length - 1 - i then rowsLn l i else if r = i then rowsLn l (l.length - 1 - i) else f r) : RevL l (i + 1) g := fun r hr => by
 rw [hg]
 by_cases h1 : r = l.length - 1 - i
 ·rw [if_pos h1, if_pos (by omega)]
  congr 1; omega
 ·rw [if_neg h1]
  by_cases h2 : r = i
  ·rw [if_pos h2, if_pos (by omega), h2]
  ·rw [if_neg h2, h r hr]
   by_cases h3 : r < i ∨ l.length < r + i + 1
   ·rw [if_pos h3, if_pos (by omega)]
   ·rw [if_neg h3, if_neg (by omega)]
theorem rowsLn_reverse {l : List R3} {r : Nat} (h : r < l.length) : rowsLn l.reverse r = rowsLn l (l.length - 1 - r) := by
 unfold rowsLn
 rw [List.getD_eq_getElem?_getD, List.getD_eq_getElem?_getD, List.getElem?_reverse h]
theorem revL_end {l : List R3} {i : Nat} {f : Nat → List Value} (h : RevL l i f) (hi : l.length ≤ i + i + 1) : ∀ r, r < l.length → f r = rowsLn l.reverse r := fun r hr => by
 rw [rowsLn_reverse hr, h r hr]
 by_cases h3 : r < i ∨ l.length < r + i + 1
 ·rw [if_pos h3]
 ·rw [if_neg h3]; congr 1; omega
def revLS : WSpec := { ι := LL, args := fun i => [i.val], blks := fun i => match i with | none => [] | some i => [.flat true i.1.length 9 (rowsLn i.1)], pre := fun i => i.list.length ≤ 1099511627776, val := fun _ => .tuple ⟨[]⟩, post := fun i => match i with | none => [] | some i => [.flat true i.1.length 9 (rowsLn i.1.reverse)], new := fun _ => [] }
theorem revapp_rows {l : List R3} {n : Nat} {g g2 : Nat → List Value} (hn : n = l.length) (hg : g = rowsLn l) (h2 : g2 = rowsLn l.reverse) : ∀ r, r < n + n → appGet g2 n (fun j => g (rowAdd 0 j)) r = rowsLn (l.reverse ++ l) r := fun r hr => by
 subst hg; subst h2; subst hn
 by_cases h : r < l.length
 ·rw [appGet_lo h]
  unfold rowsLn
  rw [List.getD_eq_getElem?_getD, List.getD_eq_getElem?_getD, List.getElem?_append_left (by rw [List.length_reverse]; exact h)]
 ·rw [appGet_hi (by omega), rowAdd_eq]
  unfold rowsLn
  rw [List.getD_eq_getElem?_getD, List.getD_eq_getElem?_getD, List.getElem?_append_right (by rw [List.length_reverse]; omega), List.length_reverse, Nat.zero_add]
theorem rev_mem (l : List R3) (m : Q3) : m ∈ qs l ↔ m ∈ qs (l.reverse ++ l) := by
 unfold qs
 rw [List.map_append, List.mem_append, List.map_reverse, List.mem_reverse]
 exact ⟨.inl, fun h => h.elim id id⟩
theorem wres_revL {l : List R3} {c n : Nat} {f : Nat → List Value} {H : Heap} (hn : n = l.length) (h : ∀ r, r < l.length → f r = rowsLn l.reverse r) : wRes revLS (some (l, c)) (.tuple ⟨[]⟩) (some (.flat true n 9 f) :: H) := by
 refine ⟨[], List.nodup_nil, fun p hp => (by cases hp), rfl, fun j b q hb hq ho => ?_, fun j p b hp => by simp at hp, .tuple ⟨[]⟩, rfl, .refl _⟩
 cases j with
 | zero =>
  simp [revLS] at hb hq
  subst hq
  exact ⟨_, rfl, rfl, by rw [hn]; exact BlkLe.flat_rows (fun h => h) h fun r hr => rfl⟩
 | succ j => simp [revLS] at hb
theorem wres_revN {H : Heap} : wRes revLS none (.tuple ⟨[]⟩) H :=
 ⟨[], List.nodup_nil, fun p hp => (by cases hp), rfl, fun j b q hb hq ho => by simp [revLS] at hb, fun j p b hp => by simp at hp, .tuple ⟨[]⟩, rfl, .refl _⟩
end Go.Ae
/- The arguments of a statement, opened: structs of plain cells. -/
namespace Go.Ae
open Go Go.RowKit
section
variable {P : Program} {w : World} {r : Reach} {base : Nat} {t : TypeId} {v : Value}
theorem cell_bool (ht : P.underlying t = some .bool) (h : Cell.okWide P w r base t v) : ∃ b, v = .bool b := by
 simp only [Cell.okWide, ht] at h
 cases v <;> simp_all [Cell.ok]
theorem cell_string (ht : P.underlying t = some .string) (h : Cell.okWide P w r base t v) : ∃ s, v = .string s := by
 simp only [Cell.okWide, ht] at h
 cases v <;> simp_all [Cell.ok]
/-- A struct's cells. -/
theorem open_cells {fs : Array Field} (ht : P.underlying t = some (.struct fs)) {ts : List TypeId} (hts : P.cellTypes P.depth t = some ts) (h : Value.okWide P w r base t v) :
  ∃ l : List Value, v = .agg ⟨l⟩ ∧ l.length = P.cellsOf t ∧ ∀ i x, l[i]? = some x → ∃ u, ts[i % ts.length]? = some u ∧ Cell.okWide P w r base u x := by
 simp only [Value.okWide, ht] at h
 obtain ⟨cs, rfl, h2, ts', h3, _, h5⟩ := h
 rw [hts] at h3
 cases h3
 exact ⟨cs.toList, rfl, h2, fun i x hx => h5 i x (by simpa using hx)⟩
theorem open_pt {fs : Array Field} (ht : P.underlying t = some (.struct fs)) {b s : TypeId} (hts : P.cellTypes P.depth t = some [b, s, s, b, s, s]) (hn : P.cellsOf t = 6) (hb : P.underlying b = some .bool) (hs : P.underlying s = some .string)
  (h : Value.okWide P w r base t v) : ∃ p : PV, v = p.v := by
 obtain ⟨l, rfl, hl, hc⟩ := open_cells ht hts h
 rw [hn] at hl
 match l, hl with
 | [x, y, z, x', y', z'], _ =>
  obtain ⟨u, hu, h0⟩ := hc 0 x rfl
  obtain ⟨u1, hu1, h1⟩ := hc 1 y rfl
  obtain ⟨u2, hu2, h2⟩ := hc 2 z rfl
  obtain ⟨u3, hu3, h3⟩ := hc 3 x' rfl
  obtain ⟨u4, hu4, h4⟩ := hc 4 y' rfl
  obtain ⟨u5, hu5, h5⟩ := hc 5 z' rfl
  cases hu; cases hu1; cases hu2; cases hu3; cases hu4; cases hu5
  obtain ⟨b0, rfl⟩ := cell_bool hb h0
  obtain ⟨s1, rfl⟩ := cell_string hs h1
  obtain ⟨s2, rfl⟩ := cell_string hs h2
  obtain ⟨b3, rfl⟩ := cell_bool hb h3
  obtain ⟨s4, rfl⟩ := cell_string hs h4
  obtain ⟨s5, rfl⟩ := cell_string hs h5
  exact ⟨((b0, s1, s2), (b3, s4, s5)), rfl⟩
theorem open_box {fs : Array Field} (ht : P.underlying t = some (.struct fs)) {b s : TypeId} (hts : P.cellTypes P.depth t = some [b, s, s, b, s, s, b, s, s, b, s, s]) (hn : P.cellsOf t = 12) (hb : P.underlying b = some .bool) (hs : P.underlying s = some .string)
  (h : Value.okWide P w r base t v) : ∃ p : XV, v = p.v := by
 obtain ⟨l, rfl, hl, hc⟩ := open_cells ht hts h
 rw [hn] at hl
 match l, hl with
 | [x, y, z, x', y', z', x2, y2, z2, x3, y3, z3], _ =>
  obtain ⟨u, hu, h0⟩ := hc 0 x rfl
  obtain ⟨u1, hu1, h1⟩ := hc 1 y rfl
  obtain ⟨u2, hu2, h2⟩ := hc 2 z rfl
  obtain ⟨u3, hu3, h3⟩ := hc 3 x' rfl
  obtain ⟨u4, hu4, h4⟩ := hc 4 y' rfl
  obtain ⟨u5, hu5, h5⟩ := hc 5 z' rfl
  obtain ⟨u6, hu6, h6⟩ := hc 6 x2 rfl
  obtain ⟨u7, hu7, h7⟩ := hc 7 y2 rfl
  obtain ⟨u8, hu8, h8⟩ := hc 8 z2 rfl
  obtain ⟨u9, hu9, h9⟩ := hc 9 x3 rfl
  obtain ⟨u10, hu10, h10⟩ := hc 10 y3 rfl
  obtain ⟨u11, hu11, h11⟩ := hc 11 z3 rfl
  cases hu; cases hu1; cases hu2; cases hu3; cases hu4; cases hu5; cases hu6; cases hu7; cases hu8; cases hu9; cases hu10; cases hu11
  obtain ⟨b0, rfl⟩ := cell_bool hb h0
  obtain ⟨s1, rfl⟩ := cell_string hs h1
  obtain ⟨s2, rfl⟩ := cell_string hs h2
  obtain ⟨b3, rfl⟩ := cell_bool hb h3
  obtain ⟨s4, rfl⟩ := cell_string hs h4
  obtain ⟨s5, rfl⟩ := cell_string hs h5
  obtain ⟨b6, rfl⟩ := cell_bool hb h6
  obtain ⟨s7, rfl⟩ := cell_string hs h7
  obtain ⟨s8, rfl⟩ := cell_string hs h8
  obtain ⟨b9, rfl⟩ := cell_bool hb h9
  obtain ⟨s10, rfl⟩ := cell_string hs h10
  obtain ⟨s11, rfl⟩ := cell_string hs h11
  exact ⟨(((b0, s1, s2), (b3, s4, s5)), ((b6, s7, s8), (b9, s10, s11))), rfl⟩
end
end Go.Ae
/- The arguments of a statement, opened: slices of points. -/
namespace Go.Ae
open Go Go.RowKit Go.ChangeShapes Go.WideShapes Go.ChangeAt
theorem calls_of_qsnd {P : Program} {f : FuncId} {S : QSpec} (h : QSnd P f S) {i : S.ι} (hp : S.pre i) {avs : List Value} {ν : Nu} {w : World} (ha : LRel ν (S.args i) avs) (hH : HRel ν ((S.blks i).map some) w)
  (hν : ∀ id, (S.blks i).length ≤ id → ν id = none) {b : Bool} (hv : S.val i = .bool b) :
  Calls P f ⟨avs⟩ w fun e w' => e = .returned (.bool b) ∧ Below w.heap.size w w' := by
 have h1 := h.calls i hp ν avs w 0 ha hH hν
 rw [callsIn_wide] at h1
 refine h1.mono fun e w' ⟨v', ν', he, hq⟩ => ⟨?_, hq.below⟩
 have hr := hq.val
 rw [hv] at hr
 rw [he, hr.to_bool]
section
variable {H : Type} {enc : TypeId × Value → H} {P : Program} {w : World} {base : Nat} {spare : Nat → Bool} {held : Bool}
/-- The types of a point. -/
structure PtTy (P : Program) (tr tp b s : TypeId) : Prop where
 rat : ∃ f0 f1 f2, P.underlying tr = some (.struct #[f0, f1, f2]) ∧ (f0.type = b ∧ f0.offset = 0) ∧ (f1.type = s ∧ f1.offset = 1) ∧ f2.type = s ∧ f2.offset = 2
 pt : ∃ f0 f1, P.underlying tp = some (.struct #[f0, f1]) ∧ (f0.type = tr ∧ f0.offset = 0) ∧ f1.type = tr ∧ f1.offset = 3
 bool : P.underlying b = some .bool
 str : P.underlying s = some .string
 cr : P.cellsOf tr = 3
 cp : P.cellsOf tp = 6
 cb : P.cellsOf b = 1
 cs : P.cellsOf s = 1
theorem trod_rat {tr tp b s : TypeId} (T : PtTy P tr tp b s) {n : Nat} {l : List Value} {y : DataW H × List MemPlace} (h : DataW.trod enc P w base spare held n tr l = some y) : ∃ i : RV, l = i.cells := by
 obtain ⟨f0, f1, f2, hu, ⟨t0, o0⟩, ⟨t1, o1⟩, t2, o2⟩ := T.rat
 obtain ⟨y0, y1, y2, m, _, hl, h0, h1, h2⟩ := Deep.trod_struct3 hu h
 rw [T.cr] at hl
 rw [t0, o0, T.cb] at h0
 rw [t1, o1, T.cs] at h1
 rw [t2, o2, T.cs] at h2
 match l, hl with
 | [x, y, z], _ =>
  obtain ⟨b, e0, _⟩ := DataW.trod_bool T.bool h0
  obtain ⟨s1, e1, _⟩ := DataW.trod_string T.str h1
  obtain ⟨s2, e2, _⟩ := DataW.trod_string T.str h2
  simp at e0 e1 e2
  subst e0; subst e1; subst e2
  exact ⟨(b, s1, s2), rfl⟩
end
end Go.Ae
/- Arguments of a statement: a line. -/
namespace Go.Ae
open Go Go.RowKit Go.ChangeShapes Go.WideShapes Go.ChangeAt
section
variable {P : Program} {w : World} {r : Reach} {base : Nat} {t : TypeId} {v : Value}
end
/-- The types of a line. -/
structure LnTy (P : Program) (tr tn : TypeId) : Prop where
 ln : ∃ f0 f1 f2, P.underlying tn = some (.struct #[f0, f1, f2]) ∧ (f0.type = tr ∧ f0.offset = 0) ∧ (f1.type = tr ∧ f1.offset = 3) ∧ f2.type = tr ∧ f2.offset = 6
 cn : P.cellsOf tn = 9
section
variable {H : Type} {enc : TypeId × Value → H} {P : Program} {w : World} {base : Nat} {spare : Nat → Bool} {held : Bool}
theorem trod_ln {tr tp tn b s : TypeId} (T : PtTy P tr tp b s) (U : LnTy P tr tn) {n : Nat} {l : List Value} {y : DataW H × List MemPlace} (h : DataW.trod enc P w base spare held n tn l = some y) : ∃ p : R3, l = p.cells := by
 obtain ⟨f0, f1, f2, hu, ⟨t0, o0⟩, ⟨t1, o1⟩, t2, o2⟩ := U.ln
 obtain ⟨y0, y1, y2, m, _, hl, h0, h1, h2⟩ := Deep.trod_struct3 hu h
 rw [U.cn] at hl
 rw [t0, o0, T.cr] at h0
 rw [t1, o1, T.cr] at h1
 rw [t2, o2, T.cr] at h2
 obtain ⟨i, e0⟩ := trod_rat T h0
 obtain ⟨j, e1⟩ := trod_rat T h1
 obtain ⟨k, e2⟩ := trod_rat T h2
 match l, hl with
 | [x, y, z, x', y', z', x2, y2, z2], _ =>
  have e0 : [x, y, z] = i.cells := e0
  have e1 : [x', y', z'] = j.cells := e1
  have e2 : [x2, y2, z2] = k.cells := e2
  refine ⟨(i, j, k), ?_⟩
  show [x, y, z] ++ ([x', y', z'] ++ [x2, y2, z2]) = i.cells ++ (j.cells ++ k.cells)
  rw [e0, e1, e2]
theorem open_lines {tl tr tp tn b s : TypeId} (T : PtTy P tr tp b s) (U : LnTy P tr tn) (ht : P.underlying tl = some (.slice tn)) {v : Value} {d : DataW H} {ps : List MemPlace} {r : Reach} {b0 : Nat} (hv : Value.okWide P w r b0 tl v)
  (h : DataW.Trod enc P w base (fun _ => true) held tl v d ps) :
  ∃ (i : LL) (ν : Nu), i.list.length ≤ 9223372036854775807 ∧ (∀ B m, (∀ elems spare, d = .slice elems spare → (elems.length + spare.length) * B ≤ m) → i.list.length * B ≤ m) ∧ VRel ν i.val v ∧ HRel ν (i.blks.map some) w ∧ ∀ id, i.blks.length ≤ id → ν id = none := by
 obtain ⟨a0, len0, cap0, rfl⟩ := okWide_slice ht hv
 obtain ⟨fuel, hf⟩ := h
 rcases Deep.open_slice ht hf with ⟨hcs, _⟩ | ⟨a, len, cap, m, n, D, Pl, hcs, hb, hl, hm, hmm, hd, hx⟩
 ·simp [Value.cells] at hcs
  obtain ⟨rfl, rfl, rfl⟩ := hcs
  refine ⟨none, fun _ => none, Nat.zero_le _, fun B m _ => by show 0 * B ≤ m; omega, .snil, ⟨fun id b h => by simp [LL.blks] at h, fun i j bi bj li lj h => by simp [LL.blks] at h⟩, fun _ _ => rfl⟩
 ·simp [Value.cells] at hcs
  obtain ⟨rfl, rfl, rfl⟩ := hcs
  have hmm : m = cap0 := hmm
  subst hmm
  simp only [Value.okWide, ht, Cell.okWide, Cell.ok] at hv
  obtain ⟨_, _, _, hsp, row, cells, hshape, _⟩ := hv
  have hlive : a.block < w.heap.size := by
   unfold World.shape? at hshape
   split at hshape
   ·rename_i hh
    exact (Array.getElem?_eq_some_iff.1 hh).1
   ·cases hshape
  obtain ⟨V, hV⟩ := Deep.choose_lt (α := R3) (n := m) (p := fun i p => ∀ j, j < 9 → w.cell? ((a.add (i * 9)).add j) = p.cells[j]?) (fun i hi => by
   obtain ⟨cs', h1, h2⟩ := hx i hi
   rw [U.cn] at h1
   obtain ⟨p, rfl⟩ := trod_ln T U h2
   obtain ⟨_, _, hc⟩ := World.cells?_some h1
   exact ⟨p, hc⟩)
  have hlm : len0 ≤ m := hl
  refine ⟨some ((List.range len0).map V, capU), fun id => if id = 0 then some ⟨a.block, a.off, 9, m⟩ else none, ?_, ?_, ?_, ⟨fun id b hid => ?_, fun i j bi bj li lj h1 h2 h3 h4 => ?_⟩, fun id hid => ?_⟩
  ·show ((List.range len0).map V).length ≤ _
   have hm2 : m ≤ 9223372036854775807 := hm
   rw [List.length_map, List.length_range]
   omega
  ·intro B M hB
   have hd := hB _ _ (congrArg Prod.fst hd)
   show ((List.range len0).map V).length * B ≤ M
   rw [List.length_map, List.length_range]
   refine Nat.le_trans (Nat.mul_le_mul_right _ ?_) hd
   simp
  ·have e : a = Loc.at ⟨a.block, a.off, 9, m⟩ 0 0 := by
    obtain ⟨b0, o0, s0⟩ := a
    have : s0 = none := hsp
    subst this
    simp [Loc.at]
   have := VRel.slice (ν := fun id => if id = 0 then some ⟨a.block, a.off, 9, m⟩ else none) 0 0 len0 capU m ⟨a.block, a.off, 9, m⟩ rfl (.inr rfl) hlm (by simp)
   rw [← e] at this
   show VRel _ (.slice (some ⟨0, 0, none⟩) ((List.range len0).map V).length capU) _
   rw [List.length_map, List.length_range]
   exact this
  ·cases id with
   | succ id => simp [LL.blks] at hid
   | zero =>
    simp [LL.blks] at hid
    subst hid
    refine ⟨_, rfl, ⟨rfl, fun r hr => rfl, fun r hr j v hjv => ?_, fun _ r hr v hv => ?_, fun r hr v hv => ?_, fun h => (by cases h), (fun r h => by cases h), hlive⟩⟩
    ·have hr2 : r < len0 := hr
     have hr : r < ((List.range len0).map V).length := by rw [List.length_map, List.length_range]; exact hr2
     obtain ⟨p, hp, _, hrow⟩ := rowsLn_get hr
     have hpV : V r = p := by
      rw [List.getElem?_map, List.getElem?_range hr2] at hp
      simpa using hp
     have hjv : (rowsLn ((List.range len0).map V) r)[j]? = some v := hjv
     rw [hrow] at hjv
     have hj : j < 9 := (List.getElem?_eq_some_iff.1 hjv).1
     have hc := hV r (by omega) j hj
     rw [hpV, hjv] at hc
     refine ⟨v, ?_, ?_⟩
     ·rw [← hc]
      congr 1
      obtain ⟨b0, o0, s0⟩ := a
      have : s0 = none := hsp
      subst this
      by_cases h2 : r * 9 = 0
      ·have h3 : r = 0 := by omega
       by_cases h1 : j = 0 <;> simp [Loc.at, Addr.add, h1, h3, Nat.add_assoc]
      ·by_cases h1 : j = 0 <;> simp [Loc.at, Addr.add, h1, h2, Nat.add_assoc]
     ·have hs : allS p.cells = true := rfl
      exact VRel.scal_self (allS_spec hs v (List.mem_of_getElem? hjv))
    ·exact allS_spec (rowsLn_allS _ r) v hv
    ·have := allS_spec (rowsLn_allS ((List.range len0).map V) r) v hv
     cases v <;> first | rfl | simp [scal] at this
  ·cases i with
   | succ i => simp [LL.blks] at h1
   | zero =>
    cases j with
    | zero => exact absurd rfl h3
    | succ j => simp [LL.blks] at h2
  ·have : id ≠ 0 := by
    intro e; subst e
    have hid : 1 ≤ 0 := hid
    omega
   simp [this]
end
end Go.Ae
