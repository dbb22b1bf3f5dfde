import Derived.Laws.StructEq
import Derived.Test.YtppeponndkfbkaaQB
/- '==' of structs of plain cells, checked by evaluation of the types. -/
set_option linter.unusedVariables false
set_option linter.unusedSimpArgs false
namespace Go.Ae
open Go Go.RowKit

def fieldsZ (P : Program) (g : TypeId → Option (Bool × List Value)) : Nat → List Field → Option (List Value)
  | _, [] => some []
  | o, f :: l => match Nat.beq f.offset o && (f.name != "_"), g f.type, P.info? f.type, P.underlying f.type with
    | true, some (b, z), some i, some d => match Nat.beq i.size z.length && (isAggD d == b) && Nat.ble 1 z.length with
      | true => match fieldsZ P g (o + z.length) l with
        | some zs => some (z ++ zs)
        | none => none
      | false => none
    | _, _, _, _ => none
/-- The cells of a type whose '==' is that of its cells; whether it is an aggregate. -/
def typeZ (P : Program) : Nat → TypeId → Option (Bool × List Value)
  | 0, _ => none
  | d + 1, t => match P.underlying t with
    | some .bool => some (false, [.bool false])
    | some (.int q) => some (false, [.int q 0])
    | some .string => some (false, [.string ⟨#[]⟩])
    | some (.struct fs) => match P.stoodInHeld t with
      | true => none
      | false => match fieldsZ P (typeZ P d) 0 fs.toList with
        | some z => some (true, z)
        | none => none
    | _ => none
theorem sameKinds_len : ∀ {l m : List Value}, sameKinds l m = true → l.length = m.length
  | [], [], _ => rfl
  | .bool _ :: l, .bool _ :: m, h => by simp [sameKinds_len (l := l) (m := m) h]
  | .int q _ :: l, .int q' _ :: m, h => by
    simp only [sameKinds, Bool.and_eq_true] at h
    simp [sameKinds_len (l := l) (m := m) h.2]
  | .string _ :: l, .string _ :: m, h => by simp [sameKinds_len (l := l) (m := m) h]
/-- One cell of the same kind. -/
def SK1 (x v : Value) : Prop := (∃ a b, x = .bool a ∧ v = .bool b) ∨ (∃ q a b, x = .int q a ∧ v = .int q b) ∨ ∃ a b, x = .string a ∧ v = .string b
theorem sk_inv {xs z : List Value} {v : Value} (h : sameKinds xs (v :: z) = true) : ∃ x l, xs = x :: l ∧ SK1 x v ∧ sameKinds l z = true := by
  generalize e : v :: z = w at h
  unfold sameKinds at h
  split at h
  · cases e
  · cases e; exact ⟨_, _, rfl, .inl ⟨_, _, rfl, rfl⟩, h⟩
  · cases e
    simp only [Bool.and_eq_true, decide_eq_true_eq] at h
    obtain ⟨rfl, h⟩ := h
    exact ⟨_, _, rfl, .inr (.inl ⟨_, _, _, rfl, rfl⟩), h⟩
  · cases e; exact ⟨_, _, rfl, .inr (.inr ⟨_, _, rfl, rfl⟩), h⟩
  · cases h
theorem sk_nil {xs : List Value} (h : sameKinds xs [] = true) : xs = [] := List.length_eq_zero_iff.1 (sameKinds_len h)
theorem sk_cons {x v : Value} {l z : List Value} (h : SK1 x v) (h2 : sameKinds l z = true) : sameKinds (x :: l) (v :: z) = true := by
  rcases h with ⟨a, b, rfl, rfl⟩ | ⟨q, a, b, rfl, rfl⟩ | ⟨a, b, rfl, rfl⟩
  · exact h2
  · simp only [sameKinds, decide_true, Bool.true_and]; exact h2
  · exact h2
theorem sameKinds_split : ∀ {z xs zs : List Value}, sameKinds xs (z ++ zs) = true → ∃ x1 x2, xs = x1 ++ x2 ∧ sameKinds x1 z = true ∧ sameKinds x2 zs = true
  | [], xs, zs, h => ⟨[], xs, rfl, rfl, h⟩
  | v :: z, xs, zs, h => by
    obtain ⟨x, l, rfl, h1, h2⟩ := sk_inv (z := z ++ zs) h
    obtain ⟨x1, x2, rfl, h3, h4⟩ := sameKinds_split h2
    exact ⟨x :: x1, x2, rfl, sk_cons h1 h3, h4⟩
theorem eqCells_append : ∀ {z x1 y1 x2 y2 : List Value}, sameKinds x1 z = true → sameKinds y1 z = true → eqCells (x1 ++ x2) (y1 ++ y2) = (eqCells x1 y1 && eqCells x2 y2)
  | [], x1, y1, x2, y2, h1, h2 => by
    rw [sk_nil h1, sk_nil h2]
    simp [eqCells]
  | v :: z, x1, y1, x2, y2, h1, h2 => by
    obtain ⟨x, l, rfl, a1, a2⟩ := sk_inv h1
    obtain ⟨y, m, rfl, b1, b2⟩ := sk_inv h2
    have ih := eqCells_append (x2 := x2) (y2 := y2) a2 b2
    rcases a1 with ⟨p, _, rfl, rfl⟩ | ⟨q, p, _, rfl, rfl⟩ | ⟨p, _, rfl, rfl⟩
    all_goals
      rcases b1 with ⟨r, _, rfl, e⟩ | ⟨q', r, _, rfl, e⟩ | ⟨r, _, rfl, e⟩
    all_goals first | (cases e; done) | skip
    all_goals
      simp only [List.cons_append, eqCells, ih, Bool.and_assoc]
theorem sk_one {xs : List Value} {v : Value} (h : sameKinds xs [v] = true) : ∃ x, xs = [x] ∧ SK1 x v := by
  obtain ⟨x, l, rfl, h1, h2⟩ := sk_inv h
  rw [sk_nil h2]
  exact ⟨x, rfl, h1⟩

def toV (b : Bool) (xs : List Value) : Value := if b then .agg ⟨xs⟩ else xs.getD 0 undef
theorem fieldsZ_spec {P : Program} {d : Nat} (ih : ∀ t b z, typeZ P d t = some (b, z) → ∀ n xs ys w, sameKinds xs z = true → sameKinds ys z = true → (Op.equalIn (n + d) t (toV b xs) (toV b ys)).run P w = .ok (eqCells xs ys) w) (n : Nat) (w : World) (XS YS : List Value) :
    ∀ (l : List Field) (o : Nat) (z : List Value), fieldsZ P (typeZ P d) o l = some z → ∀ xs ys, sameKinds xs z = true → sameKinds ys z = true → (∀ j v, xs[j]? = some v → XS[o + j]? = some v) → (∀ j v, ys[j]? = some v → YS[o + j]? = some v) →
      (Op.eqFields (n + d) ⟨XS⟩ ⟨YS⟩ l).run P w = .ok (eqCells xs ys) w
  | [], o, z, h, xs, ys, h1, h2, _, _ => by
    cases h
    have e1 := sameKinds_len h1
    have e2 := sameKinds_len h2
    have e1 : xs = [] := List.length_eq_zero_iff.1 e1
    have e2 : ys = [] := List.length_eq_zero_iff.1 e2
    subst e1; subst e2
    rfl
  | f :: l, o, z, h, xs, ys, h1, h2, hx, hy => by
    unfold fieldsZ at h
    split at h
    · rename_i b z1 i dd hb hg hi hu
      split at h
      · rename_i hc
        split at h
        · rename_i zs hz
          cases h
          simp only [Bool.and_eq_true] at hb hc
          obtain ⟨⟨c1, c2⟩, c3⟩ := hc
          obtain ⟨x1, x2, rfl, hx1, hx2⟩ := sameKinds_split h1
          obtain ⟨y1, y2, rfl, hy1, hy2⟩ := sameKinds_split h2
          have lx := sameKinds_len hx1
          have ly := sameKinds_len hy1
          have hsz := Nat.eq_of_beq_eq_true c1
          have hfo : FieldOk P f (o, z1.length, b) := ⟨Nat.eq_of_beq_eq_true hb.1, Nat.le_of_ble_eq_true c3, ⟨i, hi, hsz⟩, dd, hu, by simpa using c2⟩
          have p1 := run_part hfo (cs := XS) (vs := x1) lx (fun j v hv => hx j v (by rw [List.getElem?_append_left (by rw [List.getElem?_eq_some_iff] at hv; exact hv.1)]; exact hv)) w
          have p2 := run_part hfo (cs := YS) (vs := y1) ly (fun j v hv => hy j v (by rw [List.getElem?_append_left (by rw [List.getElem?_eq_some_iff] at hv; exact hv.1)]; exact hv)) w
          have p3 := ih f.type b z1 hg n x1 y1 w hx1 hy1
          have p4 := fieldsZ_spec ih n w XS YS l (o + z1.length) zs hz x2 y2 hx2 hy2
            (fun j v hv => by
              rw [Nat.add_assoc]
              refine hx _ v ?_
              rw [List.getElem?_append_right (by omega), ← lx, Nat.add_sub_cancel_left]
              exact hv)
            (fun j v hv => by
              rw [Nat.add_assoc]
              refine hy _ v ?_
              rw [List.getElem?_append_right (by omega), ← ly, Nat.add_sub_cancel_left]
              exact hv)
          have hne : f.name ≠ "_" := by simpa using hb.2
          unfold Op.eqFields
          rw [if_pos hne]
          unfold toV at p3
          simp only [Sem.run_bind, p1, p2, Result.andThen_ok]
          rw [p3]
          simp only [Result.andThen_ok]
          rw [eqCells_append hx1 hy1]
          cases eqCells x1 y1
          · rfl
          · simpa using p4
        · cases h
      · cases h
    · cases h
theorem typeZ_spec {P : Program} : ∀ (d : Nat) (t : TypeId) (b : Bool) (z : List Value), typeZ P d t = some (b, z) → ∀ (n : Nat) (xs ys : List Value) (w : World), sameKinds xs z = true → sameKinds ys z = true →
    (Op.equalIn (n + d) t (toV b xs) (toV b ys)).run P w = .ok (eqCells xs ys) w
  | 0, t, b, z, h => by cases h
  | d + 1, t, b, z, h => by
    intro n xs ys w h1 h2
    unfold typeZ at h
    split at h
    · rename_i hu
      cases h
      obtain ⟨x, rfl, a1⟩ := sk_one h1
      obtain ⟨y, rfl, a2⟩ := sk_one h2
      rcases a1 with ⟨x, _, rfl, e⟩ | ⟨_, x, _, rfl, e⟩ | ⟨x, _, rfl, e⟩
      all_goals first | (cases e; done) | skip
      rcases a2 with ⟨y, _, rfl, e⟩ | ⟨_, y, _, rfl, e⟩ | ⟨y, _, rfl, e⟩
      all_goals first | (cases e; done) | skip
      · skip
        rw [show toV false [Value.bool x] = .bool x from rfl, show toV false [Value.bool y] = .bool y from rfl]
        rw [show n + (d + 1) = (n + d) + 1 from rfl, run_equalIn_bool' w (n + d) t x y hu]
        simp [eqCells]
    · rename_i q hu
      cases h
      obtain ⟨x, rfl, a1⟩ := sk_one h1
      obtain ⟨y, rfl, a2⟩ := sk_one h2
      rcases a1 with ⟨x, _, rfl, e⟩ | ⟨q1, x, _, rfl, e⟩ | ⟨x, _, rfl, e⟩
      all_goals first | (cases e; done) | skip
      cases e
      rcases a2 with ⟨y, _, rfl, e⟩ | ⟨q2, y, _, rfl, e⟩ | ⟨y, _, rfl, e⟩
      all_goals first | (cases e; done) | skip
      cases e
      · skip
        rw [show toV false [Value.int q x] = .int q x from rfl, show toV false [Value.int q y] = .int q y from rfl]
        rw [show n + (d + 1) = (n + d) + 1 from rfl, run_equalIn_int w (n + d) t q q x y hu]
        simp [eqCells]
    · rename_i hu
      cases h
      obtain ⟨x, rfl, a1⟩ := sk_one h1
      obtain ⟨y, rfl, a2⟩ := sk_one h2
      rcases a1 with ⟨x, _, rfl, e⟩ | ⟨_, x, _, rfl, e⟩ | ⟨x, _, rfl, e⟩
      all_goals first | (cases e; done) | skip
      rcases a2 with ⟨y, _, rfl, e⟩ | ⟨_, y, _, rfl, e⟩ | ⟨y, _, rfl, e⟩
      all_goals first | (cases e; done) | skip
      · skip
        rw [show toV false [Value.string x] = .string x from rfl, show toV false [Value.string y] = .string y from rfl]
        rw [show n + (d + 1) = (n + d) + 1 from rfl, run_equalIn_string w (n + d) t x y hu]
        simp [eqCells]
    · rename_i fs hu
      split at h
      · cases h
      · rename_i hst
        split at h
        · rename_i z0 hz
          cases h
          have hfs : P.fieldsOf t = fs := by unfold Program.fieldsOf; rw [hu]
          show (Op.equalIn (n + (d + 1)) t (.agg ⟨xs⟩) (.agg ⟨ys⟩)).run P w = _
          rw [show n + (d + 1) = (n + d) + 1 from rfl, run_equalIn_struct w (n + d) t ⟨xs⟩ ⟨ys⟩ (by rw [hfs]; exact hu) hst, hfs]
          exact fieldsZ_spec (typeZ_spec d) n w xs ys fs.toList 0 _ hz xs ys h1 h2 (fun j v hv => by rw [Nat.zero_add]; exact hv) (fun j v hv => by rw [Nat.zero_add]; exact hv)
        · cases h
    · cases h
theorem eqTy {P : Program} {t : TypeId} {z : List Value} (h : typeZ P 5 t = some (true, z)) (hg : P.eqGuardType P.depth t = false) : EqTy P t z := by
  intro xs ys w h1 h2
  refine ⟨?_, fun x y op => run_eqGuard_agg w op t x y ⟨xs⟩ ⟨ys⟩ hg⟩
  exact typeZ_spec 5 t true z h 9995 xs ys w h1 h2
end Go.Ae
/- A function called with a block of which less is known. -/
set_option linter.unusedVariables false
set_option linter.unusedSimpArgs false
namespace Go.Ae
open Go Go.RowKit

def weakFT (F : FT) : FT := fun args H K => ∃ (id : Nat) (b' : Blk), blkK H id fun b => (BlkLe b' b ∧ b'.rc = none) ∧ setB H id (some b') fun H' => F args H' K
theorem weak_ft {P : Program} {f : FuncId} {F : FT} (h : FTOk P f F) : FTOk P f (weakFT F) := by
  refine ⟨h.enters, fun args H K hF ν as w n O has hH hfr hown => ?_⟩
  obtain ⟨id, b', hF⟩ := hF
  obtain ⟨b, hb, ⟨hle, hrc⟩, hF⟩ := blkK_spec hF
  obtain ⟨hlt, hF⟩ := setB_spec hF
  have hle' : BlkLe' b' b := { toBlkLe := hle, rc := hrc }
  have hset : ∀ (j : Nat) (c : Blk), (H.set id (some b'))[j]? = some (some c) → (j = id ∧ c = b') ∨ (j ≠ id ∧ H[j]? = some (some c)) := fun j c hj => by
    by_cases e : j = id
    · subst e; rw [List.getElem?_set_self hlt] at hj; cases hj; exact .inl ⟨rfl, rfl⟩
    · rw [List.getElem?_set_ne (Ne.symm e)] at hj; exact .inr ⟨e, hj⟩
  have hback : ∀ (j : Nat) (c : Blk), (H.set id (some b'))[j]? = some (some c) → ∃ c0, H[j]? = some (some c0) ∧ (c.own = true → c0.own = true) := fun j c hj => by
    rcases hset j c hj with ⟨rfl, rfl⟩ | ⟨_, hj⟩
    · exact ⟨b, hb, fun ho => (Blk.ownC_spec (hle.own ho).1).1⟩
    · exact ⟨c, hj, fun h => h⟩
  refine h.calls args _ K hF ν as w n O has ⟨fun j c hj => ?_, fun i j bi bj li lj h1 h2 hne ho e1 e2 => ?_⟩ (fun j hj => hfr j (by simpa using hj)) (fun j c l hj ho hl => ?_)
  · rcases hset j c hj with ⟨rfl, rfl⟩ | ⟨_, hj⟩
    · obtain ⟨l, h1, h2⟩ := hH.blk _ _ hb
      exact ⟨l, h1, h2.le hle'⟩
    · exact hH.blk j c hj
  · obtain ⟨ci, q1, q2⟩ := hback i bi h1
    obtain ⟨cj, p1, p2⟩ := hback j bj h2
    exact hH.sep i j ci cj li lj q1 p1 hne (q2 ho) e1 e2
  · obtain ⟨c0, q1, q2⟩ := hback j c hj
    exact hown j c0 l q1 (q2 ho) hl
/-- The first range over a function in some code. -/
def findR : Code → Option (Array Nat × Code × Code)
  | .rangeFunc _ ps a b => some (ps, a, b)
  | .seq a b => match findR a with
    | some x => some x
    | none => findR b
  | .block _ c => findR c
  | .loop c => findR c
  | .cond _ a b => match findR a with
    | some x => some x
    | none => findR b
  | _ => none
/-- Its record, ready for a round. -/
def recR (f : Func) (fn : FuncId) (tm : Array Value) (df : Nat) : Loop :=
  match f.body with
  | some c => match findR c with
    | some (ps, a, b) => ⟨.ready, none, fn, tm, ps, a, b, df⟩
    | none => ⟨.ready, none, fn, tm, #[], .skip, .skip, df⟩
  | none => ⟨.ready, none, fn, tm, #[], .skip, .skip, df⟩
/-- A slice that grows, and its block. -/
def oVal (id : Nat) : Nat → Value
  | 0 => .slice none 0 0
  | q + 1 => .slice (some ⟨id, 0, none⟩) (q + 1) capU
def oBlk (e : Nat) (F : Nat → List Value) : Nat → Heap
  | 0 => []
  | q + 1 => [some (.flat true (q + 1) e F)]
end Go.Ae
