/- A slice of structs of one-cell fields, opened: the cell of each field of each element. No seat's number in it. -/
import Derived.Deep.Slices
import Derived.Deep.Fields
import Derived.ChangeSame
import Derived.Lib.SmallJoins
namespace Go.Proofs.Ytfipchighkpobaa.RowFields
open Go.ChangeShapes Go.WideShapes Go.Deep
variable {H : Type} {enc : TypeId × Value → H} {P : Program} {w : World} {base : Nat} {spare : Nat → Bool} {held : Bool}

/-- A cell that reads as a type says. -/
def CellOf (enc : TypeId × Value → H) (P : Program) (w : World) (base : Nat) (spare : Nat → Bool) (held : Bool) (p : Addr) (t : TypeId) : Prop :=
  ∃ v n y, w.cell? p = some v ∧ DataW.trod enc P w base spare held n t [v] = some y
theorem open_row {t e : TypeId} {fs : Array Field} {fuel : Nat} {A : Option Addr} {len cap : Nat} {x : DataW H × List MemPlace} (ht : P.underlying t = some (.slice e)) (he : P.underlying e = some (.struct fs))
    (hone : oneCellFields P fs = true) (hC : P.cellsOf e = fs.size) (h : DataW.trod enc P w base spare held fuel t [.slice A len cap] = some x) :
    (A = none ∧ len = 0 ∧ cap = 0) ∨
    ∃ a, A = some a ∧ len ≤ cap ∧ cap ≤ maxLen ∧ ∀ i, i < len → ∀ (j : Nat) (f : Field), fs[j]? = some f → CellOf enc P w base spare held (a.add (i * fs.size + j)) f.type := by
  rcases open_slice ht h with ⟨h0, _⟩ | ⟨a, l, c, m, n, _, _, hcs, _, hl, hcap, hm, _, hi⟩
  · simp only [List.cons.injEq, Value.slice.injEq, and_true] at h0
    exact .inl h0
  · simp only [List.cons.injEq, Value.slice.injEq, and_true] at hcs
    obtain ⟨rfl, rfl, rfl⟩ := hcs
    refine .inr ⟨a, rfl, hl, hcap, fun i hil j f hj => ?_⟩
    have him : i < m := by rw [hm]; split <;> omega
    obtain ⟨cs, hc, htr⟩ := hi i him
    rw [hC] at hc
    obtain ⟨ys, n', _, _, _, hyl, hf⟩ := DataW.trod_struct he htr
    obtain ⟨_, hcl, hat⟩ := World.cells?_some hc
    obtain ⟨ho, hk⟩ := hone_of hone j f hj
    have hjl : j < fs.size := (Array.getElem?_eq_some_iff.1 hj).1
    have hjc : j < cs.length := by omega
    have h1 := hf j f hj
    rw [ho, hk, List.drop_eq_getElem_cons hjc, List.take_succ_cons, List.take_zero] at h1
    refine ⟨cs[j], n', ys[j]'(by omega), ?_, h1.trans (List.getElem?_eq_getElem (by omega))⟩
    have h2 := hat j hjl
    rw [Go.Deep.add_add, List.getElem?_eq_getElem hjc] at h2
    exact h2
theorem off_at (a : Addr) (i j : Nat) (h : 0 < j) : a.add (i + j) = ⟨(a.add i).block, (a.add i).off + j, none⟩ := by
  unfold Addr.add
  rw [if_neg (by omega)]
  split
  · subst_vars; simp
  · simp [Nat.add_assoc]
theorem int_at {p : Addr} {t : TypeId} {k : IntKind} (ht : P.underlying t = some (.int k)) (h : CellOf enc P w base spare held p t) : ∃ n : Int, w.cell? p = some (.int k n) ∧ (Lit.int k n).wf = true := by
  obtain ⟨v, n, y, hc, hy⟩ := h
  obtain ⟨z, hz, _, hw⟩ := DataW.trod_int ht hy
  simp only [List.cons.injEq, and_true] at hz
  subst hz
  exact ⟨z, hc, hw⟩
theorem str_at {p : Addr} {t : TypeId} (ht : P.underlying t = some .string) (h : CellOf enc P w base spare held p t) : ∃ s : ByteArray, w.cell? p = some (.string s) ∧ s.size ≤ maxLen := by
  obtain ⟨v, n, y, hc, hy⟩ := h
  obtain ⟨z, hz, _, hw⟩ := DataW.trod_string ht hy
  simp only [List.cons.injEq, and_true] at hz
  subst hz
  exact ⟨z, hc, hw⟩
/-- A value that reads as a type says. -/
def ValOf (enc : TypeId × Value → H) (P : Program) (w : World) (base : Nat) (spare : Nat → Bool) (held : Bool) (u : Option Value) (t : TypeId) : Prop :=
  ∃ v n y, u = some v ∧ DataW.trod enc P w base spare held n t [v] = some y
/-- A struct of one-cell fields, by value. -/
theorem open_agg {r : Reach} {b0 : Nat} {t : TypeId} {fs : Array Field} {v : Value} {d : DataW H} {p : List MemPlace} (hs : P.underlying t = some (.struct fs)) (hone : oneCellFields P fs = true) (hC : P.cellsOf t = fs.size)
    (hv : Value.okWide P w r b0 t v) (h : DataW.Trod enc P w base spare held t v d p) : ∃ cs : Array Value, v = .agg cs ∧ cs.size = fs.size ∧ ∀ (j : Nat) (f : Field), fs[j]? = some f → ValOf enc P w base spare held cs[j]? f.type := by
  obtain ⟨cs, rfl, hsz⟩ := okWide_struct hs hv
  have hz : cs.size = fs.size := hsz.trans hC
  refine ⟨cs, rfl, hz, fun j f hj => ?_⟩
  obtain ⟨fuel, hf⟩ := h
  obtain ⟨ys, n', _, _, _, hyl, hg⟩ := DataW.trod_struct hs hf
  obtain ⟨ho, hk⟩ := hone_of hone j f hj
  have hjl : j < fs.size := (Array.getElem?_eq_some_iff.1 hj).1
  have hjc : j < cs.size := by omega
  have h1 := hg j f hj
  have hl : (Value.agg cs).cells.toList = cs.toList := by simp [Value.cells]
  have hjc' : j < cs.toList.length := by simpa using hjc
  rw [ho, hk, hl, List.drop_eq_getElem_cons hjc', List.take_succ_cons, List.take_zero] at h1
  exact ⟨cs[j], n', ys[j]'(by omega), Array.getElem?_eq_getElem hjc, h1.trans (List.getElem?_eq_getElem (by omega))⟩
theorem int_val {u : Option Value} {t : TypeId} {k : IntKind} (ht : P.underlying t = some (.int k)) (h : ValOf enc P w base spare held u t) : ∃ n : Int, u = some (.int k n) ∧ (Lit.int k n).wf = true := by
  obtain ⟨v, n, y, hc, hy⟩ := h
  obtain ⟨z, hz, _, hw⟩ := DataW.trod_int ht hy
  simp only [List.cons.injEq, and_true] at hz
  subst hz
  exact ⟨z, hc, hw⟩
theorem str_val {u : Option Value} {t : TypeId} (ht : P.underlying t = some .string) (h : ValOf enc P w base spare held u t) : ∃ s : ByteArray, u = some (.string s) ∧ s.size ≤ maxLen := by
  obtain ⟨v, n, y, hc, hy⟩ := h
  obtain ⟨z, hz, _, hw⟩ := DataW.trod_string ht hy
  simp only [List.cons.injEq, and_true] at hz
  subst hz
  exact ⟨z, hc, hw⟩
end Go.Proofs.Ytfipchighkpobaa.RowFields
