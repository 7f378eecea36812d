/- A record that comes in, opened: its values and its rows. -/
import Derived.Test.YtdphikbkknkhiaaRowFields
import Derived.Test.YtdphikbkknkhiaaRecLaw
namespace Go.Proofs.Ytdphikbkknkhiaa.PAll
open Go.RowKit Go.ChangeShapes Go.WideShapes Go.Deep Go.Proofs.Ytdphikbkknkhiaa.Pure Go.Proofs.YtdphikbkknkhiaaW.PrintWords Go.Proofs.YtdphikbkknkhiaaW.PrintLast Go.Proofs.YtdphikbkknkhiaaW.PrintMore
open RowFields (CellOf ValOf open_row off_at int_at str_at open_agg int_val str_val)
set_option linter.unusedVariables false
set_option linter.unusedSimpArgs false

section
variable {H : Type} {enc : TypeId × Value → H} {w : World} {base : Nat} {spare : Nat → Bool} {held : Bool}
theorem slice_val {t e : TypeId} {fs : Array Field} {u : Option Value} (ht : Try.prog.underlying t = some (.slice e)) (he : Try.prog.underlying e = some (.struct fs))
    (hone : oneCellFields Try.prog fs = true) (hC : Try.prog.cellsOf e = fs.size) (h : ValOf enc Try.prog w base spare held u t) : ∃ x : Sl, u = some (.slice x.A x.n x.c) ∧ SlOk x ∧
    (∀ i, i < x.n → ∃ a, x.A = some a ∧ ∀ (j : Nat) (f : Field), fs[j]? = some f → CellOf enc Try.prog w base spare held (a.add (i * fs.size + j)) f.type) := by
  obtain ⟨v, n, y, hu, hy⟩ := h
  have hv : ∃ A l c, v = .slice A l c := by
    rcases open_slice ht hy with ⟨h0, _⟩ | ⟨a, l, c, _, _, _, _, h0, _⟩
    · simp only [List.cons.injEq, and_true] at h0
      exact ⟨_, _, _, h0⟩
    · simp only [List.cons.injEq, and_true] at h0
      exact ⟨_, _, _, h0⟩
  obtain ⟨A, l, c, rfl⟩ := hv
  rcases open_row ht he hone hC hy with ⟨rfl, rfl, rfl⟩ | ⟨a, rfl, hl, hm, hx⟩
  · exact ⟨⟨none, 0, 0⟩, hu, ⟨fun _ => rfl, Nat.le_refl _, by show (0 : Nat) ≤ _; omega⟩, fun i hi => absurd hi (by simp)⟩
  · exact ⟨⟨some a, l, c⟩, hu, ⟨fun h => by simp at h, hl, hm⟩, fun i hi => ⟨a, rfl, hx i hi⟩⟩
theorem rowC36 (x : Sl) (hm : SlOk x) (hx : ∀ i, i < x.n → ∃ a, x.A = some a ∧ ∃ (n0 : Int) (n1 : ByteArray), w.cell? (a.add (i * 2 + 0)) = some (.int .i64 n0) ∧ w.cell? (a.add (i * 2 + 1)) = some (.string n1)) :
    ∃ l : List S36, x.n = l.length ∧ Kd.C k36 w x.A l.length l := by
  have h : ∀ i, ∃ s : S36, i < x.n → ∃ a, x.A = some a ∧ w.cell? (a.add (i * 2 + 0)) = some (.int .i64 s.f0) ∧ w.cell? (a.add (i * 2 + 1)) = some (.string s.f1) := by
    intro i
    by_cases hi : i < x.n
    · obtain ⟨a, ha, n0, n1, h0, h1⟩ := hx i hi
      exact ⟨⟨n0, n1⟩, fun _ => ⟨a, ha, h0, h1⟩⟩
    · exact ⟨z36, fun c => absurd c hi⟩
  obtain ⟨f, hf⟩ := Classical.axiomOfChoice h
  have hlen : ((List.range x.n).map f).length = x.n := by simp
  refine ⟨(List.range x.n).map f, hlen.symm, ?_⟩
  rw [hlen]
  refine ⟨hlen, by have := hm.cap; have := hm.max; have : maxLen ≤ 9223372036854775807 := by decide
                   omega, fun h0 => ?_⟩
  obtain ⟨a, ha, _⟩ := hf 0 h0
  refine ⟨a, ha, fun j p hp => ?_⟩
  have hj : j < x.n := by
    have := (List.getElem?_eq_some_iff.1 hp).1
    simpa using this
  have hp2 : f j = p := by
    rw [List.getElem?_map, List.getElem?_range hj] at hp
    simpa using hp
  obtain ⟨a2, ha2, c0, c1⟩ := hf j hj
  rw [ha] at ha2
  obtain rfl := Option.some.inj ha2
  rw [hp2] at c0 c1
  refine ⟨_, rfl, k36_mk w p, fun i u hu => ?_⟩
  match i with
  | 0 => rw [← Option.some.inj hu]; exact c0
  | 1 => rw [← Option.some.inj hu]; exact c1
  | i + 2 => exact absurd hu (by simp)
theorem rowC55 (x : Sl) (hm : SlOk x) (hx : ∀ i, i < x.n → ∃ a, x.A = some a ∧ ∃ (n0 : Int) (n1 : Int), w.cell? (a.add (i * 2 + 0)) = some (.int .i64 n0) ∧ w.cell? (a.add (i * 2 + 1)) = some (.int .i64 n1)) :
    ∃ l : List S55, x.n = l.length ∧ Kd.C k55 w x.A l.length l := by
  have h : ∀ i, ∃ s : S55, i < x.n → ∃ a, x.A = some a ∧ w.cell? (a.add (i * 2 + 0)) = some (.int .i64 s.f0) ∧ w.cell? (a.add (i * 2 + 1)) = some (.int .i64 s.f1) := by
    intro i
    by_cases hi : i < x.n
    · obtain ⟨a, ha, n0, n1, h0, h1⟩ := hx i hi
      exact ⟨⟨n0, n1⟩, fun _ => ⟨a, ha, h0, h1⟩⟩
    · exact ⟨z55, fun c => absurd c hi⟩
  obtain ⟨f, hf⟩ := Classical.axiomOfChoice h
  have hlen : ((List.range x.n).map f).length = x.n := by simp
  refine ⟨(List.range x.n).map f, hlen.symm, ?_⟩
  rw [hlen]
  refine ⟨hlen, by have := hm.cap; have := hm.max; have : maxLen ≤ 9223372036854775807 := by decide
                   omega, fun h0 => ?_⟩
  obtain ⟨a, ha, _⟩ := hf 0 h0
  refine ⟨a, ha, fun j p hp => ?_⟩
  have hj : j < x.n := by
    have := (List.getElem?_eq_some_iff.1 hp).1
    simpa using this
  have hp2 : f j = p := by
    rw [List.getElem?_map, List.getElem?_range hj] at hp
    simpa using hp
  obtain ⟨a2, ha2, c0, c1⟩ := hf j hj
  rw [ha] at ha2
  obtain rfl := Option.some.inj ha2
  rw [hp2] at c0 c1
  refine ⟨_, rfl, k55_mk w p, fun i u hu => ?_⟩
  match i with
  | 0 => rw [← Option.some.inj hu]; exact c0
  | 1 => rw [← Option.some.inj hu]; exact c1
  | i + 2 => exact absurd hu (by simp)
theorem rec_open {r : Reach} {b0 : Nat} {v : Value} {d : DataW H} {p : List MemPlace} (hv : Value.okWide Try.prog w r b0 25 v) (h : DataW.Trod enc Try.prog w base spare held 25 v d p) :
    ∃ (q : RV) (li : List S36) (lt : List S55), v = .agg q.cs ∧ RRow w q li lt ∧ SlOk q.images ∧ SlOk q.table := by
  obtain ⟨cs, rfl, hz, hf⟩ := open_agg Try.underlying25 (by kernel_rfl) (by kernel_rfl) hv h
  obtain ⟨b0, c0, _⟩ := int_val Try.underlying3 (hf 0 _ rfl)
  obtain ⟨b1, c1, _⟩ := int_val Try.underlying3 (hf 1 _ rfl)
  obtain ⟨b2, c2, _⟩ := int_val Try.underlying3 (hf 2 _ rfl)
  obtain ⟨b3, c3, _⟩ := int_val Try.underlying3 (hf 3 _ rfl)
  obtain ⟨b4, c4, _⟩ := int_val Try.underlying3 (hf 4 _ rfl)
  obtain ⟨b5, c5, _⟩ := str_val Try.underlying9 (hf 5 _ rfl)
  obtain ⟨b6, c6, _⟩ := str_val Try.underlying9 (hf 6 _ rfl)
  obtain ⟨b7, c7, _⟩ := str_val Try.underlying9 (hf 7 _ rfl)
  obtain ⟨b8, c8, _⟩ := int_val Try.underlying3 (hf 8 _ rfl)
  obtain ⟨b9, c9, o9, g9⟩ := slice_val Try.underlying22 Try.underlying36 (by kernel_rfl) (by kernel_rfl) (hf 9 _ rfl)
  obtain ⟨b10, c10, o10, g10⟩ := slice_val Try.underlying23 Try.underlying55 (by kernel_rfl) (by kernel_rfl) (hf 10 _ rfl)
  obtain ⟨b11, c11, _⟩ := int_val Try.underlying3 (hf 11 _ rfl)
  obtain ⟨b12, c12, _⟩ := int_val Try.underlying3 (hf 12 _ rfl)
  obtain ⟨li, hl9, hC9⟩ := rowC36 b9 o9 (fun i hi => by
    obtain ⟨a, ha, hx⟩ := g9 i hi
    obtain ⟨n0, e0, _⟩ := int_at Try.underlying3 (hx 0 _ rfl)
    obtain ⟨n1, e1, _⟩ := str_at Try.underlying9 (hx 1 _ rfl)
    exact ⟨a, ha, n0, n1, e0, e1⟩)
  obtain ⟨lt, hl10, hC10⟩ := rowC55 b10 o10 (fun i hi => by
    obtain ⟨a, ha, hx⟩ := g10 i hi
    obtain ⟨n0, e0, _⟩ := int_at Try.underlying3 (hx 0 _ rfl)
    obtain ⟨n1, e1, _⟩ := int_at Try.underlying3 (hx 1 _ rfl)
    exact ⟨a, ha, n0, n1, e0, e1⟩)
  refine ⟨⟨b0, b1, b2, b3, b4, b5, b6, b7, b8, b9, b10, b11, b12⟩, li, lt, ?_, ⟨hC9, hl9, Nat.le_trans (Nat.le_of_eq hl9.symm) o9.cap, hC10, hl10, Nat.le_trans (Nat.le_of_eq hl10.symm) o10.cap⟩, o9, o10⟩
  congr 1
  apply Array.ext_getElem?
  intro j
  match j with
  | 0 => exact c0.trans rfl
  | 1 => exact c1.trans rfl
  | 2 => exact c2.trans rfl
  | 3 => exact c3.trans rfl
  | 4 => exact c4.trans rfl
  | 5 => exact c5.trans rfl
  | 6 => exact c6.trans rfl
  | 7 => exact c7.trans rfl
  | 8 => exact c8.trans rfl
  | 9 => exact c9.trans rfl
  | 10 => exact c10.trans rfl
  | 11 => exact c11.trans rfl
  | 12 => exact c12.trans rfl
  | j + 13 => rw [Array.getElem?_eq_none (by rw [hz]; show 13 ≤ _; omega), Array.getElem?_eq_none (by show 13 ≤ _; omega)]
end
end Go.Proofs.Ytdphikbkknkhiaa.PAll
