/- What c07's laws share: a record's block, as Few leaves it. -/
import Derived.Test.YtdphikbkknkhiaaRecAwake
import Derived.Test.YtdphikbkknkhiaaFew
import Derived.Test.YtdphikbkknkhiaaRefClean
namespace Go.Proofs.Ytdphikbkknkhiaa.PAll
open Go.RowKit Go.Proofs.Ytdphikbkknkhiaa.Pure Go.Proofs.YtdphikbkknkhiaaW.PrintWords Go.Proofs.YtdphikbkknkhiaaW.PrintLast Go.Proofs.YtdphikbkknkhiaaW.PrintMore
set_option linter.unusedVariables false
set_option linter.unusedSimpArgs false

theorem RRow.few {w : World} {r : RV} {li : List S36} {lt : List S55} (h : RRow w r li lt) : RRow w (fewR r) (li.take 20) (lt.take 300) := by
  obtain ⟨a1, a2, a3, a4, a5, a6⟩ := h
  have e1 : (r.images.cut 20).A = r.images.A := by unfold Sl.cut; split <;> rfl
  have e2 : (r.images.cut 20).c = r.images.c := by unfold Sl.cut; split <;> rfl
  have e3 : (r.images.cut 20).n = (li.take 20).length := by
    unfold Sl.cut; rw [List.length_take]; split
    · show (20 : Nat) = _; omega
    · omega
  have f1 : (r.table.cut 300).A = r.table.A := by unfold Sl.cut; split <;> rfl
  have f2 : (r.table.cut 300).c = r.table.c := by unfold Sl.cut; split <;> rfl
  have f3 : (r.table.cut 300).n = (lt.take 300).length := by
    unfold Sl.cut; rw [List.length_take]; split
    · show (300 : Nat) = _; omega
    · omega
  have hi : Kd.C k36 w r.images.A (li.take 20).length (li.take 20) := by
    by_cases h : 20 ≤ li.length
    · exact Kd.C_take a1 h
    · rw [List.take_of_length_le (by omega)]; exact a1
  have ht : Kd.C k55 w r.table.A (lt.take 300).length (lt.take 300) := by
    by_cases h : 300 ≤ lt.length
    · exact Kd.C_take a4 h
    · rw [List.take_of_length_le (by omega)]; exact a4
  have l1 : (li.take 20).length ≤ li.length := by rw [List.length_take]; omega
  have l2 : (lt.take 300).length ≤ lt.length := by rw [List.length_take]; omega
  exact ⟨by show Kd.C k36 w (r.images.cut 20).A _ _; rw [e1]; exact hi, e3, by show _ ≤ (r.images.cut 20).c; rw [e2]; omega, by show Kd.C k55 w (r.table.cut 300).A _ _; rw [f1]; exact ht, f3, by show _ ≤ (r.table.cut 300).c; rw [f2]; omega⟩
theorem s13_step (kind txn prev page act : Int) (key old new_ : ByteArray) (next : Int) (iA : Option Addr) (in_ ic : Nat) (tA : Option Addr) (tn tc : Nat) (epoch node : Int) {w0 w w' : World} {g : Nat} (h : Below w0.heap.size w0 w ∧ w.cell? ⟨g, 0, none⟩ = some (.int .i64 kind) ∧ w.cell? ⟨g, 1, none⟩ = some (.int .i64 txn) ∧ w.cell? ⟨g, 2, none⟩ = some (.int .i64 prev) ∧ w.cell? ⟨g, 3, none⟩ = some (.int .i64 page) ∧ w.cell? ⟨g, 4, none⟩ = some (.int .i64 act) ∧ w.cell? ⟨g, 5, none⟩ = some (.string key) ∧ w.cell? ⟨g, 6, none⟩ = some (.string old) ∧ w.cell? ⟨g, 7, none⟩ = some (.string new_) ∧ w.cell? ⟨g, 8, none⟩ = some (.int .i64 next) ∧ w.cell? ⟨g, 9, none⟩ = some (.slice iA in_ ic) ∧ w.cell? ⟨g, 10, none⟩ = some (.slice tA tn tc) ∧ w.cell? ⟨g, 11, none⟩ = some (.int .i64 epoch) ∧ w.cell? ⟨g, 12, none⟩ = some (.int .i64 node)) (hb : Below w.heap.size w w') : Below w0.heap.size w0 w' ∧ w'.cell? ⟨g, 0, none⟩ = some (.int .i64 kind) ∧ w'.cell? ⟨g, 1, none⟩ = some (.int .i64 txn) ∧ w'.cell? ⟨g, 2, none⟩ = some (.int .i64 prev) ∧ w'.cell? ⟨g, 3, none⟩ = some (.int .i64 page) ∧ w'.cell? ⟨g, 4, none⟩ = some (.int .i64 act) ∧ w'.cell? ⟨g, 5, none⟩ = some (.string key) ∧ w'.cell? ⟨g, 6, none⟩ = some (.string old) ∧ w'.cell? ⟨g, 7, none⟩ = some (.string new_) ∧ w'.cell? ⟨g, 8, none⟩ = some (.int .i64 next) ∧ w'.cell? ⟨g, 9, none⟩ = some (.slice iA in_ ic) ∧ w'.cell? ⟨g, 10, none⟩ = some (.slice tA tn tc) ∧ w'.cell? ⟨g, 11, none⟩ = some (.int .i64 epoch) ∧ w'.cell? ⟨g, 12, none⟩ = some (.int .i64 node) := by
  obtain ⟨h, h0, h1, h2, h3, h4, h5, h6, h7, h8, h9, h10, h11, h12⟩ := h
  exact ⟨below_step h hb, cell_below hb h0, cell_below hb h1, cell_below hb h2, cell_below hb h3, cell_below hb h4, cell_below hb h5, cell_below hb h6, cell_below hb h7, cell_below hb h8, cell_below hb h9, cell_below hb h10, cell_below hb h11, cell_below hb h12⟩
theorem s13_below (kind txn prev page act : Int) (key old new_ : ByteArray) (next : Int) (iA : Option Addr) (in_ ic : Nat) (tA : Option Addr) (tn tc : Nat) (epoch node : Int) {w0 w : World} {g : Nat} (h : Below w0.heap.size w0 w ∧ w.cell? ⟨g, 0, none⟩ = some (.int .i64 kind) ∧ w.cell? ⟨g, 1, none⟩ = some (.int .i64 txn) ∧ w.cell? ⟨g, 2, none⟩ = some (.int .i64 prev) ∧ w.cell? ⟨g, 3, none⟩ = some (.int .i64 page) ∧ w.cell? ⟨g, 4, none⟩ = some (.int .i64 act) ∧ w.cell? ⟨g, 5, none⟩ = some (.string key) ∧ w.cell? ⟨g, 6, none⟩ = some (.string old) ∧ w.cell? ⟨g, 7, none⟩ = some (.string new_) ∧ w.cell? ⟨g, 8, none⟩ = some (.int .i64 next) ∧ w.cell? ⟨g, 9, none⟩ = some (.slice iA in_ ic) ∧ w.cell? ⟨g, 10, none⟩ = some (.slice tA tn tc) ∧ w.cell? ⟨g, 11, none⟩ = some (.int .i64 epoch) ∧ w.cell? ⟨g, 12, none⟩ = some (.int .i64 node)) : Below w0.heap.size w0 w := h.1
theorem s13_new (kind txn prev page act : Int) (key old new_ : ByteArray) (next : Int) (iA : Option Addr) (in_ ic : Nat) (tA : Option Addr) (tn tc : Nat) (epoch node : Int) {w0 w : World} {g : Nat} (hB : Below w0.heap.size w0 w) (h : w.heap[g]? = some (.cells #[.int .i64 kind, .int .i64 txn, .int .i64 prev, .int .i64 page, .int .i64 act, .string key, .string old, .string new_, .int .i64 next, .slice iA in_ ic, .slice tA tn tc, .int .i64 epoch, .int .i64 node] 25 (0, 0))) : Below w0.heap.size w0 w ∧ w.cell? ⟨g, 0, none⟩ = some (.int .i64 kind) ∧ w.cell? ⟨g, 1, none⟩ = some (.int .i64 txn) ∧ w.cell? ⟨g, 2, none⟩ = some (.int .i64 prev) ∧ w.cell? ⟨g, 3, none⟩ = some (.int .i64 page) ∧ w.cell? ⟨g, 4, none⟩ = some (.int .i64 act) ∧ w.cell? ⟨g, 5, none⟩ = some (.string key) ∧ w.cell? ⟨g, 6, none⟩ = some (.string old) ∧ w.cell? ⟨g, 7, none⟩ = some (.string new_) ∧ w.cell? ⟨g, 8, none⟩ = some (.int .i64 next) ∧ w.cell? ⟨g, 9, none⟩ = some (.slice iA in_ ic) ∧ w.cell? ⟨g, 10, none⟩ = some (.slice tA tn tc) ∧ w.cell? ⟨g, 11, none⟩ = some (.int .i64 epoch) ∧ w.cell? ⟨g, 12, none⟩ = some (.int .i64 node) :=
  ⟨hB, (blk_cell h 0).trans rfl, (blk_cell h 1).trans rfl, (blk_cell h 2).trans rfl, (blk_cell h 3).trans rfl, (blk_cell h 4).trans rfl, (blk_cell h 5).trans rfl, (blk_cell h 6).trans rfl, (blk_cell h 7).trans rfl, (blk_cell h 8).trans rfl, (blk_cell h 9).trans rfl, (blk_cell h 10).trans rfl, (blk_cell h 11).trans rfl, (blk_cell h 12).trans rfl⟩
theorem set_new {w : World} {g : Nat} {cs cs' : Array Value} (h : w.heap[g]? = some (.cells cs 25 (0, 0))) : (w.setRow g cs').heap[g]? = some (.cells cs' 25 (0, 0)) := by
  simp [World.setRow, Array.getElem?_modify, h]
theorem refclean_lit (kind txn prev page act : Int) (key old new_ : ByteArray) (next : Int) (iA : Option Addr) (in_ ic : Nat) (tA : Option Addr) (tn tc : Nat) (epoch node : Int) (q : RV) (hq : cleanR ⟨kind, txn, prev, page, act, key, old, new_, next, ⟨iA, in_, ic⟩, ⟨tA, tn, tc⟩, epoch, node⟩ = q) (w : World) :
    Calls Try.prog 16 #[.agg #[.int .i64 kind, .int .i64 txn, .int .i64 prev, .int .i64 page, .int .i64 act, .string key, .string old, .string new_, .int .i64 next, .slice iA in_ ic, .slice tA tn tc, .int .i64 epoch, .int .i64 node]] w fun e w' => e = .returned (.agg q.cs) ∧ Below w.heap.size w w' := by
  subst hq
  exact refclean_calls ⟨kind, txn, prev, page, act, key, old, new_, next, ⟨iA, in_, ic⟩, ⟨tA, tn, tc⟩, epoch, node⟩ w

end Go.Proofs.Ytdphikbkknkhiaa.PAll
