/- What the laws share: a record's block, as Few leaves it. The law RecCleans, walked by hand. -/
import Derived.Test.YtdphikbkknkhiaaRecSame
import Derived.Test.YtdphikbkknkhiaaRecAwake
import Derived.Test.YtdphikbkknkhiaaFew
import Derived.Test.YtdphikbkknkhiaaRefClean
namespace Go.Proofs.Ytdphikbkknkhiaa.PAll
open Go.RowKit Go.Proofs.Ytdphikbkknkhiaa.Pure Go.Proofs.YtdphikbkknkhiaaW.PrintWords Go.Proofs.YtdphikbkknkhiaaW.PrintLast Go.Proofs.YtdphikbkknkhiaaW.PrintMore
set_option linter.unusedVariables false
set_option linter.unusedSimpArgs false

theorem RRow.few {w : World} {r : RV} {li : List S36} {lt : List S55} (h : RRow w r li lt) : RRow w (fewR r) (li.take 20) (lt.take 300) := by
  obtain ⟨a1, a2, a3, a4, a5, a6⟩ := h
  have e1 : (r.images.cut 20).A = r.images.A := by unfold Sl.cut; split <;> rfl
  have e2 : (r.images.cut 20).c = r.images.c := by unfold Sl.cut; split <;> rfl
  have e3 : (r.images.cut 20).n = (li.take 20).length := by
    unfold Sl.cut; rw [List.length_take]; split
    · show (20 : Nat) = _; omega
    · omega
  have f1 : (r.table.cut 300).A = r.table.A := by unfold Sl.cut; split <;> rfl
  have f2 : (r.table.cut 300).c = r.table.c := by unfold Sl.cut; split <;> rfl
  have f3 : (r.table.cut 300).n = (lt.take 300).length := by
    unfold Sl.cut; rw [List.length_take]; split
    · show (300 : Nat) = _; omega
    · omega
  have hi : Kd.C k36 w r.images.A (li.take 20).length (li.take 20) := by
    by_cases h : 20 ≤ li.length
    · exact Kd.C_take a1 h
    · rw [List.take_of_length_le (by omega)]; exact a1
  have ht : Kd.C k55 w r.table.A (lt.take 300).length (lt.take 300) := by
    by_cases h : 300 ≤ lt.length
    · exact Kd.C_take a4 h
    · rw [List.take_of_length_le (by omega)]; exact a4
  have l1 : (li.take 20).length ≤ li.length := by rw [List.length_take]; omega
  have l2 : (lt.take 300).length ≤ lt.length := by rw [List.length_take]; omega
  exact ⟨by show Kd.C k36 w (r.images.cut 20).A _ _; rw [e1]; exact hi, e3, by show _ ≤ (r.images.cut 20).c; rw [e2]; omega, by show Kd.C k55 w (r.table.cut 300).A _ _; rw [f1]; exact ht, f3, by show _ ≤ (r.table.cut 300).c; rw [f2]; omega⟩
theorem s13_step (kind txn prev page act : Int) (key old new_ : ByteArray) (next : Int) (iA : Option Addr) (in_ ic : Nat) (tA : Option Addr) (tn tc : Nat) (epoch node : Int) {w0 w w' : World} {g : Nat} (h : Below w0.heap.size w0 w ∧ w.cell? ⟨g, 0, none⟩ = some (.int .i64 kind) ∧ w.cell? ⟨g, 1, none⟩ = some (.int .i64 txn) ∧ w.cell? ⟨g, 2, none⟩ = some (.int .i64 prev) ∧ w.cell? ⟨g, 3, none⟩ = some (.int .i64 page) ∧ w.cell? ⟨g, 4, none⟩ = some (.int .i64 act) ∧ w.cell? ⟨g, 5, none⟩ = some (.string key) ∧ w.cell? ⟨g, 6, none⟩ = some (.string old) ∧ w.cell? ⟨g, 7, none⟩ = some (.string new_) ∧ w.cell? ⟨g, 8, none⟩ = some (.int .i64 next) ∧ w.cell? ⟨g, 9, none⟩ = some (.slice iA in_ ic) ∧ w.cell? ⟨g, 10, none⟩ = some (.slice tA tn tc) ∧ w.cell? ⟨g, 11, none⟩ = some (.int .i64 epoch) ∧ w.cell? ⟨g, 12, none⟩ = some (.int .i64 node)) (hb : Below w.heap.size w w') : Below w0.heap.size w0 w' ∧ w'.cell? ⟨g, 0, none⟩ = some (.int .i64 kind) ∧ w'.cell? ⟨g, 1, none⟩ = some (.int .i64 txn) ∧ w'.cell? ⟨g, 2, none⟩ = some (.int .i64 prev) ∧ w'.cell? ⟨g, 3, none⟩ = some (.int .i64 page) ∧ w'.cell? ⟨g, 4, none⟩ = some (.int .i64 act) ∧ w'.cell? ⟨g, 5, none⟩ = some (.string key) ∧ w'.cell? ⟨g, 6, none⟩ = some (.string old) ∧ w'.cell? ⟨g, 7, none⟩ = some (.string new_) ∧ w'.cell? ⟨g, 8, none⟩ = some (.int .i64 next) ∧ w'.cell? ⟨g, 9, none⟩ = some (.slice iA in_ ic) ∧ w'.cell? ⟨g, 10, none⟩ = some (.slice tA tn tc) ∧ w'.cell? ⟨g, 11, none⟩ = some (.int .i64 epoch) ∧ w'.cell? ⟨g, 12, none⟩ = some (.int .i64 node) := by
  obtain ⟨h, h0, h1, h2, h3, h4, h5, h6, h7, h8, h9, h10, h11, h12⟩ := h
  exact ⟨below_step h hb, cell_below hb h0, cell_below hb h1, cell_below hb h2, cell_below hb h3, cell_below hb h4, cell_below hb h5, cell_below hb h6, cell_below hb h7, cell_below hb h8, cell_below hb h9, cell_below hb h10, cell_below hb h11, cell_below hb h12⟩
theorem s13_below (kind txn prev page act : Int) (key old new_ : ByteArray) (next : Int) (iA : Option Addr) (in_ ic : Nat) (tA : Option Addr) (tn tc : Nat) (epoch node : Int) {w0 w : World} {g : Nat} (h : Below w0.heap.size w0 w ∧ w.cell? ⟨g, 0, none⟩ = some (.int .i64 kind) ∧ w.cell? ⟨g, 1, none⟩ = some (.int .i64 txn) ∧ w.cell? ⟨g, 2, none⟩ = some (.int .i64 prev) ∧ w.cell? ⟨g, 3, none⟩ = some (.int .i64 page) ∧ w.cell? ⟨g, 4, none⟩ = some (.int .i64 act) ∧ w.cell? ⟨g, 5, none⟩ = some (.string key) ∧ w.cell? ⟨g, 6, none⟩ = some (.string old) ∧ w.cell? ⟨g, 7, none⟩ = some (.string new_) ∧ w.cell? ⟨g, 8, none⟩ = some (.int .i64 next) ∧ w.cell? ⟨g, 9, none⟩ = some (.slice iA in_ ic) ∧ w.cell? ⟨g, 10, none⟩ = some (.slice tA tn tc) ∧ w.cell? ⟨g, 11, none⟩ = some (.int .i64 epoch) ∧ w.cell? ⟨g, 12, none⟩ = some (.int .i64 node)) : Below w0.heap.size w0 w := h.1
theorem s13_new (kind txn prev page act : Int) (key old new_ : ByteArray) (next : Int) (iA : Option Addr) (in_ ic : Nat) (tA : Option Addr) (tn tc : Nat) (epoch node : Int) {w0 w : World} {g : Nat} (hB : Below w0.heap.size w0 w) (h : w.heap[g]? = some (.cells #[.int .i64 kind, .int .i64 txn, .int .i64 prev, .int .i64 page, .int .i64 act, .string key, .string old, .string new_, .int .i64 next, .slice iA in_ ic, .slice tA tn tc, .int .i64 epoch, .int .i64 node] 25 (0, 0))) : Below w0.heap.size w0 w ∧ w.cell? ⟨g, 0, none⟩ = some (.int .i64 kind) ∧ w.cell? ⟨g, 1, none⟩ = some (.int .i64 txn) ∧ w.cell? ⟨g, 2, none⟩ = some (.int .i64 prev) ∧ w.cell? ⟨g, 3, none⟩ = some (.int .i64 page) ∧ w.cell? ⟨g, 4, none⟩ = some (.int .i64 act) ∧ w.cell? ⟨g, 5, none⟩ = some (.string key) ∧ w.cell? ⟨g, 6, none⟩ = some (.string old) ∧ w.cell? ⟨g, 7, none⟩ = some (.string new_) ∧ w.cell? ⟨g, 8, none⟩ = some (.int .i64 next) ∧ w.cell? ⟨g, 9, none⟩ = some (.slice iA in_ ic) ∧ w.cell? ⟨g, 10, none⟩ = some (.slice tA tn tc) ∧ w.cell? ⟨g, 11, none⟩ = some (.int .i64 epoch) ∧ w.cell? ⟨g, 12, none⟩ = some (.int .i64 node) :=
  ⟨hB, (blk_cell h 0).trans rfl, (blk_cell h 1).trans rfl, (blk_cell h 2).trans rfl, (blk_cell h 3).trans rfl, (blk_cell h 4).trans rfl, (blk_cell h 5).trans rfl, (blk_cell h 6).trans rfl, (blk_cell h 7).trans rfl, (blk_cell h 8).trans rfl, (blk_cell h 9).trans rfl, (blk_cell h 10).trans rfl, (blk_cell h 11).trans rfl, (blk_cell h 12).trans rfl⟩
theorem set_new {w : World} {g : Nat} {cs cs' : Array Value} (h : w.heap[g]? = some (.cells cs 25 (0, 0))) : (w.setRow g cs').heap[g]? = some (.cells cs' 25 (0, 0)) := by
  simp [World.setRow, Array.getElem?_modify, h]
theorem refclean_lit (kind txn prev page act : Int) (key old new_ : ByteArray) (next : Int) (iA : Option Addr) (in_ ic : Nat) (tA : Option Addr) (tn tc : Nat) (epoch node : Int) (q : RV) (hq : cleanR ⟨kind, txn, prev, page, act, key, old, new_, next, ⟨iA, in_, ic⟩, ⟨tA, tn, tc⟩, epoch, node⟩ = q) (w : World) :
    Calls Try.prog 16 #[.agg #[.int .i64 kind, .int .i64 txn, .int .i64 prev, .int .i64 page, .int .i64 act, .string key, .string old, .string new_, .int .i64 next, .slice iA in_ ic, .slice tA tn tc, .int .i64 epoch, .int .i64 node]] w fun e w' => e = .returned (.agg q.cs) ∧ Below w.heap.size w w' := by
  subst hq
  exact refclean_calls ⟨kind, txn, prev, page, act, key, old, new_, next, ⟨iA, in_, ic⟩, ⟨tA, tn, tc⟩, epoch, node⟩ w

set_option maxHeartbeats 8000000 in
set_option maxRecDepth 10000 in
theorem RecCleans.walk (r : RV) (li : List S36) (lt : List S55) (w : World) (h : RRow w r li lt) (hi : SlOk r.images) (ht : SlOk r.table) :
    Calls Try.prog 4 #[.agg r.cs] w fun e w' => e = .returned (.bool true) ∧ Below w.heap.size w w' := by
  have hu25 := Try.underlying25
  have hrow := h.few
  have hfew := fun w1 => few_calls r hi ht w1
  have hl1 : (li.take 20).length ≤ 300 := by rw [List.length_take]; omega
  have hl2 : (lt.take 300).length ≤ 300 := by rw [List.length_take]; omega
  generalize li.take 20 = l1 at *
  generalize lt.take 300 = l2 at *
  generalize fewR r = q at *
  obtain ⟨kind, txn, prev, page, act, key, old, new_, next, ⟨iA, in_, ic⟩, ⟨tA, tn, tc⟩, epoch, node⟩ := q
  have hrc := hrow.clean
  have hc1 := Nat.le_trans (cleanI_le ⟨kind, txn, prev, page, act, key, old, new_, next, ⟨iA, in_, ic⟩, ⟨tA, tn, tc⟩, epoch, node⟩ l1) hl1
  have hc2 := Nat.le_trans (cleanT_le ⟨kind, txn, prev, page, act, key, old, new_, next, ⟨iA, in_, ic⟩, ⟨tA, tn, tc⟩, epoch, node⟩ l2) hl2
  generalize cleanI ⟨kind, txn, prev, page, act, key, old, new_, next, ⟨iA, in_, ic⟩, ⟨tA, tn, tc⟩, epoch, node⟩ l1 = m1 at *
  generalize cleanT ⟨kind, txn, prev, page, act, key, old, new_, next, ⟨iA, in_, ic⟩, ⟨tA, tn, tc⟩, epoch, node⟩ l2 = m2 at *
  obtain ⟨qc, hqc⟩ : ∃ qc, cleanR ⟨kind, txn, prev, page, act, key, old, new_, next, ⟨iA, in_, ic⟩, ⟨tA, tn, tc⟩, epoch, node⟩ = qc := ⟨_, rfl⟩
  rw [hqc] at hrc
  have HF := Lib.hid hfew
  have HRC := Lib.hid hrc
  have HQ := Lib.hid hqc
  have HX := Lib.hid (heap_alloc_new w (.cells r.cs 25))
  have HC1 := Lib.hid hc1
  have HC2 := Lib.hid hc2
  clear hfew hrc hqc hrow hl1 hl2 h hi ht hc1 hc2
  go_enter Try.func4, Try.ntmps4
  go_wp2_with (first
    | (refine wpList_load_row rfl 25 _ rfl w.heap.size rfl 25 _ (0, 0) _ HX.out Try.underlying25 rfl (hinfo25 _) ?_)
    | (go_at_call 9; (with_reducible refine (HF.out _).mono ?_); rintro e' w1 ⟨rfl, hB1⟩; have HX1 := Lib.hid (blk_below HX.out hB1); have HB1 := Lib.hid (below_step (below_alloc (Below.refl _ _) _) hB1); clear hB1)
    | (refine wpList_store_row rfl 25 _ _ rfl w.heap.size (RV.cs ⟨kind, txn, prev, page, act, key, old, new_, next, ⟨iA, in_, ic⟩, ⟨tA, tn, tc⟩, epoch, node⟩) rfl rfl 25 _ HX1.out (hinfo25 _) rfl (rv_one _) ?_))
  have hS0 := s13_new kind txn prev page act key old new_ next iA in_ ic tA tn tc epoch node (setRow_below HB1.out (Nat.le_refl w.heap.size) (RV.cs ⟨kind, txn, prev, page, act, key, old, new_, next, ⟨iA, in_, ic⟩, ⟨tA, tn, tc⟩, epoch, node⟩)) (set_new HX1.out)
  go_region_held3 (fun w' => Below w.heap.size w w' ∧ w'.cell? ⟨w.heap.size, 0, none⟩ = some (.int .i64 kind) ∧ w'.cell? ⟨w.heap.size, 1, none⟩ = some (.int .i64 txn) ∧ w'.cell? ⟨w.heap.size, 2, none⟩ = some (.int .i64 prev) ∧ w'.cell? ⟨w.heap.size, 3, none⟩ = some (.int .i64 page) ∧ w'.cell? ⟨w.heap.size, 4, none⟩ = some (.int .i64 act) ∧ w'.cell? ⟨w.heap.size, 5, none⟩ = some (.string key) ∧ w'.cell? ⟨w.heap.size, 6, none⟩ = some (.string old) ∧ w'.cell? ⟨w.heap.size, 7, none⟩ = some (.string new_) ∧ w'.cell? ⟨w.heap.size, 8, none⟩ = some (.int .i64 next) ∧ w'.cell? ⟨w.heap.size, 9, none⟩ = some (.slice iA in_ ic) ∧ w'.cell? ⟨w.heap.size, 10, none⟩ = some (.slice tA tn tc) ∧ w'.cell? ⟨w.heap.size, 11, none⟩ = some (.int .i64 epoch) ∧ w'.cell? ⟨w.heap.size, 12, none⟩ = some (.int .i64 node)) (first | assumption | exact s13_step kind txn prev page act key old new_ next iA in_ ic tA tn tc epoch node (by assumption) (by assumption) | exact s13_step kind txn prev page act key old new_ next iA in_ ic tA tn tc epoch node (by assumption) (below_drew (Below.refl _ _)) | exact s13_step kind txn prev page act key old new_ next iA in_ ic tA tn tc epoch node (by assumption) (pw_below_drewN (Below.refl _ _) _))
    (first
    | (go_at_call 15; (with_reducible refine (clean_lit kind txn prev page act key old new_ next iA in_ ic tA tn tc epoch node qc HQ.out _).mono ?_); rintro e' w2 ⟨rfl, hB2⟩)
    | (go_at_call 16; (with_reducible refine (refclean_lit kind txn prev page act key old new_ next iA in_ ic tA tn tc epoch node qc HQ.out _).mono ?_); rintro e' w3 ⟨rfl, hB3⟩)
    | (go_at_call 14; (with_reducible refine (same_calls qc qc m1 m2 _ (HRC.out.below (s13_below _ _ _ _ _ _ _ _ _ _ _ _ _ _ _ _ _ (by assumption))) (HRC.out.below (s13_below _ _ _ _ _ _ _ _ _ _ _ _ _ _ _ _ _ (by assumption))) (SameV.refl qc) HC1.out HC2.out).mono ?_); rintro e' w4 ⟨rfl, hB4⟩)
    | (go_at_call 12; (with_reducible refine (awake_calls _).mono ?_); rintro e' w5 ⟨rfl, hB5⟩))
  go_wp2
  go_ret
  exact ⟨rfl, s13_below _ _ _ _ _ _ _ _ _ _ _ _ _ _ _ _ _ (by assumption)⟩
end Go.Proofs.Ytdphikbkknkhiaa.PAll
