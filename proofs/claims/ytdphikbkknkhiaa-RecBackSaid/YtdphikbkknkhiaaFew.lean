/- The law's Few, walked by hand: at most 20 images, at most 300 transactions; the slices' rows are not looked into. -/
import Derived.Test.YtdphikbkknkhiaaClean
namespace Go.Proofs.Ytdphikbkknkhiaa.PAll
open Go.RowKit Go.Proofs.YtdphikbkknkhiaaW.PrintWords Go.Proofs.YtdphikbkknkhiaaW.PrintLast Go.Proofs.YtdphikbkknkhiaaW.PrintMore
set_option linter.unusedVariables false
set_option linter.unusedSimpArgs false

def Sl.cut (x : Sl) (m : Nat) : Sl := if m < x.n then ⟨x.A, m, x.c⟩ else x
def fewR (r : RV) : RV := { r with images := r.images.cut 20, table := r.table.cut 300 }

set_option maxHeartbeats 8000000 in
set_option maxRecDepth 10000 in
theorem few_00 (kind txn prev page act : Int) (key old new_ : ByteArray) (next : Int) (iA : Option Addr) (in_ ic : Nat) (tA : Option Addr) (tn tc : Nat) (epoch node : Int) (w : World) (hi : ¬ 20 < in_) (ht : ¬ 300 < tn) :
    Calls Try.prog 9 #[.agg #[.int .i64 kind, .int .i64 txn, .int .i64 prev, .int .i64 page, .int .i64 act, .string key, .string old, .string new_, .int .i64 next, .slice iA in_ ic, .slice tA tn tc, .int .i64 epoch, .int .i64 node]] w fun e w' => e = .returned (.agg (RV.cs ⟨kind, txn, prev, page, act, key, old, new_, next, ⟨iA, in_, ic⟩, ⟨tA, tn, tc⟩, epoch, node⟩)) ∧ Below w.heap.size w w' := by
  have hu25 := Try.underlying25
  have hu22 := Try.underlying22
  have hu23 := Try.underlying23
  have din_1 : decide ((20 : Int) < (in_ : Int)) = false := by simp; omega
  have din_2 : decide (20 < in_) = false := by simp; omega
  have dtn1 : decide ((300 : Int) < (tn : Int)) = false := by simp; omega
  have dtn2 : decide (300 < tn) = false := by simp; omega
  go_enter Try.func9, Try.ntmps9
  go_wp2
  refine bodyPost_ret (results_cell_row (p := 2) (ty := 25) rfl _ _ (w.heap.size + 1) 25 (RV.cs ⟨kind, txn, prev, page, act, key, old, new_, next, ⟨iA, in_, ic⟩, ⟨tA, tn, tc⟩, epoch, node⟩) (0, 0) _ rfl ?_ Try.underlying25 rfl (hinfo25 ⟨kind, txn, prev, page, act, key, old, new_, next, ⟨iA, in_, ic⟩, ⟨tA, tn, tc⟩, epoch, node⟩)) rfl ⟨rfl, ?_⟩
  · exact heap_alloc2_new _ _ _
  · exact below_alloc (below_alloc (Below.refl _ _) _) _

set_option maxHeartbeats 8000000 in
set_option maxRecDepth 10000 in
theorem few_01 (kind txn prev page act : Int) (key old new_ : ByteArray) (next : Int) (iA : Option Addr) (in_ ic : Nat) (tA : Addr) (tn tc : Nat) (epoch node : Int) (w : World) (hi : ¬ 20 < in_) (ht : 300 < tn) (htc : tn ≤ tc) (hmt : tc ≤ maxLen) :
    Calls Try.prog 9 #[.agg #[.int .i64 kind, .int .i64 txn, .int .i64 prev, .int .i64 page, .int .i64 act, .string key, .string old, .string new_, .int .i64 next, .slice iA in_ ic, .slice (some tA) tn tc, .int .i64 epoch, .int .i64 node]] w fun e w' => e = .returned (.agg (RV.cs ⟨kind, txn, prev, page, act, key, old, new_, next, ⟨iA, in_, ic⟩, ⟨some tA, 300, tc⟩, epoch, node⟩)) ∧ Below w.heap.size w w' := by
  have hu25 := Try.underlying25
  have hu22 := Try.underlying22
  have hu23 := Try.underlying23
  have din_1 : decide ((20 : Int) < (in_ : Int)) = false := by simp; omega
  have din_2 : decide (20 < in_) = false := by simp; omega
  have dtn1 : decide ((300 : Int) < (tn : Int)) = true := by simp; omega
  have dtn2 : decide (300 < tn) = true := by simp; omega
  go_enter Try.func9, Try.ntmps9
  go_wp2
  refine bodyPost_ret (results_cell_row (p := 2) (ty := 25) rfl _ _ (w.heap.size + 1) 25 (RV.cs ⟨kind, txn, prev, page, act, key, old, new_, next, ⟨iA, in_, ic⟩, ⟨some tA, 300, tc⟩, epoch, node⟩) (0, 0) _ rfl ?_ Try.underlying25 rfl (hinfo25 ⟨kind, txn, prev, page, act, key, old, new_, next, ⟨iA, in_, ic⟩, ⟨some tA, 300, tc⟩, epoch, node⟩)) rfl ⟨rfl, ?_⟩
  · exact heap_alloc2_new _ _ _
  · exact below_alloc (below_alloc (Below.refl _ _) _) _

set_option maxHeartbeats 8000000 in
set_option maxRecDepth 10000 in
theorem few_10 (kind txn prev page act : Int) (key old new_ : ByteArray) (next : Int) (iA : Addr) (in_ ic : Nat) (tA : Option Addr) (tn tc : Nat) (epoch node : Int) (w : World) (hi : 20 < in_) (hic : in_ ≤ ic) (hmi : ic ≤ maxLen) (ht : ¬ 300 < tn) :
    Calls Try.prog 9 #[.agg #[.int .i64 kind, .int .i64 txn, .int .i64 prev, .int .i64 page, .int .i64 act, .string key, .string old, .string new_, .int .i64 next, .slice (some iA) in_ ic, .slice tA tn tc, .int .i64 epoch, .int .i64 node]] w fun e w' => e = .returned (.agg (RV.cs ⟨kind, txn, prev, page, act, key, old, new_, next, ⟨some iA, 20, ic⟩, ⟨tA, tn, tc⟩, epoch, node⟩)) ∧ Below w.heap.size w w' := by
  have hu25 := Try.underlying25
  have hu22 := Try.underlying22
  have hu23 := Try.underlying23
  have din_1 : decide ((20 : Int) < (in_ : Int)) = true := by simp; omega
  have din_2 : decide (20 < in_) = true := by simp; omega
  have dtn1 : decide ((300 : Int) < (tn : Int)) = false := by simp; omega
  have dtn2 : decide (300 < tn) = false := by simp; omega
  go_enter Try.func9, Try.ntmps9
  go_wp2
  refine bodyPost_ret (results_cell_row (p := 2) (ty := 25) rfl _ _ (w.heap.size + 1) 25 (RV.cs ⟨kind, txn, prev, page, act, key, old, new_, next, ⟨some iA, 20, ic⟩, ⟨tA, tn, tc⟩, epoch, node⟩) (0, 0) _ rfl ?_ Try.underlying25 rfl (hinfo25 ⟨kind, txn, prev, page, act, key, old, new_, next, ⟨some iA, 20, ic⟩, ⟨tA, tn, tc⟩, epoch, node⟩)) rfl ⟨rfl, ?_⟩
  · exact heap_alloc2_new _ _ _
  · exact below_alloc (below_alloc (Below.refl _ _) _) _

set_option maxHeartbeats 8000000 in
set_option maxRecDepth 10000 in
theorem few_11 (kind txn prev page act : Int) (key old new_ : ByteArray) (next : Int) (iA : Addr) (in_ ic : Nat) (tA : Addr) (tn tc : Nat) (epoch node : Int) (w : World) (hi : 20 < in_) (hic : in_ ≤ ic) (hmi : ic ≤ maxLen) (ht : 300 < tn) (htc : tn ≤ tc) (hmt : tc ≤ maxLen) :
    Calls Try.prog 9 #[.agg #[.int .i64 kind, .int .i64 txn, .int .i64 prev, .int .i64 page, .int .i64 act, .string key, .string old, .string new_, .int .i64 next, .slice (some iA) in_ ic, .slice (some tA) tn tc, .int .i64 epoch, .int .i64 node]] w fun e w' => e = .returned (.agg (RV.cs ⟨kind, txn, prev, page, act, key, old, new_, next, ⟨some iA, 20, ic⟩, ⟨some tA, 300, tc⟩, epoch, node⟩)) ∧ Below w.heap.size w w' := by
  have hu25 := Try.underlying25
  have hu22 := Try.underlying22
  have hu23 := Try.underlying23
  have din_1 : decide ((20 : Int) < (in_ : Int)) = true := by simp; omega
  have din_2 : decide (20 < in_) = true := by simp; omega
  have dtn1 : decide ((300 : Int) < (tn : Int)) = true := by simp; omega
  have dtn2 : decide (300 < tn) = true := by simp; omega
  go_enter Try.func9, Try.ntmps9
  go_wp2
  refine bodyPost_ret (results_cell_row (p := 2) (ty := 25) rfl _ _ (w.heap.size + 1) 25 (RV.cs ⟨kind, txn, prev, page, act, key, old, new_, next, ⟨some iA, 20, ic⟩, ⟨some tA, 300, tc⟩, epoch, node⟩) (0, 0) _ rfl ?_ Try.underlying25 rfl (hinfo25 ⟨kind, txn, prev, page, act, key, old, new_, next, ⟨some iA, 20, ic⟩, ⟨some tA, 300, tc⟩, epoch, node⟩)) rfl ⟨rfl, ?_⟩
  · exact heap_alloc2_new _ _ _
  · exact below_alloc (below_alloc (Below.refl _ _) _) _

/-- A slice's value that reads a row. -/
structure SlOk (x : Sl) : Prop where
  nil : x.A = none → x.n = 0
  cap : x.n ≤ x.c
  max : x.c ≤ maxLen
/-- The contract of Few. -/
theorem few_calls (r : RV) (hi : SlOk r.images) (ht : SlOk r.table) (w : World) : Calls Try.prog 9 #[.agg r.cs] w fun e w' => e = .returned (.agg (fewR r).cs) ∧ Below w.heap.size w w' := by
  obtain ⟨kind, txn, prev, page, act, key, old, new_, next, ⟨iA, in_, ic⟩, ⟨tA, tn, tc⟩, epoch, node⟩ := r
  have hi1 := hi.nil; have hi2 := hi.cap; have hi3 := hi.max
  have ht1 := ht.nil; have ht2 := ht.cap; have ht3 := ht.max
  simp only at hi1 hi2 hi3 ht1 ht2 ht3
  by_cases a : 20 < in_
  · obtain ⟨x, rfl⟩ : ∃ x, iA = some x := by cases iA with | none => exact absurd (hi1 rfl) (by omega) | some x => exact ⟨x, rfl⟩
    by_cases b : 300 < tn
    · obtain ⟨y, rfl⟩ : ∃ y, tA = some y := by cases tA with | none => exact absurd (ht1 rfl) (by omega) | some y => exact ⟨y, rfl⟩
      have e : fewR ⟨kind, txn, prev, page, act, key, old, new_, next, ⟨some x, in_, ic⟩, ⟨some y, tn, tc⟩, epoch, node⟩ = ⟨kind, txn, prev, page, act, key, old, new_, next, ⟨some x, 20, ic⟩, ⟨some y, 300, tc⟩, epoch, node⟩ := by simp [fewR, Sl.cut, a, b]
      rw [e]
      exact few_11 kind txn prev page act key old new_ next x in_ ic y tn tc epoch node w a hi2 hi3 b ht2 ht3
    · have e : fewR ⟨kind, txn, prev, page, act, key, old, new_, next, ⟨some x, in_, ic⟩, ⟨tA, tn, tc⟩, epoch, node⟩ = ⟨kind, txn, prev, page, act, key, old, new_, next, ⟨some x, 20, ic⟩, ⟨tA, tn, tc⟩, epoch, node⟩ := by simp [fewR, Sl.cut, a, b]
      rw [e]
      exact few_10 kind txn prev page act key old new_ next x in_ ic tA tn tc epoch node w a hi2 hi3 b
  · by_cases b : 300 < tn
    · obtain ⟨y, rfl⟩ : ∃ y, tA = some y := by cases tA with | none => exact absurd (ht1 rfl) (by omega) | some y => exact ⟨y, rfl⟩
      have e : fewR ⟨kind, txn, prev, page, act, key, old, new_, next, ⟨iA, in_, ic⟩, ⟨some y, tn, tc⟩, epoch, node⟩ = ⟨kind, txn, prev, page, act, key, old, new_, next, ⟨iA, in_, ic⟩, ⟨some y, 300, tc⟩, epoch, node⟩ := by simp [fewR, Sl.cut, a, b]
      rw [e]
      exact few_01 kind txn prev page act key old new_ next iA in_ ic y tn tc epoch node w a b ht2 ht3
    · have e : fewR ⟨kind, txn, prev, page, act, key, old, new_, next, ⟨iA, in_, ic⟩, ⟨tA, tn, tc⟩, epoch, node⟩ = ⟨kind, txn, prev, page, act, key, old, new_, next, ⟨iA, in_, ic⟩, ⟨tA, tn, tc⟩, epoch, node⟩ := by simp [fewR, Sl.cut, a, b]
      rw [e]
      exact few_00 kind txn prev page act key old new_ next iA in_ ic tA tn tc epoch node w a b
end Go.Proofs.Ytdphikbkknkhiaa.PAll
