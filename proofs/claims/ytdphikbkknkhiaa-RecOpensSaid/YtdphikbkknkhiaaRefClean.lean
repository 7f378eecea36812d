/- gharryref07.Clean, walked by hand: it answers as rec.Clean. -/
import Derived.Test.YtdphikbkknkhiaaClean
namespace Go.Proofs.Ytdphikbkknkhiaa.PAll
open Go.RowKit Go.Proofs.YtdphikbkknkhiaaW.PrintWords Go.Proofs.YtdphikbkknkhiaaW.PrintLast Go.Proofs.YtdphikbkknkhiaaW.PrintMore
set_option linter.unusedVariables false
set_option linter.unusedSimpArgs false

set_option maxHeartbeats 8000000 in
set_option maxRecDepth 10000 in
theorem ref_other (kind txn prev page act : Int) (key old new_ : ByteArray) (next : Int) (iA : Option Addr) (in_ ic : Nat) (tA : Option Addr) (tn tc : Nat) (epoch node : Int) (w : World) (h : ¬ (1 ≤ kind ∧ kind ≤ 10)) :
    Calls Try.prog 16 #[.agg #[.int .i64 kind, .int .i64 txn, .int .i64 prev, .int .i64 page, .int .i64 act, .string key, .string old, .string new_, .int .i64 next, .slice iA in_ ic, .slice tA tn tc, .int .i64 epoch, .int .i64 node]] w fun e w' => e = .returned (.agg (RV.cs ⟨kind, 0, 0, 0, 0, ⟨#[]⟩, ⟨#[]⟩, ⟨#[]⟩, 0, nilS, nilS, 0, 0⟩)) ∧ Below w.heap.size w w' := by
  have hu25 := Try.underlying25
  have hd1 : (kind == 1) = false := by simp; omega
  have hd2 : (kind == 2) = false := by simp; omega
  have hd3 : (kind == 3) = false := by simp; omega
  have hd4 : (kind == 4) = false := by simp; omega
  have hd5 : (kind == 5) = false := by simp; omega
  have hd6 : (kind == 6) = false := by simp; omega
  have hd7 : (kind == 7) = false := by simp; omega
  have hd8 : (kind == 8) = false := by simp; omega
  have hd9 : (kind == 9) = false := by simp; omega
  have hd10 : (kind == 10) = false := by simp; omega
  clear h
  go_enter Try.func16, Try.ntmps16
  go_wp2
  refine bodyPost_ret (results_cell_row (p := 2) (ty := 25) rfl _ _ (w.heap.size + 1) 25 (RV.cs ⟨kind, 0, 0, 0, 0, ⟨#[]⟩, ⟨#[]⟩, ⟨#[]⟩, 0, nilS, nilS, 0, 0⟩) (0, 0) _ rfl ?_ Try.underlying25 rfl (hinfo25 ⟨kind, 0, 0, 0, 0, ⟨#[]⟩, ⟨#[]⟩, ⟨#[]⟩, 0, nilS, nilS, 0, 0⟩)) rfl ⟨rfl, ?_⟩
  · exact ((below_alloc (Below.refl _ _) _).block _ (by simp)).trans (heap_alloc2_new _ _ _)
  · exact below_alloc (below_alloc (below_alloc (Below.refl _ _) _) _) _

set_option maxHeartbeats 8000000 in
set_option maxRecDepth 10000 in
theorem ref_1 (kind txn prev page act : Int) (key old new_ : ByteArray) (next : Int) (iA : Option Addr) (in_ ic : Nat) (tA : Option Addr) (tn tc : Nat) (epoch node : Int) (w : World) (h : kind = 1) :
    Calls Try.prog 16 #[.agg #[.int .i64 kind, .int .i64 txn, .int .i64 prev, .int .i64 page, .int .i64 act, .string key, .string old, .string new_, .int .i64 next, .slice iA in_ ic, .slice tA tn tc, .int .i64 epoch, .int .i64 node]] w fun e w' => e = .returned (.agg (RV.cs ⟨1, 0, 0, 0, 0, ⟨#[]⟩, ⟨#[]⟩, ⟨#[]⟩, 0, ⟨iA, in_, ic⟩, nilS, 0, 0⟩)) ∧ Below w.heap.size w w' := by
  have hu25 := Try.underlying25
  subst h
  go_enter Try.func16, Try.ntmps16
  go_wp2
  refine bodyPost_ret (results_cell_row (p := 2) (ty := 25) rfl _ _ (w.heap.size + 1) 25 (RV.cs ⟨1, 0, 0, 0, 0, ⟨#[]⟩, ⟨#[]⟩, ⟨#[]⟩, 0, ⟨iA, in_, ic⟩, nilS, 0, 0⟩) (0, 0) _ rfl ?_ Try.underlying25 rfl (hinfo25 ⟨1, 0, 0, 0, 0, ⟨#[]⟩, ⟨#[]⟩, ⟨#[]⟩, 0, ⟨iA, in_, ic⟩, nilS, 0, 0⟩)) rfl ⟨rfl, ?_⟩
  · exact ((below_alloc (Below.refl _ _) _).block _ (by simp)).trans (heap_alloc2_new _ _ _)
  · exact below_alloc (below_alloc (below_alloc (Below.refl _ _) _) _) _

set_option maxHeartbeats 8000000 in
set_option maxRecDepth 10000 in
theorem ref_2 (kind txn prev page act : Int) (key old new_ : ByteArray) (next : Int) (iA : Option Addr) (in_ ic : Nat) (tA : Option Addr) (tn tc : Nat) (epoch node : Int) (w : World) (h : kind = 2) :
    Calls Try.prog 16 #[.agg #[.int .i64 kind, .int .i64 txn, .int .i64 prev, .int .i64 page, .int .i64 act, .string key, .string old, .string new_, .int .i64 next, .slice iA in_ ic, .slice tA tn tc, .int .i64 epoch, .int .i64 node]] w fun e w' => e = .returned (.agg (RV.cs ⟨2, 0, 0, 0, 0, ⟨#[]⟩, ⟨#[]⟩, ⟨#[]⟩, 0, ⟨iA, in_, ic⟩, nilS, 0, 0⟩)) ∧ Below w.heap.size w w' := by
  have hu25 := Try.underlying25
  subst h
  go_enter Try.func16, Try.ntmps16
  go_wp2
  refine bodyPost_ret (results_cell_row (p := 2) (ty := 25) rfl _ _ (w.heap.size + 1) 25 (RV.cs ⟨2, 0, 0, 0, 0, ⟨#[]⟩, ⟨#[]⟩, ⟨#[]⟩, 0, ⟨iA, in_, ic⟩, nilS, 0, 0⟩) (0, 0) _ rfl ?_ Try.underlying25 rfl (hinfo25 ⟨2, 0, 0, 0, 0, ⟨#[]⟩, ⟨#[]⟩, ⟨#[]⟩, 0, ⟨iA, in_, ic⟩, nilS, 0, 0⟩)) rfl ⟨rfl, ?_⟩
  · exact ((below_alloc (Below.refl _ _) _).block _ (by simp)).trans (heap_alloc2_new _ _ _)
  · exact below_alloc (below_alloc (below_alloc (Below.refl _ _) _) _) _

set_option maxHeartbeats 8000000 in
set_option maxRecDepth 10000 in
theorem ref_3 (kind txn prev page act : Int) (key old new_ : ByteArray) (next : Int) (iA : Option Addr) (in_ ic : Nat) (tA : Option Addr) (tn tc : Nat) (epoch node : Int) (w : World) (h : kind = 3) :
    Calls Try.prog 16 #[.agg #[.int .i64 kind, .int .i64 txn, .int .i64 prev, .int .i64 page, .int .i64 act, .string key, .string old, .string new_, .int .i64 next, .slice iA in_ ic, .slice tA tn tc, .int .i64 epoch, .int .i64 node]] w fun e w' => e = .returned (.agg (RV.cs ⟨3, txn, prev, page, 0, key, ⟨#[]⟩, new_, 0, nilS, nilS, 0, 0⟩)) ∧ Below w.heap.size w w' := by
  have hu25 := Try.underlying25
  subst h
  go_enter Try.func16, Try.ntmps16
  go_wp2
  refine bodyPost_ret (results_cell_row (p := 2) (ty := 25) rfl _ _ (w.heap.size + 1) 25 (RV.cs ⟨3, txn, prev, page, 0, key, ⟨#[]⟩, new_, 0, nilS, nilS, 0, 0⟩) (0, 0) _ rfl ?_ Try.underlying25 rfl (hinfo25 ⟨3, txn, prev, page, 0, key, ⟨#[]⟩, new_, 0, nilS, nilS, 0, 0⟩)) rfl ⟨rfl, ?_⟩
  · exact ((below_alloc (Below.refl _ _) _).block _ (by simp)).trans (heap_alloc2_new _ _ _)
  · exact below_alloc (below_alloc (below_alloc (Below.refl _ _) _) _) _

set_option maxHeartbeats 8000000 in
set_option maxRecDepth 10000 in
theorem ref_4 (kind txn prev page act : Int) (key old new_ : ByteArray) (next : Int) (iA : Option Addr) (in_ ic : Nat) (tA : Option Addr) (tn tc : Nat) (epoch node : Int) (w : World) (h : kind = 4) :
    Calls Try.prog 16 #[.agg #[.int .i64 kind, .int .i64 txn, .int .i64 prev, .int .i64 page, .int .i64 act, .string key, .string old, .string new_, .int .i64 next, .slice iA in_ ic, .slice tA tn tc, .int .i64 epoch, .int .i64 node]] w fun e w' => e = .returned (.agg (RV.cs ⟨4, txn, prev, page, 0, key, old, ⟨#[]⟩, 0, nilS, nilS, 0, 0⟩)) ∧ Below w.heap.size w w' := by
  have hu25 := Try.underlying25
  subst h
  go_enter Try.func16, Try.ntmps16
  go_wp2
  refine bodyPost_ret (results_cell_row (p := 2) (ty := 25) rfl _ _ (w.heap.size + 1) 25 (RV.cs ⟨4, txn, prev, page, 0, key, old, ⟨#[]⟩, 0, nilS, nilS, 0, 0⟩) (0, 0) _ rfl ?_ Try.underlying25 rfl (hinfo25 ⟨4, txn, prev, page, 0, key, old, ⟨#[]⟩, 0, nilS, nilS, 0, 0⟩)) rfl ⟨rfl, ?_⟩
  · exact ((below_alloc (Below.refl _ _) _).block _ (by simp)).trans (heap_alloc2_new _ _ _)
  · exact below_alloc (below_alloc (below_alloc (Below.refl _ _) _) _) _

set_option maxHeartbeats 8000000 in
set_option maxRecDepth 10000 in
theorem ref_5 (kind txn prev page act : Int) (key old new_ : ByteArray) (next : Int) (iA : Option Addr) (in_ ic : Nat) (tA : Option Addr) (tn tc : Nat) (epoch node : Int) (w : World) (h : kind = 5) :
    Calls Try.prog 16 #[.agg #[.int .i64 kind, .int .i64 txn, .int .i64 prev, .int .i64 page, .int .i64 act, .string key, .string old, .string new_, .int .i64 next, .slice iA in_ ic, .slice tA tn tc, .int .i64 epoch, .int .i64 node]] w fun e w' => e = .returned (.agg (RV.cs ⟨5, txn, prev, page, 0, key, old, new_, 0, nilS, nilS, 0, 0⟩)) ∧ Below w.heap.size w w' := by
  have hu25 := Try.underlying25
  subst h
  go_enter Try.func16, Try.ntmps16
  go_wp2
  refine bodyPost_ret (results_cell_row (p := 2) (ty := 25) rfl _ _ (w.heap.size + 1) 25 (RV.cs ⟨5, txn, prev, page, 0, key, old, new_, 0, nilS, nilS, 0, 0⟩) (0, 0) _ rfl ?_ Try.underlying25 rfl (hinfo25 ⟨5, txn, prev, page, 0, key, old, new_, 0, nilS, nilS, 0, 0⟩)) rfl ⟨rfl, ?_⟩
  · exact ((below_alloc (Below.refl _ _) _).block _ (by simp)).trans (heap_alloc2_new _ _ _)
  · exact below_alloc (below_alloc (below_alloc (Below.refl _ _) _) _) _

set_option maxHeartbeats 8000000 in
set_option maxRecDepth 10000 in
theorem ref_63 (kind txn prev page act : Int) (key old new_ : ByteArray) (next : Int) (iA : Option Addr) (in_ ic : Nat) (tA : Option Addr) (tn tc : Nat) (epoch node : Int) (w : World) (h : kind = 6) (ha : act = 3) :
    Calls Try.prog 16 #[.agg #[.int .i64 kind, .int .i64 txn, .int .i64 prev, .int .i64 page, .int .i64 act, .string key, .string old, .string new_, .int .i64 next, .slice iA in_ ic, .slice tA tn tc, .int .i64 epoch, .int .i64 node]] w fun e w' => e = .returned (.agg (RV.cs ⟨6, txn, prev, page, 3, key, ⟨#[]⟩, new_, next, nilS, nilS, 0, 0⟩)) ∧ Below w.heap.size w w' := by
  have hu25 := Try.underlying25
  subst h
  subst ha
  go_enter Try.func16, Try.ntmps16
  go_wp2
  refine bodyPost_ret (results_cell_row (p := 2) (ty := 25) rfl _ _ (w.heap.size + 1) 25 (RV.cs ⟨6, txn, prev, page, 3, key, ⟨#[]⟩, new_, next, nilS, nilS, 0, 0⟩) (0, 0) _ rfl ?_ Try.underlying25 rfl (hinfo25 ⟨6, txn, prev, page, 3, key, ⟨#[]⟩, new_, next, nilS, nilS, 0, 0⟩)) rfl ⟨rfl, ?_⟩
  · exact ((below_alloc (Below.refl _ _) _).block _ (by simp)).trans (heap_alloc2_new _ _ _)
  · exact below_alloc (below_alloc (below_alloc (Below.refl _ _) _) _) _

set_option maxHeartbeats 8000000 in
set_option maxRecDepth 10000 in
theorem ref_64 (kind txn prev page act : Int) (key old new_ : ByteArray) (next : Int) (iA : Option Addr) (in_ ic : Nat) (tA : Option Addr) (tn tc : Nat) (epoch node : Int) (w : World) (h : kind = 6) (ha : act = 4) :
    Calls Try.prog 16 #[.agg #[.int .i64 kind, .int .i64 txn, .int .i64 prev, .int .i64 page, .int .i64 act, .string key, .string old, .string new_, .int .i64 next, .slice iA in_ ic, .slice tA tn tc, .int .i64 epoch, .int .i64 node]] w fun e w' => e = .returned (.agg (RV.cs ⟨6, txn, prev, page, 4, key, old, ⟨#[]⟩, next, nilS, nilS, 0, 0⟩)) ∧ Below w.heap.size w w' := by
  have hu25 := Try.underlying25
  subst h
  subst ha
  go_enter Try.func16, Try.ntmps16
  go_wp2
  refine bodyPost_ret (results_cell_row (p := 2) (ty := 25) rfl _ _ (w.heap.size + 1) 25 (RV.cs ⟨6, txn, prev, page, 4, key, old, ⟨#[]⟩, next, nilS, nilS, 0, 0⟩) (0, 0) _ rfl ?_ Try.underlying25 rfl (hinfo25 ⟨6, txn, prev, page, 4, key, old, ⟨#[]⟩, next, nilS, nilS, 0, 0⟩)) rfl ⟨rfl, ?_⟩
  · exact ((below_alloc (Below.refl _ _) _).block _ (by simp)).trans (heap_alloc2_new _ _ _)
  · exact below_alloc (below_alloc (below_alloc (Below.refl _ _) _) _) _

set_option maxHeartbeats 8000000 in
set_option maxRecDepth 10000 in
theorem ref_6 (kind txn prev page act : Int) (key old new_ : ByteArray) (next : Int) (iA : Option Addr) (in_ ic : Nat) (tA : Option Addr) (tn tc : Nat) (epoch node : Int) (w : World) (h : kind = 6) (h3 : act ≠ 3) (h4 : act ≠ 4) :
    Calls Try.prog 16 #[.agg #[.int .i64 kind, .int .i64 txn, .int .i64 prev, .int .i64 page, .int .i64 act, .string key, .string old, .string new_, .int .i64 next, .slice iA in_ ic, .slice tA tn tc, .int .i64 epoch, .int .i64 node]] w fun e w' => e = .returned (.agg (RV.cs ⟨6, txn, prev, page, act, key, old, new_, next, nilS, nilS, 0, 0⟩)) ∧ Below w.heap.size w w' := by
  have hu25 := Try.underlying25
  subst h
  have d3 : (act != 3) = true := by simpa using h3
  have d4 : (act != 4) = true := by simpa using h4
  go_enter Try.func16, Try.ntmps16
  go_wp2
  refine bodyPost_ret (results_cell_row (p := 2) (ty := 25) rfl _ _ (w.heap.size + 1) 25 (RV.cs ⟨6, txn, prev, page, act, key, old, new_, next, nilS, nilS, 0, 0⟩) (0, 0) _ rfl ?_ Try.underlying25 rfl (hinfo25 ⟨6, txn, prev, page, act, key, old, new_, next, nilS, nilS, 0, 0⟩)) rfl ⟨rfl, ?_⟩
  · exact ((below_alloc (Below.refl _ _) _).block _ (by simp)).trans (heap_alloc2_new _ _ _)
  · exact below_alloc (below_alloc (below_alloc (Below.refl _ _) _) _) _

set_option maxHeartbeats 8000000 in
set_option maxRecDepth 10000 in
theorem ref_7 (kind txn prev page act : Int) (key old new_ : ByteArray) (next : Int) (iA : Option Addr) (in_ ic : Nat) (tA : Option Addr) (tn tc : Nat) (epoch node : Int) (w : World) (h : kind = 7) :
    Calls Try.prog 16 #[.agg #[.int .i64 kind, .int .i64 txn, .int .i64 prev, .int .i64 page, .int .i64 act, .string key, .string old, .string new_, .int .i64 next, .slice iA in_ ic, .slice tA tn tc, .int .i64 epoch, .int .i64 node]] w fun e w' => e = .returned (.agg (RV.cs ⟨7, txn, prev, 0, 0, ⟨#[]⟩, ⟨#[]⟩, ⟨#[]⟩, 0, nilS, nilS, 0, 0⟩)) ∧ Below w.heap.size w w' := by
  have hu25 := Try.underlying25
  subst h
  go_enter Try.func16, Try.ntmps16
  go_wp2
  refine bodyPost_ret (results_cell_row (p := 2) (ty := 25) rfl _ _ (w.heap.size + 1) 25 (RV.cs ⟨7, txn, prev, 0, 0, ⟨#[]⟩, ⟨#[]⟩, ⟨#[]⟩, 0, nilS, nilS, 0, 0⟩) (0, 0) _ rfl ?_ Try.underlying25 rfl (hinfo25 ⟨7, txn, prev, 0, 0, ⟨#[]⟩, ⟨#[]⟩, ⟨#[]⟩, 0, nilS, nilS, 0, 0⟩)) rfl ⟨rfl, ?_⟩
  · exact ((below_alloc (Below.refl _ _) _).block _ (by simp)).trans (heap_alloc2_new _ _ _)
  · exact below_alloc (below_alloc (below_alloc (Below.refl _ _) _) _) _

set_option maxHeartbeats 8000000 in
set_option maxRecDepth 10000 in
theorem ref_8 (kind txn prev page act : Int) (key old new_ : ByteArray) (next : Int) (iA : Option Addr) (in_ ic : Nat) (tA : Option Addr) (tn tc : Nat) (epoch node : Int) (w : World) (h : kind = 8) :
    Calls Try.prog 16 #[.agg #[.int .i64 kind, .int .i64 txn, .int .i64 prev, .int .i64 page, .int .i64 act, .string key, .string old, .string new_, .int .i64 next, .slice iA in_ ic, .slice tA tn tc, .int .i64 epoch, .int .i64 node]] w fun e w' => e = .returned (.agg (RV.cs ⟨8, txn, prev, 0, 0, ⟨#[]⟩, ⟨#[]⟩, ⟨#[]⟩, 0, nilS, nilS, 0, 0⟩)) ∧ Below w.heap.size w w' := by
  have hu25 := Try.underlying25
  subst h
  go_enter Try.func16, Try.ntmps16
  go_wp2
  refine bodyPost_ret (results_cell_row (p := 2) (ty := 25) rfl _ _ (w.heap.size + 1) 25 (RV.cs ⟨8, txn, prev, 0, 0, ⟨#[]⟩, ⟨#[]⟩, ⟨#[]⟩, 0, nilS, nilS, 0, 0⟩) (0, 0) _ rfl ?_ Try.underlying25 rfl (hinfo25 ⟨8, txn, prev, 0, 0, ⟨#[]⟩, ⟨#[]⟩, ⟨#[]⟩, 0, nilS, nilS, 0, 0⟩)) rfl ⟨rfl, ?_⟩
  · exact ((below_alloc (Below.refl _ _) _).block _ (by simp)).trans (heap_alloc2_new _ _ _)
  · exact below_alloc (below_alloc (below_alloc (Below.refl _ _) _) _) _

set_option maxHeartbeats 8000000 in
set_option maxRecDepth 10000 in
theorem ref_9 (kind txn prev page act : Int) (key old new_ : ByteArray) (next : Int) (iA : Option Addr) (in_ ic : Nat) (tA : Option Addr) (tn tc : Nat) (epoch node : Int) (w : World) (h : kind = 9) :
    Calls Try.prog 16 #[.agg #[.int .i64 kind, .int .i64 txn, .int .i64 prev, .int .i64 page, .int .i64 act, .string key, .string old, .string new_, .int .i64 next, .slice iA in_ ic, .slice tA tn tc, .int .i64 epoch, .int .i64 node]] w fun e w' => e = .returned (.agg (RV.cs ⟨9, 0, 0, 0, 0, ⟨#[]⟩, ⟨#[]⟩, ⟨#[]⟩, 0, nilS, ⟨tA, tn, tc⟩, 0, 0⟩)) ∧ Below w.heap.size w w' := by
  have hu25 := Try.underlying25
  subst h
  go_enter Try.func16, Try.ntmps16
  go_wp2
  refine bodyPost_ret (results_cell_row (p := 2) (ty := 25) rfl _ _ (w.heap.size + 1) 25 (RV.cs ⟨9, 0, 0, 0, 0, ⟨#[]⟩, ⟨#[]⟩, ⟨#[]⟩, 0, nilS, ⟨tA, tn, tc⟩, 0, 0⟩) (0, 0) _ rfl ?_ Try.underlying25 rfl (hinfo25 ⟨9, 0, 0, 0, 0, ⟨#[]⟩, ⟨#[]⟩, ⟨#[]⟩, 0, nilS, ⟨tA, tn, tc⟩, 0, 0⟩)) rfl ⟨rfl, ?_⟩
  · exact ((below_alloc (Below.refl _ _) _).block _ (by simp)).trans (heap_alloc2_new _ _ _)
  · exact below_alloc (below_alloc (below_alloc (Below.refl _ _) _) _) _

set_option maxHeartbeats 8000000 in
set_option maxRecDepth 10000 in
theorem ref_10 (kind txn prev page act : Int) (key old new_ : ByteArray) (next : Int) (iA : Option Addr) (in_ ic : Nat) (tA : Option Addr) (tn tc : Nat) (epoch node : Int) (w : World) (h : kind = 10) :
    Calls Try.prog 16 #[.agg #[.int .i64 kind, .int .i64 txn, .int .i64 prev, .int .i64 page, .int .i64 act, .string key, .string old, .string new_, .int .i64 next, .slice iA in_ ic, .slice tA tn tc, .int .i64 epoch, .int .i64 node]] w fun e w' => e = .returned (.agg (RV.cs ⟨10, 0, 0, 0, 0, ⟨#[]⟩, ⟨#[]⟩, ⟨#[]⟩, 0, nilS, nilS, epoch, node⟩)) ∧ Below w.heap.size w w' := by
  have hu25 := Try.underlying25
  subst h
  go_enter Try.func16, Try.ntmps16
  go_wp2
  refine bodyPost_ret (results_cell_row (p := 2) (ty := 25) rfl _ _ (w.heap.size + 1) 25 (RV.cs ⟨10, 0, 0, 0, 0, ⟨#[]⟩, ⟨#[]⟩, ⟨#[]⟩, 0, nilS, nilS, epoch, node⟩) (0, 0) _ rfl ?_ Try.underlying25 rfl (hinfo25 ⟨10, 0, 0, 0, 0, ⟨#[]⟩, ⟨#[]⟩, ⟨#[]⟩, 0, nilS, nilS, epoch, node⟩)) rfl ⟨rfl, ?_⟩
  · exact ((below_alloc (Below.refl _ _) _).block _ (by simp)).trans (heap_alloc2_new _ _ _)
  · exact below_alloc (below_alloc (below_alloc (Below.refl _ _) _) _) _

/-- The contract of the document's Clean. -/
theorem refclean_calls (r : RV) (w : World) : Calls Try.prog 16 #[.agg r.cs] w fun e w' => e = .returned (.agg (cleanR r).cs) ∧ Below w.heap.size w w' := by
  obtain ⟨kind, txn, prev, page, act, key, old, new_, next, ⟨iA, in_, ic⟩, ⟨tA, tn, tc⟩, epoch, node⟩ := r
  by_cases h : 1 ≤ kind ∧ kind ≤ 10
  · obtain ⟨h1, h2⟩ := h
    rcases (by omega : kind = 1 ∨ kind = 2 ∨ kind = 3 ∨ kind = 4 ∨ kind = 5 ∨ kind = 6 ∨ kind = 7 ∨ kind = 8 ∨ kind = 9 ∨ kind = 10) with rfl | rfl | rfl | rfl | rfl | rfl | rfl | rfl | rfl | rfl
    · exact ref_1 1 txn prev page act key old new_ next iA in_ ic tA tn tc epoch node w rfl
    · exact ref_2 2 txn prev page act key old new_ next iA in_ ic tA tn tc epoch node w rfl
    · exact ref_3 3 txn prev page act key old new_ next iA in_ ic tA tn tc epoch node w rfl
    · exact ref_4 4 txn prev page act key old new_ next iA in_ ic tA tn tc epoch node w rfl
    · exact ref_5 5 txn prev page act key old new_ next iA in_ ic tA tn tc epoch node w rfl
    · by_cases a3 : act = 3
      · subst a3
        exact ref_63 6 txn prev page 3 key old new_ next iA in_ ic tA tn tc epoch node w rfl rfl
      · by_cases a4 : act = 4
        · subst a4
          exact ref_64 6 txn prev page 4 key old new_ next iA in_ ic tA tn tc epoch node w rfl rfl
        · have e : cleanR ⟨6, txn, prev, page, act, key, old, new_, next, ⟨iA, in_, ic⟩, ⟨tA, tn, tc⟩, epoch, node⟩ = ⟨6, txn, prev, page, act, key, old, new_, next, nilS, nilS, 0, 0⟩ := by
            show tidyR _ act = _
            unfold tidyR
            rw [if_neg a3, if_neg a4]
            rfl
          rw [e]
          exact ref_6 6 txn prev page act key old new_ next iA in_ ic tA tn tc epoch node w rfl a3 a4
    · exact ref_7 7 txn prev page act key old new_ next iA in_ ic tA tn tc epoch node w rfl
    · exact ref_8 8 txn prev page act key old new_ next iA in_ ic tA tn tc epoch node w rfl
    · exact ref_9 9 txn prev page act key old new_ next iA in_ ic tA tn tc epoch node w rfl
    · exact ref_10 10 txn prev page act key old new_ next iA in_ ic tA tn tc epoch node w rfl
  · have e : cleanR ⟨kind, txn, prev, page, act, key, old, new_, next, ⟨iA, in_, ic⟩, ⟨tA, tn, tc⟩, epoch, node⟩ = zeroR kind := by
      unfold cleanR
      simp only
      rw [if_neg (by omega), if_neg (by omega), if_neg (by omega), if_neg (by omega), if_neg (by omega), if_neg (by omega)]
    rw [e]
    exact ref_other kind txn prev page act key old new_ next iA in_ ic tA tn tc epoch node w h
end Go.Proofs.Ytdphikbkknkhiaa.PAll
