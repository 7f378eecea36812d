/- rec.tidy, rec.Clean, the law's own Clean and Few, walked by hand: a record's values; its slices are not looked into. -/
import Derived.Test.YtdphikbkknkhiaaPAllx0
import Derived.Lib.Hide
namespace Go.Proofs.Ytdphikbkknkhiaa.PAll
open Go.RowKit Go.Proofs.YtdphikbkknkhiaaW.PrintWords Go.Proofs.YtdphikbkknkhiaaW.PrintLast Go.Proofs.YtdphikbkknkhiaaW.PrintMore
set_option linter.unusedVariables false
set_option linter.unusedSimpArgs false

/-- A slice's value. -/
structure Sl where
  A : Option Addr
  n : Nat
  c : Nat
def Sl.v (x : Sl) : Value := .slice x.A x.n x.c
/-- A record's values. -/
structure RV where
  kind : Int
  txn : Int
  prev : Int
  page : Int
  act : Int
  key : ByteArray
  old : ByteArray
  new : ByteArray
  next : Int
  images : Sl
  table : Sl
  epoch : Int
  node : Int
def RV.cs (r : RV) : Array Value := #[.int .i64 r.kind, .int .i64 r.txn, .int .i64 r.prev, .int .i64 r.page, .int .i64 r.act, .string r.key, .string r.old, .string r.new, .int .i64 r.next, .slice r.images.A r.images.n r.images.c, .slice r.table.A r.table.n r.table.c, .int .i64 r.epoch, .int .i64 r.node]
def nilS : Sl := ⟨none, 0, 0⟩
def zeroR (kind : Int) : RV := ⟨kind, 0, 0, 0, 0, ⟨#[]⟩, ⟨#[]⟩, ⟨#[]⟩, 0, nilS, nilS, 0, 0⟩
/-- The value that an act has not is dropped. -/
def tidyR (r : RV) (act : Int) : RV := if act = 3 then { r with old := ⟨#[]⟩ } else if act = 4 then { r with new := ⟨#[]⟩ } else r
/-- A record with just what its kind has. -/
def cleanR (r : RV) : RV :=
  if r.kind = 1 ∨ r.kind = 2 then { zeroR r.kind with images := r.images }
  else if r.kind = 3 ∨ r.kind = 4 ∨ r.kind = 5 then tidyR { zeroR r.kind with txn := r.txn, prev := r.prev, page := r.page, key := r.key, old := r.old, new := r.new } r.kind
  else if r.kind = 6 then tidyR { zeroR r.kind with txn := r.txn, prev := r.prev, next := r.next, act := r.act, page := r.page, key := r.key, old := r.old, new := r.new } r.act
  else if r.kind = 7 ∨ r.kind = 8 then { zeroR r.kind with txn := r.txn, prev := r.prev }
  else if r.kind = 9 then { zeroR r.kind with table := r.table }
  else if r.kind = 10 then { zeroR r.kind with epoch := r.epoch, node := r.node }
  else zeroR r.kind

/-- A record in a block of one's own. -/
structure RIs (w0 w : World) (g : Nat) (r : RV) : Prop where
  h : w.heap[g]? = some (.cells r.cs 25 (0, 0))
  ge : w0.heap.size ≤ g
theorem RIs.at6 {w0 w : World} {g : Nat} {r : RV} (h : RIs w0 w g r) (x : ByteArray) : RIs w0 (w.setCell ⟨g, 6, none⟩ (.string x)) g { r with old := x } := ⟨blk_put h.h 6 _ rfl, h.ge⟩
theorem RIs.at7 {w0 w : World} {g : Nat} {r : RV} (h : RIs w0 w g r) (x : ByteArray) : RIs w0 (w.setCell ⟨g, 7, none⟩ (.string x)) g { r with new := x } := ⟨blk_put h.h 7 _ rfl, h.ge⟩

set_option maxHeartbeats 2000000 in
theorem tidy_calls (w0 w : World) (g : Nat) (r : RV) (act : Int) (h : RIs w0 w g r) (hB : Below w0.heap.size w0 w) :
    Calls Try.prog 28 #[.pointer (some ⟨g, 0, none⟩), .int .i64 act] w fun e w' => e = .returned (.tuple #[]) ∧ RIs w0 w' g (tidyR r act) ∧ Below w0.heap.size w0 w' ∧ KeepBut w w' g none := by
  have hu25 := Try.underlying25
  have hf6 := blk_frozen h.h 6
  have hf7 := blk_frozen h.h 7
  have hc6 : w.cell? ⟨g, 6, none⟩ = some (.string r.old) := (blk_cell h.h 6).trans rfl
  have hc7 : w.cell? ⟨g, 7, none⟩ = some (.string r.new) := (blk_cell h.h 7).trans rfl
  have H := Lib.hid h
  have HB := Lib.hid hB
  clear h hB
  unfold tidyR
  by_cases h3 : act = 3
  · rw [if_pos h3]
    subst h3
    go_enter Try.func28, Try.ntmps28
    go_wp2
    go_end0
    exact ⟨rfl, H.out.at6 _, below_set HB.out H.out.ge, KeepBut.set_ (KeepBut.refl _ _ _) 6 _⟩
  · rw [if_neg h3]
    have hd3 : (act == 3) = false := by simpa using h3
    by_cases h4 : act = 4
    · rw [if_pos h4]
      subst h4
      clear h3
      go_enter Try.func28, Try.ntmps28
      go_wp2
      go_end0
      exact ⟨rfl, H.out.at7 _, below_set HB.out H.out.ge, KeepBut.set_ (KeepBut.refl _ _ _) 7 _⟩
    · rw [if_neg h4]
      have hd4 : (act == 4) = false := by simpa using h4
      clear h3 h4
      go_enter Try.func28, Try.ntmps28
      go_wp2
      go_end0
      exact ⟨rfl, H.out, HB.out, KeepBut.refl _ _ _⟩
theorem hinfo25 (r : RV) : (Try.prog.info? 25).map (·.size) = some r.cs.size := by
  have h : (Try.prog.info? 25).map (·.size) = some 13 := by kernel_rfl
  exact h

set_option maxHeartbeats 8000000 in
set_option maxRecDepth 10000 in
theorem clean_other (kind txn prev page act : Int) (key old new_ : ByteArray) (next : Int) (iA : Option Addr) (in_ ic : Nat) (tA : Option Addr) (tn tc : Nat) (epoch node : Int) (w : World) (h : ¬ (1 ≤ kind ∧ kind ≤ 10)) :
    Calls Try.prog 15 #[.agg #[.int .i64 kind, .int .i64 txn, .int .i64 prev, .int .i64 page, .int .i64 act, .string key, .string old, .string new_, .int .i64 next, .slice iA in_ ic, .slice tA tn tc, .int .i64 epoch, .int .i64 node]] w fun e w' => e = .returned (.agg (zeroR kind).cs) ∧ Below w.heap.size w w' := by
  have hu25 := Try.underlying25
  have hd1 : (kind == 1) = false := by simp; omega
  have hd2 : (kind == 2) = false := by simp; omega
  have hd3 : (kind == 3) = false := by simp; omega
  have hd4 : (kind == 4) = false := by simp; omega
  have hd5 : (kind == 5) = false := by simp; omega
  have hd6 : (kind == 6) = false := by simp; omega
  have hd7 : (kind == 7) = false := by simp; omega
  have hd8 : (kind == 8) = false := by simp; omega
  have hd9 : (kind == 9) = false := by simp; omega
  have hd10 : (kind == 10) = false := by simp; omega
  clear h
  go_enter Try.func15, Try.ntmps15
  go_wp2
  refine bodyPost_ret (results_cell_row (p := 2) (ty := 25) rfl _ _ (w.heap.size + 1) 25 (zeroR kind).cs (0, 0) _ rfl ?_ Try.underlying25 rfl (hinfo25 (zeroR kind))) rfl ⟨rfl, ?_⟩
  · exact ((below_alloc (Below.refl _ _) _).block _ (by simp)).trans (heap_alloc2_new _ _ _)
  · exact below_alloc (below_alloc (below_alloc (Below.refl _ _) _) _) _

set_option maxHeartbeats 8000000 in
set_option maxRecDepth 10000 in
theorem clean_1 (kind txn prev page act : Int) (key old new_ : ByteArray) (next : Int) (iA : Option Addr) (in_ ic : Nat) (tA : Option Addr) (tn tc : Nat) (epoch node : Int) (w : World) (h : kind = 1) :
    Calls Try.prog 15 #[.agg #[.int .i64 kind, .int .i64 txn, .int .i64 prev, .int .i64 page, .int .i64 act, .string key, .string old, .string new_, .int .i64 next, .slice iA in_ ic, .slice tA tn tc, .int .i64 epoch, .int .i64 node]] w fun e w' => e = .returned (.agg ({ zeroR 1 with images := ⟨iA, in_, ic⟩ }).cs) ∧ Below w.heap.size w w' := by
  have hu25 := Try.underlying25
  subst h
  go_enter Try.func15, Try.ntmps15
  go_wp2
  refine bodyPost_ret (results_cell_row (p := 2) (ty := 25) rfl _ _ (w.heap.size + 1) 25 ({ zeroR 1 with images := ⟨iA, in_, ic⟩ }).cs (0, 0) _ rfl ?_ Try.underlying25 rfl (hinfo25 ({ zeroR 1 with images := ⟨iA, in_, ic⟩ }))) rfl ⟨rfl, ?_⟩
  · exact ((below_alloc (Below.refl _ _) _).block _ (by simp)).trans (heap_alloc2_new _ _ _)
  · exact below_alloc (below_alloc (below_alloc (Below.refl _ _) _) _) _

set_option maxHeartbeats 8000000 in
set_option maxRecDepth 10000 in
theorem clean_2 (kind txn prev page act : Int) (key old new_ : ByteArray) (next : Int) (iA : Option Addr) (in_ ic : Nat) (tA : Option Addr) (tn tc : Nat) (epoch node : Int) (w : World) (h : kind = 2) :
    Calls Try.prog 15 #[.agg #[.int .i64 kind, .int .i64 txn, .int .i64 prev, .int .i64 page, .int .i64 act, .string key, .string old, .string new_, .int .i64 next, .slice iA in_ ic, .slice tA tn tc, .int .i64 epoch, .int .i64 node]] w fun e w' => e = .returned (.agg ({ zeroR 2 with images := ⟨iA, in_, ic⟩ }).cs) ∧ Below w.heap.size w w' := by
  have hu25 := Try.underlying25
  subst h
  go_enter Try.func15, Try.ntmps15
  go_wp2
  refine bodyPost_ret (results_cell_row (p := 2) (ty := 25) rfl _ _ (w.heap.size + 1) 25 ({ zeroR 2 with images := ⟨iA, in_, ic⟩ }).cs (0, 0) _ rfl ?_ Try.underlying25 rfl (hinfo25 ({ zeroR 2 with images := ⟨iA, in_, ic⟩ }))) rfl ⟨rfl, ?_⟩
  · exact ((below_alloc (Below.refl _ _) _).block _ (by simp)).trans (heap_alloc2_new _ _ _)
  · exact below_alloc (below_alloc (below_alloc (Below.refl _ _) _) _) _

set_option maxHeartbeats 8000000 in
set_option maxRecDepth 10000 in
theorem clean_7 (kind txn prev page act : Int) (key old new_ : ByteArray) (next : Int) (iA : Option Addr) (in_ ic : Nat) (tA : Option Addr) (tn tc : Nat) (epoch node : Int) (w : World) (h : kind = 7) :
    Calls Try.prog 15 #[.agg #[.int .i64 kind, .int .i64 txn, .int .i64 prev, .int .i64 page, .int .i64 act, .string key, .string old, .string new_, .int .i64 next, .slice iA in_ ic, .slice tA tn tc, .int .i64 epoch, .int .i64 node]] w fun e w' => e = .returned (.agg ({ zeroR 7 with txn := txn, prev := prev }).cs) ∧ Below w.heap.size w w' := by
  have hu25 := Try.underlying25
  subst h
  go_enter Try.func15, Try.ntmps15
  go_wp2
  go_region_held3 (fun w' => w'.cell? ⟨w.heap.size, 1, none⟩ = some (.int .i64 txn) ∧ w'.cell? ⟨w.heap.size, 2, none⟩ = some (.int .i64 prev)) (first | (repeat' apply And.intro) <;> go_simp | go_keep) (fail)
  go_wp2
  refine bodyPost_ret (results_cell_row (p := 2) (ty := 25) rfl _ _ (w.heap.size + 1) 25 ({ zeroR 7 with txn := txn, prev := prev }).cs (0, 0) _ rfl ?_ Try.underlying25 rfl (hinfo25 ({ zeroR 7 with txn := txn, prev := prev }))) rfl ⟨rfl, ?_⟩
  · exact ((below_alloc (Below.refl _ _) _).block _ (by simp)).trans (heap_alloc2_new _ _ _)
  · exact below_drew (below_alloc (below_alloc (below_alloc (Below.refl _ _) _) _) _)

set_option maxHeartbeats 8000000 in
set_option maxRecDepth 10000 in
theorem clean_8 (kind txn prev page act : Int) (key old new_ : ByteArray) (next : Int) (iA : Option Addr) (in_ ic : Nat) (tA : Option Addr) (tn tc : Nat) (epoch node : Int) (w : World) (h : kind = 8) :
    Calls Try.prog 15 #[.agg #[.int .i64 kind, .int .i64 txn, .int .i64 prev, .int .i64 page, .int .i64 act, .string key, .string old, .string new_, .int .i64 next, .slice iA in_ ic, .slice tA tn tc, .int .i64 epoch, .int .i64 node]] w fun e w' => e = .returned (.agg ({ zeroR 8 with txn := txn, prev := prev }).cs) ∧ Below w.heap.size w w' := by
  have hu25 := Try.underlying25
  subst h
  go_enter Try.func15, Try.ntmps15
  go_wp2
  go_region_held3 (fun w' => w'.cell? ⟨w.heap.size, 1, none⟩ = some (.int .i64 txn) ∧ w'.cell? ⟨w.heap.size, 2, none⟩ = some (.int .i64 prev)) (first | (repeat' apply And.intro) <;> go_simp | go_keep) (fail)
  go_wp2
  refine bodyPost_ret (results_cell_row (p := 2) (ty := 25) rfl _ _ (w.heap.size + 1) 25 ({ zeroR 8 with txn := txn, prev := prev }).cs (0, 0) _ rfl ?_ Try.underlying25 rfl (hinfo25 ({ zeroR 8 with txn := txn, prev := prev }))) rfl ⟨rfl, ?_⟩
  · exact ((below_alloc (Below.refl _ _) _).block _ (by simp)).trans (heap_alloc2_new _ _ _)
  · exact below_drew (below_alloc (below_alloc (below_alloc (Below.refl _ _) _) _) _)

set_option maxHeartbeats 8000000 in
set_option maxRecDepth 10000 in
theorem clean_9 (kind txn prev page act : Int) (key old new_ : ByteArray) (next : Int) (iA : Option Addr) (in_ ic : Nat) (tA : Option Addr) (tn tc : Nat) (epoch node : Int) (w : World) (h : kind = 9) :
    Calls Try.prog 15 #[.agg #[.int .i64 kind, .int .i64 txn, .int .i64 prev, .int .i64 page, .int .i64 act, .string key, .string old, .string new_, .int .i64 next, .slice iA in_ ic, .slice tA tn tc, .int .i64 epoch, .int .i64 node]] w fun e w' => e = .returned (.agg ({ zeroR 9 with table := ⟨tA, tn, tc⟩ }).cs) ∧ Below w.heap.size w w' := by
  have hu25 := Try.underlying25
  subst h
  go_enter Try.func15, Try.ntmps15
  go_wp2
  refine bodyPost_ret (results_cell_row (p := 2) (ty := 25) rfl _ _ (w.heap.size + 1) 25 ({ zeroR 9 with table := ⟨tA, tn, tc⟩ }).cs (0, 0) _ rfl ?_ Try.underlying25 rfl (hinfo25 ({ zeroR 9 with table := ⟨tA, tn, tc⟩ }))) rfl ⟨rfl, ?_⟩
  · exact ((below_alloc (Below.refl _ _) _).block _ (by simp)).trans (heap_alloc2_new _ _ _)
  · exact below_alloc (below_alloc (below_alloc (Below.refl _ _) _) _) _

set_option maxHeartbeats 8000000 in
set_option maxRecDepth 10000 in
theorem clean_10 (kind txn prev page act : Int) (key old new_ : ByteArray) (next : Int) (iA : Option Addr) (in_ ic : Nat) (tA : Option Addr) (tn tc : Nat) (epoch node : Int) (w : World) (h : kind = 10) :
    Calls Try.prog 15 #[.agg #[.int .i64 kind, .int .i64 txn, .int .i64 prev, .int .i64 page, .int .i64 act, .string key, .string old, .string new_, .int .i64 next, .slice iA in_ ic, .slice tA tn tc, .int .i64 epoch, .int .i64 node]] w fun e w' => e = .returned (.agg ({ zeroR 10 with epoch := epoch, node := node }).cs) ∧ Below w.heap.size w w' := by
  have hu25 := Try.underlying25
  subst h
  go_enter Try.func15, Try.ntmps15
  go_wp2
  go_region_held3 (fun w' => w'.cell? ⟨w.heap.size, 11, none⟩ = some (.int .i64 epoch) ∧ w'.cell? ⟨w.heap.size, 12, none⟩ = some (.int .i64 node)) (first | (repeat' apply And.intro) <;> go_simp | go_keep) (fail)
  go_wp2
  refine bodyPost_ret (results_cell_row (p := 2) (ty := 25) rfl _ _ (w.heap.size + 1) 25 ({ zeroR 10 with epoch := epoch, node := node }).cs (0, 0) _ rfl ?_ Try.underlying25 rfl (hinfo25 ({ zeroR 10 with epoch := epoch, node := node }))) rfl ⟨rfl, ?_⟩
  · exact ((below_alloc (Below.refl _ _) _).block _ (by simp)).trans (heap_alloc2_new _ _ _)
  · exact below_drew (below_alloc (below_alloc (below_alloc (Below.refl _ _) _) _) _)

theorem rv_one (r : RV) : r.cs.all (·.oneCell') = true := by simp [RV.cs, Value.oneCell']
theorem alloc3_new (w : World) (a b c : Obj) : (((w.alloc a).alloc b).alloc c).heap[w.heap.size + 1 + 1]? = some c := by
  have e : w.heap.size + 1 + 1 = (w.alloc a).heap.size + 1 := by simp
  rw [e]
  exact heap_alloc2_new _ _ _
theorem rv_size (r : RV) : r.cs.size = 13 := rfl

theorem setRow_below {B : Nat} {w wr : World} (h : Below B w wr) {g : Nat} (hg : B ≤ g) (cs : Array Value) : Below B w (wr.setRow g cs) := by
  refine ⟨h.os, h.tape, h.output, by simpa using h.size, fun i hi => ?_⟩
  rw [← h.block i hi]
  simp only [World.setRow, Array.getElem?_modify]
  rw [if_neg (by omega)]

set_option maxHeartbeats 8000000 in
set_option maxRecDepth 10000 in
theorem clean_3 (kind txn prev page act : Int) (key old new_ : ByteArray) (next : Int) (iA : Option Addr) (in_ ic : Nat) (tA : Option Addr) (tn tc : Nat) (epoch node : Int) (w : World) (h : kind = 3) :
    Calls Try.prog 15 #[.agg #[.int .i64 kind, .int .i64 txn, .int .i64 prev, .int .i64 page, .int .i64 act, .string key, .string old, .string new_, .int .i64 next, .slice iA in_ ic, .slice tA tn tc, .int .i64 epoch, .int .i64 node]] w fun e w' => e = .returned (.agg (tidyR (⟨3, txn, prev, page, 0, key, old, new_, 0, nilS, nilS, 0, 0⟩ : RV) 3).cs) ∧ Below w.heap.size w w' := by
  have hu25 := Try.underlying25
  subst h
  go_enter Try.func15, Try.ntmps15
  go_wp2
  go_region_held3 (fun w' => w'.cell? ⟨w.heap.size, 1, none⟩ = some (.int .i64 txn) ∧ w'.cell? ⟨w.heap.size, 2, none⟩ = some (.int .i64 prev) ∧ w'.cell? ⟨w.heap.size, 3, none⟩ = some (.int .i64 page) ∧ w'.cell? ⟨w.heap.size, 5, none⟩ = some (.string key) ∧ w'.cell? ⟨w.heap.size, 6, none⟩ = some (.string old) ∧ w'.cell? ⟨w.heap.size, 7, none⟩ = some (.string new_)) (first | (repeat' apply And.intro) <;> go_simp | go_keep) (fail)
  have hI : RIs w (((w.alloc (.cells #[.int .i64 3, .int .i64 txn, .int .i64 prev, .int .i64 page, .int .i64 act, .string key, .string old, .string new_, .int .i64 next, .slice iA in_ ic, .slice tA tn tc, .int .i64 epoch, .int .i64 node] 25)).alloc (.cells #[.int .i64 0, .int .i64 0, .int .i64 0, .int .i64 0, .int .i64 0, .string ⟨#[]⟩, .string ⟨#[]⟩, .string ⟨#[]⟩, .int .i64 0, .slice none 0 0, .slice none 0 0, .int .i64 0, .int .i64 0] 25)).alloc (.cells #[.int .i64 3, .int .i64 txn, .int .i64 prev, .int .i64 page, .int .i64 0, .string key, .string old, .string new_, .int .i64 0, .slice none 0 0, .slice none 0 0, .int .i64 0, .int .i64 0] 25)).drew (w.heap.size + 1 + 1) ((⟨3, txn, prev, page, 0, key, old, new_, 0, nilS, nilS, 0, 0⟩ : RV)) := ⟨alloc3_new _ _ _ _, by omega⟩
  have HI := Lib.hid hI
  have HB := Lib.hid (show Below w.heap.size w (((w.alloc (.cells #[.int .i64 3, .int .i64 txn, .int .i64 prev, .int .i64 page, .int .i64 act, .string key, .string old, .string new_, .int .i64 next, .slice iA in_ ic, .slice tA tn tc, .int .i64 epoch, .int .i64 node] 25)).alloc (.cells #[.int .i64 0, .int .i64 0, .int .i64 0, .int .i64 0, .int .i64 0, .string ⟨#[]⟩, .string ⟨#[]⟩, .string ⟨#[]⟩, .int .i64 0, .slice none 0 0, .slice none 0 0, .int .i64 0, .int .i64 0] 25)).alloc (.cells #[.int .i64 3, .int .i64 txn, .int .i64 prev, .int .i64 page, .int .i64 0, .string key, .string old, .string new_, .int .i64 0, .slice none 0 0, .slice none 0 0, .int .i64 0, .int .i64 0] 25)).drew from below_drew (below_alloc (below_alloc (below_alloc (Below.refl _ _) _) _) _))
  have HZ := Lib.hid (show (((w.alloc (.cells #[.int .i64 3, .int .i64 txn, .int .i64 prev, .int .i64 page, .int .i64 act, .string key, .string old, .string new_, .int .i64 next, .slice iA in_ ic, .slice tA tn tc, .int .i64 epoch, .int .i64 node] 25)).alloc (.cells #[.int .i64 0, .int .i64 0, .int .i64 0, .int .i64 0, .int .i64 0, .string ⟨#[]⟩, .string ⟨#[]⟩, .string ⟨#[]⟩, .int .i64 0, .slice none 0 0, .slice none 0 0, .int .i64 0, .int .i64 0] 25)).alloc (.cells #[.int .i64 3, .int .i64 txn, .int .i64 prev, .int .i64 page, .int .i64 0, .string key, .string old, .string new_, .int .i64 0, .slice none 0 0, .slice none 0 0, .int .i64 0, .int .i64 0] 25)).drew.heap[w.heap.size + 1]? = some (.cells (zeroR 0).cs 25 (0, 0)) from ((below_alloc (Below.refl _ _) _).block _ (by simp)).trans (heap_alloc2_new _ _ _))
  clear hI
  go_wp2_with (first
    | (go_at_call 28; (with_reducible refine (tidy_calls w _ (w.heap.size + 1 + 1) ((⟨3, txn, prev, page, 0, key, old, new_, 0, nilS, nilS, 0, 0⟩ : RV)) 3 HI.out HB.out).mono ?_); rintro e' w2 ⟨rfl, hI2, hB2, hK2⟩; have HI2 := Lib.hid hI2; have HB2 := Lib.hid hB2; have HZ2 := Lib.hid (hK2.blk HZ.out (by omega) (by simp)); clear hI2 hB2 hK2)
    | (refine wpList_load_row rfl 25 _ rfl (w.heap.size + 1 + 1) rfl 25 _ (0, 0) _ HI2.out.h Try.underlying25 rfl (hinfo25 _) ?_)
    | (refine wpList_store_row rfl 25 _ _ rfl (w.heap.size + 1) (tidyR (⟨3, txn, prev, page, 0, key, old, new_, 0, nilS, nilS, 0, 0⟩ : RV) 3).cs rfl rfl 25 _ HZ2.out (hinfo25 _) rfl (rv_one _) ?_))
  refine bodyPost_ret (results_cell_row (p := 2) (ty := 25) rfl _ _ (w.heap.size + 1) 25 (tidyR (⟨3, txn, prev, page, 0, key, old, new_, 0, nilS, nilS, 0, 0⟩ : RV) 3).cs (0, 0) _ rfl ?_ Try.underlying25 rfl (hinfo25 (tidyR (⟨3, txn, prev, page, 0, key, old, new_, 0, nilS, nilS, 0, 0⟩ : RV) 3))) rfl ⟨rfl, ?_⟩
  · have h0 := HZ2.out
    simp [World.setRow, Array.getElem?_modify, h0]
  · exact setRow_below HB2.out (by omega) _

set_option maxHeartbeats 8000000 in
set_option maxRecDepth 10000 in
theorem clean_4 (kind txn prev page act : Int) (key old new_ : ByteArray) (next : Int) (iA : Option Addr) (in_ ic : Nat) (tA : Option Addr) (tn tc : Nat) (epoch node : Int) (w : World) (h : kind = 4) :
    Calls Try.prog 15 #[.agg #[.int .i64 kind, .int .i64 txn, .int .i64 prev, .int .i64 page, .int .i64 act, .string key, .string old, .string new_, .int .i64 next, .slice iA in_ ic, .slice tA tn tc, .int .i64 epoch, .int .i64 node]] w fun e w' => e = .returned (.agg (tidyR (⟨4, txn, prev, page, 0, key, old, new_, 0, nilS, nilS, 0, 0⟩ : RV) 4).cs) ∧ Below w.heap.size w w' := by
  have hu25 := Try.underlying25
  subst h
  go_enter Try.func15, Try.ntmps15
  go_wp2
  go_region_held3 (fun w' => w'.cell? ⟨w.heap.size, 1, none⟩ = some (.int .i64 txn) ∧ w'.cell? ⟨w.heap.size, 2, none⟩ = some (.int .i64 prev) ∧ w'.cell? ⟨w.heap.size, 3, none⟩ = some (.int .i64 page) ∧ w'.cell? ⟨w.heap.size, 5, none⟩ = some (.string key) ∧ w'.cell? ⟨w.heap.size, 6, none⟩ = some (.string old) ∧ w'.cell? ⟨w.heap.size, 7, none⟩ = some (.string new_)) (first | (repeat' apply And.intro) <;> go_simp | go_keep) (fail)
  have hI : RIs w (((w.alloc (.cells #[.int .i64 4, .int .i64 txn, .int .i64 prev, .int .i64 page, .int .i64 act, .string key, .string old, .string new_, .int .i64 next, .slice iA in_ ic, .slice tA tn tc, .int .i64 epoch, .int .i64 node] 25)).alloc (.cells #[.int .i64 0, .int .i64 0, .int .i64 0, .int .i64 0, .int .i64 0, .string ⟨#[]⟩, .string ⟨#[]⟩, .string ⟨#[]⟩, .int .i64 0, .slice none 0 0, .slice none 0 0, .int .i64 0, .int .i64 0] 25)).alloc (.cells #[.int .i64 4, .int .i64 txn, .int .i64 prev, .int .i64 page, .int .i64 0, .string key, .string old, .string new_, .int .i64 0, .slice none 0 0, .slice none 0 0, .int .i64 0, .int .i64 0] 25)).drew (w.heap.size + 1 + 1) ((⟨4, txn, prev, page, 0, key, old, new_, 0, nilS, nilS, 0, 0⟩ : RV)) := ⟨alloc3_new _ _ _ _, by omega⟩
  have HI := Lib.hid hI
  have HB := Lib.hid (show Below w.heap.size w (((w.alloc (.cells #[.int .i64 4, .int .i64 txn, .int .i64 prev, .int .i64 page, .int .i64 act, .string key, .string old, .string new_, .int .i64 next, .slice iA in_ ic, .slice tA tn tc, .int .i64 epoch, .int .i64 node] 25)).alloc (.cells #[.int .i64 0, .int .i64 0, .int .i64 0, .int .i64 0, .int .i64 0, .string ⟨#[]⟩, .string ⟨#[]⟩, .string ⟨#[]⟩, .int .i64 0, .slice none 0 0, .slice none 0 0, .int .i64 0, .int .i64 0] 25)).alloc (.cells #[.int .i64 4, .int .i64 txn, .int .i64 prev, .int .i64 page, .int .i64 0, .string key, .string old, .string new_, .int .i64 0, .slice none 0 0, .slice none 0 0, .int .i64 0, .int .i64 0] 25)).drew from below_drew (below_alloc (below_alloc (below_alloc (Below.refl _ _) _) _) _))
  have HZ := Lib.hid (show (((w.alloc (.cells #[.int .i64 4, .int .i64 txn, .int .i64 prev, .int .i64 page, .int .i64 act, .string key, .string old, .string new_, .int .i64 next, .slice iA in_ ic, .slice tA tn tc, .int .i64 epoch, .int .i64 node] 25)).alloc (.cells #[.int .i64 0, .int .i64 0, .int .i64 0, .int .i64 0, .int .i64 0, .string ⟨#[]⟩, .string ⟨#[]⟩, .string ⟨#[]⟩, .int .i64 0, .slice none 0 0, .slice none 0 0, .int .i64 0, .int .i64 0] 25)).alloc (.cells #[.int .i64 4, .int .i64 txn, .int .i64 prev, .int .i64 page, .int .i64 0, .string key, .string old, .string new_, .int .i64 0, .slice none 0 0, .slice none 0 0, .int .i64 0, .int .i64 0] 25)).drew.heap[w.heap.size + 1]? = some (.cells (zeroR 0).cs 25 (0, 0)) from ((below_alloc (Below.refl _ _) _).block _ (by simp)).trans (heap_alloc2_new _ _ _))
  clear hI
  go_wp2_with (first
    | (go_at_call 28; (with_reducible refine (tidy_calls w _ (w.heap.size + 1 + 1) ((⟨4, txn, prev, page, 0, key, old, new_, 0, nilS, nilS, 0, 0⟩ : RV)) 4 HI.out HB.out).mono ?_); rintro e' w2 ⟨rfl, hI2, hB2, hK2⟩; have HI2 := Lib.hid hI2; have HB2 := Lib.hid hB2; have HZ2 := Lib.hid (hK2.blk HZ.out (by omega) (by simp)); clear hI2 hB2 hK2)
    | (refine wpList_load_row rfl 25 _ rfl (w.heap.size + 1 + 1) rfl 25 _ (0, 0) _ HI2.out.h Try.underlying25 rfl (hinfo25 _) ?_)
    | (refine wpList_store_row rfl 25 _ _ rfl (w.heap.size + 1) (tidyR (⟨4, txn, prev, page, 0, key, old, new_, 0, nilS, nilS, 0, 0⟩ : RV) 4).cs rfl rfl 25 _ HZ2.out (hinfo25 _) rfl (rv_one _) ?_))
  refine bodyPost_ret (results_cell_row (p := 2) (ty := 25) rfl _ _ (w.heap.size + 1) 25 (tidyR (⟨4, txn, prev, page, 0, key, old, new_, 0, nilS, nilS, 0, 0⟩ : RV) 4).cs (0, 0) _ rfl ?_ Try.underlying25 rfl (hinfo25 (tidyR (⟨4, txn, prev, page, 0, key, old, new_, 0, nilS, nilS, 0, 0⟩ : RV) 4))) rfl ⟨rfl, ?_⟩
  · have h0 := HZ2.out
    simp [World.setRow, Array.getElem?_modify, h0]
  · exact setRow_below HB2.out (by omega) _

set_option maxHeartbeats 8000000 in
set_option maxRecDepth 10000 in
theorem clean_5 (kind txn prev page act : Int) (key old new_ : ByteArray) (next : Int) (iA : Option Addr) (in_ ic : Nat) (tA : Option Addr) (tn tc : Nat) (epoch node : Int) (w : World) (h : kind = 5) :
    Calls Try.prog 15 #[.agg #[.int .i64 kind, .int .i64 txn, .int .i64 prev, .int .i64 page, .int .i64 act, .string key, .string old, .string new_, .int .i64 next, .slice iA in_ ic, .slice tA tn tc, .int .i64 epoch, .int .i64 node]] w fun e w' => e = .returned (.agg (tidyR (⟨5, txn, prev, page, 0, key, old, new_, 0, nilS, nilS, 0, 0⟩ : RV) 5).cs) ∧ Below w.heap.size w w' := by
  have hu25 := Try.underlying25
  subst h
  go_enter Try.func15, Try.ntmps15
  go_wp2
  go_region_held3 (fun w' => w'.cell? ⟨w.heap.size, 1, none⟩ = some (.int .i64 txn) ∧ w'.cell? ⟨w.heap.size, 2, none⟩ = some (.int .i64 prev) ∧ w'.cell? ⟨w.heap.size, 3, none⟩ = some (.int .i64 page) ∧ w'.cell? ⟨w.heap.size, 5, none⟩ = some (.string key) ∧ w'.cell? ⟨w.heap.size, 6, none⟩ = some (.string old) ∧ w'.cell? ⟨w.heap.size, 7, none⟩ = some (.string new_)) (first | (repeat' apply And.intro) <;> go_simp | go_keep) (fail)
  have hI : RIs w (((w.alloc (.cells #[.int .i64 5, .int .i64 txn, .int .i64 prev, .int .i64 page, .int .i64 act, .string key, .string old, .string new_, .int .i64 next, .slice iA in_ ic, .slice tA tn tc, .int .i64 epoch, .int .i64 node] 25)).alloc (.cells #[.int .i64 0, .int .i64 0, .int .i64 0, .int .i64 0, .int .i64 0, .string ⟨#[]⟩, .string ⟨#[]⟩, .string ⟨#[]⟩, .int .i64 0, .slice none 0 0, .slice none 0 0, .int .i64 0, .int .i64 0] 25)).alloc (.cells #[.int .i64 5, .int .i64 txn, .int .i64 prev, .int .i64 page, .int .i64 0, .string key, .string old, .string new_, .int .i64 0, .slice none 0 0, .slice none 0 0, .int .i64 0, .int .i64 0] 25)).drew (w.heap.size + 1 + 1) ((⟨5, txn, prev, page, 0, key, old, new_, 0, nilS, nilS, 0, 0⟩ : RV)) := ⟨alloc3_new _ _ _ _, by omega⟩
  have HI := Lib.hid hI
  have HB := Lib.hid (show Below w.heap.size w (((w.alloc (.cells #[.int .i64 5, .int .i64 txn, .int .i64 prev, .int .i64 page, .int .i64 act, .string key, .string old, .string new_, .int .i64 next, .slice iA in_ ic, .slice tA tn tc, .int .i64 epoch, .int .i64 node] 25)).alloc (.cells #[.int .i64 0, .int .i64 0, .int .i64 0, .int .i64 0, .int .i64 0, .string ⟨#[]⟩, .string ⟨#[]⟩, .string ⟨#[]⟩, .int .i64 0, .slice none 0 0, .slice none 0 0, .int .i64 0, .int .i64 0] 25)).alloc (.cells #[.int .i64 5, .int .i64 txn, .int .i64 prev, .int .i64 page, .int .i64 0, .string key, .string old, .string new_, .int .i64 0, .slice none 0 0, .slice none 0 0, .int .i64 0, .int .i64 0] 25)).drew from below_drew (below_alloc (below_alloc (below_alloc (Below.refl _ _) _) _) _))
  have HZ := Lib.hid (show (((w.alloc (.cells #[.int .i64 5, .int .i64 txn, .int .i64 prev, .int .i64 page, .int .i64 act, .string key, .string old, .string new_, .int .i64 next, .slice iA in_ ic, .slice tA tn tc, .int .i64 epoch, .int .i64 node] 25)).alloc (.cells #[.int .i64 0, .int .i64 0, .int .i64 0, .int .i64 0, .int .i64 0, .string ⟨#[]⟩, .string ⟨#[]⟩, .string ⟨#[]⟩, .int .i64 0, .slice none 0 0, .slice none 0 0, .int .i64 0, .int .i64 0] 25)).alloc (.cells #[.int .i64 5, .int .i64 txn, .int .i64 prev, .int .i64 page, .int .i64 0, .string key, .string old, .string new_, .int .i64 0, .slice none 0 0, .slice none 0 0, .int .i64 0, .int .i64 0] 25)).drew.heap[w.heap.size + 1]? = some (.cells (zeroR 0).cs 25 (0, 0)) from ((below_alloc (Below.refl _ _) _).block _ (by simp)).trans (heap_alloc2_new _ _ _))
  clear hI
  go_wp2_with (first
    | (go_at_call 28; (with_reducible refine (tidy_calls w _ (w.heap.size + 1 + 1) ((⟨5, txn, prev, page, 0, key, old, new_, 0, nilS, nilS, 0, 0⟩ : RV)) 5 HI.out HB.out).mono ?_); rintro e' w2 ⟨rfl, hI2, hB2, hK2⟩; have HI2 := Lib.hid hI2; have HB2 := Lib.hid hB2; have HZ2 := Lib.hid (hK2.blk HZ.out (by omega) (by simp)); clear hI2 hB2 hK2)
    | (refine wpList_load_row rfl 25 _ rfl (w.heap.size + 1 + 1) rfl 25 _ (0, 0) _ HI2.out.h Try.underlying25 rfl (hinfo25 _) ?_)
    | (refine wpList_store_row rfl 25 _ _ rfl (w.heap.size + 1) (tidyR (⟨5, txn, prev, page, 0, key, old, new_, 0, nilS, nilS, 0, 0⟩ : RV) 5).cs rfl rfl 25 _ HZ2.out (hinfo25 _) rfl (rv_one _) ?_))
  refine bodyPost_ret (results_cell_row (p := 2) (ty := 25) rfl _ _ (w.heap.size + 1) 25 (tidyR (⟨5, txn, prev, page, 0, key, old, new_, 0, nilS, nilS, 0, 0⟩ : RV) 5).cs (0, 0) _ rfl ?_ Try.underlying25 rfl (hinfo25 (tidyR (⟨5, txn, prev, page, 0, key, old, new_, 0, nilS, nilS, 0, 0⟩ : RV) 5))) rfl ⟨rfl, ?_⟩
  · have h0 := HZ2.out
    simp [World.setRow, Array.getElem?_modify, h0]
  · exact setRow_below HB2.out (by omega) _

set_option maxHeartbeats 8000000 in
set_option maxRecDepth 10000 in
theorem clean_6 (kind txn prev page act : Int) (key old new_ : ByteArray) (next : Int) (iA : Option Addr) (in_ ic : Nat) (tA : Option Addr) (tn tc : Nat) (epoch node : Int) (w : World) (h : kind = 6) :
    Calls Try.prog 15 #[.agg #[.int .i64 kind, .int .i64 txn, .int .i64 prev, .int .i64 page, .int .i64 act, .string key, .string old, .string new_, .int .i64 next, .slice iA in_ ic, .slice tA tn tc, .int .i64 epoch, .int .i64 node]] w fun e w' => e = .returned (.agg (tidyR (⟨6, txn, prev, page, act, key, old, new_, next, nilS, nilS, 0, 0⟩ : RV) act).cs) ∧ Below w.heap.size w w' := by
  have hu25 := Try.underlying25
  subst h
  go_enter Try.func15, Try.ntmps15
  go_wp2
  go_region_held3 (fun w' => w'.cell? ⟨w.heap.size, 1, none⟩ = some (.int .i64 txn) ∧ w'.cell? ⟨w.heap.size, 2, none⟩ = some (.int .i64 prev) ∧ w'.cell? ⟨w.heap.size, 3, none⟩ = some (.int .i64 page) ∧ w'.cell? ⟨w.heap.size, 5, none⟩ = some (.string key) ∧ w'.cell? ⟨w.heap.size, 6, none⟩ = some (.string old) ∧ w'.cell? ⟨w.heap.size, 7, none⟩ = some (.string new_) ∧ w'.cell? ⟨w.heap.size, 4, none⟩ = some (.int .i64 act) ∧ w'.cell? ⟨w.heap.size, 8, none⟩ = some (.int .i64 next)) (first | (repeat' apply And.intro) <;> go_simp | go_keep) (fail)
  have hI : RIs w (((w.alloc (.cells #[.int .i64 6, .int .i64 txn, .int .i64 prev, .int .i64 page, .int .i64 act, .string key, .string old, .string new_, .int .i64 next, .slice iA in_ ic, .slice tA tn tc, .int .i64 epoch, .int .i64 node] 25)).alloc (.cells #[.int .i64 0, .int .i64 0, .int .i64 0, .int .i64 0, .int .i64 0, .string ⟨#[]⟩, .string ⟨#[]⟩, .string ⟨#[]⟩, .int .i64 0, .slice none 0 0, .slice none 0 0, .int .i64 0, .int .i64 0] 25)).alloc (.cells #[.int .i64 6, .int .i64 txn, .int .i64 prev, .int .i64 page, .int .i64 act, .string key, .string old, .string new_, .int .i64 next, .slice none 0 0, .slice none 0 0, .int .i64 0, .int .i64 0] 25)).drew (w.heap.size + 1 + 1) ((⟨6, txn, prev, page, act, key, old, new_, next, nilS, nilS, 0, 0⟩ : RV)) := ⟨alloc3_new _ _ _ _, by omega⟩
  have HI := Lib.hid hI
  have HB := Lib.hid (show Below w.heap.size w (((w.alloc (.cells #[.int .i64 6, .int .i64 txn, .int .i64 prev, .int .i64 page, .int .i64 act, .string key, .string old, .string new_, .int .i64 next, .slice iA in_ ic, .slice tA tn tc, .int .i64 epoch, .int .i64 node] 25)).alloc (.cells #[.int .i64 0, .int .i64 0, .int .i64 0, .int .i64 0, .int .i64 0, .string ⟨#[]⟩, .string ⟨#[]⟩, .string ⟨#[]⟩, .int .i64 0, .slice none 0 0, .slice none 0 0, .int .i64 0, .int .i64 0] 25)).alloc (.cells #[.int .i64 6, .int .i64 txn, .int .i64 prev, .int .i64 page, .int .i64 act, .string key, .string old, .string new_, .int .i64 next, .slice none 0 0, .slice none 0 0, .int .i64 0, .int .i64 0] 25)).drew from below_drew (below_alloc (below_alloc (below_alloc (Below.refl _ _) _) _) _))
  have HZ := Lib.hid (show (((w.alloc (.cells #[.int .i64 6, .int .i64 txn, .int .i64 prev, .int .i64 page, .int .i64 act, .string key, .string old, .string new_, .int .i64 next, .slice iA in_ ic, .slice tA tn tc, .int .i64 epoch, .int .i64 node] 25)).alloc (.cells #[.int .i64 0, .int .i64 0, .int .i64 0, .int .i64 0, .int .i64 0, .string ⟨#[]⟩, .string ⟨#[]⟩, .string ⟨#[]⟩, .int .i64 0, .slice none 0 0, .slice none 0 0, .int .i64 0, .int .i64 0] 25)).alloc (.cells #[.int .i64 6, .int .i64 txn, .int .i64 prev, .int .i64 page, .int .i64 act, .string key, .string old, .string new_, .int .i64 next, .slice none 0 0, .slice none 0 0, .int .i64 0, .int .i64 0] 25)).drew.heap[w.heap.size + 1]? = some (.cells (zeroR 0).cs 25 (0, 0)) from ((below_alloc (Below.refl _ _) _).block _ (by simp)).trans (heap_alloc2_new _ _ _))
  clear hI
  go_wp2_with (first
    | (go_at_call 28; (with_reducible refine (tidy_calls w _ (w.heap.size + 1 + 1) ((⟨6, txn, prev, page, act, key, old, new_, next, nilS, nilS, 0, 0⟩ : RV)) act HI.out HB.out).mono ?_); rintro e' w2 ⟨rfl, hI2, hB2, hK2⟩; have HI2 := Lib.hid hI2; have HB2 := Lib.hid hB2; have HZ2 := Lib.hid (hK2.blk HZ.out (by omega) (by simp)); clear hI2 hB2 hK2)
    | (refine wpList_load_row rfl 25 _ rfl (w.heap.size + 1 + 1) rfl 25 _ (0, 0) _ HI2.out.h Try.underlying25 rfl (hinfo25 _) ?_)
    | (refine wpList_store_row rfl 25 _ _ rfl (w.heap.size + 1) (tidyR (⟨6, txn, prev, page, act, key, old, new_, next, nilS, nilS, 0, 0⟩ : RV) act).cs rfl rfl 25 _ HZ2.out (hinfo25 _) rfl (rv_one _) ?_))
  refine bodyPost_ret (results_cell_row (p := 2) (ty := 25) rfl _ _ (w.heap.size + 1) 25 (tidyR (⟨6, txn, prev, page, act, key, old, new_, next, nilS, nilS, 0, 0⟩ : RV) act).cs (0, 0) _ rfl ?_ Try.underlying25 rfl (hinfo25 (tidyR (⟨6, txn, prev, page, act, key, old, new_, next, nilS, nilS, 0, 0⟩ : RV) act))) rfl ⟨rfl, ?_⟩
  · have h0 := HZ2.out
    simp [World.setRow, Array.getElem?_modify, h0]
  · exact setRow_below HB2.out (by omega) _

/-- The contract of rec.Clean. -/
theorem clean_calls (r : RV) (w : World) : Calls Try.prog 15 #[.agg r.cs] w fun e w' => e = .returned (.agg (cleanR r).cs) ∧ Below w.heap.size w w' := by
  obtain ⟨kind, txn, prev, page, act, key, old, new_, next, ⟨iA, in_, ic⟩, ⟨tA, tn, tc⟩, epoch, node⟩ := r
  by_cases h : 1 ≤ kind ∧ kind ≤ 10
  · obtain ⟨h1, h2⟩ := h
    rcases (by omega : kind = 1 ∨ kind = 2 ∨ kind = 3 ∨ kind = 4 ∨ kind = 5 ∨ kind = 6 ∨ kind = 7 ∨ kind = 8 ∨ kind = 9 ∨ kind = 10) with rfl | rfl | rfl | rfl | rfl | rfl | rfl | rfl | rfl | rfl
    · exact clean_1 1 txn prev page act key old new_ next iA in_ ic tA tn tc epoch node w rfl
    · exact clean_2 2 txn prev page act key old new_ next iA in_ ic tA tn tc epoch node w rfl
    · exact clean_3 3 txn prev page act key old new_ next iA in_ ic tA tn tc epoch node w rfl
    · exact clean_4 4 txn prev page act key old new_ next iA in_ ic tA tn tc epoch node w rfl
    · exact clean_5 5 txn prev page act key old new_ next iA in_ ic tA tn tc epoch node w rfl
    · exact clean_6 6 txn prev page act key old new_ next iA in_ ic tA tn tc epoch node w rfl
    · exact clean_7 7 txn prev page act key old new_ next iA in_ ic tA tn tc epoch node w rfl
    · exact clean_8 8 txn prev page act key old new_ next iA in_ ic tA tn tc epoch node w rfl
    · exact clean_9 9 txn prev page act key old new_ next iA in_ ic tA tn tc epoch node w rfl
    · exact clean_10 10 txn prev page act key old new_ next iA in_ ic tA tn tc epoch node w rfl
  · have e : cleanR ⟨kind, txn, prev, page, act, key, old, new_, next, ⟨iA, in_, ic⟩, ⟨tA, tn, tc⟩, epoch, node⟩ = zeroR kind := by
      unfold cleanR
      simp only
      rw [if_neg (by omega), if_neg (by omega), if_neg (by omega), if_neg (by omega), if_neg (by omega), if_neg (by omega)]
    rw [e]
    exact clean_other kind txn prev page act key old new_ next iA in_ ic tA tn tc epoch node w h
end Go.Proofs.Ytdphikbkknkhiaa.PAll
