/- rec.link, rec.change, rec.cut, rec.images, walked by hand over pack.Writer's contracts. -/
import Derived.Test.YtdphikbkknkhiaaWrPlain
import Derived.LoopTactic
namespace Go.Proofs.Ytdphikbkknkhiaa.PAll
open Go.RowKit Go.Proofs.Ytdphikbkknkhiaa.Pure Go.Proofs.YtdphikbkknkhiaaW.PrintWords Go.Proofs.YtdphikbkknkhiaaW.PrintLast Go.Proofs.YtdphikbkknkhiaaW.PrintMore
set_option linter.unusedVariables false
set_option linter.unusedSimpArgs false

/-- A writer in a world; how many items it has room for, at least. -/
structure WR (w0 w : World) (g : Nat) (k : Nat) (r : WS) : Prop where
  i : IsS71 w0 w g r.1 r.2
  b : Below w0.heap.size w0 w
  z : r.1.size + 65537 * k ≤ 1099511627776
section
variable {w0 w : World} {g k : Nat} {r : WS}
theorem WR.below {w' : World} (h : WR w0 w g k r) (hb : Below w.heap.size w w') : WR w0 w' g k r := ⟨h.i.below hb, below_step h.b hb, h.z⟩
theorem WR.alloc (h : WR w0 w g k r) (o : Obj) : WR w0 (w.alloc o) g k r := h.below (below_alloc (Below.refl _ _) o)
theorem WR.le {j : Nat} (h : WR w0 w g k r) (hj : j ≤ k) : WR w0 w g j r := ⟨h.i, h.b, by have := h.z; have : 65537 * j ≤ 65537 * k := Nat.mul_le_mul_left _ hj; omega⟩
theorem wr_num (h : WR w0 w g (k + 1) r) (n wd : Int) (h1 : 1 ≤ wd) (h6 : wd ≤ 6) :
    Calls Try.prog 36 #[.pointer (some ⟨g, 0, none⟩), .int .i64 n, .int .i64 wd] w fun e' w' => e' = .returned (.tuple #[]) ∧ WR w0 w' g k (wrS r (num_ n wd)) ∧ KeepBut w w' g none :=
  (pack_Writer_Num.calls g r.1 r.2 n wd _ _ w0 w h.i h.b (wnum_is r n wd h1 h6 (by have := h.z; omega))).mono fun _ _ ⟨he, hI, hB, hK⟩ => ⟨he, ⟨hI, hB, by have := h.z; have := wrS_le r (num_ n wd) h6; omega⟩, hK⟩
theorem wr_text (h : WR w0 w g (k + 1) r) (t : ByteArray) :
    Calls Try.prog 55 #[.pointer (some ⟨g, 0, none⟩), .string t] w fun e' w' => e' = .returned (.tuple #[]) ∧ WR w0 w' g k (wrS r (text_ t)) ∧ KeepBut w w' g none :=
  (pack_Writer_Text.calls g r.1 r.2 t _ _ w0 w h.i h.b (wtext_is r t (by have := h.z; omega))).mono fun _ _ ⟨he, hI, hB, hK⟩ => ⟨he, ⟨hI, hB, by have := h.z; have := wrS_le r (text_ t) (by show (0 : Int) ≤ 6; omega); omega⟩, hK⟩
theorem wr_all (h : WR w0 w g k r) :
    Calls Try.prog 41 #[.pointer (some ⟨g, 0, none⟩)] w fun e' w' => e' = .returned (.tuple #[.string r.1, .int .i64 r.2]) ∧ WR w0 w' g k r :=
  (pack_Writer_All.calls g r.1 r.2 r.1 r.2 r.1 r.2 w0 w h.i h.b (by rfl)).mono fun _ _ ⟨he, hI, hB, hK⟩ => ⟨he, ⟨hI, hB, h.z⟩⟩
end
/-- A block made now is kept by what writes another one. -/
theorem keep_new {w w1 w2 : World} {g : Nat} {o : Obj} (hg : g < w.heap.size) (h1 : w1.heap[w.heap.size]? = some o) (hk : KeepBut w1 w2 g none) : w2.heap[w.heap.size]? = some o := hk.blk h1 (by omega) (by simp)

set_option maxHeartbeats 4000000 in
set_option maxRecDepth 10000 in
theorem link_walk (kind txn prev page act : Int) (key old new_ : ByteArray) (next : Int) (iA : Option Addr) (in_ ic : Nat) (tA : Option Addr) (tn tc : Nat) (epoch node : Int) (w0 w : World) (g k : Nat) (r : WS) (hW : WR w0 w g (k + 2) r) :
    Calls Try.prog 39 #[.pointer (some ⟨g, 0, none⟩), .agg #[.int .i64 kind, .int .i64 txn, .int .i64 prev, .int .i64 page, .int .i64 act, .string key, .string old, .string new_, .int .i64 next, .slice iA in_ ic, .slice tA tn tc, .int .i64 epoch, .int .i64 node]] w fun e' w' => e' = .returned (.tuple #[]) ∧ WR w0 w' g k (wrL r [num_ txn 6, num_ prev 6]) ∧ KeepBut w w' g none := by
  have hu25 := Try.underlying25
  have HLT := Lib.hid hW.i.lt
  have HX0 := Lib.hid (heap_alloc_new w (.cells #[.int .i64 kind, .int .i64 txn, .int .i64 prev, .int .i64 page, .int .i64 act, .string key, .string old, .string new_, .int .i64 next, .slice iA in_ ic, .slice tA tn tc, .int .i64 epoch, .int .i64 node] 25))
  have HW0 := Lib.hid (hW.alloc (.cells #[.int .i64 kind, .int .i64 txn, .int .i64 prev, .int .i64 page, .int .i64 act, .string key, .string old, .string new_, .int .i64 next, .slice iA in_ ic, .slice tA tn tc, .int .i64 epoch, .int .i64 node] 25))
  clear hW
  go_enter Try.func39, Try.ntmps39
  go_wp2_with (first
    | (go_at_call 36; (with_reducible refine (wr_num HW1.out prev 6 (by omega) (by omega)).mono ?_); rintro e' w2 ⟨rfl, hB2, hK2⟩; have HW2 := Lib.hid hB2; have HK2 := Lib.hid hK2; have x2 := keep_new HLT.out HX1.out hK2; have HX2 := Lib.hid x2;  clear x2 hB2 hK2)
    | (go_at_call 36; (with_reducible refine (wr_num HW0.out txn 6 (by omega) (by omega)).mono ?_); rintro e' w1 ⟨rfl, hB1, hK1⟩; have HW1 := Lib.hid hB1; have HK1 := Lib.hid hK1; have x1 := keep_new HLT.out HX0.out hK1; have HX1 := Lib.hid x1; have x1c2 : w1.cell? ⟨w.heap.size, 2, none⟩ = some (.int .i64 prev) := (blk_cell x1 2).trans rfl; clear x1 hB1 hK1))
  go_end0
  exact ⟨rfl, HW2.out, KeepBut.trans (KeepBut.trans (KeepBut.of_below (below_alloc (Below.refl _ _) _) g none) HK1.out (.inl rfl)) HK2.out (.inl rfl)⟩

set_option maxHeartbeats 4000000 in
set_option maxRecDepth 10000 in
theorem change_3 (kind txn prev page act : Int) (key old new_ : ByteArray) (next : Int) (iA : Option Addr) (in_ ic : Nat) (tA : Option Addr) (tn tc : Nat) (epoch node : Int) (a2 : Int) (w0 w : World) (g k : Nat) (r : WS) (hW : WR w0 w g (k + 3) r) (ha : a2 = 3) :
    Calls Try.prog 40 #[.pointer (some ⟨g, 0, none⟩), .agg #[.int .i64 kind, .int .i64 txn, .int .i64 prev, .int .i64 page, .int .i64 act, .string key, .string old, .string new_, .int .i64 next, .slice iA in_ ic, .slice tA tn tc, .int .i64 epoch, .int .i64 node], .int .i64 a2] w fun e' w' => e' = .returned (.tuple #[]) ∧ WR w0 w' g k (wrL r [num_ page 2, text_ key, text_ new_]) ∧ KeepBut w w' g none := by
  subst ha
  have hu25 := Try.underlying25
  have HLT := Lib.hid hW.i.lt
  have HX0 := Lib.hid (heap_alloc_new w (.cells #[.int .i64 kind, .int .i64 txn, .int .i64 prev, .int .i64 page, .int .i64 act, .string key, .string old, .string new_, .int .i64 next, .slice iA in_ ic, .slice tA tn tc, .int .i64 epoch, .int .i64 node] 25))
  have HW0 := Lib.hid (hW.alloc (.cells #[.int .i64 kind, .int .i64 txn, .int .i64 prev, .int .i64 page, .int .i64 act, .string key, .string old, .string new_, .int .i64 next, .slice iA in_ ic, .slice tA tn tc, .int .i64 epoch, .int .i64 node] 25))
  clear hW
  go_enter Try.func40, Try.ntmps40
  go_wp2_with (first
    | (go_at_call 55; (with_reducible refine (wr_text HW2.out new_).mono ?_); rintro e' w3 ⟨rfl, hB3, hK3⟩; have HW3 := Lib.hid hB3; have HK3 := Lib.hid hK3; have x3 := keep_new HLT.out HX2.out hK3; have HX3 := Lib.hid x3; have x3c7 : w3.cell? ⟨w.heap.size, 7, none⟩ = some (.string new_) := (blk_cell x3 7).trans rfl; clear x3 hB3 hK3)
    | (go_at_call 55; (with_reducible refine (wr_text HW1.out key).mono ?_); rintro e' w2 ⟨rfl, hB2, hK2⟩; have HW2 := Lib.hid hB2; have HK2 := Lib.hid hK2; have x2 := keep_new HLT.out HX1.out hK2; have HX2 := Lib.hid x2; have x2c6 : w2.cell? ⟨w.heap.size, 6, none⟩ = some (.string old) := (blk_cell x2 6).trans rfl; have x2c7 : w2.cell? ⟨w.heap.size, 7, none⟩ = some (.string new_) := (blk_cell x2 7).trans rfl; clear x2 hB2 hK2)
    | (go_at_call 36; (with_reducible refine (wr_num HW0.out page 2 (by omega) (by omega)).mono ?_); rintro e' w1 ⟨rfl, hB1, hK1⟩; have HW1 := Lib.hid hB1; have HK1 := Lib.hid hK1; have x1 := keep_new HLT.out HX0.out hK1; have HX1 := Lib.hid x1; have x1c5 : w1.cell? ⟨w.heap.size, 5, none⟩ = some (.string key) := (blk_cell x1 5).trans rfl; clear x1 hB1 hK1))
  go_end0
  exact ⟨rfl, HW3.out, KeepBut.trans (KeepBut.trans (KeepBut.trans (KeepBut.of_below (below_alloc (Below.refl _ _) _) g none) HK1.out (.inl rfl)) HK2.out (.inl rfl)) HK3.out (.inl rfl)⟩

set_option maxHeartbeats 4000000 in
set_option maxRecDepth 10000 in
theorem change_4 (kind txn prev page act : Int) (key old new_ : ByteArray) (next : Int) (iA : Option Addr) (in_ ic : Nat) (tA : Option Addr) (tn tc : Nat) (epoch node : Int) (a2 : Int) (w0 w : World) (g k : Nat) (r : WS) (hW : WR w0 w g (k + 3) r) (ha : a2 = 4) :
    Calls Try.prog 40 #[.pointer (some ⟨g, 0, none⟩), .agg #[.int .i64 kind, .int .i64 txn, .int .i64 prev, .int .i64 page, .int .i64 act, .string key, .string old, .string new_, .int .i64 next, .slice iA in_ ic, .slice tA tn tc, .int .i64 epoch, .int .i64 node], .int .i64 a2] w fun e' w' => e' = .returned (.tuple #[]) ∧ WR w0 w' g k (wrL r [num_ page 2, text_ key, text_ old]) ∧ KeepBut w w' g none := by
  subst ha
  have hu25 := Try.underlying25
  have HLT := Lib.hid hW.i.lt
  have HX0 := Lib.hid (heap_alloc_new w (.cells #[.int .i64 kind, .int .i64 txn, .int .i64 prev, .int .i64 page, .int .i64 act, .string key, .string old, .string new_, .int .i64 next, .slice iA in_ ic, .slice tA tn tc, .int .i64 epoch, .int .i64 node] 25))
  have HW0 := Lib.hid (hW.alloc (.cells #[.int .i64 kind, .int .i64 txn, .int .i64 prev, .int .i64 page, .int .i64 act, .string key, .string old, .string new_, .int .i64 next, .slice iA in_ ic, .slice tA tn tc, .int .i64 epoch, .int .i64 node] 25))
  clear hW
  go_enter Try.func40, Try.ntmps40
  go_wp2_with (first
    | (go_at_call 55; (with_reducible refine (wr_text HW2.out old).mono ?_); rintro e' w3 ⟨rfl, hB3, hK3⟩; have HW3 := Lib.hid hB3; have HK3 := Lib.hid hK3; have x3 := keep_new HLT.out HX2.out hK3; have HX3 := Lib.hid x3; have x3c7 : w3.cell? ⟨w.heap.size, 7, none⟩ = some (.string new_) := (blk_cell x3 7).trans rfl; clear x3 hB3 hK3)
    | (go_at_call 55; (with_reducible refine (wr_text HW1.out key).mono ?_); rintro e' w2 ⟨rfl, hB2, hK2⟩; have HW2 := Lib.hid hB2; have HK2 := Lib.hid hK2; have x2 := keep_new HLT.out HX1.out hK2; have HX2 := Lib.hid x2; have x2c6 : w2.cell? ⟨w.heap.size, 6, none⟩ = some (.string old) := (blk_cell x2 6).trans rfl; have x2c7 : w2.cell? ⟨w.heap.size, 7, none⟩ = some (.string new_) := (blk_cell x2 7).trans rfl; clear x2 hB2 hK2)
    | (go_at_call 36; (with_reducible refine (wr_num HW0.out page 2 (by omega) (by omega)).mono ?_); rintro e' w1 ⟨rfl, hB1, hK1⟩; have HW1 := Lib.hid hB1; have HK1 := Lib.hid hK1; have x1 := keep_new HLT.out HX0.out hK1; have HX1 := Lib.hid x1; have x1c5 : w1.cell? ⟨w.heap.size, 5, none⟩ = some (.string key) := (blk_cell x1 5).trans rfl; clear x1 hB1 hK1))
  go_end0
  exact ⟨rfl, HW3.out, KeepBut.trans (KeepBut.trans (KeepBut.trans (KeepBut.of_below (below_alloc (Below.refl _ _) _) g none) HK1.out (.inl rfl)) HK2.out (.inl rfl)) HK3.out (.inl rfl)⟩

set_option maxHeartbeats 4000000 in
set_option maxRecDepth 10000 in
theorem change_5 (kind txn prev page act : Int) (key old new_ : ByteArray) (next : Int) (iA : Option Addr) (in_ ic : Nat) (tA : Option Addr) (tn tc : Nat) (epoch node : Int) (a2 : Int) (w0 w : World) (g k : Nat) (r : WS) (hW : WR w0 w g (k + 4) r) (ha3 : a2 ≠ 3) (ha4 : a2 ≠ 4) :
    Calls Try.prog 40 #[.pointer (some ⟨g, 0, none⟩), .agg #[.int .i64 kind, .int .i64 txn, .int .i64 prev, .int .i64 page, .int .i64 act, .string key, .string old, .string new_, .int .i64 next, .slice iA in_ ic, .slice tA tn tc, .int .i64 epoch, .int .i64 node], .int .i64 a2] w fun e' w' => e' = .returned (.tuple #[]) ∧ WR w0 w' g k (wrL r [num_ page 2, text_ key, text_ old, text_ new_]) ∧ KeepBut w w' g none := by
  have d3 : (a2 != 3) = true := by simpa using ha3
  have d4 : (a2 != 4) = true := by simpa using ha4
  have hu25 := Try.underlying25
  have HLT := Lib.hid hW.i.lt
  have HX0 := Lib.hid (heap_alloc_new w (.cells #[.int .i64 kind, .int .i64 txn, .int .i64 prev, .int .i64 page, .int .i64 act, .string key, .string old, .string new_, .int .i64 next, .slice iA in_ ic, .slice tA tn tc, .int .i64 epoch, .int .i64 node] 25))
  have HW0 := Lib.hid (hW.alloc (.cells #[.int .i64 kind, .int .i64 txn, .int .i64 prev, .int .i64 page, .int .i64 act, .string key, .string old, .string new_, .int .i64 next, .slice iA in_ ic, .slice tA tn tc, .int .i64 epoch, .int .i64 node] 25))
  clear hW
  go_enter Try.func40, Try.ntmps40
  go_wp2_with (first
    | (go_at_call 55; (with_reducible refine (wr_text HW3.out new_).mono ?_); rintro e' w4 ⟨rfl, hB4, hK4⟩; have HW4 := Lib.hid hB4; have HK4 := Lib.hid hK4; have x4 := keep_new HLT.out HX3.out hK4; have HX4 := Lib.hid x4; have x4c7 : w4.cell? ⟨w.heap.size, 7, none⟩ = some (.string new_) := (blk_cell x4 7).trans rfl; clear x4 hB4 hK4)
    | (go_at_call 55; (with_reducible refine (wr_text HW2.out old).mono ?_); rintro e' w3 ⟨rfl, hB3, hK3⟩; have HW3 := Lib.hid hB3; have HK3 := Lib.hid hK3; have x3 := keep_new HLT.out HX2.out hK3; have HX3 := Lib.hid x3; have x3c7 : w3.cell? ⟨w.heap.size, 7, none⟩ = some (.string new_) := (blk_cell x3 7).trans rfl; clear x3 hB3 hK3)
    | (go_at_call 55; (with_reducible refine (wr_text HW1.out key).mono ?_); rintro e' w2 ⟨rfl, hB2, hK2⟩; have HW2 := Lib.hid hB2; have HK2 := Lib.hid hK2; have x2 := keep_new HLT.out HX1.out hK2; have HX2 := Lib.hid x2; have x2c6 : w2.cell? ⟨w.heap.size, 6, none⟩ = some (.string old) := (blk_cell x2 6).trans rfl; have x2c7 : w2.cell? ⟨w.heap.size, 7, none⟩ = some (.string new_) := (blk_cell x2 7).trans rfl; clear x2 hB2 hK2)
    | (go_at_call 36; (with_reducible refine (wr_num HW0.out page 2 (by omega) (by omega)).mono ?_); rintro e' w1 ⟨rfl, hB1, hK1⟩; have HW1 := Lib.hid hB1; have HK1 := Lib.hid hK1; have x1 := keep_new HLT.out HX0.out hK1; have HX1 := Lib.hid x1; have x1c5 : w1.cell? ⟨w.heap.size, 5, none⟩ = some (.string key) := (blk_cell x1 5).trans rfl; clear x1 hB1 hK1))
  go_end0
  exact ⟨rfl, HW4.out, KeepBut.trans (KeepBut.trans (KeepBut.trans (KeepBut.trans (KeepBut.of_below (below_alloc (Below.refl _ _) _) g none) HK1.out (.inl rfl)) HK2.out (.inl rfl)) HK3.out (.inl rfl)) HK4.out (.inl rfl)⟩

theorem cell_lt {w : World} {a : Addr} {v : Value} (h : w.cell? a = some v) : a.block < w.heap.size := World.block_lt_of_cell? w _ h
theorem cell_below {w0 w : World} (h : Below w0.heap.size w0 w) {p : Addr} {v : Value} (hc : w0.cell? p = some v) : w.cell? p = some v := (h.cell (cell_lt hc)).trans hc
theorem imgL_snoc (l : List S36) (j : Nat) (h : j < l.length) : imgL (l.take (j + 1)) = imgL (l.take j) ++ [num_ l[j].f0 2, text_ l[j].f1] := by
  unfold imgL
  rw [List.take_succ_eq_append_getElem h, List.flatMap_append]
  rfl
theorem tabL_snoc (l : List S55) (j : Nat) (h : j < l.length) : tabL (l.take (j + 1)) = tabL (l.take j) ++ [num_ l[j].f0 6, num_ l[j].f1 6] := by
  unfold tabL
  rw [List.take_succ_eq_append_getElem h, List.flatMap_append]
  rfl
theorem rd36_get (l : List S36) (j : Nat) (h : j < l.length) : rd_T36 l (j : Int) = l[j] := by
  unfold rd_T36
  rw [Int.toNat_natCast, List.getD_eq_getElem?_getD, List.getElem?_eq_getElem h]
  rfl
theorem rd55_get (l : List S55) (j : Nat) (h : j < l.length) : rd_T55 l (j : Int) = l[j] := by
  unfold rd_T55
  rw [Int.toNat_natCast, List.getD_eq_getElem?_getD, List.getElem?_eq_getElem h]
  rfl
end Go.Proofs.Ytdphikbkknkhiaa.PAll
