/- A reader's calls, in one form; rec.readChange, walked by hand. -/
import Derived.Test.YtdphikbkknkhiaaReadPlain
import Derived.Test.YtdphikbkknkhiaaClean
import Derived.LoopTactic
namespace Go.Proofs.Ytdphikbkknkhiaa.PAll
open Go.RowKit Go.Proofs.Ytdphikbkknkhiaa.Pure Go.Proofs.YtdphikbkknkhiaaW.PrintWords Go.Proofs.YtdphikbkknkhiaaW.PrintLast Go.Proofs.YtdphikbkknkhiaaW.PrintMore
set_option linter.unusedVariables false
set_option linter.unusedSimpArgs false

/-- A reader in a world: where it stands, and its error. -/
structure RD (w0 w : World) (g : Nat) (s : ByteArray) (a e : Int) : Prop where
  i : IsS81 w0 w g s a e
  b : Below w0.heap.size w0 w
  v : RInv s a
section
variable {w0 w : World} {g : Nat} {s : ByteArray} {a e : Int}
theorem RD.below {w' : World} (h : RD w0 w g s a e) (hb : Below w.heap.size w w') : RD w0 w' g s a e := ⟨h.i.below hb, below_step h.b hb, h.v⟩
theorem RD.alloc (h : RD w0 w g s a e) (o : Obj) : RD w0 (w.alloc o) g s a e := h.below (below_alloc (Below.refl _ _) o)
theorem RD.set (h : RD w0 w g s a e) {gr : Nat} {cs : Array Value} (hx : w.heap[gr]? = some (.cells cs 25 (0, 0))) (hg : w0.heap.size ≤ gr) (j : Nat) (u : Value) : RD w0 (w.setCell ⟨gr, j, none⟩ u) g s a e :=
  ⟨IsS81.far h.i (IsS81.ne_blk h.i hx (by decide)) u, below_set h.b hg, h.v⟩
theorem RD.kept {w' : World} {a' e' : Int} (h : RD w0 w g s a e) (hk : KeepBut w w' g none) {gr : Nat} {cs : Array Value} (hx : w.heap[gr]? = some (.cells cs 25 (0, 0))) : w'.heap[gr]? = some (.cells cs 25 (0, 0)) :=
  hk.blk hx (fun c => IsS81.ne_blk h.i hx (by decide) c.symm) (by simp)
theorem rd_num (h : RD w0 w g s a e) (wd : Int) {n a' e' : Int} (hn : numS s a e wd = (n, a', e')) :
    Calls Try.prog 30 #[.pointer (some ⟨g, 0, none⟩), .int .i64 wd] w fun x w' => x = .returned (.int .i64 n) ∧ RD w0 w' g s a' e' ∧ KeepBut w w' g none :=
  (pack_Reader_Num.calls g s a e wd n s a' e' w0 w h.i h.b (by rw [num_is h.v e wd, hn])).mono fun _ _ ⟨he, hI, hB, hK⟩ => ⟨he, ⟨hI, hB, by have := numS_inv h.v e wd; rw [hn] at this; exact this⟩, hK⟩
theorem rd_text (h : RD w0 w g s a e) (most : Int) {n : ByteArray} {a' e' : Int} (hn : textS s a e most = (n, a', e')) :
    Calls Try.prog 57 #[.pointer (some ⟨g, 0, none⟩), .int .i64 most] w fun x w' => x = .returned (.string n) ∧ RD w0 w' g s a' e' ∧ KeepBut w w' g none :=
  (pack_Reader_Text.calls 10 g s a e most n s a' e' w0 w h.i h.b (by rw [text_is h.v 10 (by omega) e most, hn])).mono fun _ _ ⟨he, hI, hB, hK⟩ => ⟨he, ⟨hI, hB, by have := textS_inv h.v e most; rw [hn] at this; exact this⟩, hK⟩
theorem rd_err (h : RD w0 w g s a e) :
    Calls Try.prog 47 #[.pointer (some ⟨g, 0, none⟩)] w fun x w' => x = .returned (.int .i64 e) ∧ RD w0 w' g s a e ∧ KeepBut w w' g none :=
  (pack_Reader_Err.calls g s a e e s a e w0 w h.i h.b (by rfl)).mono fun _ _ ⟨he, hI, hB, hK⟩ => ⟨he, ⟨hI, hB, h.v⟩, hK⟩
theorem rd_end (h : RD w0 w g s a e) :
    Calls Try.prog 51 #[.pointer (some ⟨g, 0, none⟩)] w fun x w' => x = .returned (.int .i64 (endS s a e)) ∧ RD w0 w' g s a (endS s a e) ∧ KeepBut w w' g none :=
  (pack_Reader_End.calls g s a e _ s a _ w0 w h.i h.b (end_is h.v e)).mono fun _ _ ⟨he, hI, hB, hK⟩ => ⟨he, ⟨hI, hB, h.v⟩, hK⟩
end

set_option maxHeartbeats 4000000 in
set_option maxRecDepth 10000 in
theorem rdchg_3 (kind txn prev page act : Int) (key old new_ : ByteArray) (next : Int) (iA : Option Addr) (in_ ic : Nat) (tA : Option Addr) (tn tc : Nat) (epoch node : Int) (a2 : Int) {w0 w : World} {g : Nat} {s : ByteArray} {a e : Int} (hR : RD w0 w g s a e) (gr : Nat) (hg : w0.heap.size ≤ gr) (hx : w.heap[gr]? = some (.cells #[.int .i64 kind, .int .i64 txn, .int .i64 prev, .int .i64 page, .int .i64 act, .string key, .string old, .string new_, .int .i64 next, .slice iA in_ ic, .slice tA tn tc, .int .i64 epoch, .int .i64 node] 25 (0, 0))) (ha : a2 = 3) {v1 : Int} {o1 e1 : Int} (h1 : numS s a e 2 = (v1, o1, e1)) {v2 : ByteArray} {o2 e2 : Int} (h2 : textS s o1 e1 16 = (v2, o2, e2)) {v3 : ByteArray} {o3 e3 : Int} (h3 : textS s o2 e2 32 = (v3, o3, e3)) :
    Calls Try.prog 49 #[.pointer (some ⟨g, 0, none⟩), .pointer (some ⟨gr, 0, none⟩), .int .i64 a2] w fun x w' => x = .returned (.tuple #[]) ∧ RD w0 w' g s o3 e3 ∧ w'.heap[gr]? = some (.cells #[.int .i64 kind, .int .i64 txn, .int .i64 prev, .int .i64 v1, .int .i64 act, .string v2, .string old, .string v3, .int .i64 next, .slice iA in_ ic, .slice tA tn tc, .int .i64 epoch, .int .i64 node] 25 (0, 0)) := by
  subst ha
  have hu25 := Try.underlying25
  have HR0 := Lib.hid hR
  have HX0 := Lib.hid hx
  have H1 := Lib.hid h1
  have H2 := Lib.hid h2
  have H3 := Lib.hid h3
  clear hR hx h1 h2 h3
  go_enter Try.func49, Try.ntmps49
  go_wp2_with (first
    | (go_at_call 57; (with_reducible refine (rd_text HR2.out 32 H3.out).mono ?_); rintro e' w3 ⟨rfl, hR3, hK3⟩; have x3 := RD.kept (a' := 0) (e' := 0) HR2.out hK3 HX2.out; have hf3 := blk_frozen x3 7; have hq3 : w3.cell? ⟨gr, 7, none⟩ = some (.string new_) := (blk_cell x3 7).trans rfl; have HR3 := Lib.hid (RD.set hR3 x3 hg 7 (.string v3)); have HX3 := Lib.hid (show (w3.setCell ⟨gr, 7, none⟩ (.string v3)).heap[gr]? = some (.cells #[.int .i64 kind, .int .i64 txn, .int .i64 prev, .int .i64 v1, .int .i64 act, .string v2, .string old, .string v3, .int .i64 next, .slice iA in_ ic, .slice tA tn tc, .int .i64 epoch, .int .i64 node] 25 (0, 0)) from blk_put x3 7 _ rfl); clear x3 hR3 hK3)
    | (go_at_call 57; (with_reducible refine (rd_text HR1.out 16 H2.out).mono ?_); rintro e' w2 ⟨rfl, hR2, hK2⟩; have x2 := RD.kept (a' := 0) (e' := 0) HR1.out hK2 HX1.out; have hf2 := blk_frozen x2 5; have hq2 : w2.cell? ⟨gr, 5, none⟩ = some (.string key) := (blk_cell x2 5).trans rfl; have HR2 := Lib.hid (RD.set hR2 x2 hg 5 (.string v2)); have HX2 := Lib.hid (show (w2.setCell ⟨gr, 5, none⟩ (.string v2)).heap[gr]? = some (.cells #[.int .i64 kind, .int .i64 txn, .int .i64 prev, .int .i64 v1, .int .i64 act, .string v2, .string old, .string new_, .int .i64 next, .slice iA in_ ic, .slice tA tn tc, .int .i64 epoch, .int .i64 node] 25 (0, 0)) from blk_put x2 5 _ rfl); clear x2 hR2 hK2)
    | (go_at_call 30; (with_reducible refine (rd_num HR0.out 2 H1.out).mono ?_); rintro e' w1 ⟨rfl, hR1, hK1⟩; have x1 := RD.kept (a' := 0) (e' := 0) HR0.out hK1 HX0.out; have hf1 := blk_frozen x1 3; have hq1 : w1.cell? ⟨gr, 3, none⟩ = some (.int .i64 page) := (blk_cell x1 3).trans rfl; have HR1 := Lib.hid (RD.set hR1 x1 hg 3 (.int .i64 v1)); have HX1 := Lib.hid (show (w1.setCell ⟨gr, 3, none⟩ (.int .i64 v1)).heap[gr]? = some (.cells #[.int .i64 kind, .int .i64 txn, .int .i64 prev, .int .i64 v1, .int .i64 act, .string key, .string old, .string new_, .int .i64 next, .slice iA in_ ic, .slice tA tn tc, .int .i64 epoch, .int .i64 node] 25 (0, 0)) from blk_put x1 3 _ rfl); clear x1 hR1 hK1))
  go_end0
  exact ⟨rfl, HR3.out, HX3.out⟩

set_option maxHeartbeats 4000000 in
set_option maxRecDepth 10000 in
theorem rdchg_4 (kind txn prev page act : Int) (key old new_ : ByteArray) (next : Int) (iA : Option Addr) (in_ ic : Nat) (tA : Option Addr) (tn tc : Nat) (epoch node : Int) (a2 : Int) {w0 w : World} {g : Nat} {s : ByteArray} {a e : Int} (hR : RD w0 w g s a e) (gr : Nat) (hg : w0.heap.size ≤ gr) (hx : w.heap[gr]? = some (.cells #[.int .i64 kind, .int .i64 txn, .int .i64 prev, .int .i64 page, .int .i64 act, .string key, .string old, .string new_, .int .i64 next, .slice iA in_ ic, .slice tA tn tc, .int .i64 epoch, .int .i64 node] 25 (0, 0))) (ha : a2 = 4) {v1 : Int} {o1 e1 : Int} (h1 : numS s a e 2 = (v1, o1, e1)) {v2 : ByteArray} {o2 e2 : Int} (h2 : textS s o1 e1 16 = (v2, o2, e2)) {v3 : ByteArray} {o3 e3 : Int} (h3 : textS s o2 e2 32 = (v3, o3, e3)) :
    Calls Try.prog 49 #[.pointer (some ⟨g, 0, none⟩), .pointer (some ⟨gr, 0, none⟩), .int .i64 a2] w fun x w' => x = .returned (.tuple #[]) ∧ RD w0 w' g s o3 e3 ∧ w'.heap[gr]? = some (.cells #[.int .i64 kind, .int .i64 txn, .int .i64 prev, .int .i64 v1, .int .i64 act, .string v2, .string v3, .string new_, .int .i64 next, .slice iA in_ ic, .slice tA tn tc, .int .i64 epoch, .int .i64 node] 25 (0, 0)) := by
  subst ha
  have hu25 := Try.underlying25
  have HR0 := Lib.hid hR
  have HX0 := Lib.hid hx
  have H1 := Lib.hid h1
  have H2 := Lib.hid h2
  have H3 := Lib.hid h3
  clear hR hx h1 h2 h3
  go_enter Try.func49, Try.ntmps49
  go_wp2_with (first
    | (go_at_call 57; (with_reducible refine (rd_text HR2.out 32 H3.out).mono ?_); rintro e' w3 ⟨rfl, hR3, hK3⟩; have x3 := RD.kept (a' := 0) (e' := 0) HR2.out hK3 HX2.out; have hf3 := blk_frozen x3 6; have hq3 : w3.cell? ⟨gr, 6, none⟩ = some (.string old) := (blk_cell x3 6).trans rfl; have HR3 := Lib.hid (RD.set hR3 x3 hg 6 (.string v3)); have HX3 := Lib.hid (show (w3.setCell ⟨gr, 6, none⟩ (.string v3)).heap[gr]? = some (.cells #[.int .i64 kind, .int .i64 txn, .int .i64 prev, .int .i64 v1, .int .i64 act, .string v2, .string v3, .string new_, .int .i64 next, .slice iA in_ ic, .slice tA tn tc, .int .i64 epoch, .int .i64 node] 25 (0, 0)) from blk_put x3 6 _ rfl); clear x3 hR3 hK3)
    | (go_at_call 57; (with_reducible refine (rd_text HR1.out 16 H2.out).mono ?_); rintro e' w2 ⟨rfl, hR2, hK2⟩; have x2 := RD.kept (a' := 0) (e' := 0) HR1.out hK2 HX1.out; have hf2 := blk_frozen x2 5; have hq2 : w2.cell? ⟨gr, 5, none⟩ = some (.string key) := (blk_cell x2 5).trans rfl; have HR2 := Lib.hid (RD.set hR2 x2 hg 5 (.string v2)); have HX2 := Lib.hid (show (w2.setCell ⟨gr, 5, none⟩ (.string v2)).heap[gr]? = some (.cells #[.int .i64 kind, .int .i64 txn, .int .i64 prev, .int .i64 v1, .int .i64 act, .string v2, .string old, .string new_, .int .i64 next, .slice iA in_ ic, .slice tA tn tc, .int .i64 epoch, .int .i64 node] 25 (0, 0)) from blk_put x2 5 _ rfl); clear x2 hR2 hK2)
    | (go_at_call 30; (with_reducible refine (rd_num HR0.out 2 H1.out).mono ?_); rintro e' w1 ⟨rfl, hR1, hK1⟩; have x1 := RD.kept (a' := 0) (e' := 0) HR0.out hK1 HX0.out; have hf1 := blk_frozen x1 3; have hq1 : w1.cell? ⟨gr, 3, none⟩ = some (.int .i64 page) := (blk_cell x1 3).trans rfl; have HR1 := Lib.hid (RD.set hR1 x1 hg 3 (.int .i64 v1)); have HX1 := Lib.hid (show (w1.setCell ⟨gr, 3, none⟩ (.int .i64 v1)).heap[gr]? = some (.cells #[.int .i64 kind, .int .i64 txn, .int .i64 prev, .int .i64 v1, .int .i64 act, .string key, .string old, .string new_, .int .i64 next, .slice iA in_ ic, .slice tA tn tc, .int .i64 epoch, .int .i64 node] 25 (0, 0)) from blk_put x1 3 _ rfl); clear x1 hR1 hK1))
  go_end0
  exact ⟨rfl, HR3.out, HX3.out⟩

set_option maxHeartbeats 4000000 in
set_option maxRecDepth 10000 in
theorem rdchg_5 (kind txn prev page act : Int) (key old new_ : ByteArray) (next : Int) (iA : Option Addr) (in_ ic : Nat) (tA : Option Addr) (tn tc : Nat) (epoch node : Int) (a2 : Int) {w0 w : World} {g : Nat} {s : ByteArray} {a e : Int} (hR : RD w0 w g s a e) (gr : Nat) (hg : w0.heap.size ≤ gr) (hx : w.heap[gr]? = some (.cells #[.int .i64 kind, .int .i64 txn, .int .i64 prev, .int .i64 page, .int .i64 act, .string key, .string old, .string new_, .int .i64 next, .slice iA in_ ic, .slice tA tn tc, .int .i64 epoch, .int .i64 node] 25 (0, 0))) (ha3 : a2 ≠ 3) (ha4 : a2 ≠ 4) {v1 : Int} {o1 e1 : Int} (h1 : numS s a e 2 = (v1, o1, e1)) {v2 : ByteArray} {o2 e2 : Int} (h2 : textS s o1 e1 16 = (v2, o2, e2)) {v3 : ByteArray} {o3 e3 : Int} (h3 : textS s o2 e2 32 = (v3, o3, e3)) {v4 : ByteArray} {o4 e4 : Int} (h4 : textS s o3 e3 32 = (v4, o4, e4)) :
    Calls Try.prog 49 #[.pointer (some ⟨g, 0, none⟩), .pointer (some ⟨gr, 0, none⟩), .int .i64 a2] w fun x w' => x = .returned (.tuple #[]) ∧ RD w0 w' g s o4 e4 ∧ w'.heap[gr]? = some (.cells #[.int .i64 kind, .int .i64 txn, .int .i64 prev, .int .i64 v1, .int .i64 act, .string v2, .string v3, .string v4, .int .i64 next, .slice iA in_ ic, .slice tA tn tc, .int .i64 epoch, .int .i64 node] 25 (0, 0)) := by
  have d3 : (a2 != 3) = true := by simpa using ha3
  have d4 : (a2 != 4) = true := by simpa using ha4
  have hu25 := Try.underlying25
  have HR0 := Lib.hid hR
  have HX0 := Lib.hid hx
  have H1 := Lib.hid h1
  have H2 := Lib.hid h2
  have H3 := Lib.hid h3
  have H4 := Lib.hid h4
  clear hR hx h1 h2 h3 h4
  go_enter Try.func49, Try.ntmps49
  go_wp2_with (first
    | (go_at_call 57; (with_reducible refine (rd_text HR3.out 32 H4.out).mono ?_); rintro e' w4 ⟨rfl, hR4, hK4⟩; have x4 := RD.kept (a' := 0) (e' := 0) HR3.out hK4 HX3.out; have hf4 := blk_frozen x4 7; have hq4 : w4.cell? ⟨gr, 7, none⟩ = some (.string new_) := (blk_cell x4 7).trans rfl; have HR4 := Lib.hid (RD.set hR4 x4 hg 7 (.string v4)); have HX4 := Lib.hid (show (w4.setCell ⟨gr, 7, none⟩ (.string v4)).heap[gr]? = some (.cells #[.int .i64 kind, .int .i64 txn, .int .i64 prev, .int .i64 v1, .int .i64 act, .string v2, .string v3, .string v4, .int .i64 next, .slice iA in_ ic, .slice tA tn tc, .int .i64 epoch, .int .i64 node] 25 (0, 0)) from blk_put x4 7 _ rfl); clear x4 hR4 hK4)
    | (go_at_call 57; (with_reducible refine (rd_text HR2.out 32 H3.out).mono ?_); rintro e' w3 ⟨rfl, hR3, hK3⟩; have x3 := RD.kept (a' := 0) (e' := 0) HR2.out hK3 HX2.out; have hf3 := blk_frozen x3 6; have hq3 : w3.cell? ⟨gr, 6, none⟩ = some (.string old) := (blk_cell x3 6).trans rfl; have HR3 := Lib.hid (RD.set hR3 x3 hg 6 (.string v3)); have HX3 := Lib.hid (show (w3.setCell ⟨gr, 6, none⟩ (.string v3)).heap[gr]? = some (.cells #[.int .i64 kind, .int .i64 txn, .int .i64 prev, .int .i64 v1, .int .i64 act, .string v2, .string v3, .string new_, .int .i64 next, .slice iA in_ ic, .slice tA tn tc, .int .i64 epoch, .int .i64 node] 25 (0, 0)) from blk_put x3 6 _ rfl); clear x3 hR3 hK3)
    | (go_at_call 57; (with_reducible refine (rd_text HR1.out 16 H2.out).mono ?_); rintro e' w2 ⟨rfl, hR2, hK2⟩; have x2 := RD.kept (a' := 0) (e' := 0) HR1.out hK2 HX1.out; have hf2 := blk_frozen x2 5; have hq2 : w2.cell? ⟨gr, 5, none⟩ = some (.string key) := (blk_cell x2 5).trans rfl; have HR2 := Lib.hid (RD.set hR2 x2 hg 5 (.string v2)); have HX2 := Lib.hid (show (w2.setCell ⟨gr, 5, none⟩ (.string v2)).heap[gr]? = some (.cells #[.int .i64 kind, .int .i64 txn, .int .i64 prev, .int .i64 v1, .int .i64 act, .string v2, .string old, .string new_, .int .i64 next, .slice iA in_ ic, .slice tA tn tc, .int .i64 epoch, .int .i64 node] 25 (0, 0)) from blk_put x2 5 _ rfl); clear x2 hR2 hK2)
    | (go_at_call 30; (with_reducible refine (rd_num HR0.out 2 H1.out).mono ?_); rintro e' w1 ⟨rfl, hR1, hK1⟩; have x1 := RD.kept (a' := 0) (e' := 0) HR0.out hK1 HX0.out; have hf1 := blk_frozen x1 3; have hq1 : w1.cell? ⟨gr, 3, none⟩ = some (.int .i64 page) := (blk_cell x1 3).trans rfl; have HR1 := Lib.hid (RD.set hR1 x1 hg 3 (.int .i64 v1)); have HX1 := Lib.hid (show (w1.setCell ⟨gr, 3, none⟩ (.int .i64 v1)).heap[gr]? = some (.cells #[.int .i64 kind, .int .i64 txn, .int .i64 prev, .int .i64 v1, .int .i64 act, .string key, .string old, .string new_, .int .i64 next, .slice iA in_ ic, .slice tA tn tc, .int .i64 epoch, .int .i64 node] 25 (0, 0)) from blk_put x1 3 _ rfl); clear x1 hR1 hK1))
  go_end0
  exact ⟨rfl, HR4.out, HX4.out⟩
end Go.Proofs.Ytdphikbkknkhiaa.PAll
