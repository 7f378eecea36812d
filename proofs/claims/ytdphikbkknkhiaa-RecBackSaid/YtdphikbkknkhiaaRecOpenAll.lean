/- A reader's calls, in one form; rec.readChange, walked by hand. -/
import Derived.Test.YtdphikbkknkhiaaReadPlain
import Derived.Test.YtdphikbkknkhiaaClean
import Derived.LoopTactic
import Derived.Test.YtdphikbkknkhiaaPAllx10
import Derived.Test.YtdphikbkknkhiaaRecBody
import Derived.Test.YtdphikbkknkhiaaRecSame
import Derived.Test.YtdphikbkknkhiaaRecLaw
import Derived.Lib.Strings
namespace Go.Proofs.Ytdphikbkknkhiaa.PAll
open Go.RowKit Go.Proofs.Ytdphikbkknkhiaa.Pure Go.Proofs.YtdphikbkknkhiaaW.PrintWords Go.Proofs.YtdphikbkknkhiaaW.PrintLast Go.Proofs.YtdphikbkknkhiaaW.PrintMore
set_option linter.unusedVariables false
set_option linter.unusedSimpArgs false

/-- A reader in a world: where it stands, and its error. -/
structure RD (w0 w : World) (g : Nat) (s : ByteArray) (a e : Int) : Prop where
  i : IsS81 w0 w g s a e
  b : Below w0.heap.size w0 w
  v : RInv s a
section
variable {w0 w : World} {g : Nat} {s : ByteArray} {a e : Int}
theorem RD.below {w' : World} (h : RD w0 w g s a e) (hb : Below w.heap.size w w') : RD w0 w' g s a e := ⟨h.i.below hb, below_step h.b hb, h.v⟩
theorem RD.alloc (h : RD w0 w g s a e) (o : Obj) : RD w0 (w.alloc o) g s a e := h.below (below_alloc (Below.refl _ _) o)
theorem RD.set (h : RD w0 w g s a e) {gr : Nat} {cs : Array Value} (hx : w.heap[gr]? = some (.cells cs 25 (0, 0))) (hg : w0.heap.size ≤ gr) (j : Nat) (u : Value) : RD w0 (w.setCell ⟨gr, j, none⟩ u) g s a e :=
  ⟨IsS81.far h.i (IsS81.ne_blk h.i hx (by decide)) u, below_set h.b hg, h.v⟩
theorem RD.kept {w' : World} {a' e' : Int} (h : RD w0 w g s a e) (hk : KeepBut w w' g none) {gr : Nat} {cs : Array Value} (hx : w.heap[gr]? = some (.cells cs 25 (0, 0))) : w'.heap[gr]? = some (.cells cs 25 (0, 0)) :=
  hk.blk hx (fun c => IsS81.ne_blk h.i hx (by decide) c.symm) (by simp)
theorem rd_num (h : RD w0 w g s a e) (wd : Int) {n a' e' : Int} (hn : numS s a e wd = (n, a', e')) :
    Calls Try.prog 30 #[.pointer (some ⟨g, 0, none⟩), .int .i64 wd] w fun x w' => x = .returned (.int .i64 n) ∧ RD w0 w' g s a' e' ∧ KeepBut w w' g none :=
  (pack_Reader_Num.calls g s a e wd n s a' e' w0 w h.i h.b (by rw [num_is h.v e wd, hn])).mono fun _ _ ⟨he, hI, hB, hK⟩ => ⟨he, ⟨hI, hB, by have := numS_inv h.v e wd; rw [hn] at this; exact this⟩, hK⟩
theorem rd_text (h : RD w0 w g s a e) (most : Int) {n : ByteArray} {a' e' : Int} (hn : textS s a e most = (n, a', e')) :
    Calls Try.prog 57 #[.pointer (some ⟨g, 0, none⟩), .int .i64 most] w fun x w' => x = .returned (.string n) ∧ RD w0 w' g s a' e' ∧ KeepBut w w' g none :=
  (pack_Reader_Text.calls 10 g s a e most n s a' e' w0 w h.i h.b (by rw [text_is h.v 10 (by omega) e most, hn])).mono fun _ _ ⟨he, hI, hB, hK⟩ => ⟨he, ⟨hI, hB, by have := textS_inv h.v e most; rw [hn] at this; exact this⟩, hK⟩
theorem rd_err (h : RD w0 w g s a e) :
    Calls Try.prog 47 #[.pointer (some ⟨g, 0, none⟩)] w fun x w' => x = .returned (.int .i64 e) ∧ RD w0 w' g s a e ∧ KeepBut w w' g none :=
  (pack_Reader_Err.calls g s a e e s a e w0 w h.i h.b (by rfl)).mono fun _ _ ⟨he, hI, hB, hK⟩ => ⟨he, ⟨hI, hB, h.v⟩, hK⟩
theorem rd_end (h : RD w0 w g s a e) :
    Calls Try.prog 51 #[.pointer (some ⟨g, 0, none⟩)] w fun x w' => x = .returned (.int .i64 (endS s a e)) ∧ RD w0 w' g s a (endS s a e) ∧ KeepBut w w' g none :=
  (pack_Reader_End.calls g s a e _ s a _ w0 w h.i h.b (end_is h.v e)).mono fun _ _ ⟨he, hI, hB, hK⟩ => ⟨he, ⟨hI, hB, h.v⟩, hK⟩
end

set_option maxHeartbeats 4000000 in
set_option maxRecDepth 10000 in
theorem rdchg_3 (kind txn prev page act : Int) (key old new_ : ByteArray) (next : Int) (iA : Option Addr) (in_ ic : Nat) (tA : Option Addr) (tn tc : Nat) (epoch node : Int) (a2 : Int) {w0 w : World} {g : Nat} {s : ByteArray} {a e : Int} (hR : RD w0 w g s a e) (gr : Nat) (hg : w0.heap.size ≤ gr) (hx : w.heap[gr]? = some (.cells #[.int .i64 kind, .int .i64 txn, .int .i64 prev, .int .i64 page, .int .i64 act, .string key, .string old, .string new_, .int .i64 next, .slice iA in_ ic, .slice tA tn tc, .int .i64 epoch, .int .i64 node] 25 (0, 0))) (ha : a2 = 3) {v1 : Int} {o1 e1 : Int} (h1 : numS s a e 2 = (v1, o1, e1)) {v2 : ByteArray} {o2 e2 : Int} (h2 : textS s o1 e1 16 = (v2, o2, e2)) {v3 : ByteArray} {o3 e3 : Int} (h3 : textS s o2 e2 32 = (v3, o3, e3)) :
    Calls Try.prog 49 #[.pointer (some ⟨g, 0, none⟩), .pointer (some ⟨gr, 0, none⟩), .int .i64 a2] w fun x w' => x = .returned (.tuple #[]) ∧ RD w0 w' g s o3 e3 ∧ w'.heap[gr]? = some (.cells #[.int .i64 kind, .int .i64 txn, .int .i64 prev, .int .i64 v1, .int .i64 act, .string v2, .string old, .string v3, .int .i64 next, .slice iA in_ ic, .slice tA tn tc, .int .i64 epoch, .int .i64 node] 25 (0, 0)) := by
  subst ha
  have hu25 := Try.underlying25
  have HR0 := Lib.hid hR
  have HX0 := Lib.hid hx
  have H1 := Lib.hid h1
  have H2 := Lib.hid h2
  have H3 := Lib.hid h3
  clear hR hx h1 h2 h3
  go_enter Try.func49, Try.ntmps49
  go_wp2_with (first
    | (go_at_call 57; (with_reducible refine (rd_text HR2.out 32 H3.out).mono ?_); rintro e' w3 ⟨rfl, hR3, hK3⟩; have x3 := RD.kept (a' := 0) (e' := 0) HR2.out hK3 HX2.out; have hf3 := blk_frozen x3 7; have hq3 : w3.cell? ⟨gr, 7, none⟩ = some (.string new_) := (blk_cell x3 7).trans rfl; have HR3 := Lib.hid (RD.set hR3 x3 hg 7 (.string v3)); have HX3 := Lib.hid (show (w3.setCell ⟨gr, 7, none⟩ (.string v3)).heap[gr]? = some (.cells #[.int .i64 kind, .int .i64 txn, .int .i64 prev, .int .i64 v1, .int .i64 act, .string v2, .string old, .string v3, .int .i64 next, .slice iA in_ ic, .slice tA tn tc, .int .i64 epoch, .int .i64 node] 25 (0, 0)) from blk_put x3 7 _ rfl); clear x3 hR3 hK3)
    | (go_at_call 57; (with_reducible refine (rd_text HR1.out 16 H2.out).mono ?_); rintro e' w2 ⟨rfl, hR2, hK2⟩; have x2 := RD.kept (a' := 0) (e' := 0) HR1.out hK2 HX1.out; have hf2 := blk_frozen x2 5; have hq2 : w2.cell? ⟨gr, 5, none⟩ = some (.string key) := (blk_cell x2 5).trans rfl; have HR2 := Lib.hid (RD.set hR2 x2 hg 5 (.string v2)); have HX2 := Lib.hid (show (w2.setCell ⟨gr, 5, none⟩ (.string v2)).heap[gr]? = some (.cells #[.int .i64 kind, .int .i64 txn, .int .i64 prev, .int .i64 v1, .int .i64 act, .string v2, .string old, .string new_, .int .i64 next, .slice iA in_ ic, .slice tA tn tc, .int .i64 epoch, .int .i64 node] 25 (0, 0)) from blk_put x2 5 _ rfl); clear x2 hR2 hK2)
    | (go_at_call 30; (with_reducible refine (rd_num HR0.out 2 H1.out).mono ?_); rintro e' w1 ⟨rfl, hR1, hK1⟩; have x1 := RD.kept (a' := 0) (e' := 0) HR0.out hK1 HX0.out; have hf1 := blk_frozen x1 3; have hq1 : w1.cell? ⟨gr, 3, none⟩ = some (.int .i64 page) := (blk_cell x1 3).trans rfl; have HR1 := Lib.hid (RD.set hR1 x1 hg 3 (.int .i64 v1)); have HX1 := Lib.hid (show (w1.setCell ⟨gr, 3, none⟩ (.int .i64 v1)).heap[gr]? = some (.cells #[.int .i64 kind, .int .i64 txn, .int .i64 prev, .int .i64 v1, .int .i64 act, .string key, .string old, .string new_, .int .i64 next, .slice iA in_ ic, .slice tA tn tc, .int .i64 epoch, .int .i64 node] 25 (0, 0)) from blk_put x1 3 _ rfl); clear x1 hR1 hK1))
  go_end0
  exact ⟨rfl, HR3.out, HX3.out⟩

set_option maxHeartbeats 4000000 in
set_option maxRecDepth 10000 in
theorem rdchg_4 (kind txn prev page act : Int) (key old new_ : ByteArray) (next : Int) (iA : Option Addr) (in_ ic : Nat) (tA : Option Addr) (tn tc : Nat) (epoch node : Int) (a2 : Int) {w0 w : World} {g : Nat} {s : ByteArray} {a e : Int} (hR : RD w0 w g s a e) (gr : Nat) (hg : w0.heap.size ≤ gr) (hx : w.heap[gr]? = some (.cells #[.int .i64 kind, .int .i64 txn, .int .i64 prev, .int .i64 page, .int .i64 act, .string key, .string old, .string new_, .int .i64 next, .slice iA in_ ic, .slice tA tn tc, .int .i64 epoch, .int .i64 node] 25 (0, 0))) (ha : a2 = 4) {v1 : Int} {o1 e1 : Int} (h1 : numS s a e 2 = (v1, o1, e1)) {v2 : ByteArray} {o2 e2 : Int} (h2 : textS s o1 e1 16 = (v2, o2, e2)) {v3 : ByteArray} {o3 e3 : Int} (h3 : textS s o2 e2 32 = (v3, o3, e3)) :
    Calls Try.prog 49 #[.pointer (some ⟨g, 0, none⟩), .pointer (some ⟨gr, 0, none⟩), .int .i64 a2] w fun x w' => x = .returned (.tuple #[]) ∧ RD w0 w' g s o3 e3 ∧ w'.heap[gr]? = some (.cells #[.int .i64 kind, .int .i64 txn, .int .i64 prev, .int .i64 v1, .int .i64 act, .string v2, .string v3, .string new_, .int .i64 next, .slice iA in_ ic, .slice tA tn tc, .int .i64 epoch, .int .i64 node] 25 (0, 0)) := by
  subst ha
  have hu25 := Try.underlying25
  have HR0 := Lib.hid hR
  have HX0 := Lib.hid hx
  have H1 := Lib.hid h1
  have H2 := Lib.hid h2
  have H3 := Lib.hid h3
  clear hR hx h1 h2 h3
  go_enter Try.func49, Try.ntmps49
  go_wp2_with (first
    | (go_at_call 57; (with_reducible refine (rd_text HR2.out 32 H3.out).mono ?_); rintro e' w3 ⟨rfl, hR3, hK3⟩; have x3 := RD.kept (a' := 0) (e' := 0) HR2.out hK3 HX2.out; have hf3 := blk_frozen x3 6; have hq3 : w3.cell? ⟨gr, 6, none⟩ = some (.string old) := (blk_cell x3 6).trans rfl; have HR3 := Lib.hid (RD.set hR3 x3 hg 6 (.string v3)); have HX3 := Lib.hid (show (w3.setCell ⟨gr, 6, none⟩ (.string v3)).heap[gr]? = some (.cells #[.int .i64 kind, .int .i64 txn, .int .i64 prev, .int .i64 v1, .int .i64 act, .string v2, .string v3, .string new_, .int .i64 next, .slice iA in_ ic, .slice tA tn tc, .int .i64 epoch, .int .i64 node] 25 (0, 0)) from blk_put x3 6 _ rfl); clear x3 hR3 hK3)
    | (go_at_call 57; (with_reducible refine (rd_text HR1.out 16 H2.out).mono ?_); rintro e' w2 ⟨rfl, hR2, hK2⟩; have x2 := RD.kept (a' := 0) (e' := 0) HR1.out hK2 HX1.out; have hf2 := blk_frozen x2 5; have hq2 : w2.cell? ⟨gr, 5, none⟩ = some (.string key) := (blk_cell x2 5).trans rfl; have HR2 := Lib.hid (RD.set hR2 x2 hg 5 (.string v2)); have HX2 := Lib.hid (show (w2.setCell ⟨gr, 5, none⟩ (.string v2)).heap[gr]? = some (.cells #[.int .i64 kind, .int .i64 txn, .int .i64 prev, .int .i64 v1, .int .i64 act, .string v2, .string old, .string new_, .int .i64 next, .slice iA in_ ic, .slice tA tn tc, .int .i64 epoch, .int .i64 node] 25 (0, 0)) from blk_put x2 5 _ rfl); clear x2 hR2 hK2)
    | (go_at_call 30; (with_reducible refine (rd_num HR0.out 2 H1.out).mono ?_); rintro e' w1 ⟨rfl, hR1, hK1⟩; have x1 := RD.kept (a' := 0) (e' := 0) HR0.out hK1 HX0.out; have hf1 := blk_frozen x1 3; have hq1 : w1.cell? ⟨gr, 3, none⟩ = some (.int .i64 page) := (blk_cell x1 3).trans rfl; have HR1 := Lib.hid (RD.set hR1 x1 hg 3 (.int .i64 v1)); have HX1 := Lib.hid (show (w1.setCell ⟨gr, 3, none⟩ (.int .i64 v1)).heap[gr]? = some (.cells #[.int .i64 kind, .int .i64 txn, .int .i64 prev, .int .i64 v1, .int .i64 act, .string key, .string old, .string new_, .int .i64 next, .slice iA in_ ic, .slice tA tn tc, .int .i64 epoch, .int .i64 node] 25 (0, 0)) from blk_put x1 3 _ rfl); clear x1 hR1 hK1))
  go_end0
  exact ⟨rfl, HR3.out, HX3.out⟩

set_option maxHeartbeats 4000000 in
set_option maxRecDepth 10000 in
theorem rdchg_5 (kind txn prev page act : Int) (key old new_ : ByteArray) (next : Int) (iA : Option Addr) (in_ ic : Nat) (tA : Option Addr) (tn tc : Nat) (epoch node : Int) (a2 : Int) {w0 w : World} {g : Nat} {s : ByteArray} {a e : Int} (hR : RD w0 w g s a e) (gr : Nat) (hg : w0.heap.size ≤ gr) (hx : w.heap[gr]? = some (.cells #[.int .i64 kind, .int .i64 txn, .int .i64 prev, .int .i64 page, .int .i64 act, .string key, .string old, .string new_, .int .i64 next, .slice iA in_ ic, .slice tA tn tc, .int .i64 epoch, .int .i64 node] 25 (0, 0))) (ha3 : a2 ≠ 3) (ha4 : a2 ≠ 4) {v1 : Int} {o1 e1 : Int} (h1 : numS s a e 2 = (v1, o1, e1)) {v2 : ByteArray} {o2 e2 : Int} (h2 : textS s o1 e1 16 = (v2, o2, e2)) {v3 : ByteArray} {o3 e3 : Int} (h3 : textS s o2 e2 32 = (v3, o3, e3)) {v4 : ByteArray} {o4 e4 : Int} (h4 : textS s o3 e3 32 = (v4, o4, e4)) :
    Calls Try.prog 49 #[.pointer (some ⟨g, 0, none⟩), .pointer (some ⟨gr, 0, none⟩), .int .i64 a2] w fun x w' => x = .returned (.tuple #[]) ∧ RD w0 w' g s o4 e4 ∧ w'.heap[gr]? = some (.cells #[.int .i64 kind, .int .i64 txn, .int .i64 prev, .int .i64 v1, .int .i64 act, .string v2, .string v3, .string v4, .int .i64 next, .slice iA in_ ic, .slice tA tn tc, .int .i64 epoch, .int .i64 node] 25 (0, 0)) := by
  have d3 : (a2 != 3) = true := by simpa using ha3
  have d4 : (a2 != 4) = true := by simpa using ha4
  have hu25 := Try.underlying25
  have HR0 := Lib.hid hR
  have HX0 := Lib.hid hx
  have H1 := Lib.hid h1
  have H2 := Lib.hid h2
  have H3 := Lib.hid h3
  have H4 := Lib.hid h4
  clear hR hx h1 h2 h3 h4
  go_enter Try.func49, Try.ntmps49
  go_wp2_with (first
    | (go_at_call 57; (with_reducible refine (rd_text HR3.out 32 H4.out).mono ?_); rintro e' w4 ⟨rfl, hR4, hK4⟩; have x4 := RD.kept (a' := 0) (e' := 0) HR3.out hK4 HX3.out; have hf4 := blk_frozen x4 7; have hq4 : w4.cell? ⟨gr, 7, none⟩ = some (.string new_) := (blk_cell x4 7).trans rfl; have HR4 := Lib.hid (RD.set hR4 x4 hg 7 (.string v4)); have HX4 := Lib.hid (show (w4.setCell ⟨gr, 7, none⟩ (.string v4)).heap[gr]? = some (.cells #[.int .i64 kind, .int .i64 txn, .int .i64 prev, .int .i64 v1, .int .i64 act, .string v2, .string v3, .string v4, .int .i64 next, .slice iA in_ ic, .slice tA tn tc, .int .i64 epoch, .int .i64 node] 25 (0, 0)) from blk_put x4 7 _ rfl); clear x4 hR4 hK4)
    | (go_at_call 57; (with_reducible refine (rd_text HR2.out 32 H3.out).mono ?_); rintro e' w3 ⟨rfl, hR3, hK3⟩; have x3 := RD.kept (a' := 0) (e' := 0) HR2.out hK3 HX2.out; have hf3 := blk_frozen x3 6; have hq3 : w3.cell? ⟨gr, 6, none⟩ = some (.string old) := (blk_cell x3 6).trans rfl; have HR3 := Lib.hid (RD.set hR3 x3 hg 6 (.string v3)); have HX3 := Lib.hid (show (w3.setCell ⟨gr, 6, none⟩ (.string v3)).heap[gr]? = some (.cells #[.int .i64 kind, .int .i64 txn, .int .i64 prev, .int .i64 v1, .int .i64 act, .string v2, .string v3, .string new_, .int .i64 next, .slice iA in_ ic, .slice tA tn tc, .int .i64 epoch, .int .i64 node] 25 (0, 0)) from blk_put x3 6 _ rfl); clear x3 hR3 hK3)
    | (go_at_call 57; (with_reducible refine (rd_text HR1.out 16 H2.out).mono ?_); rintro e' w2 ⟨rfl, hR2, hK2⟩; have x2 := RD.kept (a' := 0) (e' := 0) HR1.out hK2 HX1.out; have hf2 := blk_frozen x2 5; have hq2 : w2.cell? ⟨gr, 5, none⟩ = some (.string key) := (blk_cell x2 5).trans rfl; have HR2 := Lib.hid (RD.set hR2 x2 hg 5 (.string v2)); have HX2 := Lib.hid (show (w2.setCell ⟨gr, 5, none⟩ (.string v2)).heap[gr]? = some (.cells #[.int .i64 kind, .int .i64 txn, .int .i64 prev, .int .i64 v1, .int .i64 act, .string v2, .string old, .string new_, .int .i64 next, .slice iA in_ ic, .slice tA tn tc, .int .i64 epoch, .int .i64 node] 25 (0, 0)) from blk_put x2 5 _ rfl); clear x2 hR2 hK2)
    | (go_at_call 30; (with_reducible refine (rd_num HR0.out 2 H1.out).mono ?_); rintro e' w1 ⟨rfl, hR1, hK1⟩; have x1 := RD.kept (a' := 0) (e' := 0) HR0.out hK1 HX0.out; have hf1 := blk_frozen x1 3; have hq1 : w1.cell? ⟨gr, 3, none⟩ = some (.int .i64 page) := (blk_cell x1 3).trans rfl; have HR1 := Lib.hid (RD.set hR1 x1 hg 3 (.int .i64 v1)); have HX1 := Lib.hid (show (w1.setCell ⟨gr, 3, none⟩ (.int .i64 v1)).heap[gr]? = some (.cells #[.int .i64 kind, .int .i64 txn, .int .i64 prev, .int .i64 v1, .int .i64 act, .string key, .string old, .string new_, .int .i64 next, .slice iA in_ ic, .slice tA tn tc, .int .i64 epoch, .int .i64 node] 25 (0, 0)) from blk_put x1 3 _ rfl); clear x1 hR1 hK1))
  go_end0
  exact ⟨rfl, HR4.out, HX4.out⟩
end Go.Proofs.Ytdphikbkknkhiaa.PAll
/- Plain: what rec.Of reads. No memory in sight. -/
namespace Go.Proofs.Ytdphikbkknkhiaa.Pure
open Go.RowKit Go.Proofs.Ytdphikbkknkhiaa.PAll Go.Proofs.YtdphikbkknkhiaaW.PrintWords Go.Proofs.YtdphikbkknkhiaaW.PrintLast Go.Proofs.YtdphikbkknkhiaaW.PrintMore
set_option linter.unusedVariables false
set_option linter.unusedSimpArgs false

/-- What is changed, as it is read: page, key, old, new; where the reader stands then, and its error. -/
def chgS (s : ByteArray) (a e act : Int) : Int × ByteArray × ByteArray × ByteArray × Int × Int :=
  let p := numS s a e 2
  let k := textS s p.2.1 p.2.2 16
  let o := if act = 3 then ((⟨#[]⟩ : ByteArray), k.2.1, k.2.2) else textS s k.2.1 k.2.2 32
  let n := if act = 4 then ((⟨#[]⟩ : ByteArray), o.2.1, o.2.2) else textS s o.2.1 o.2.2 32
  (p.1, k.1, o.1, n.1, n.2.1, n.2.2)
/-- What is read: values, rows, where the reader stands then, and its error. -/
structure Got where
  q : RV
  li : List S36
  lt : List S55
  a : Int
  e : Int
def readF (s : ByteArray) (k a : Int) : Got :=
  if k = 1 ∨ k = 2 then
    let r := (rec_readImages.f 300 s a 0).getD ([], s, a, 0)
    ⟨zeroR k, r.1, [], r.2.2.1, r.2.2.2⟩
  else if k = 6 then
    let x := numS s a 0 6
    let y := numS s x.2.1 x.2.2 6
    let z := numS s y.2.1 y.2.2 6
    let t := numS s z.2.1 z.2.2 1
    let c := chgS s t.2.1 t.2.2 t.1
    ⟨{ zeroR k with txn := x.1, prev := y.1, next := z.1, act := t.1, page := c.1, key := c.2.1, old := c.2.2.1, new := c.2.2.2.1 }, [], [], c.2.2.2.2.1, c.2.2.2.2.2⟩
  else if k = 3 ∨ k = 4 ∨ k = 5 then
    let x := numS s a 0 6
    let y := numS s x.2.1 x.2.2 6
    let c := chgS s y.2.1 y.2.2 k
    ⟨{ zeroR k with txn := x.1, prev := y.1, page := c.1, key := c.2.1, old := c.2.2.1, new := c.2.2.2.1 }, [], [], c.2.2.2.2.1, c.2.2.2.2.2⟩
  else if k = 7 ∨ k = 8 then
    let x := numS s a 0 6
    let y := numS s x.2.1 x.2.2 6
    ⟨{ zeroR k with txn := x.1, prev := y.1 }, [], [], y.2.1, y.2.2⟩
  else if k = 9 then
    let r := (rec_readTable.f 300 s a 0).getD ([], s, a, 0)
    ⟨zeroR k, [], r.1, r.2.2.1, r.2.2.2⟩
  else if k = 10 then
    let x := numS s a 0 4
    let y := numS s x.2.1 x.2.2 1
    ⟨{ zeroR k with epoch := x.1, node := y.1 }, [], [], y.2.1, y.2.2⟩
  else ⟨zeroR k, [], [], a, 0⟩
theorem num1_lt {s : ByteArray} {a e : Int} : (numS s a e 1).1 ≤ 255 := by
  unfold numS
  split
  · show (0 : Int) ≤ 255; omega
  · have h := be_bound (rawS s a e 1).1.data.toList
    have hl : (rawS s a e 1).1.data.toList.length ≤ 1 := by
      unfold rawS
      split
      · split
        · simp
        · split
          · simp
          · simp only [ByteArray.data_extract, Array.toList_extract, List.extract_eq_take_drop, List.length_take]
            omega
      · simp
    show be (rawS s a e 1).1.data.toList ≤ 255
    have h2 : (256 : Int) ^ (rawS s a e 1).1.data.toList.length ≤ 256 := by
      rcases (by omega : (rawS s a e 1).1.data.toList.length = 0 ∨ (rawS s a e 1).1.data.toList.length = 1) with h | h <;> rw [h] <;> decide
    omega
theorem imgs_l0 (s : ByteArray) (n : Int) (d : Nat) : ∀ (k : Nat) (li : List S36) (j : Nat) (a e : Int), RInv s a → n ≤ (j : Int) + d → n ≤ 255 → li.length ≤ j → j ≤ 300 → d + 3 ≤ k →
    ∃ li' a' e', rec_readImages.l0 k li n (j : Int) s a e = some (li', s, a', e') ∧ RInv s a' ∧ li'.length ≤ j + d := by
  induction d with
  | zero =>
    intro k li j a e hv hj hn hl hj3 hk
    obtain ⟨m, rfl⟩ : ∃ m, k = m + 1 := ⟨k - 1, by omega⟩
    simp only [rec_readImages.l0]
    rw [if_neg (by omega)]
    exact ⟨_, _, _, rfl, hv, by omega⟩
  | succ d ih =>
    intro k li j a e hv hj hn hl hj3 hk
    obtain ⟨m, rfl⟩ : ∃ m, k = m + 1 := ⟨k - 1, by omega⟩
    simp only [rec_readImages.l0]
    by_cases hlt : (j : Int) < n
    · rw [if_pos hlt, num_is hv e 2]
      simp only [Option.bind_some]
      rw [text_is (numS_inv hv e 2) m (by omega)]
      simp only [Option.bind_some, pack_Reader_Err.f]
      have hv2 := textS_inv (numS_inv hv e 2) (numS s a e 2).2.2 224
      split
      · rw [if_pos (by omega), w64p (by omega) (by omega)]
        obtain ⟨li', a', e', h, hv', hl'⟩ := ih m (li ++ [⟨(numS s a e 2).1, (textS s (numS s a e 2).2.1 (numS s a e 2).2.2 224).1⟩]) (j + 1) _ _ hv2 (by omega) hn (by rw [List.length_append]; show li.length + 1 ≤ _; omega) (by omega) (by omega)
        exact ⟨li', a', e', h, hv', by omega⟩
      · exact ⟨_, _, _, rfl, hv2, by show (0 : Nat) ≤ _; omega⟩
    · rw [if_neg hlt]
      exact ⟨_, _, _, rfl, hv, by omega⟩
theorem imgs_some {s : ByteArray} {a : Int} (h : RInv s a) (e : Int) : ∃ li a' e', rec_readImages.f 300 s a e = some (li, s, a', e') ∧ RInv s a' ∧ li.length ≤ 300 := by
  have h0 := numS_lo (s := s) (at_ := a) e 1
  have h1 := num1_lt (s := s) (a := a) (e := e)
  unfold rec_readImages.f
  rw [num_is h e 1]
  simp only [Option.bind_some]
  obtain ⟨li', a', e', hh, hv', hl'⟩ := imgs_l0 s (numS s a e 1).1 (numS s a e 1).1.toNat 300 [] 0 (numS s a e 1).2.1 (numS s a e 1).2.2 (numS_inv h e 1) (by omega) h1 (Nat.zero_le _) (by omega) (by omega)
  exact ⟨li', a', e', hh, hv', by omega⟩
theorem tab_l0 (s : ByteArray) (n : Int) (d : Nat) : ∀ (k : Nat) (li : List S55) (j : Nat) (a e : Int), RInv s a → n ≤ (j : Int) + d → n ≤ 255 → li.length ≤ j → j ≤ 300 → d + 3 ≤ k →
    ∃ li' a' e', rec_readTable.l0 k li n (j : Int) s a e = some (li', s, a', e') ∧ RInv s a' ∧ li'.length ≤ j + d := by
  induction d with
  | zero =>
    intro k li j a e hv hj hn hl hj3 hk
    obtain ⟨m, rfl⟩ : ∃ m, k = m + 1 := ⟨k - 1, by omega⟩
    simp only [rec_readTable.l0]
    rw [if_neg (by omega)]
    exact ⟨_, _, _, rfl, hv, by omega⟩
  | succ d ih =>
    intro k li j a e hv hj hn hl hj3 hk
    obtain ⟨m, rfl⟩ : ∃ m, k = m + 1 := ⟨k - 1, by omega⟩
    simp only [rec_readTable.l0]
    by_cases hlt : (j : Int) < n
    · rw [if_pos hlt, num_is hv e 6]
      simp only [Option.bind_some]
      rw [num_is (numS_inv hv e 6) _ 6]
      simp only [Option.bind_some]
      have hv2 := numS_inv (numS_inv hv e 6) (numS s a e 6).2.2 6
      rw [if_pos (by omega), w64p (by omega) (by omega)]
      obtain ⟨li', a', e', h, hv', hl'⟩ := ih m (li ++ [⟨(numS s a e 6).1, (numS s (numS s a e 6).2.1 (numS s a e 6).2.2 6).1⟩]) (j + 1) _ _ hv2 (by omega) hn (by rw [List.length_append]; show li.length + 1 ≤ _; omega) (by omega) (by omega)
      exact ⟨li', a', e', h, hv', by omega⟩
    · rw [if_neg hlt]
      exact ⟨_, _, _, rfl, hv, by omega⟩
theorem tab_some {s : ByteArray} {a : Int} (h : RInv s a) (e : Int) : ∃ li a' e', rec_readTable.f 300 s a e = some (li, s, a', e') ∧ RInv s a' ∧ li.length ≤ 300 := by
  have h0 := numS_lo (s := s) (at_ := a) e 1
  have h1 := num1_lt (s := s) (a := a) (e := e)
  unfold rec_readTable.f
  rw [num_is h e 1]
  simp only [Option.bind_some]
  obtain ⟨li', a', e', hh, hv', hl'⟩ := tab_l0 s (numS s a e 1).1 (numS s a e 1).1.toNat 300 [] 0 (numS s a e 1).2.1 (numS s a e 1).2.2 (numS_inv h e 1) (by omega) h1 (Nat.zero_le _) (by omega) (by omega)
  exact ⟨li', a', e', hh, hv', by omega⟩
end Go.Proofs.Ytdphikbkknkhiaa.Pure
/- rec.Of, walked by hand: any bytes. -/
namespace Go.Proofs.Ytdphikbkknkhiaa.PAll
open Go.RowKit Go.Proofs.Ytdphikbkknkhiaa.Pure Go.Proofs.YtdphikbkknkhiaaW.PrintWords Go.Proofs.YtdphikbkknkhiaaW.PrintLast Go.Proofs.YtdphikbkknkhiaaW.PrintMore
set_option linter.unusedVariables false
set_option linter.unusedSimpArgs false

/-- Which record bytes are, or why they are none. -/
def ofP (s : ByteArray) : Got :=
  if (numS s 0 0 1).2.2 ≠ 0 then ⟨zeroR 0, [], [], 0, (numS s 0 0 1).2.2⟩
  else if endS s (readF s (numS s 0 0 1).1 (numS s 0 0 1).2.1).a (readF s (numS s 0 0 1).1 (numS s 0 0 1).2.1).e ≠ 0 then ⟨zeroR 0, [], [], 0, endS s (readF s (numS s 0 0 1).1 (numS s 0 0 1).2.1).a (readF s (numS s 0 0 1).1 (numS s 0 0 1).2.1).e⟩
  else if (bodyP (readF s (numS s 0 0 1).1 (numS s 0 0 1).2.1).q (readF s (numS s 0 0 1).1 (numS s 0 0 1).2.1).li (readF s (numS s 0 0 1).1 (numS s 0 0 1).2.1).lt).2 ≠ 0 ∨ (bodyP (readF s (numS s 0 0 1).1 (numS s 0 0 1).2.1).q (readF s (numS s 0 0 1).1 (numS s 0 0 1).2.1).li (readF s (numS s 0 0 1).1 (numS s 0 0 1).2.1).lt).1 ≠ s then ⟨zeroR 0, [], [], 0, 4⟩
  else ⟨(readF s (numS s 0 0 1).1 (numS s 0 0 1).2.1).q, (readF s (numS s 0 0 1).1 (numS s 0 0 1).2.1).li, (readF s (numS s 0 0 1).1 (numS s 0 0 1).2.1).lt, 0, 0⟩
theorem ofP_err (s : ByteArray) (k a e : Int) (h : numS s 0 0 1 = (k, a, e)) (he : e ≠ 0) : ofP s = ⟨zeroR 0, [], [], 0, e⟩ := by
  unfold ofP; rw [h]; rw [if_pos he]
theorem ofP_end (s : ByteArray) (k a : Int) (h : numS s 0 0 1 = (k, a, 0)) (he : endS s (readF s k a).a (readF s k a).e ≠ 0) : ofP s = ⟨zeroR 0, [], [], 0, endS s (readF s k a).a (readF s k a).e⟩ := by
  unfold ofP; rw [h]; rw [if_neg (fun c => c rfl), if_pos he]
theorem ofP_not (s : ByteArray) (k a : Int) (h : numS s 0 0 1 = (k, a, 0)) (he : endS s (readF s k a).a (readF s k a).e = 0) (hb : (bodyP (readF s k a).q (readF s k a).li (readF s k a).lt).2 ≠ 0 ∨ (bodyP (readF s k a).q (readF s k a).li (readF s k a).lt).1 ≠ s) : ofP s = ⟨zeroR 0, [], [], 0, 4⟩ := by
  unfold ofP; rw [h]; rw [if_neg (fun c => c rfl), if_neg (fun c => c he), if_pos hb]
theorem ofP_ok (s : ByteArray) (k a : Int) (h : numS s 0 0 1 = (k, a, 0)) (he : endS s (readF s k a).a (readF s k a).e = 0) (hb : ¬ ((bodyP (readF s k a).q (readF s k a).li (readF s k a).lt).2 ≠ 0 ∨ (bodyP (readF s k a).q (readF s k a).li (readF s k a).lt).1 ≠ s)) : ofP s = ⟨(readF s k a).q, (readF s k a).li, (readF s k a).lt, 0, 0⟩ := by
  unfold ofP; rw [h]; rw [if_neg (fun c => c rfl), if_neg (fun c => c he), if_neg hb]
theorem bodyP_same {a b : RV} (h : SameV a b) (li : List S36) (lt : List S55) : bodyP a li lt = bodyP b li lt := by
  have e1 : aheadE a li = aheadE b li := by unfold aheadE; rw [h.kind, h.act, h.key, h.old, h.new_]
  have e2 : recL a li lt = recL b li lt := by unfold recL; rw [h.kind, h.act, h.key, h.old, h.new_, h.txn, h.prev, h.next, h.page, h.epoch, h.node]
  unfold bodyP
  rw [e1, e2]
/-- What rec.Of hands back. -/
def OfOut (w w' : World) (x : Ending) (g : Got) : Prop := ∃ q : RV, x = .returned (.tuple #[.agg q.cs, .int .i64 g.e]) ∧ SameV q g.q ∧ (Kd.R k36 36 w' w.heap.size (fun _ => True) q.images.v g.li ∧ Kd.R k55 55 w' w.heap.size (fun _ => True) q.table.v g.lt) ∧ Below w.heap.size w w'
/-- The record's block and its rows, as they have been read. -/
structure QR (wb w : World) (g gr : Nat) (s : ByteArray) (q : RV) (x : Got) : Prop where
  rd : RD wb w g s x.a x.e
  rec_ : w.heap[gr]? = some (.cells q.cs 25 (0, 0))
  ri : Kd.R k36 36 w wb.heap.size (fun _ => True) q.images.v x.li
  rt : Kd.R k55 55 w wb.heap.size (fun _ => True) q.table.v x.lt
  sv : SameV q x.q
  li : x.li.length ≤ 300
  lt : x.lt.length ≤ 300
theorem R36_keep {wb w w' : World} {g : Nat} {s : ByteArray} {a e : Int} {b : Nat} {v : Value} {l : List S36} (h : Kd.R k36 36 w b (fun _ => True) v l) (hr : RD wb w g s a e) (hk : KeepBut w w' g none) : Kd.R k36 36 w' b (fun _ => True) v l :=
  Kd.R_mono (Kd.R_keep (IsS81.apart hr.i h (by decide)) hk (fun _ h => h.2)) (fun _ h => h.1)
theorem R55_keep {wb w w' : World} {g : Nat} {s : ByteArray} {a e : Int} {b : Nat} {v : Value} {l : List S55} (h : Kd.R k55 55 w b (fun _ => True) v l) (hr : RD wb w g s a e) (hk : KeepBut w w' g none) : Kd.R k55 55 w' b (fun _ => True) v l :=
  Kd.R_mono (Kd.R_keep (IsS81.apart hr.i h (by decide)) hk (fun _ h => h.2)) (fun _ h => h.1)
theorem keep_row (w : World) (g : Nat) (cs : Array Value) : KeepBut w (w.setRow g cs) g none :=
  ⟨by simp [World.setRow], fun i hi hne _ => by
    simp only [World.setRow, Array.getElem?_modify]
    rw [if_neg (fun c => hne c.symm)]⟩
theorem R36_row {w : World} {b : Nat} {v : Value} {l : List S36} (h : Kd.R k36 36 w b (fun _ => True) v l) {g : Nat} {cs cs' : Array Value} (hb : w.heap[g]? = some (.cells cs 25 (0, 0))) : Kd.R k36 36 (w.setRow g cs') b (fun _ => True) v l :=
  Kd.R_mono (Kd.R_keep (Kd.R_types h hb (by decide)) (keep_row w g cs') (fun _ h => h.2)) (fun _ h => h.1)
theorem R55_row {w : World} {b : Nat} {v : Value} {l : List S55} (h : Kd.R k55 55 w b (fun _ => True) v l) {g : Nat} {cs cs' : Array Value} (hb : w.heap[g]? = some (.cells cs 25 (0, 0))) : Kd.R k55 55 (w.setRow g cs') b (fun _ => True) v l :=
  Kd.R_mono (Kd.R_keep (Kd.R_types h hb (by decide)) (keep_row w g cs') (fun _ h => h.2)) (fun _ h => h.1)
theorem RRow.of {w : World} {b : Nat} {q : RV} {li : List S36} {lt : List S55} (hi : Kd.R k36 36 w b (fun _ => True) q.images.v li) (ht : Kd.R k55 55 w b (fun _ => True) q.table.v lt) : RRow w q li lt := by
  obtain ⟨h1, h2, h3⟩ := Kd.R_reads' (show Kd.R k36 36 w b (fun _ => True) (.slice q.images.A q.images.n q.images.c) li from hi)
  obtain ⟨h4, h5, h6⟩ := Kd.R_reads' (show Kd.R k55 55 w b (fun _ => True) (.slice q.table.A q.table.n q.table.c) lt from ht)
  exact ⟨h3, h1, by omega, h6, h4, by omega⟩
theorem RRow.zero (w : World) : RRow w (zeroR 0) [] [] := ⟨Kd.C_nil k36 w, rfl, Nat.le_refl _, Kd.C_nil k55 w, rfl, Nat.le_refl _⟩

set_option maxHeartbeats 8000000 in
set_option maxRecDepth 10000 in
theorem of_walk (s : ByteArray) (hs : s.size ≤ 1152921504606846976) (w : World) : Calls Try.prog 32 #[.string s] w fun x w' => OfOut w w' x (ofP s) := by
  have hu25 := Try.underlying25
  obtain ⟨k, a1, e1, hk⟩ : ∃ k a1 e1, numS s 0 0 1 = (k, a1, e1) := ⟨_, _, _, rfl⟩
  obtain ⟨wb, hwb⟩ : ∃ wb, w.alloc (.cells #[.int .i64 0, .int .i64 0, .int .i64 0, .int .i64 0, .int .i64 0, .string ⟨#[]⟩, .string ⟨#[]⟩, .string ⟨#[]⟩, .int .i64 0, .slice none 0 0, .slice none 0 0, .int .i64 0, .int .i64 0] 25) = wb := ⟨_, rfl⟩
  have hXz : wb.heap[w.heap.size]? = some (.cells #[.int .i64 0, .int .i64 0, .int .i64 0, .int .i64 0, .int .i64 0, .string ⟨#[]⟩, .string ⟨#[]⟩, .string ⟨#[]⟩, .int .i64 0, .slice none 0 0, .slice none 0 0, .int .i64 0, .int .i64 0] 25 (0, 0)) := hwb ▸ heap_alloc_new w _
  have hBb : Below w.heap.size w wb := hwb ▸ below_alloc (Below.refl _ _) _
  have HS := Lib.hid (show RInv s 0 from ⟨Int.le_refl _, by omega, hs⟩)
  have HK := Lib.hid hk
  have HXZ := Lib.hid hXz
  have HBB := Lib.hid hBb
  have HWB := Lib.hid hwb
  clear hXz hBb hk hwb hs
  by_cases h0 : e1 = 0
  · subst h0
    obtain ⟨G, hG⟩ : ∃ G, readF s k a1 = G := ⟨_, rfl⟩
    have HG := Lib.hid hG
    clear hG
    go_enter Try.func32, Try.ntmps32
    go_upto_block 0 with (first
      | (go_at_call 29; (with_reducible refine (pack_Read.calls s s 0 0 (w.alloc (.cells #[.int .i64 0, .int .i64 0, .int .i64 0, .int .i64 0, .int .i64 0, .string ⟨#[]⟩, .string ⟨#[]⟩, .string ⟨#[]⟩, .int .i64 0, .slice none 0 0, .slice none 0 0, .int .i64 0, .int .i64 0] 25)) _ (Below.refl _ _) (by unfold pack_Read.f; rfl)).mono ?_); rintro e' w1 ⟨g, rfl, hI1, hB1, _⟩; rw [HWB.out] at hI1 hB1; have HR1 := Lib.hid (show RD wb w1 g s 0 0 from ⟨hI1, hB1, HS.out⟩); clear hI1 hB1)
      | (go_at_call 30; (with_reducible refine (rd_num HR1.out 1 HK.out).mono ?_); rintro e' w2 ⟨rfl, hR2, hK2⟩; have HR2 := Lib.hid (hR2.alloc (.cells #[.int .i64 k, .int .i64 0, .int .i64 0, .int .i64 0, .int .i64 0, .string ⟨#[]⟩, .string ⟨#[]⟩, .string ⟨#[]⟩, .int .i64 0, .slice none 0 0, .slice none 0 0, .int .i64 0, .int .i64 0] 25)); have HX2 := Lib.hid (heap_alloc_new w2 (.cells #[.int .i64 k, .int .i64 0, .int .i64 0, .int .i64 0, .int .i64 0, .string ⟨#[]⟩, .string ⟨#[]⟩, .string ⟨#[]⟩, .int .i64 0, .slice none 0 0, .slice none 0 0, .int .i64 0, .int .i64 0] 25)); have HGE := Lib.hid hR2.b.size; clear hR2 hK2)
      | (go_at_call 47; (with_reducible refine (rd_err HR2.out).mono ?_); rintro e' w3 ⟨rfl, hR3, hK3⟩; have x3 := RD.kept (a' := 0) (e' := 0) HR2.out hK3 HX2.out; have x3c0 : w3.cell? ⟨w2.heap.size, 0, none⟩ = some (.int .i64 k) := (blk_cell x3 0).trans rfl; have HX3 := Lib.hid x3; have HR3 := Lib.hid hR3; clear hR3 hK3 x3))
    go_cut [] (fun wc => ∃ q, QR wb wc g w2.heap.size s q G)
    case first =>
      by_cases k1 : k = 1
      · subst k1
        have x3 := HX3.out
        clear x3
        obtain ⟨l4, b4, f4, h4, hv4, hl4⟩ := imgs_some HR3.out.v 0
        obtain rfl : G = ⟨zeroR 1, l4, [], b4, f4⟩ := by
          rw [← HG.out]
          unfold readF
          simp [h4]
        have HF4 := Lib.hid h4
        have HV4 := Lib.hid hv4
        have HL4 := Lib.hid hl4
        clear h4 hv4 hl4
        go_wp2_with (first
          | (go_at_call 48; (with_reducible refine (rec_readImages.calls 300 g s a1 0 l4 s b4 f4 wb w3 HR3.out.i HR3.out.b HF4.out).mono ?_); rintro e' w4 ⟨v4, rfl, hR4, hI4, hB4, hK4⟩; obtain ⟨A4, c4, rfl⟩ := Kd.R_slice hR4; have x4 := RD.kept (a' := 0) (e' := 0) HR3.out hK4 HX3.out; have zf := blk_frozen x4 9; have zc : w4.cell? ⟨w2.heap.size, 9, none⟩ = some (.slice none 0 0) := (blk_cell x4 9).trans rfl; have HX4 := Lib.hid x4; have HRR4 := Lib.hid (Kd.R_lower hR4 HR3.out.b.size); have HR4 := Lib.hid (show RD wb w4 g s b4 f4 from ⟨hI4, hB4, HV4.out⟩); clear hR4 hI4 hB4 hK4 x4))
        go_meet
        case rel => exact ⟨(⟨1, 0, 0, 0, 0, ⟨#[]⟩, ⟨#[]⟩, ⟨#[]⟩, 0, ⟨A4, l4.length, c4⟩, nilS, 0, 0⟩ : RV), RD.set HR4.out HX4.out HGE.out 9 _, blk_put HX4.out 9 _ rfl, Kd.R_set HRR4.out HX4.out (by decide) 9 _, Kd.R_nil _ _ _ _ _, ⟨rfl, rfl, rfl, rfl, rfl, rfl, rfl, rfl, rfl, rfl, rfl⟩, HL4.out, by simp⟩
      by_cases k2 : k = 2
      · subst k2
        have x3 := HX3.out
        clear x3
        obtain ⟨l4, b4, f4, h4, hv4, hl4⟩ := imgs_some HR3.out.v 0
        obtain rfl : G = ⟨zeroR 2, l4, [], b4, f4⟩ := by
          rw [← HG.out]
          unfold readF
          simp [h4]
        have HF4 := Lib.hid h4
        have HV4 := Lib.hid hv4
        have HL4 := Lib.hid hl4
        clear h4 hv4 hl4
        go_wp2_with (first
          | (go_at_call 48; (with_reducible refine (rec_readImages.calls 300 g s a1 0 l4 s b4 f4 wb w3 HR3.out.i HR3.out.b HF4.out).mono ?_); rintro e' w4 ⟨v4, rfl, hR4, hI4, hB4, hK4⟩; obtain ⟨A4, c4, rfl⟩ := Kd.R_slice hR4; have x4 := RD.kept (a' := 0) (e' := 0) HR3.out hK4 HX3.out; have zf := blk_frozen x4 9; have zc : w4.cell? ⟨w2.heap.size, 9, none⟩ = some (.slice none 0 0) := (blk_cell x4 9).trans rfl; have HX4 := Lib.hid x4; have HRR4 := Lib.hid (Kd.R_lower hR4 HR3.out.b.size); have HR4 := Lib.hid (show RD wb w4 g s b4 f4 from ⟨hI4, hB4, HV4.out⟩); clear hR4 hI4 hB4 hK4 x4))
        go_meet
        case rel => exact ⟨(⟨2, 0, 0, 0, 0, ⟨#[]⟩, ⟨#[]⟩, ⟨#[]⟩, 0, ⟨A4, l4.length, c4⟩, nilS, 0, 0⟩ : RV), RD.set HR4.out HX4.out HGE.out 9 _, blk_put HX4.out 9 _ rfl, Kd.R_set HRR4.out HX4.out (by decide) 9 _, Kd.R_nil _ _ _ _ _, ⟨rfl, rfl, rfl, rfl, rfl, rfl, rfl, rfl, rfl, rfl, rfl⟩, HL4.out, by simp⟩
      by_cases k3 : k = 3
      · subst k3
        have x3 := HX3.out
        clear x3
        obtain ⟨n1, o1, f1, h1⟩ : ∃ n o f, numS s a1 0 6 = (n, o, f) := ⟨_, _, _, rfl⟩
        obtain ⟨n2, o2, f2, h2⟩ : ∃ n o f, numS s o1 f1 6 = (n, o, f) := ⟨_, _, _, rfl⟩
        obtain ⟨n3, o3, f3, h3⟩ : ∃ n o f, numS s o2 f2 2 = (n, o, f) := ⟨_, _, _, rfl⟩
        obtain ⟨n4, o4, f4, h4⟩ : ∃ n o f, textS s o3 f3 16 = (n, o, f) := ⟨_, _, _, rfl⟩
        obtain ⟨n5, o5, f5, h5⟩ : ∃ n o f, textS s o4 f4 32 = (n, o, f) := ⟨_, _, _, rfl⟩
        obtain rfl : G = ⟨(⟨3, n1, n2, n3, 0, n4, ⟨#[]⟩, n5, 0, nilS, nilS, 0, 0⟩ : RV), [], [], o5, f5⟩ := by
          rw [← HG.out]
          unfold readF chgS
          simp [h1, h2, h3, h4, h5, zeroR]
        have H1 := Lib.hid h1
        have H2 := Lib.hid h2
        have H3 := Lib.hid h3
        have H4 := Lib.hid h4
        have H5 := Lib.hid h5
        clear h1 h2 h3 h4 h5
        go_wp2_with (first
          | (go_at_call 49; (with_reducible refine (rdchg_3 3 n1 n2 0 0 ⟨#[]⟩ ⟨#[]⟩ ⟨#[]⟩ 0 none 0 0 none 0 0 0 0 3 HRS.out w2.heap.size HGE.out HYS.out rfl H3.out H4.out H5.out).mono ?_); rintro e' w9 ⟨rfl, hR9, hX9⟩; have HR9 := Lib.hid hR9; have HX9 := Lib.hid hX9; clear hR9 hX9)
          | (go_at_call 30; (with_reducible refine (rd_num HR4.out 6 H2.out).mono ?_); rintro e' w5 ⟨rfl, hR5, hK5⟩; have x5 := RD.kept (a' := 0) (e' := 0) HR4.out hK5 HX4.out; have HX5 := Lib.hid x5; have HR5 := Lib.hid hR5; have zf1 := blk_frozen x5 1; have zc1 : w5.cell? ⟨w2.heap.size, 1, none⟩ = some (.int .i64 0) := (blk_cell x5 1).trans rfl; have zf2 := blk_frozen x5 2; have zc2 : w5.cell? ⟨w2.heap.size, 2, none⟩ = some (.int .i64 0) := (blk_cell x5 2).trans rfl; have y0 : (w5.setCell ⟨w2.heap.size, 1, none⟩ (.int .i64 n1)).heap[w2.heap.size]? = some (.cells #[.int .i64 3, .int .i64 n1, .int .i64 0, .int .i64 0, .int .i64 0, .string ⟨#[]⟩, .string ⟨#[]⟩, .string ⟨#[]⟩, .int .i64 0, .slice none 0 0, .slice none 0 0, .int .i64 0, .int .i64 0] 25 (0, 0)) := blk_put x5 1 _ rfl; have r0 := RD.set hR5 x5 HGE.out 1 (.int .i64 n1); have y1 : ((w5.setCell ⟨w2.heap.size, 1, none⟩ (.int .i64 n1)).setCell ⟨w2.heap.size, 2, none⟩ (.int .i64 n2)).heap[w2.heap.size]? = some (.cells #[.int .i64 3, .int .i64 n1, .int .i64 n2, .int .i64 0, .int .i64 0, .string ⟨#[]⟩, .string ⟨#[]⟩, .string ⟨#[]⟩, .int .i64 0, .slice none 0 0, .slice none 0 0, .int .i64 0, .int .i64 0] 25 (0, 0)) := blk_put y0 2 _ rfl; have r1 := RD.set r0 y0 HGE.out 2 (.int .i64 n2); have HYS := Lib.hid y1; have HRS := Lib.hid r1; have yc0 : ((w5.setCell ⟨w2.heap.size, 1, none⟩ (.int .i64 n1)).setCell ⟨w2.heap.size, 2, none⟩ (.int .i64 n2)).cell? ⟨w2.heap.size, 0, none⟩ = some (.int .i64 3) := (blk_cell y1 0).trans rfl; have yc4 : ((w5.setCell ⟨w2.heap.size, 1, none⟩ (.int .i64 n1)).setCell ⟨w2.heap.size, 2, none⟩ (.int .i64 n2)).cell? ⟨w2.heap.size, 4, none⟩ = some (.int .i64 0) := (blk_cell y1 4).trans rfl; clear y0 r0 y1 r1; clear x5 hR5 hK5)
          | (go_at_call 30; (with_reducible refine (rd_num HR3.out 6 H1.out).mono ?_); rintro e' w4 ⟨rfl, hR4, hK4⟩; have x4 := RD.kept (a' := 0) (e' := 0) HR3.out hK4 HX3.out; have HX4 := Lib.hid x4; have HR4 := Lib.hid hR4; clear x4 hR4 hK4))
        go_meet
        case rel => exact ⟨(⟨3, n1, n2, n3, 0, n4, ⟨#[]⟩, n5, 0, nilS, nilS, 0, 0⟩ : RV), HR9.out, HX9.out, Kd.R_nil _ _ _ _ _, Kd.R_nil _ _ _ _ _, SameV.refl _, by simp, by simp⟩
      by_cases k4 : k = 4
      · subst k4
        have x3 := HX3.out
        clear x3
        obtain ⟨n1, o1, f1, h1⟩ : ∃ n o f, numS s a1 0 6 = (n, o, f) := ⟨_, _, _, rfl⟩
        obtain ⟨n2, o2, f2, h2⟩ : ∃ n o f, numS s o1 f1 6 = (n, o, f) := ⟨_, _, _, rfl⟩
        obtain ⟨n3, o3, f3, h3⟩ : ∃ n o f, numS s o2 f2 2 = (n, o, f) := ⟨_, _, _, rfl⟩
        obtain ⟨n4, o4, f4, h4⟩ : ∃ n o f, textS s o3 f3 16 = (n, o, f) := ⟨_, _, _, rfl⟩
        obtain ⟨n5, o5, f5, h5⟩ : ∃ n o f, textS s o4 f4 32 = (n, o, f) := ⟨_, _, _, rfl⟩
        obtain rfl : G = ⟨(⟨4, n1, n2, n3, 0, n4, n5, ⟨#[]⟩, 0, nilS, nilS, 0, 0⟩ : RV), [], [], o5, f5⟩ := by
          rw [← HG.out]
          unfold readF chgS
          simp [h1, h2, h3, h4, h5, zeroR]
        have H1 := Lib.hid h1
        have H2 := Lib.hid h2
        have H3 := Lib.hid h3
        have H4 := Lib.hid h4
        have H5 := Lib.hid h5
        clear h1 h2 h3 h4 h5
        go_wp2_with (first
          | (go_at_call 49; (with_reducible refine (rdchg_4 4 n1 n2 0 0 ⟨#[]⟩ ⟨#[]⟩ ⟨#[]⟩ 0 none 0 0 none 0 0 0 0 4 HRS.out w2.heap.size HGE.out HYS.out rfl H3.out H4.out H5.out).mono ?_); rintro e' w9 ⟨rfl, hR9, hX9⟩; have HR9 := Lib.hid hR9; have HX9 := Lib.hid hX9; clear hR9 hX9)
          | (go_at_call 30; (with_reducible refine (rd_num HR4.out 6 H2.out).mono ?_); rintro e' w5 ⟨rfl, hR5, hK5⟩; have x5 := RD.kept (a' := 0) (e' := 0) HR4.out hK5 HX4.out; have HX5 := Lib.hid x5; have HR5 := Lib.hid hR5; have zf1 := blk_frozen x5 1; have zc1 : w5.cell? ⟨w2.heap.size, 1, none⟩ = some (.int .i64 0) := (blk_cell x5 1).trans rfl; have zf2 := blk_frozen x5 2; have zc2 : w5.cell? ⟨w2.heap.size, 2, none⟩ = some (.int .i64 0) := (blk_cell x5 2).trans rfl; have y0 : (w5.setCell ⟨w2.heap.size, 1, none⟩ (.int .i64 n1)).heap[w2.heap.size]? = some (.cells #[.int .i64 4, .int .i64 n1, .int .i64 0, .int .i64 0, .int .i64 0, .string ⟨#[]⟩, .string ⟨#[]⟩, .string ⟨#[]⟩, .int .i64 0, .slice none 0 0, .slice none 0 0, .int .i64 0, .int .i64 0] 25 (0, 0)) := blk_put x5 1 _ rfl; have r0 := RD.set hR5 x5 HGE.out 1 (.int .i64 n1); have y1 : ((w5.setCell ⟨w2.heap.size, 1, none⟩ (.int .i64 n1)).setCell ⟨w2.heap.size, 2, none⟩ (.int .i64 n2)).heap[w2.heap.size]? = some (.cells #[.int .i64 4, .int .i64 n1, .int .i64 n2, .int .i64 0, .int .i64 0, .string ⟨#[]⟩, .string ⟨#[]⟩, .string ⟨#[]⟩, .int .i64 0, .slice none 0 0, .slice none 0 0, .int .i64 0, .int .i64 0] 25 (0, 0)) := blk_put y0 2 _ rfl; have r1 := RD.set r0 y0 HGE.out 2 (.int .i64 n2); have HYS := Lib.hid y1; have HRS := Lib.hid r1; have yc0 : ((w5.setCell ⟨w2.heap.size, 1, none⟩ (.int .i64 n1)).setCell ⟨w2.heap.size, 2, none⟩ (.int .i64 n2)).cell? ⟨w2.heap.size, 0, none⟩ = some (.int .i64 4) := (blk_cell y1 0).trans rfl; have yc4 : ((w5.setCell ⟨w2.heap.size, 1, none⟩ (.int .i64 n1)).setCell ⟨w2.heap.size, 2, none⟩ (.int .i64 n2)).cell? ⟨w2.heap.size, 4, none⟩ = some (.int .i64 0) := (blk_cell y1 4).trans rfl; clear y0 r0 y1 r1; clear x5 hR5 hK5)
          | (go_at_call 30; (with_reducible refine (rd_num HR3.out 6 H1.out).mono ?_); rintro e' w4 ⟨rfl, hR4, hK4⟩; have x4 := RD.kept (a' := 0) (e' := 0) HR3.out hK4 HX3.out; have HX4 := Lib.hid x4; have HR4 := Lib.hid hR4; clear x4 hR4 hK4))
        go_meet
        case rel => exact ⟨(⟨4, n1, n2, n3, 0, n4, n5, ⟨#[]⟩, 0, nilS, nilS, 0, 0⟩ : RV), HR9.out, HX9.out, Kd.R_nil _ _ _ _ _, Kd.R_nil _ _ _ _ _, SameV.refl _, by simp, by simp⟩
      by_cases k5 : k = 5
      · subst k5
        have x3 := HX3.out
        clear x3
        obtain ⟨n1, o1, f1, h1⟩ : ∃ n o f, numS s a1 0 6 = (n, o, f) := ⟨_, _, _, rfl⟩
        obtain ⟨n2, o2, f2, h2⟩ : ∃ n o f, numS s o1 f1 6 = (n, o, f) := ⟨_, _, _, rfl⟩
        obtain ⟨n3, o3, f3, h3⟩ : ∃ n o f, numS s o2 f2 2 = (n, o, f) := ⟨_, _, _, rfl⟩
        obtain ⟨n4, o4, f4, h4⟩ : ∃ n o f, textS s o3 f3 16 = (n, o, f) := ⟨_, _, _, rfl⟩
        obtain ⟨n5, o5, f5, h5⟩ : ∃ n o f, textS s o4 f4 32 = (n, o, f) := ⟨_, _, _, rfl⟩
        obtain ⟨n6, o6, f6, h6⟩ : ∃ n o f, textS s o5 f5 32 = (n, o, f) := ⟨_, _, _, rfl⟩
        obtain rfl : G = ⟨(⟨5, n1, n2, n3, 0, n4, n5, n6, 0, nilS, nilS, 0, 0⟩ : RV), [], [], o6, f6⟩ := by
          rw [← HG.out]
          unfold readF chgS
          simp [h1, h2, h3, h4, h5, h6, zeroR]
        have H1 := Lib.hid h1
        have H2 := Lib.hid h2
        have H3 := Lib.hid h3
        have H4 := Lib.hid h4
        have H5 := Lib.hid h5
        have H6 := Lib.hid h6
        clear h1 h2 h3 h4 h5 h6
        go_wp2_with (first
          | (go_at_call 49; (with_reducible refine (rdchg_5 5 n1 n2 0 0 ⟨#[]⟩ ⟨#[]⟩ ⟨#[]⟩ 0 none 0 0 none 0 0 0 0 5 HRS.out w2.heap.size HGE.out HYS.out (by omega) (by omega) H3.out H4.out H5.out H6.out).mono ?_); rintro e' w9 ⟨rfl, hR9, hX9⟩; have HR9 := Lib.hid hR9; have HX9 := Lib.hid hX9; clear hR9 hX9)
          | (go_at_call 30; (with_reducible refine (rd_num HR4.out 6 H2.out).mono ?_); rintro e' w5 ⟨rfl, hR5, hK5⟩; have x5 := RD.kept (a' := 0) (e' := 0) HR4.out hK5 HX4.out; have HX5 := Lib.hid x5; have HR5 := Lib.hid hR5; have zf1 := blk_frozen x5 1; have zc1 : w5.cell? ⟨w2.heap.size, 1, none⟩ = some (.int .i64 0) := (blk_cell x5 1).trans rfl; have zf2 := blk_frozen x5 2; have zc2 : w5.cell? ⟨w2.heap.size, 2, none⟩ = some (.int .i64 0) := (blk_cell x5 2).trans rfl; have y0 : (w5.setCell ⟨w2.heap.size, 1, none⟩ (.int .i64 n1)).heap[w2.heap.size]? = some (.cells #[.int .i64 5, .int .i64 n1, .int .i64 0, .int .i64 0, .int .i64 0, .string ⟨#[]⟩, .string ⟨#[]⟩, .string ⟨#[]⟩, .int .i64 0, .slice none 0 0, .slice none 0 0, .int .i64 0, .int .i64 0] 25 (0, 0)) := blk_put x5 1 _ rfl; have r0 := RD.set hR5 x5 HGE.out 1 (.int .i64 n1); have y1 : ((w5.setCell ⟨w2.heap.size, 1, none⟩ (.int .i64 n1)).setCell ⟨w2.heap.size, 2, none⟩ (.int .i64 n2)).heap[w2.heap.size]? = some (.cells #[.int .i64 5, .int .i64 n1, .int .i64 n2, .int .i64 0, .int .i64 0, .string ⟨#[]⟩, .string ⟨#[]⟩, .string ⟨#[]⟩, .int .i64 0, .slice none 0 0, .slice none 0 0, .int .i64 0, .int .i64 0] 25 (0, 0)) := blk_put y0 2 _ rfl; have r1 := RD.set r0 y0 HGE.out 2 (.int .i64 n2); have HYS := Lib.hid y1; have HRS := Lib.hid r1; have yc0 : ((w5.setCell ⟨w2.heap.size, 1, none⟩ (.int .i64 n1)).setCell ⟨w2.heap.size, 2, none⟩ (.int .i64 n2)).cell? ⟨w2.heap.size, 0, none⟩ = some (.int .i64 5) := (blk_cell y1 0).trans rfl; have yc4 : ((w5.setCell ⟨w2.heap.size, 1, none⟩ (.int .i64 n1)).setCell ⟨w2.heap.size, 2, none⟩ (.int .i64 n2)).cell? ⟨w2.heap.size, 4, none⟩ = some (.int .i64 0) := (blk_cell y1 4).trans rfl; clear y0 r0 y1 r1; clear x5 hR5 hK5)
          | (go_at_call 30; (with_reducible refine (rd_num HR3.out 6 H1.out).mono ?_); rintro e' w4 ⟨rfl, hR4, hK4⟩; have x4 := RD.kept (a' := 0) (e' := 0) HR3.out hK4 HX3.out; have HX4 := Lib.hid x4; have HR4 := Lib.hid hR4; clear x4 hR4 hK4))
        go_meet
        case rel => exact ⟨(⟨5, n1, n2, n3, 0, n4, n5, n6, 0, nilS, nilS, 0, 0⟩ : RV), HR9.out, HX9.out, Kd.R_nil _ _ _ _ _, Kd.R_nil _ _ _ _ _, SameV.refl _, by simp, by simp⟩
      by_cases k6 : k = 6
      · subst k6
        have x3 := HX3.out
        clear x3
        obtain ⟨n1, o1, f1, h1⟩ : ∃ n o f, numS s a1 0 6 = (n, o, f) := ⟨_, _, _, rfl⟩
        obtain ⟨n2, o2, f2, h2⟩ : ∃ n o f, numS s o1 f1 6 = (n, o, f) := ⟨_, _, _, rfl⟩
        obtain ⟨n3, o3, f3, h3⟩ : ∃ n o f, numS s o2 f2 6 = (n, o, f) := ⟨_, _, _, rfl⟩
        obtain ⟨n4, o4, f4, h4⟩ : ∃ n o f, numS s o3 f3 1 = (n, o, f) := ⟨_, _, _, rfl⟩
        by_cases ha3 : n4 = 3
        · subst ha3
          obtain ⟨n5, o5, f5, h5⟩ : ∃ n o f, numS s o4 f4 2 = (n, o, f) := ⟨_, _, _, rfl⟩
          obtain ⟨n6, o6, f6, h6⟩ : ∃ n o f, textS s o5 f5 16 = (n, o, f) := ⟨_, _, _, rfl⟩
          obtain ⟨n7, o7, f7, h7⟩ : ∃ n o f, textS s o6 f6 32 = (n, o, f) := ⟨_, _, _, rfl⟩
          obtain rfl : G = ⟨(⟨6, n1, n2, n5, 3, n6, ⟨#[]⟩, n7, n3, nilS, nilS, 0, 0⟩ : RV), [], [], o7, f7⟩ := by
            rw [← HG.out]
            unfold readF chgS
            simp [h1, h2, h3, h4, h5, h6, h7, zeroR]
          have H1 := Lib.hid h1
          have H2 := Lib.hid h2
          have H3 := Lib.hid h3
          have H4 := Lib.hid h4
          have H5 := Lib.hid h5
          have H6 := Lib.hid h6
          have H7 := Lib.hid h7
          clear h1 h2 h3 h4 h5 h6 h7
          go_wp2_with (first
            | (go_at_call 49; (with_reducible refine (rdchg_3 6 n1 n2 0 3 ⟨#[]⟩ ⟨#[]⟩ ⟨#[]⟩ n3 none 0 0 none 0 0 0 0 3 HRS.out w2.heap.size HGE.out HYS.out rfl H5.out H6.out H7.out).mono ?_); rintro e' w9 ⟨rfl, hR9, hX9⟩; have HR9 := Lib.hid hR9; have HX9 := Lib.hid hX9; clear hR9 hX9)
            | (go_at_call 30; (with_reducible refine (rd_num HR6.out 1 H4.out).mono ?_); rintro e' w7 ⟨rfl, hR7, hK7⟩; have x7 := RD.kept (a' := 0) (e' := 0) HR6.out hK7 HX6.out; have HX7 := Lib.hid x7; have HR7 := Lib.hid hR7; have zf1 := blk_frozen x7 1; have zc1 : w7.cell? ⟨w2.heap.size, 1, none⟩ = some (.int .i64 0) := (blk_cell x7 1).trans rfl; have zf2 := blk_frozen x7 2; have zc2 : w7.cell? ⟨w2.heap.size, 2, none⟩ = some (.int .i64 0) := (blk_cell x7 2).trans rfl; have zf8 := blk_frozen x7 8; have zc8 : w7.cell? ⟨w2.heap.size, 8, none⟩ = some (.int .i64 0) := (blk_cell x7 8).trans rfl; have zf4 := blk_frozen x7 4; have zc4 : w7.cell? ⟨w2.heap.size, 4, none⟩ = some (.int .i64 0) := (blk_cell x7 4).trans rfl; have y0 : (w7.setCell ⟨w2.heap.size, 1, none⟩ (.int .i64 n1)).heap[w2.heap.size]? = some (.cells #[.int .i64 6, .int .i64 n1, .int .i64 0, .int .i64 0, .int .i64 0, .string ⟨#[]⟩, .string ⟨#[]⟩, .string ⟨#[]⟩, .int .i64 0, .slice none 0 0, .slice none 0 0, .int .i64 0, .int .i64 0] 25 (0, 0)) := blk_put x7 1 _ rfl; have r0 := RD.set hR7 x7 HGE.out 1 (.int .i64 n1); have y1 : ((w7.setCell ⟨w2.heap.size, 1, none⟩ (.int .i64 n1)).setCell ⟨w2.heap.size, 2, none⟩ (.int .i64 n2)).heap[w2.heap.size]? = some (.cells #[.int .i64 6, .int .i64 n1, .int .i64 n2, .int .i64 0, .int .i64 0, .string ⟨#[]⟩, .string ⟨#[]⟩, .string ⟨#[]⟩, .int .i64 0, .slice none 0 0, .slice none 0 0, .int .i64 0, .int .i64 0] 25 (0, 0)) := blk_put y0 2 _ rfl; have r1 := RD.set r0 y0 HGE.out 2 (.int .i64 n2); have y2 : (((w7.setCell ⟨w2.heap.size, 1, none⟩ (.int .i64 n1)).setCell ⟨w2.heap.size, 2, none⟩ (.int .i64 n2)).setCell ⟨w2.heap.size, 8, none⟩ (.int .i64 n3)).heap[w2.heap.size]? = some (.cells #[.int .i64 6, .int .i64 n1, .int .i64 n2, .int .i64 0, .int .i64 0, .string ⟨#[]⟩, .string ⟨#[]⟩, .string ⟨#[]⟩, .int .i64 n3, .slice none 0 0, .slice none 0 0, .int .i64 0, .int .i64 0] 25 (0, 0)) := blk_put y1 8 _ rfl; have r2 := RD.set r1 y1 HGE.out 8 (.int .i64 n3); have y3 : ((((w7.setCell ⟨w2.heap.size, 1, none⟩ (.int .i64 n1)).setCell ⟨w2.heap.size, 2, none⟩ (.int .i64 n2)).setCell ⟨w2.heap.size, 8, none⟩ (.int .i64 n3)).setCell ⟨w2.heap.size, 4, none⟩ (.int .i64 3)).heap[w2.heap.size]? = some (.cells #[.int .i64 6, .int .i64 n1, .int .i64 n2, .int .i64 0, .int .i64 3, .string ⟨#[]⟩, .string ⟨#[]⟩, .string ⟨#[]⟩, .int .i64 n3, .slice none 0 0, .slice none 0 0, .int .i64 0, .int .i64 0] 25 (0, 0)) := blk_put y2 4 _ rfl; have r3 := RD.set r2 y2 HGE.out 4 (.int .i64 3); have HYS := Lib.hid y3; have HRS := Lib.hid r3; have yc0 : ((((w7.setCell ⟨w2.heap.size, 1, none⟩ (.int .i64 n1)).setCell ⟨w2.heap.size, 2, none⟩ (.int .i64 n2)).setCell ⟨w2.heap.size, 8, none⟩ (.int .i64 n3)).setCell ⟨w2.heap.size, 4, none⟩ (.int .i64 3)).cell? ⟨w2.heap.size, 0, none⟩ = some (.int .i64 6) := (blk_cell y3 0).trans rfl; have yc4 : ((((w7.setCell ⟨w2.heap.size, 1, none⟩ (.int .i64 n1)).setCell ⟨w2.heap.size, 2, none⟩ (.int .i64 n2)).setCell ⟨w2.heap.size, 8, none⟩ (.int .i64 n3)).setCell ⟨w2.heap.size, 4, none⟩ (.int .i64 3)).cell? ⟨w2.heap.size, 4, none⟩ = some (.int .i64 3) := (blk_cell y3 4).trans rfl; clear y0 r0 y1 r1 y2 r2 y3 r3; clear x7 hR7 hK7)
            | (go_at_call 30; (with_reducible refine (rd_num HR5.out 6 H3.out).mono ?_); rintro e' w6 ⟨rfl, hR6, hK6⟩; have x6 := RD.kept (a' := 0) (e' := 0) HR5.out hK6 HX5.out; have HX6 := Lib.hid x6; have HR6 := Lib.hid hR6; clear x6 hR6 hK6)
            | (go_at_call 30; (with_reducible refine (rd_num HR4.out 6 H2.out).mono ?_); rintro e' w5 ⟨rfl, hR5, hK5⟩; have x5 := RD.kept (a' := 0) (e' := 0) HR4.out hK5 HX4.out; have HX5 := Lib.hid x5; have HR5 := Lib.hid hR5; clear x5 hR5 hK5)
            | (go_at_call 30; (with_reducible refine (rd_num HR3.out 6 H1.out).mono ?_); rintro e' w4 ⟨rfl, hR4, hK4⟩; have x4 := RD.kept (a' := 0) (e' := 0) HR3.out hK4 HX3.out; have HX4 := Lib.hid x4; have HR4 := Lib.hid hR4; clear x4 hR4 hK4))
          go_meet
          case rel => exact ⟨(⟨6, n1, n2, n5, 3, n6, ⟨#[]⟩, n7, n3, nilS, nilS, 0, 0⟩ : RV), HR9.out, HX9.out, Kd.R_nil _ _ _ _ _, Kd.R_nil _ _ _ _ _, SameV.refl _, by simp, by simp⟩
        · by_cases ha4 : n4 = 4
          · subst ha4
            obtain ⟨n5, o5, f5, h5⟩ : ∃ n o f, numS s o4 f4 2 = (n, o, f) := ⟨_, _, _, rfl⟩
            obtain ⟨n6, o6, f6, h6⟩ : ∃ n o f, textS s o5 f5 16 = (n, o, f) := ⟨_, _, _, rfl⟩
            obtain ⟨n7, o7, f7, h7⟩ : ∃ n o f, textS s o6 f6 32 = (n, o, f) := ⟨_, _, _, rfl⟩
            obtain rfl : G = ⟨(⟨6, n1, n2, n5, 4, n6, n7, ⟨#[]⟩, n3, nilS, nilS, 0, 0⟩ : RV), [], [], o7, f7⟩ := by
              rw [← HG.out]
              unfold readF chgS
              simp [h1, h2, h3, h4, h5, h6, h7, zeroR]
            have H1 := Lib.hid h1
            have H2 := Lib.hid h2
            have H3 := Lib.hid h3
            have H4 := Lib.hid h4
            have H5 := Lib.hid h5
            have H6 := Lib.hid h6
            have H7 := Lib.hid h7
            clear h1 h2 h3 h4 h5 h6 h7
            go_wp2_with (first
              | (go_at_call 49; (with_reducible refine (rdchg_4 6 n1 n2 0 4 ⟨#[]⟩ ⟨#[]⟩ ⟨#[]⟩ n3 none 0 0 none 0 0 0 0 4 HRS.out w2.heap.size HGE.out HYS.out rfl H5.out H6.out H7.out).mono ?_); rintro e' w9 ⟨rfl, hR9, hX9⟩; have HR9 := Lib.hid hR9; have HX9 := Lib.hid hX9; clear hR9 hX9)
              | (go_at_call 30; (with_reducible refine (rd_num HR6.out 1 H4.out).mono ?_); rintro e' w7 ⟨rfl, hR7, hK7⟩; have x7 := RD.kept (a' := 0) (e' := 0) HR6.out hK7 HX6.out; have HX7 := Lib.hid x7; have HR7 := Lib.hid hR7; have zf1 := blk_frozen x7 1; have zc1 : w7.cell? ⟨w2.heap.size, 1, none⟩ = some (.int .i64 0) := (blk_cell x7 1).trans rfl; have zf2 := blk_frozen x7 2; have zc2 : w7.cell? ⟨w2.heap.size, 2, none⟩ = some (.int .i64 0) := (blk_cell x7 2).trans rfl; have zf8 := blk_frozen x7 8; have zc8 : w7.cell? ⟨w2.heap.size, 8, none⟩ = some (.int .i64 0) := (blk_cell x7 8).trans rfl; have zf4 := blk_frozen x7 4; have zc4 : w7.cell? ⟨w2.heap.size, 4, none⟩ = some (.int .i64 0) := (blk_cell x7 4).trans rfl; have y0 : (w7.setCell ⟨w2.heap.size, 1, none⟩ (.int .i64 n1)).heap[w2.heap.size]? = some (.cells #[.int .i64 6, .int .i64 n1, .int .i64 0, .int .i64 0, .int .i64 0, .string ⟨#[]⟩, .string ⟨#[]⟩, .string ⟨#[]⟩, .int .i64 0, .slice none 0 0, .slice none 0 0, .int .i64 0, .int .i64 0] 25 (0, 0)) := blk_put x7 1 _ rfl; have r0 := RD.set hR7 x7 HGE.out 1 (.int .i64 n1); have y1 : ((w7.setCell ⟨w2.heap.size, 1, none⟩ (.int .i64 n1)).setCell ⟨w2.heap.size, 2, none⟩ (.int .i64 n2)).heap[w2.heap.size]? = some (.cells #[.int .i64 6, .int .i64 n1, .int .i64 n2, .int .i64 0, .int .i64 0, .string ⟨#[]⟩, .string ⟨#[]⟩, .string ⟨#[]⟩, .int .i64 0, .slice none 0 0, .slice none 0 0, .int .i64 0, .int .i64 0] 25 (0, 0)) := blk_put y0 2 _ rfl; have r1 := RD.set r0 y0 HGE.out 2 (.int .i64 n2); have y2 : (((w7.setCell ⟨w2.heap.size, 1, none⟩ (.int .i64 n1)).setCell ⟨w2.heap.size, 2, none⟩ (.int .i64 n2)).setCell ⟨w2.heap.size, 8, none⟩ (.int .i64 n3)).heap[w2.heap.size]? = some (.cells #[.int .i64 6, .int .i64 n1, .int .i64 n2, .int .i64 0, .int .i64 0, .string ⟨#[]⟩, .string ⟨#[]⟩, .string ⟨#[]⟩, .int .i64 n3, .slice none 0 0, .slice none 0 0, .int .i64 0, .int .i64 0] 25 (0, 0)) := blk_put y1 8 _ rfl; have r2 := RD.set r1 y1 HGE.out 8 (.int .i64 n3); have y3 : ((((w7.setCell ⟨w2.heap.size, 1, none⟩ (.int .i64 n1)).setCell ⟨w2.heap.size, 2, none⟩ (.int .i64 n2)).setCell ⟨w2.heap.size, 8, none⟩ (.int .i64 n3)).setCell ⟨w2.heap.size, 4, none⟩ (.int .i64 4)).heap[w2.heap.size]? = some (.cells #[.int .i64 6, .int .i64 n1, .int .i64 n2, .int .i64 0, .int .i64 4, .string ⟨#[]⟩, .string ⟨#[]⟩, .string ⟨#[]⟩, .int .i64 n3, .slice none 0 0, .slice none 0 0, .int .i64 0, .int .i64 0] 25 (0, 0)) := blk_put y2 4 _ rfl; have r3 := RD.set r2 y2 HGE.out 4 (.int .i64 4); have HYS := Lib.hid y3; have HRS := Lib.hid r3; have yc0 : ((((w7.setCell ⟨w2.heap.size, 1, none⟩ (.int .i64 n1)).setCell ⟨w2.heap.size, 2, none⟩ (.int .i64 n2)).setCell ⟨w2.heap.size, 8, none⟩ (.int .i64 n3)).setCell ⟨w2.heap.size, 4, none⟩ (.int .i64 4)).cell? ⟨w2.heap.size, 0, none⟩ = some (.int .i64 6) := (blk_cell y3 0).trans rfl; have yc4 : ((((w7.setCell ⟨w2.heap.size, 1, none⟩ (.int .i64 n1)).setCell ⟨w2.heap.size, 2, none⟩ (.int .i64 n2)).setCell ⟨w2.heap.size, 8, none⟩ (.int .i64 n3)).setCell ⟨w2.heap.size, 4, none⟩ (.int .i64 4)).cell? ⟨w2.heap.size, 4, none⟩ = some (.int .i64 4) := (blk_cell y3 4).trans rfl; clear y0 r0 y1 r1 y2 r2 y3 r3; clear x7 hR7 hK7)
              | (go_at_call 30; (with_reducible refine (rd_num HR5.out 6 H3.out).mono ?_); rintro e' w6 ⟨rfl, hR6, hK6⟩; have x6 := RD.kept (a' := 0) (e' := 0) HR5.out hK6 HX5.out; have HX6 := Lib.hid x6; have HR6 := Lib.hid hR6; clear x6 hR6 hK6)
              | (go_at_call 30; (with_reducible refine (rd_num HR4.out 6 H2.out).mono ?_); rintro e' w5 ⟨rfl, hR5, hK5⟩; have x5 := RD.kept (a' := 0) (e' := 0) HR4.out hK5 HX4.out; have HX5 := Lib.hid x5; have HR5 := Lib.hid hR5; clear x5 hR5 hK5)
              | (go_at_call 30; (with_reducible refine (rd_num HR3.out 6 H1.out).mono ?_); rintro e' w4 ⟨rfl, hR4, hK4⟩; have x4 := RD.kept (a' := 0) (e' := 0) HR3.out hK4 HX3.out; have HX4 := Lib.hid x4; have HR4 := Lib.hid hR4; clear x4 hR4 hK4))
            go_meet
            case rel => exact ⟨(⟨6, n1, n2, n5, 4, n6, n7, ⟨#[]⟩, n3, nilS, nilS, 0, 0⟩ : RV), HR9.out, HX9.out, Kd.R_nil _ _ _ _ _, Kd.R_nil _ _ _ _ _, SameV.refl _, by simp, by simp⟩
          · skip
            obtain ⟨n5, o5, f5, h5⟩ : ∃ n o f, numS s o4 f4 2 = (n, o, f) := ⟨_, _, _, rfl⟩
            obtain ⟨n6, o6, f6, h6⟩ : ∃ n o f, textS s o5 f5 16 = (n, o, f) := ⟨_, _, _, rfl⟩
            obtain ⟨n7, o7, f7, h7⟩ : ∃ n o f, textS s o6 f6 32 = (n, o, f) := ⟨_, _, _, rfl⟩
            obtain ⟨n8, o8, f8, h8⟩ : ∃ n o f, textS s o7 f7 32 = (n, o, f) := ⟨_, _, _, rfl⟩
            obtain rfl : G = ⟨(⟨6, n1, n2, n5, n4, n6, n7, n8, n3, nilS, nilS, 0, 0⟩ : RV), [], [], o8, f8⟩ := by
              rw [← HG.out]
              unfold readF chgS
              simp [h1, h2, h3, h4, h5, h6, h7, h8, zeroR, ha3, ha4]
            have H1 := Lib.hid h1
            have H2 := Lib.hid h2
            have H3 := Lib.hid h3
            have H4 := Lib.hid h4
            have H5 := Lib.hid h5
            have H6 := Lib.hid h6
            have H7 := Lib.hid h7
            have H8 := Lib.hid h8
            clear h1 h2 h3 h4 h5 h6 h7 h8
            have HA3 := Lib.hid ha3
            have HA4 := Lib.hid ha4
            clear ha3 ha4
            go_wp2_with (first
              | (go_at_call 49; (with_reducible refine (rdchg_5 6 n1 n2 0 n4 ⟨#[]⟩ ⟨#[]⟩ ⟨#[]⟩ n3 none 0 0 none 0 0 0 0 n4 HRS.out w2.heap.size HGE.out HYS.out HA3.out HA4.out H5.out H6.out H7.out H8.out).mono ?_); rintro e' w9 ⟨rfl, hR9, hX9⟩; have HR9 := Lib.hid hR9; have HX9 := Lib.hid hX9; clear hR9 hX9)
              | (go_at_call 30; (with_reducible refine (rd_num HR6.out 1 H4.out).mono ?_); rintro e' w7 ⟨rfl, hR7, hK7⟩; have x7 := RD.kept (a' := 0) (e' := 0) HR6.out hK7 HX6.out; have HX7 := Lib.hid x7; have HR7 := Lib.hid hR7; have zf1 := blk_frozen x7 1; have zc1 : w7.cell? ⟨w2.heap.size, 1, none⟩ = some (.int .i64 0) := (blk_cell x7 1).trans rfl; have zf2 := blk_frozen x7 2; have zc2 : w7.cell? ⟨w2.heap.size, 2, none⟩ = some (.int .i64 0) := (blk_cell x7 2).trans rfl; have zf8 := blk_frozen x7 8; have zc8 : w7.cell? ⟨w2.heap.size, 8, none⟩ = some (.int .i64 0) := (blk_cell x7 8).trans rfl; have zf4 := blk_frozen x7 4; have zc4 : w7.cell? ⟨w2.heap.size, 4, none⟩ = some (.int .i64 0) := (blk_cell x7 4).trans rfl; have y0 : (w7.setCell ⟨w2.heap.size, 1, none⟩ (.int .i64 n1)).heap[w2.heap.size]? = some (.cells #[.int .i64 6, .int .i64 n1, .int .i64 0, .int .i64 0, .int .i64 0, .string ⟨#[]⟩, .string ⟨#[]⟩, .string ⟨#[]⟩, .int .i64 0, .slice none 0 0, .slice none 0 0, .int .i64 0, .int .i64 0] 25 (0, 0)) := blk_put x7 1 _ rfl; have r0 := RD.set hR7 x7 HGE.out 1 (.int .i64 n1); have y1 : ((w7.setCell ⟨w2.heap.size, 1, none⟩ (.int .i64 n1)).setCell ⟨w2.heap.size, 2, none⟩ (.int .i64 n2)).heap[w2.heap.size]? = some (.cells #[.int .i64 6, .int .i64 n1, .int .i64 n2, .int .i64 0, .int .i64 0, .string ⟨#[]⟩, .string ⟨#[]⟩, .string ⟨#[]⟩, .int .i64 0, .slice none 0 0, .slice none 0 0, .int .i64 0, .int .i64 0] 25 (0, 0)) := blk_put y0 2 _ rfl; have r1 := RD.set r0 y0 HGE.out 2 (.int .i64 n2); have y2 : (((w7.setCell ⟨w2.heap.size, 1, none⟩ (.int .i64 n1)).setCell ⟨w2.heap.size, 2, none⟩ (.int .i64 n2)).setCell ⟨w2.heap.size, 8, none⟩ (.int .i64 n3)).heap[w2.heap.size]? = some (.cells #[.int .i64 6, .int .i64 n1, .int .i64 n2, .int .i64 0, .int .i64 0, .string ⟨#[]⟩, .string ⟨#[]⟩, .string ⟨#[]⟩, .int .i64 n3, .slice none 0 0, .slice none 0 0, .int .i64 0, .int .i64 0] 25 (0, 0)) := blk_put y1 8 _ rfl; have r2 := RD.set r1 y1 HGE.out 8 (.int .i64 n3); have y3 : ((((w7.setCell ⟨w2.heap.size, 1, none⟩ (.int .i64 n1)).setCell ⟨w2.heap.size, 2, none⟩ (.int .i64 n2)).setCell ⟨w2.heap.size, 8, none⟩ (.int .i64 n3)).setCell ⟨w2.heap.size, 4, none⟩ (.int .i64 n4)).heap[w2.heap.size]? = some (.cells #[.int .i64 6, .int .i64 n1, .int .i64 n2, .int .i64 0, .int .i64 n4, .string ⟨#[]⟩, .string ⟨#[]⟩, .string ⟨#[]⟩, .int .i64 n3, .slice none 0 0, .slice none 0 0, .int .i64 0, .int .i64 0] 25 (0, 0)) := blk_put y2 4 _ rfl; have r3 := RD.set r2 y2 HGE.out 4 (.int .i64 n4); have HYS := Lib.hid y3; have HRS := Lib.hid r3; have yc0 : ((((w7.setCell ⟨w2.heap.size, 1, none⟩ (.int .i64 n1)).setCell ⟨w2.heap.size, 2, none⟩ (.int .i64 n2)).setCell ⟨w2.heap.size, 8, none⟩ (.int .i64 n3)).setCell ⟨w2.heap.size, 4, none⟩ (.int .i64 n4)).cell? ⟨w2.heap.size, 0, none⟩ = some (.int .i64 6) := (blk_cell y3 0).trans rfl; have yc4 : ((((w7.setCell ⟨w2.heap.size, 1, none⟩ (.int .i64 n1)).setCell ⟨w2.heap.size, 2, none⟩ (.int .i64 n2)).setCell ⟨w2.heap.size, 8, none⟩ (.int .i64 n3)).setCell ⟨w2.heap.size, 4, none⟩ (.int .i64 n4)).cell? ⟨w2.heap.size, 4, none⟩ = some (.int .i64 n4) := (blk_cell y3 4).trans rfl; clear y0 r0 y1 r1 y2 r2 y3 r3; clear x7 hR7 hK7)
              | (go_at_call 30; (with_reducible refine (rd_num HR5.out 6 H3.out).mono ?_); rintro e' w6 ⟨rfl, hR6, hK6⟩; have x6 := RD.kept (a' := 0) (e' := 0) HR5.out hK6 HX5.out; have HX6 := Lib.hid x6; have HR6 := Lib.hid hR6; clear x6 hR6 hK6)
              | (go_at_call 30; (with_reducible refine (rd_num HR4.out 6 H2.out).mono ?_); rintro e' w5 ⟨rfl, hR5, hK5⟩; have x5 := RD.kept (a' := 0) (e' := 0) HR4.out hK5 HX4.out; have HX5 := Lib.hid x5; have HR5 := Lib.hid hR5; clear x5 hR5 hK5)
              | (go_at_call 30; (with_reducible refine (rd_num HR3.out 6 H1.out).mono ?_); rintro e' w4 ⟨rfl, hR4, hK4⟩; have x4 := RD.kept (a' := 0) (e' := 0) HR3.out hK4 HX3.out; have HX4 := Lib.hid x4; have HR4 := Lib.hid hR4; clear x4 hR4 hK4))
            go_meet
            case rel => exact ⟨(⟨6, n1, n2, n5, n4, n6, n7, n8, n3, nilS, nilS, 0, 0⟩ : RV), HR9.out, HX9.out, Kd.R_nil _ _ _ _ _, Kd.R_nil _ _ _ _ _, SameV.refl _, by simp, by simp⟩
      by_cases k7 : k = 7
      · subst k7
        have x3 := HX3.out
        clear x3
        obtain ⟨n1, o1, f1, h1⟩ : ∃ n o f, numS s a1 0 6 = (n, o, f) := ⟨_, _, _, rfl⟩
        obtain ⟨n2, o2, f2, h2⟩ : ∃ n o f, numS s o1 f1 6 = (n, o, f) := ⟨_, _, _, rfl⟩
        obtain rfl : G = ⟨(⟨7, n1, n2, 0, 0, ⟨#[]⟩, ⟨#[]⟩, ⟨#[]⟩, 0, nilS, nilS, 0, 0⟩ : RV), [], [], o2, f2⟩ := by
          rw [← HG.out]
          unfold readF
          simp [h1, h2, zeroR]
        have H1 := Lib.hid h1
        have H2 := Lib.hid h2
        clear h1 h2
        go_wp2_with (first
          | (go_at_call 30; (with_reducible refine (rd_num HR4.out 6 H2.out).mono ?_); rintro e' w5 ⟨rfl, hR5, hK5⟩; have x5 := RD.kept (a' := 0) (e' := 0) HR4.out hK5 HX4.out; have HX5 := Lib.hid x5; have HR5 := Lib.hid hR5; have zf1 := blk_frozen x5 1; have zc1 : w5.cell? ⟨w2.heap.size, 1, none⟩ = some (.int .i64 0) := (blk_cell x5 1).trans rfl; have zf2 := blk_frozen x5 2; have zc2 : w5.cell? ⟨w2.heap.size, 2, none⟩ = some (.int .i64 0) := (blk_cell x5 2).trans rfl; have y0 : (w5.setCell ⟨w2.heap.size, 1, none⟩ (.int .i64 n1)).heap[w2.heap.size]? = some (.cells #[.int .i64 7, .int .i64 n1, .int .i64 0, .int .i64 0, .int .i64 0, .string ⟨#[]⟩, .string ⟨#[]⟩, .string ⟨#[]⟩, .int .i64 0, .slice none 0 0, .slice none 0 0, .int .i64 0, .int .i64 0] 25 (0, 0)) := blk_put x5 1 _ rfl; have r0 := RD.set hR5 x5 HGE.out 1 (.int .i64 n1); have y1 : ((w5.setCell ⟨w2.heap.size, 1, none⟩ (.int .i64 n1)).setCell ⟨w2.heap.size, 2, none⟩ (.int .i64 n2)).heap[w2.heap.size]? = some (.cells #[.int .i64 7, .int .i64 n1, .int .i64 n2, .int .i64 0, .int .i64 0, .string ⟨#[]⟩, .string ⟨#[]⟩, .string ⟨#[]⟩, .int .i64 0, .slice none 0 0, .slice none 0 0, .int .i64 0, .int .i64 0] 25 (0, 0)) := blk_put y0 2 _ rfl; have r1 := RD.set r0 y0 HGE.out 2 (.int .i64 n2); have HYS := Lib.hid y1; have HRS := Lib.hid r1; have yc0 : ((w5.setCell ⟨w2.heap.size, 1, none⟩ (.int .i64 n1)).setCell ⟨w2.heap.size, 2, none⟩ (.int .i64 n2)).cell? ⟨w2.heap.size, 0, none⟩ = some (.int .i64 7) := (blk_cell y1 0).trans rfl; have yc4 : ((w5.setCell ⟨w2.heap.size, 1, none⟩ (.int .i64 n1)).setCell ⟨w2.heap.size, 2, none⟩ (.int .i64 n2)).cell? ⟨w2.heap.size, 4, none⟩ = some (.int .i64 0) := (blk_cell y1 4).trans rfl; clear y0 r0 y1 r1; clear x5 hR5 hK5)
          | (go_at_call 30; (with_reducible refine (rd_num HR3.out 6 H1.out).mono ?_); rintro e' w4 ⟨rfl, hR4, hK4⟩; have x4 := RD.kept (a' := 0) (e' := 0) HR3.out hK4 HX3.out; have HX4 := Lib.hid x4; have HR4 := Lib.hid hR4; clear x4 hR4 hK4))
        go_meet
        case rel => exact ⟨(⟨7, n1, n2, 0, 0, ⟨#[]⟩, ⟨#[]⟩, ⟨#[]⟩, 0, nilS, nilS, 0, 0⟩ : RV), HRS.out, HYS.out, Kd.R_nil _ _ _ _ _, Kd.R_nil _ _ _ _ _, SameV.refl _, by simp, by simp⟩
      by_cases k8 : k = 8
      · subst k8
        have x3 := HX3.out
        clear x3
        obtain ⟨n1, o1, f1, h1⟩ : ∃ n o f, numS s a1 0 6 = (n, o, f) := ⟨_, _, _, rfl⟩
        obtain ⟨n2, o2, f2, h2⟩ : ∃ n o f, numS s o1 f1 6 = (n, o, f) := ⟨_, _, _, rfl⟩
        obtain rfl : G = ⟨(⟨8, n1, n2, 0, 0, ⟨#[]⟩, ⟨#[]⟩, ⟨#[]⟩, 0, nilS, nilS, 0, 0⟩ : RV), [], [], o2, f2⟩ := by
          rw [← HG.out]
          unfold readF
          simp [h1, h2, zeroR]
        have H1 := Lib.hid h1
        have H2 := Lib.hid h2
        clear h1 h2
        go_wp2_with (first
          | (go_at_call 30; (with_reducible refine (rd_num HR4.out 6 H2.out).mono ?_); rintro e' w5 ⟨rfl, hR5, hK5⟩; have x5 := RD.kept (a' := 0) (e' := 0) HR4.out hK5 HX4.out; have HX5 := Lib.hid x5; have HR5 := Lib.hid hR5; have zf1 := blk_frozen x5 1; have zc1 : w5.cell? ⟨w2.heap.size, 1, none⟩ = some (.int .i64 0) := (blk_cell x5 1).trans rfl; have zf2 := blk_frozen x5 2; have zc2 : w5.cell? ⟨w2.heap.size, 2, none⟩ = some (.int .i64 0) := (blk_cell x5 2).trans rfl; have y0 : (w5.setCell ⟨w2.heap.size, 1, none⟩ (.int .i64 n1)).heap[w2.heap.size]? = some (.cells #[.int .i64 8, .int .i64 n1, .int .i64 0, .int .i64 0, .int .i64 0, .string ⟨#[]⟩, .string ⟨#[]⟩, .string ⟨#[]⟩, .int .i64 0, .slice none 0 0, .slice none 0 0, .int .i64 0, .int .i64 0] 25 (0, 0)) := blk_put x5 1 _ rfl; have r0 := RD.set hR5 x5 HGE.out 1 (.int .i64 n1); have y1 : ((w5.setCell ⟨w2.heap.size, 1, none⟩ (.int .i64 n1)).setCell ⟨w2.heap.size, 2, none⟩ (.int .i64 n2)).heap[w2.heap.size]? = some (.cells #[.int .i64 8, .int .i64 n1, .int .i64 n2, .int .i64 0, .int .i64 0, .string ⟨#[]⟩, .string ⟨#[]⟩, .string ⟨#[]⟩, .int .i64 0, .slice none 0 0, .slice none 0 0, .int .i64 0, .int .i64 0] 25 (0, 0)) := blk_put y0 2 _ rfl; have r1 := RD.set r0 y0 HGE.out 2 (.int .i64 n2); have HYS := Lib.hid y1; have HRS := Lib.hid r1; have yc0 : ((w5.setCell ⟨w2.heap.size, 1, none⟩ (.int .i64 n1)).setCell ⟨w2.heap.size, 2, none⟩ (.int .i64 n2)).cell? ⟨w2.heap.size, 0, none⟩ = some (.int .i64 8) := (blk_cell y1 0).trans rfl; have yc4 : ((w5.setCell ⟨w2.heap.size, 1, none⟩ (.int .i64 n1)).setCell ⟨w2.heap.size, 2, none⟩ (.int .i64 n2)).cell? ⟨w2.heap.size, 4, none⟩ = some (.int .i64 0) := (blk_cell y1 4).trans rfl; clear y0 r0 y1 r1; clear x5 hR5 hK5)
          | (go_at_call 30; (with_reducible refine (rd_num HR3.out 6 H1.out).mono ?_); rintro e' w4 ⟨rfl, hR4, hK4⟩; have x4 := RD.kept (a' := 0) (e' := 0) HR3.out hK4 HX3.out; have HX4 := Lib.hid x4; have HR4 := Lib.hid hR4; clear x4 hR4 hK4))
        go_meet
        case rel => exact ⟨(⟨8, n1, n2, 0, 0, ⟨#[]⟩, ⟨#[]⟩, ⟨#[]⟩, 0, nilS, nilS, 0, 0⟩ : RV), HRS.out, HYS.out, Kd.R_nil _ _ _ _ _, Kd.R_nil _ _ _ _ _, SameV.refl _, by simp, by simp⟩
      by_cases k9 : k = 9
      · subst k9
        have x3 := HX3.out
        clear x3
        obtain ⟨l4, b4, f4, h4, hv4, hl4⟩ := tab_some HR3.out.v 0
        obtain rfl : G = ⟨zeroR 9, [], l4, b4, f4⟩ := by
          rw [← HG.out]
          unfold readF
          simp [h4]
        have HF4 := Lib.hid h4
        have HV4 := Lib.hid hv4
        have HL4 := Lib.hid hl4
        clear h4 hv4 hl4
        go_wp2_with (first
          | (go_at_call 50; (with_reducible refine (rec_readTable.calls 300 g s a1 0 l4 s b4 f4 wb w3 HR3.out.i HR3.out.b HF4.out).mono ?_); rintro e' w4 ⟨v4, rfl, hR4, hI4, hB4, hK4⟩; obtain ⟨A4, c4, rfl⟩ := Kd.R_slice hR4; have x4 := RD.kept (a' := 0) (e' := 0) HR3.out hK4 HX3.out; have zf := blk_frozen x4 10; have zc : w4.cell? ⟨w2.heap.size, 10, none⟩ = some (.slice none 0 0) := (blk_cell x4 10).trans rfl; have HX4 := Lib.hid x4; have HRR4 := Lib.hid (Kd.R_lower hR4 HR3.out.b.size); have HR4 := Lib.hid (show RD wb w4 g s b4 f4 from ⟨hI4, hB4, HV4.out⟩); clear hR4 hI4 hB4 hK4 x4))
        go_meet
        case rel => exact ⟨(⟨9, 0, 0, 0, 0, ⟨#[]⟩, ⟨#[]⟩, ⟨#[]⟩, 0, nilS, ⟨A4, l4.length, c4⟩, 0, 0⟩ : RV), RD.set HR4.out HX4.out HGE.out 10 _, blk_put HX4.out 10 _ rfl, Kd.R_nil _ _ _ _ _, Kd.R_set HRR4.out HX4.out (by decide) 10 _, ⟨rfl, rfl, rfl, rfl, rfl, rfl, rfl, rfl, rfl, rfl, rfl⟩, by simp, HL4.out⟩
      by_cases k10 : k = 10
      · subst k10
        have x3 := HX3.out
        clear x3
        obtain ⟨n1, o1, f1, h1⟩ : ∃ n o f, numS s a1 0 4 = (n, o, f) := ⟨_, _, _, rfl⟩
        obtain ⟨n2, o2, f2, h2⟩ : ∃ n o f, numS s o1 f1 1 = (n, o, f) := ⟨_, _, _, rfl⟩
        obtain rfl : G = ⟨(⟨10, 0, 0, 0, 0, ⟨#[]⟩, ⟨#[]⟩, ⟨#[]⟩, 0, nilS, nilS, n1, n2⟩ : RV), [], [], o2, f2⟩ := by
          rw [← HG.out]
          unfold readF
          simp [h1, h2, zeroR]
        have H1 := Lib.hid h1
        have H2 := Lib.hid h2
        clear h1 h2
        go_wp2_with (first
          | (go_at_call 30; (with_reducible refine (rd_num HR4.out 1 H2.out).mono ?_); rintro e' w5 ⟨rfl, hR5, hK5⟩; have x5 := RD.kept (a' := 0) (e' := 0) HR4.out hK5 HX4.out; have HX5 := Lib.hid x5; have HR5 := Lib.hid hR5; have zf11 := blk_frozen x5 11; have zc11 : w5.cell? ⟨w2.heap.size, 11, none⟩ = some (.int .i64 0) := (blk_cell x5 11).trans rfl; have zf12 := blk_frozen x5 12; have zc12 : w5.cell? ⟨w2.heap.size, 12, none⟩ = some (.int .i64 0) := (blk_cell x5 12).trans rfl; have y0 : (w5.setCell ⟨w2.heap.size, 11, none⟩ (.int .i64 n1)).heap[w2.heap.size]? = some (.cells #[.int .i64 10, .int .i64 0, .int .i64 0, .int .i64 0, .int .i64 0, .string ⟨#[]⟩, .string ⟨#[]⟩, .string ⟨#[]⟩, .int .i64 0, .slice none 0 0, .slice none 0 0, .int .i64 n1, .int .i64 0] 25 (0, 0)) := blk_put x5 11 _ rfl; have r0 := RD.set hR5 x5 HGE.out 11 (.int .i64 n1); have y1 : ((w5.setCell ⟨w2.heap.size, 11, none⟩ (.int .i64 n1)).setCell ⟨w2.heap.size, 12, none⟩ (.int .i64 n2)).heap[w2.heap.size]? = some (.cells #[.int .i64 10, .int .i64 0, .int .i64 0, .int .i64 0, .int .i64 0, .string ⟨#[]⟩, .string ⟨#[]⟩, .string ⟨#[]⟩, .int .i64 0, .slice none 0 0, .slice none 0 0, .int .i64 n1, .int .i64 n2] 25 (0, 0)) := blk_put y0 12 _ rfl; have r1 := RD.set r0 y0 HGE.out 12 (.int .i64 n2); have HYS := Lib.hid y1; have HRS := Lib.hid r1; have yc0 : ((w5.setCell ⟨w2.heap.size, 11, none⟩ (.int .i64 n1)).setCell ⟨w2.heap.size, 12, none⟩ (.int .i64 n2)).cell? ⟨w2.heap.size, 0, none⟩ = some (.int .i64 10) := (blk_cell y1 0).trans rfl; have yc4 : ((w5.setCell ⟨w2.heap.size, 11, none⟩ (.int .i64 n1)).setCell ⟨w2.heap.size, 12, none⟩ (.int .i64 n2)).cell? ⟨w2.heap.size, 4, none⟩ = some (.int .i64 0) := (blk_cell y1 4).trans rfl; clear y0 r0 y1 r1; clear x5 hR5 hK5)
          | (go_at_call 30; (with_reducible refine (rd_num HR3.out 4 H1.out).mono ?_); rintro e' w4 ⟨rfl, hR4, hK4⟩; have x4 := RD.kept (a' := 0) (e' := 0) HR3.out hK4 HX3.out; have HX4 := Lib.hid x4; have HR4 := Lib.hid hR4; clear x4 hR4 hK4))
        go_meet
        case rel => exact ⟨(⟨10, 0, 0, 0, 0, ⟨#[]⟩, ⟨#[]⟩, ⟨#[]⟩, 0, nilS, nilS, n1, n2⟩ : RV), HRS.out, HYS.out, Kd.R_nil _ _ _ _ _, Kd.R_nil _ _ _ _ _, SameV.refl _, by simp, by simp⟩
      have d1 : (k == 1) = false := by simpa using k1
      have d2 : (k == 2) = false := by simpa using k2
      have d3 : (k == 3) = false := by simpa using k3
      have d4 : (k == 4) = false := by simpa using k4
      have d5 : (k == 5) = false := by simpa using k5
      have d6 : (k == 6) = false := by simpa using k6
      have d7 : (k == 7) = false := by simpa using k7
      have d8 : (k == 8) = false := by simpa using k8
      have d9 : (k == 9) = false := by simpa using k9
      have d10 : (k == 10) = false := by simpa using k10
      obtain rfl : G = ⟨zeroR k, [], [], a1, 0⟩ := by
        rw [← HG.out]
        unfold readF
        rw [if_neg (by omega), if_neg (by omega), if_neg (by omega), if_neg (by omega), if_neg (by omega), if_neg (by omega)]
      clear k1 k2 k3 k4 k5 k6 k7 k8 k9 k10
      go_wp2
      go_meet
      case rel => exact ⟨zeroR k, HR3.out, HX3.out, Kd.R_nil _ _ _ _ _, Kd.R_nil _ _ _ _ _, SameV.refl _, by simp, by simp⟩
    case rest =>
      obtain ⟨q, hQ⟩ := hcut
      have HQ := Lib.hid hQ
      clear hQ HR1 HR2 HR3 HX2 HX3 x3c0
      have hX0 := fun (wx : World) (h : Below wb.heap.size wb wx) => (h.block w.heap.size (by have := blk_lt HXZ.out; omega)).trans HXZ.out
      have HX0 := Lib.hid hX0
      clear hX0
      by_cases he : endS s G.a G.e = 0
      · obtain ⟨B, hB⟩ : ∃ B, bodyP G.q G.li G.lt = B := ⟨_, rfl⟩
        have hbody := fun (wx : World) (h : RRow wx q G.li G.lt) => body_calls q G.li G.lt wx h HQ.out.li HQ.out.lt
        rw [bodyP_same HQ.out.sv, hB] at hbody
        have HBD := Lib.hid hbody
        have hok := ofP_ok s k a1 HK.out (by rw [HG.out]; exact he)
        have hnot := ofP_not s k a1 HK.out (by rw [HG.out]; exact he)
        rw [HG.out, hB] at hok hnot
        have hend := fun (wx : World) (h : RD wb wx g s G.a G.e) => rd_end h
        rw [he] at hend
        have HEND := Lib.hid hend
        obtain ⟨t, f⟩ := B
        simp only at hok hnot
        clear hbody hend hB he
        by_cases hf : f = 0
        · subst hf
          by_cases hts : t = s
          · subst hts
            have HP := Lib.hid (hok (fun c => c.elim (fun d => d rfl) (fun d => d rfl)))
            clear hok hnot
            go_wp2_with (first
              | (go_at_call 51; (with_reducible refine (HEND.out _ HQ.out.rd).mono ?_); rintro e' w5 ⟨rfl, hR5, hK5⟩; have HX5 := Lib.hid (RD.kept (a' := 0) (e' := 0) HQ.out.rd hK5 HQ.out.rec_); have HRR := Lib.hid (RRow.of (R36_keep HQ.out.ri HQ.out.rd hK5) (R55_keep HQ.out.rt HQ.out.rd hK5)); have HRI5 := Lib.hid (R36_keep HQ.out.ri HQ.out.rd hK5); have HRT5 := Lib.hid (R55_keep HQ.out.rt HQ.out.rd hK5); have HR5 := Lib.hid hR5; clear hR5 hK5)
              | (refine wpList_load_row rfl 25 _ rfl w2.heap.size rfl 25 q.cs (0, 0) _ HX5.out Try.underlying25 rfl (hinfo25 q) ?_) | (go_at_call 21; (with_reducible refine (HBD.out _ HRR.out).mono ?_); rintro e' w6 ⟨rfl, hB6⟩; have HX6 := Lib.hid (blk_below HX5.out hB6); have HR6 := Lib.hid (HR5.out.below hB6); have HRI6 := Lib.hid (Kd.R_below HRI5.out hB6); have HRT6 := Lib.hid (Kd.R_below HRT5.out hB6); clear hB6) | (refine wpList_load_row rfl 25 _ rfl w2.heap.size rfl 25 q.cs (0, 0) _ HX6.out Try.underlying25 rfl (hinfo25 q) ?_)
              | (refine wpList_store_row rfl 25 _ _ rfl w.heap.size q.cs rfl rfl 25 _ (HX0.out _ HR6.out.b) (hinfo25 q) rfl (rv_one _) ?_))
            refine bodyPost_ret (results_ct (p := 2) (u := 3) (ty := 25) rfl _ _ w.heap.size 25 q.cs (0, 0) _ rfl (set_new (HX0.out _ HR6.out.b)) Try.underlying25 rfl (hinfo25 q)) rfl ?_
            rw [HP.out]
            exact ⟨q, rfl, HQ.out.sv, ⟨Kd.R_lower (R36_row HRI6.out (HX0.out _ HR6.out.b)) HBB.out.size, Kd.R_lower (R55_row HRT6.out (HX0.out _ HR6.out.b)) HBB.out.size⟩, setRow_below (below_step HBB.out HR6.out.b) (Nat.le_refl _) _⟩
          · have hl : t.toList ≠ s.toList := fun c => by
              rw [Lib.toList_data, Lib.toList_data] at c
              exact hts (ba_ext c)
            have d3 : (t.toList == s.toList) = false := by simpa using hl
            have d4 : (t.toList != s.toList) = true := by simpa using hl
            have HP := Lib.hid (hnot (.inr hts))
            clear hok hnot hl hts
            go_wp2_with (first
              | (go_at_call 51; (with_reducible refine (HEND.out _ HQ.out.rd).mono ?_); rintro e' w5 ⟨rfl, hR5, hK5⟩; have HX5 := Lib.hid (RD.kept (a' := 0) (e' := 0) HQ.out.rd hK5 HQ.out.rec_); have HRR := Lib.hid (RRow.of (R36_keep HQ.out.ri HQ.out.rd hK5) (R55_keep HQ.out.rt HQ.out.rd hK5)); have HRI5 := Lib.hid (R36_keep HQ.out.ri HQ.out.rd hK5); have HRT5 := Lib.hid (R55_keep HQ.out.rt HQ.out.rd hK5); have HR5 := Lib.hid hR5; clear hR5 hK5)
              | (refine wpList_load_row rfl 25 _ rfl w2.heap.size rfl 25 q.cs (0, 0) _ HX5.out Try.underlying25 rfl (hinfo25 q) ?_) | (go_at_call 21; (with_reducible refine (HBD.out _ HRR.out).mono ?_); rintro e' w6 ⟨rfl, hB6⟩; have HX6 := Lib.hid (blk_below HX5.out hB6); have HR6 := Lib.hid (HR5.out.below hB6); have HRI6 := Lib.hid (Kd.R_below HRI5.out hB6); have HRT6 := Lib.hid (Kd.R_below HRT5.out hB6); clear hB6) | (refine wpList_load_row rfl 25 _ rfl w2.heap.size rfl 25 q.cs (0, 0) _ HX6.out Try.underlying25 rfl (hinfo25 q) ?_)
              | (refine wpList_store_row rfl 25 _ _ rfl w.heap.size (zeroR 0).cs rfl rfl 25 _ (HX0.out _ HR6.out.b) (hinfo25 (zeroR 0)) rfl (rv_one _) ?_))
            refine bodyPost_ret (results_ct (p := 2) (u := 3) (ty := 25) rfl _ _ w.heap.size 25 (zeroR 0).cs (0, 0) _ rfl (set_new (HX0.out _ HR6.out.b)) Try.underlying25 rfl (hinfo25 (zeroR 0))) rfl ?_
            rw [HP.out]
            exact ⟨zeroR 0, rfl, SameV.refl _, ⟨Kd.R_nil _ _ _ _ _, Kd.R_nil _ _ _ _ _⟩, setRow_below (below_step HBB.out HR6.out.b) (Nat.le_refl _) _⟩
        · have d1 : (f == 0) = false := by simpa using hf
          have d2 : (f != 0) = true := by simpa using hf
          have HP := Lib.hid (hnot (.inl hf))
          clear hok hnot hf
          go_wp2_with (first
            | (go_at_call 51; (with_reducible refine (HEND.out _ HQ.out.rd).mono ?_); rintro e' w5 ⟨rfl, hR5, hK5⟩; have HX5 := Lib.hid (RD.kept (a' := 0) (e' := 0) HQ.out.rd hK5 HQ.out.rec_); have HRR := Lib.hid (RRow.of (R36_keep HQ.out.ri HQ.out.rd hK5) (R55_keep HQ.out.rt HQ.out.rd hK5)); have HRI5 := Lib.hid (R36_keep HQ.out.ri HQ.out.rd hK5); have HRT5 := Lib.hid (R55_keep HQ.out.rt HQ.out.rd hK5); have HR5 := Lib.hid hR5; clear hR5 hK5)
            | (refine wpList_load_row rfl 25 _ rfl w2.heap.size rfl 25 q.cs (0, 0) _ HX5.out Try.underlying25 rfl (hinfo25 q) ?_) | (go_at_call 21; (with_reducible refine (HBD.out _ HRR.out).mono ?_); rintro e' w6 ⟨rfl, hB6⟩; have HX6 := Lib.hid (blk_below HX5.out hB6); have HR6 := Lib.hid (HR5.out.below hB6); have HRI6 := Lib.hid (Kd.R_below HRI5.out hB6); have HRT6 := Lib.hid (Kd.R_below HRT5.out hB6); clear hB6) | (refine wpList_load_row rfl 25 _ rfl w2.heap.size rfl 25 q.cs (0, 0) _ HX6.out Try.underlying25 rfl (hinfo25 q) ?_)
            | (refine wpList_store_row rfl 25 _ _ rfl w.heap.size (zeroR 0).cs rfl rfl 25 _ (HX0.out _ HR6.out.b) (hinfo25 (zeroR 0)) rfl (rv_one _) ?_))
          refine bodyPost_ret (results_ct (p := 2) (u := 3) (ty := 25) rfl _ _ w.heap.size 25 (zeroR 0).cs (0, 0) _ rfl (set_new (HX0.out _ HR6.out.b)) Try.underlying25 rfl (hinfo25 (zeroR 0))) rfl ?_
          rw [HP.out]
          exact ⟨zeroR 0, rfl, SameV.refl _, ⟨Kd.R_nil _ _ _ _ _, Kd.R_nil _ _ _ _ _⟩, setRow_below (below_step HBB.out HR6.out.b) (Nat.le_refl _) _⟩
      · have hp := ofP_end s k a1 HK.out (by rw [HG.out]; exact he)
        rw [HG.out] at hp
        have hend := fun (wx : World) (h : RD wb wx g s G.a G.e) => rd_end h
        generalize endS s G.a G.e = z at hp hend he
        have d1 : (z == 0) = false := by simpa using he
        have d2 : (z != 0) = true := by simpa using he
        have HP := Lib.hid hp
        have HEND := Lib.hid hend
        clear hp hend he
        go_wp2_with (first
          | (go_at_call 51; (with_reducible refine (HEND.out _ HQ.out.rd).mono ?_); rintro e' w5 ⟨rfl, hR5, hK5⟩; have HX5 := Lib.hid (RD.kept (a' := 0) (e' := 0) HQ.out.rd hK5 HQ.out.rec_); have HRR := Lib.hid (RRow.of (R36_keep HQ.out.ri HQ.out.rd hK5) (R55_keep HQ.out.rt HQ.out.rd hK5)); have HRI5 := Lib.hid (R36_keep HQ.out.ri HQ.out.rd hK5); have HRT5 := Lib.hid (R55_keep HQ.out.rt HQ.out.rd hK5); have HR5 := Lib.hid hR5; clear hR5 hK5)
          | (refine wpList_store_row rfl 25 _ _ rfl w.heap.size (zeroR 0).cs rfl rfl 25 _ (HX0.out _ HR5.out.b) (hinfo25 (zeroR 0)) rfl (rv_one _) ?_))
        refine bodyPost_ret (results_ct (p := 2) (u := 3) (ty := 25) rfl _ _ w.heap.size 25 (zeroR 0).cs (0, 0) _ rfl (set_new (HX0.out _ HR5.out.b)) Try.underlying25 rfl (hinfo25 (zeroR 0))) rfl ?_
        rw [HP.out]
        exact ⟨zeroR 0, rfl, SameV.refl _, ⟨Kd.R_nil _ _ _ _ _, Kd.R_nil _ _ _ _ _⟩, setRow_below (below_step HBB.out HR5.out.b) (Nat.le_refl _) _⟩
  · have d1 : (e1 != 0) = true := by simpa using h0
    have HP := Lib.hid (ofP_err s k a1 e1 HK.out h0)
    clear h0
    go_enter Try.func32, Try.ntmps32
    go_wp2_with (first
      | (go_at_call 29; (with_reducible refine (pack_Read.calls s s 0 0 (w.alloc (.cells #[.int .i64 0, .int .i64 0, .int .i64 0, .int .i64 0, .int .i64 0, .string ⟨#[]⟩, .string ⟨#[]⟩, .string ⟨#[]⟩, .int .i64 0, .slice none 0 0, .slice none 0 0, .int .i64 0, .int .i64 0] 25)) _ (Below.refl _ _) (by unfold pack_Read.f; rfl)).mono ?_); rintro e' w1 ⟨g, rfl, hI1, hB1, _⟩; rw [HWB.out] at hI1 hB1; have HR1 := Lib.hid (show RD wb w1 g s 0 0 from ⟨hI1, hB1, HS.out⟩); clear hI1 hB1)
      | (go_at_call 30; (with_reducible refine (rd_num HR1.out 1 HK.out).mono ?_); rintro e' w2 ⟨rfl, hR2, hK2⟩; have HR2 := Lib.hid (hR2.alloc (.cells #[.int .i64 k, .int .i64 0, .int .i64 0, .int .i64 0, .int .i64 0, .string ⟨#[]⟩, .string ⟨#[]⟩, .string ⟨#[]⟩, .int .i64 0, .slice none 0 0, .slice none 0 0, .int .i64 0, .int .i64 0] 25)); clear hR2 hK2)
      | (go_at_call 47; (with_reducible refine (rd_err HR2.out).mono ?_); rintro e' w3 ⟨rfl, hR3, hK3⟩; have HR3 := Lib.hid hR3; clear hR3 hK3)
      | (go_at_call 47; (with_reducible refine (rd_err HR3.out).mono ?_); rintro e' w4 ⟨rfl, hR4, hK4⟩; have HR4 := Lib.hid hR4; have HX4 := Lib.hid ((hR4.b.block w.heap.size (by have := blk_lt HXZ.out; omega)).trans HXZ.out); clear hR4 hK4)
      | (refine wpList_store_row rfl 25 _ _ rfl w.heap.size (zeroR 0).cs rfl rfl 25 _ HX4.out (hinfo25 (zeroR 0)) rfl (rv_one _) ?_))
    refine bodyPost_ret (results_ct (p := 2) (u := 3) (ty := 25) rfl _ _ w.heap.size 25 (zeroR 0).cs (0, 0) _ rfl (set_new HX4.out) Try.underlying25 rfl (hinfo25 (zeroR 0))) rfl ?_
    rw [HP.out]
    exact ⟨zeroR 0, rfl, SameV.refl _, ⟨Kd.R_nil _ _ _ _ _, Kd.R_nil _ _ _ _ _⟩, setRow_below (below_step HBB.out HR4.out.b) (Nat.le_refl _) _⟩
end Go.Proofs.Ytdphikbkknkhiaa.PAll
/- rec.Open, walked by hand: any bytes, any place. -/
namespace Go.Proofs.Ytdphikbkknkhiaa.PAll
open Go.RowKit Go.Proofs.Ytdphikbkknkhiaa.Pure Go.Proofs.YtdphikbkknkhiaaW.PrintWords Go.Proofs.YtdphikbkknkhiaaW.PrintLast Go.Proofs.YtdphikbkknkhiaaW.PrintMore
set_option linter.unusedVariables false
set_option linter.unusedSimpArgs false

def badG (e : Int) : Got := ⟨zeroR 0, [], [], 0, e⟩
/-- What rec.Open hands back: a record, how long its frame is, an error. -/
def OpenOut (w w' : World) (x : Ending) (g : Got) (n : Int) : Prop := ∃ q : RV, x = .returned (.tuple #[.agg q.cs, .int .i64 n, .int .i64 g.e]) ∧ SameV q g.q ∧ RRow w' q g.li g.lt ∧ Below w.heap.size w w'

set_option maxHeartbeats 4000000 in
set_option maxRecDepth 10000 in
theorem open_range (s : ByteArray) (at_ : Int) (h : at_ < 0 ∨ (s.size : Int) < at_) (w : World) : Calls Try.prog 19 #[.string s, .int .i64 at_] w fun x w' => OpenOut w w' x (badG 6) 0 := by
  have hu25 := Try.underlying25
  have HX0 := Lib.hid (fun (wx : World) (h : wx = (w.alloc (.cells #[.int .i64 0, .int .i64 0, .int .i64 0, .int .i64 0, .int .i64 0, .string ⟨#[]⟩, .string ⟨#[]⟩, .string ⟨#[]⟩, .int .i64 0, .slice none 0 0, .slice none 0 0, .int .i64 0, .int .i64 0] 25))) => (h ▸ heap_alloc_new w (.cells #[.int .i64 0, .int .i64 0, .int .i64 0, .int .i64 0, .int .i64 0, .string ⟨#[]⟩, .string ⟨#[]⟩, .string ⟨#[]⟩, .int .i64 0, .slice none 0 0, .slice none 0 0, .int .i64 0, .int .i64 0] 25) : wx.heap[w.heap.size]? = some (.cells #[.int .i64 0, .int .i64 0, .int .i64 0, .int .i64 0, .int .i64 0, .string ⟨#[]⟩, .string ⟨#[]⟩, .string ⟨#[]⟩, .int .i64 0, .slice none 0 0, .slice none 0 0, .int .i64 0, .int .i64 0] 25 (0, 0))))
  have HBB := Lib.hid (below_alloc (Below.refl w.heap.size w) (.cells #[.int .i64 0, .int .i64 0, .int .i64 0, .int .i64 0, .int .i64 0, .string ⟨#[]⟩, .string ⟨#[]⟩, .string ⟨#[]⟩, .int .i64 0, .slice none 0 0, .slice none 0 0, .int .i64 0, .int .i64 0] 25))
  have HP := Lib.hid (rfl : badG 6 = badG 6)
  by_cases h0 : at_ < 0
  · have d1 : decide (at_ < 0) = true := by simpa using h0
    clear h h0
    go_enter Try.func19, Try.ntmps19
    go_wp2_with (refine wpList_store_row rfl 25 _ _ rfl w.heap.size (zeroR 0).cs rfl rfl 25 _ (HX0.out _ rfl) (hinfo25 (zeroR 0)) rfl (rv_one _) ?_)
    refine bodyPost_ret (results_ctt (p := 4) (u := 5) (v := 6) (ty := 25) rfl _ _ w.heap.size 25 (zeroR 0).cs (0, 0) _ rfl (set_new (HX0.out _ rfl)) Try.underlying25 rfl (hinfo25 (zeroR 0))) rfl ?_
    exact ⟨zeroR 0, rfl, SameV.refl _, RRow.zero _, setRow_below HBB.out (Nat.le_refl _) _⟩
  · have d1 : decide (at_ < 0) = false := by simpa using h0
    have h1 : (s.size : Int) < at_ := h.resolve_left h0
    have d2 : decide ((s.size : Int) < at_) = true := by simpa using h1
    clear h h0 h1
    go_enter Try.func19, Try.ntmps19
    go_wp2_with (refine wpList_store_row rfl 25 _ _ rfl w.heap.size (zeroR 0).cs rfl rfl 25 _ (HX0.out _ rfl) (hinfo25 (zeroR 0)) rfl (rv_one _) ?_)
    refine bodyPost_ret (results_ctt (p := 4) (u := 5) (v := 6) (ty := 25) rfl _ _ w.heap.size 25 (zeroR 0).cs (0, 0) _ rfl (set_new (HX0.out _ rfl)) Try.underlying25 rfl (hinfo25 (zeroR 0))) rfl ?_
    exact ⟨zeroR 0, rfl, SameV.refl _, RRow.zero _, setRow_below HBB.out (Nat.le_refl _) _⟩

set_option maxHeartbeats 4000000 in
set_option maxRecDepth 10000 in
theorem open_short (s : ByteArray) (m : Nat) (hm : m ≤ s.size) (hs : s.size ≤ 1152921504606846976) (u : ByteArray) (hu : s.extract m s.size = u) (h6 : u.size < 6) (w : World) : Calls Try.prog 19 #[.string s, .int .i64 m] w fun x w' => OpenOut w w' x (badG 2) 0 := by
  have hu25 := Try.underlying25
  have hz : u.size = s.size - m := by rw [← hu, ByteArray.size_extract]; omega
  obtain ⟨wb, hwb⟩ : ∃ wb, (w.alloc (.cells #[.int .i64 0, .int .i64 0, .int .i64 0, .int .i64 0, .int .i64 0, .string ⟨#[]⟩, .string ⟨#[]⟩, .string ⟨#[]⟩, .int .i64 0, .slice none 0 0, .slice none 0 0, .int .i64 0, .int .i64 0] 25)) = wb := ⟨_, rfl⟩
  have hXz : wb.heap[w.heap.size]? = some (.cells #[.int .i64 0, .int .i64 0, .int .i64 0, .int .i64 0, .int .i64 0, .string ⟨#[]⟩, .string ⟨#[]⟩, .string ⟨#[]⟩, .int .i64 0, .slice none 0 0, .slice none 0 0, .int .i64 0, .int .i64 0] 25 (0, 0)) := hwb ▸ heap_alloc_new w _
  have hBb : Below w.heap.size w wb := hwb ▸ below_alloc (Below.refl _ _) _
  have HX0 := Lib.hid (fun (wx : World) (h : Below wb.heap.size wb wx) => (h.block w.heap.size (by have := blk_lt hXz; omega)).trans hXz)
  have HS := Lib.hid (show RInv u 0 from ⟨Int.le_refl _, by omega, by omega⟩)
  have HBB := Lib.hid hBb
  have HWB := Lib.hid hwb
  have i1 : (0 : Int) ≤ (m : Int) := by omega
  have i2 : (m : Int) ≤ (s.size : Int) := by omega
  have d1 : decide ((m : Int) < 0) = false := by simp
  have d2 : decide ((s.size : Int) < (m : Int)) = false := by simp; omega
  have d3 : decide (s.size < m) = false := by simp; omega
  have e1 : decide ((u.size : Int) < 6) = true := by simp; omega
  have e2 : decide (u.size < 6) = true := by simpa using h6
  have HX00 := Lib.hid (heap_alloc_new w (.cells #[.int .i64 0, .int .i64 0, .int .i64 0, .int .i64 0, .int .i64 0, .string ⟨#[]⟩, .string ⟨#[]⟩, .string ⟨#[]⟩, .int .i64 0, .slice none 0 0, .slice none 0 0, .int .i64 0, .int .i64 0] 25))
  have HB00 := Lib.hid (below_alloc (Below.refl w.heap.size w) (.cells #[.int .i64 0, .int .i64 0, .int .i64 0, .int .i64 0, .int .i64 0, .string ⟨#[]⟩, .string ⟨#[]⟩, .string ⟨#[]⟩, .int .i64 0, .slice none 0 0, .slice none 0 0, .int .i64 0, .int .i64 0] 25))
  clear hXz hBb h6 hz hm hs hwb HX0 HS HBB HWB
  go_enter Try.func19, Try.ntmps19
  go_wp2_with (refine wpList_store_row rfl 25 _ _ rfl w.heap.size (zeroR 0).cs rfl rfl 25 _ (HX00.out) (hinfo25 (zeroR 0)) rfl (rv_one _) ?_)
  refine bodyPost_ret (results_ctt (p := 4) (u := 5) (v := 6) (ty := 25) rfl _ _ w.heap.size 25 (zeroR 0).cs (0, 0) _ rfl (set_new (HX00.out)) Try.underlying25 rfl (hinfo25 (zeroR 0))) rfl ?_
  exact ⟨zeroR 0, rfl, SameV.refl _, RRow.zero _, setRow_below (HB00.out) (Nat.le_refl _) _⟩

set_option maxHeartbeats 4000000 in
set_option maxRecDepth 10000 in
theorem open_less (s : ByteArray) (m : Nat) (hm : m ≤ s.size) (hs : s.size ≤ 1152921504606846976) (u : ByteArray) (hu : s.extract m s.size = u) (h6 : 6 ≤ u.size) (n o f : Int) (hk : numS u 0 0 2 = (n, o, f)) (h1 : n < 1) (w : World) : Calls Try.prog 19 #[.string s, .int .i64 m] w fun x w' => OpenOut w w' x (badG 4) 0 := by
  have hu25 := Try.underlying25
  have hz : u.size = s.size - m := by rw [← hu, ByteArray.size_extract]; omega
  obtain ⟨wb, hwb⟩ : ∃ wb, (w.alloc (.cells #[.int .i64 0, .int .i64 0, .int .i64 0, .int .i64 0, .int .i64 0, .string ⟨#[]⟩, .string ⟨#[]⟩, .string ⟨#[]⟩, .int .i64 0, .slice none 0 0, .slice none 0 0, .int .i64 0, .int .i64 0] 25)) = wb := ⟨_, rfl⟩
  have hXz : wb.heap[w.heap.size]? = some (.cells #[.int .i64 0, .int .i64 0, .int .i64 0, .int .i64 0, .int .i64 0, .string ⟨#[]⟩, .string ⟨#[]⟩, .string ⟨#[]⟩, .int .i64 0, .slice none 0 0, .slice none 0 0, .int .i64 0, .int .i64 0] 25 (0, 0)) := hwb ▸ heap_alloc_new w _
  have hBb : Below w.heap.size w wb := hwb ▸ below_alloc (Below.refl _ _) _
  have HX0 := Lib.hid (fun (wx : World) (h : Below wb.heap.size wb wx) => (h.block w.heap.size (by have := blk_lt hXz; omega)).trans hXz)
  have HS := Lib.hid (show RInv u 0 from ⟨Int.le_refl _, by omega, by omega⟩)
  have HBB := Lib.hid hBb
  have HWB := Lib.hid hwb
  have i1 : (0 : Int) ≤ (m : Int) := by omega
  have i2 : (m : Int) ≤ (s.size : Int) := by omega
  have d1 : decide ((m : Int) < 0) = false := by simp
  have d2 : decide ((s.size : Int) < (m : Int)) = false := by simp; omega
  have d3 : decide (s.size < m) = false := by simp; omega
  have e1 : decide ((u.size : Int) < 6) = false := by simp; omega
  have e2 : decide (u.size < 6) = false := by simp; omega
  have hw6 : IntKind.i64.wrap ((u.size : Int) - 6) = (u.size : Int) - 6 := (i64_w _).trans (w64p (by omega) (by omega))
  have HK := Lib.hid hk
  have g1 : decide (n < 1) = true := by simpa using h1
  clear hXz hBb h6 hz hm hs hwb hk h1
  go_enter Try.func19, Try.ntmps19
  go_wp2_with (first
    | (go_at_call 29; (with_reducible refine (pack_Read.calls u u 0 0 (w.alloc (.cells #[.int .i64 0, .int .i64 0, .int .i64 0, .int .i64 0, .int .i64 0, .string ⟨#[]⟩, .string ⟨#[]⟩, .string ⟨#[]⟩, .int .i64 0, .slice none 0 0, .slice none 0 0, .int .i64 0, .int .i64 0] 25)) _ (Below.refl _ _) (by unfold pack_Read.f; rfl)).mono ?_); rintro e' w1 ⟨g, rfl, hI1, hB1, _⟩; rw [HWB.out] at hI1 hB1; have HR1 := Lib.hid (show RD wb w1 g u 0 0 from ⟨hI1, hB1, HS.out⟩); clear hI1 hB1)
    | (go_at_call 30; (with_reducible refine (rd_num HR1.out 2 HK.out).mono ?_); rintro e' w2 ⟨rfl, hR2, hK2⟩; have HB2 := Lib.hid hR2.b; clear hR2 hK2)
    | (refine wpList_store_row rfl 25 _ _ rfl w.heap.size (zeroR 0).cs rfl rfl 25 _ (HX0.out _ HB2.out) (hinfo25 (zeroR 0)) rfl (rv_one _) ?_))
  refine bodyPost_ret (results_ctt (p := 4) (u := 5) (v := 6) (ty := 25) rfl _ _ w.heap.size 25 (zeroR 0).cs (0, 0) _ rfl (set_new (HX0.out _ HB2.out)) Try.underlying25 rfl (hinfo25 (zeroR 0))) rfl ?_
  exact ⟨zeroR 0, rfl, SameV.refl _, RRow.zero _, setRow_below (below_step HBB.out HB2.out) (Nat.le_refl _) _⟩

set_option maxHeartbeats 4000000 in
set_option maxRecDepth 10000 in
theorem open_more (s : ByteArray) (m : Nat) (hm : m ≤ s.size) (hs : s.size ≤ 1152921504606846976) (u : ByteArray) (hu : s.extract m s.size = u) (h6 : 6 ≤ u.size) (n o f : Int) (hk : numS u 0 0 2 = (n, o, f)) (h0 : 1 ≤ n) (h1 : 4096 < n) (w : World) : Calls Try.prog 19 #[.string s, .int .i64 m] w fun x w' => OpenOut w w' x (badG 4) 0 := by
  have hu25 := Try.underlying25
  have hz : u.size = s.size - m := by rw [← hu, ByteArray.size_extract]; omega
  obtain ⟨wb, hwb⟩ : ∃ wb, (w.alloc (.cells #[.int .i64 0, .int .i64 0, .int .i64 0, .int .i64 0, .int .i64 0, .string ⟨#[]⟩, .string ⟨#[]⟩, .string ⟨#[]⟩, .int .i64 0, .slice none 0 0, .slice none 0 0, .int .i64 0, .int .i64 0] 25)) = wb := ⟨_, rfl⟩
  have hXz : wb.heap[w.heap.size]? = some (.cells #[.int .i64 0, .int .i64 0, .int .i64 0, .int .i64 0, .int .i64 0, .string ⟨#[]⟩, .string ⟨#[]⟩, .string ⟨#[]⟩, .int .i64 0, .slice none 0 0, .slice none 0 0, .int .i64 0, .int .i64 0] 25 (0, 0)) := hwb ▸ heap_alloc_new w _
  have hBb : Below w.heap.size w wb := hwb ▸ below_alloc (Below.refl _ _) _
  have HX0 := Lib.hid (fun (wx : World) (h : Below wb.heap.size wb wx) => (h.block w.heap.size (by have := blk_lt hXz; omega)).trans hXz)
  have HS := Lib.hid (show RInv u 0 from ⟨Int.le_refl _, by omega, by omega⟩)
  have HBB := Lib.hid hBb
  have HWB := Lib.hid hwb
  have i1 : (0 : Int) ≤ (m : Int) := by omega
  have i2 : (m : Int) ≤ (s.size : Int) := by omega
  have d1 : decide ((m : Int) < 0) = false := by simp
  have d2 : decide ((s.size : Int) < (m : Int)) = false := by simp; omega
  have d3 : decide (s.size < m) = false := by simp; omega
  have e1 : decide ((u.size : Int) < 6) = false := by simp; omega
  have e2 : decide (u.size < 6) = false := by simp; omega
  have hw6 : IntKind.i64.wrap ((u.size : Int) - 6) = (u.size : Int) - 6 := (i64_w _).trans (w64p (by omega) (by omega))
  have HK := Lib.hid hk
  have g1 : decide (n < 1) = false := by simp; omega
  have g2 : decide (4096 < n) = true := by simpa using h1
  clear h0
  clear hXz hBb h6 hz hm hs hwb hk h1
  go_enter Try.func19, Try.ntmps19
  go_wp2_with (first
    | (go_at_call 29; (with_reducible refine (pack_Read.calls u u 0 0 (w.alloc (.cells #[.int .i64 0, .int .i64 0, .int .i64 0, .int .i64 0, .int .i64 0, .string ⟨#[]⟩, .string ⟨#[]⟩, .string ⟨#[]⟩, .int .i64 0, .slice none 0 0, .slice none 0 0, .int .i64 0, .int .i64 0] 25)) _ (Below.refl _ _) (by unfold pack_Read.f; rfl)).mono ?_); rintro e' w1 ⟨g, rfl, hI1, hB1, _⟩; rw [HWB.out] at hI1 hB1; have HR1 := Lib.hid (show RD wb w1 g u 0 0 from ⟨hI1, hB1, HS.out⟩); clear hI1 hB1)
    | (go_at_call 30; (with_reducible refine (rd_num HR1.out 2 HK.out).mono ?_); rintro e' w2 ⟨rfl, hR2, hK2⟩; have HB2 := Lib.hid hR2.b; clear hR2 hK2)
    | (refine wpList_store_row rfl 25 _ _ rfl w.heap.size (zeroR 0).cs rfl rfl 25 _ (HX0.out _ HB2.out) (hinfo25 (zeroR 0)) rfl (rv_one _) ?_))
  refine bodyPost_ret (results_ctt (p := 4) (u := 5) (v := 6) (ty := 25) rfl _ _ w.heap.size 25 (zeroR 0).cs (0, 0) _ rfl (set_new (HX0.out _ HB2.out)) Try.underlying25 rfl (hinfo25 (zeroR 0))) rfl ?_
  exact ⟨zeroR 0, rfl, SameV.refl _, RRow.zero _, setRow_below (below_step HBB.out HB2.out) (Nat.le_refl _) _⟩

set_option maxHeartbeats 4000000 in
set_option maxRecDepth 10000 in
theorem open_cut (s : ByteArray) (m : Nat) (hm : m ≤ s.size) (hs : s.size ≤ 1152921504606846976) (u : ByteArray) (hu : s.extract m s.size = u) (h6 : 6 ≤ u.size) (n o f : Int) (hk : numS u 0 0 2 = (n, o, f)) (h0 : 1 ≤ n) (h2 : n ≤ 4096) (h1 : (u.size : Int) - 6 < n) (w : World) : Calls Try.prog 19 #[.string s, .int .i64 m] w fun x w' => OpenOut w w' x (badG 2) 0 := by
  have hu25 := Try.underlying25
  have hz : u.size = s.size - m := by rw [← hu, ByteArray.size_extract]; omega
  obtain ⟨wb, hwb⟩ : ∃ wb, (w.alloc (.cells #[.int .i64 0, .int .i64 0, .int .i64 0, .int .i64 0, .int .i64 0, .string ⟨#[]⟩, .string ⟨#[]⟩, .string ⟨#[]⟩, .int .i64 0, .slice none 0 0, .slice none 0 0, .int .i64 0, .int .i64 0] 25)) = wb := ⟨_, rfl⟩
  have hXz : wb.heap[w.heap.size]? = some (.cells #[.int .i64 0, .int .i64 0, .int .i64 0, .int .i64 0, .int .i64 0, .string ⟨#[]⟩, .string ⟨#[]⟩, .string ⟨#[]⟩, .int .i64 0, .slice none 0 0, .slice none 0 0, .int .i64 0, .int .i64 0] 25 (0, 0)) := hwb ▸ heap_alloc_new w _
  have hBb : Below w.heap.size w wb := hwb ▸ below_alloc (Below.refl _ _) _
  have HX0 := Lib.hid (fun (wx : World) (h : Below wb.heap.size wb wx) => (h.block w.heap.size (by have := blk_lt hXz; omega)).trans hXz)
  have HS := Lib.hid (show RInv u 0 from ⟨Int.le_refl _, by omega, by omega⟩)
  have HBB := Lib.hid hBb
  have HWB := Lib.hid hwb
  have i1 : (0 : Int) ≤ (m : Int) := by omega
  have i2 : (m : Int) ≤ (s.size : Int) := by omega
  have d1 : decide ((m : Int) < 0) = false := by simp
  have d2 : decide ((s.size : Int) < (m : Int)) = false := by simp; omega
  have d3 : decide (s.size < m) = false := by simp; omega
  have e1 : decide ((u.size : Int) < 6) = false := by simp; omega
  have e2 : decide (u.size < 6) = false := by simp; omega
  have hw6 : IntKind.i64.wrap ((u.size : Int) - 6) = (u.size : Int) - 6 := (i64_w _).trans (w64p (by omega) (by omega))
  have HK := Lib.hid hk
  have g1 : decide (n < 1) = false := by simp; omega
  have g2 : decide (4096 < n) = false := by simp; omega
  have g3 : decide ((u.size : Int) - 6 < n) = true := by simpa using h1
  clear h0 h2
  clear hXz hBb h6 hz hm hs hwb hk h1
  go_enter Try.func19, Try.ntmps19
  go_wp2_with (first
    | (go_at_call 29; (with_reducible refine (pack_Read.calls u u 0 0 (w.alloc (.cells #[.int .i64 0, .int .i64 0, .int .i64 0, .int .i64 0, .int .i64 0, .string ⟨#[]⟩, .string ⟨#[]⟩, .string ⟨#[]⟩, .int .i64 0, .slice none 0 0, .slice none 0 0, .int .i64 0, .int .i64 0] 25)) _ (Below.refl _ _) (by unfold pack_Read.f; rfl)).mono ?_); rintro e' w1 ⟨g, rfl, hI1, hB1, _⟩; rw [HWB.out] at hI1 hB1; have HR1 := Lib.hid (show RD wb w1 g u 0 0 from ⟨hI1, hB1, HS.out⟩); clear hI1 hB1)
    | (go_at_call 30; (with_reducible refine (rd_num HR1.out 2 HK.out).mono ?_); rintro e' w2 ⟨rfl, hR2, hK2⟩; have HB2 := Lib.hid hR2.b; clear hR2 hK2)
    | (refine wpList_store_row rfl 25 _ _ rfl w.heap.size (zeroR 0).cs rfl rfl 25 _ (HX0.out _ HB2.out) (hinfo25 (zeroR 0)) rfl (rv_one _) ?_))
  refine bodyPost_ret (results_ctt (p := 4) (u := 5) (v := 6) (ty := 25) rfl _ _ w.heap.size 25 (zeroR 0).cs (0, 0) _ rfl (set_new (HX0.out _ HB2.out)) Try.underlying25 rfl (hinfo25 (zeroR 0))) rfl ?_
  exact ⟨zeroR 0, rfl, SameV.refl _, RRow.zero _, setRow_below (below_step HBB.out HB2.out) (Nat.le_refl _) _⟩

set_option maxHeartbeats 4000000 in
set_option maxRecDepth 10000 in
theorem open_sum (s : ByteArray) (m : Nat) (hm : m ≤ s.size) (hs : s.size ≤ 1152921504606846976) (u : ByteArray) (hu : s.extract m s.size = u) (h6 : 6 ≤ u.size) (p : Nat) (o f : Int) (hk : numS u 0 0 2 = ((p : Int), o, f)) (h0 : 1 ≤ p) (h2 : p ≤ 4096) (h1 : (p : Int) ≤ (u.size : Int) - 6) (v : ByteArray) (hv : u.extract 2 (6 + p) = v) (b : ByteArray) (z : Int) (hso : sum_Open.f v = some (b, z)) (hz0 : z ≠ 0) (w : World) : Calls Try.prog 19 #[.string s, .int .i64 m] w fun x w' => OpenOut w w' x (badG z) 0 := by
  have hu25 := Try.underlying25
  have hz : u.size = s.size - m := by rw [← hu, ByteArray.size_extract]; omega
  obtain ⟨wb, hwb⟩ : ∃ wb, (w.alloc (.cells #[.int .i64 0, .int .i64 0, .int .i64 0, .int .i64 0, .int .i64 0, .string ⟨#[]⟩, .string ⟨#[]⟩, .string ⟨#[]⟩, .int .i64 0, .slice none 0 0, .slice none 0 0, .int .i64 0, .int .i64 0] 25)) = wb := ⟨_, rfl⟩
  have hXz : wb.heap[w.heap.size]? = some (.cells #[.int .i64 0, .int .i64 0, .int .i64 0, .int .i64 0, .int .i64 0, .string ⟨#[]⟩, .string ⟨#[]⟩, .string ⟨#[]⟩, .int .i64 0, .slice none 0 0, .slice none 0 0, .int .i64 0, .int .i64 0] 25 (0, 0)) := hwb ▸ heap_alloc_new w _
  have hBb : Below w.heap.size w wb := hwb ▸ below_alloc (Below.refl _ _) _
  have HX0 := Lib.hid (fun (wx : World) (h : Below wb.heap.size wb wx) => (h.block w.heap.size (by have := blk_lt hXz; omega)).trans hXz)
  have HS := Lib.hid (show RInv u 0 from ⟨Int.le_refl _, by omega, by omega⟩)
  have HBB := Lib.hid hBb
  have HWB := Lib.hid hwb
  have i1 : (0 : Int) ≤ (m : Int) := by omega
  have i2 : (m : Int) ≤ (s.size : Int) := by omega
  have d1 : decide ((m : Int) < 0) = false := by simp
  have d2 : decide ((s.size : Int) < (m : Int)) = false := by simp; omega
  have d3 : decide (s.size < m) = false := by simp; omega
  have e1 : decide ((u.size : Int) < 6) = false := by simp; omega
  have e2 : decide (u.size < 6) = false := by simp; omega
  have hw6 : IntKind.i64.wrap ((u.size : Int) - 6) = (u.size : Int) - 6 := (i64_w _).trans (w64p (by omega) (by omega))
  have HK := Lib.hid hk
  have g1 : decide ((p : Int) < 1) = false := by simp; omega
  have g2 : decide (4096 < (p : Int)) = false := by simp; omega
  have g2n : decide (4096 < p) = false := by simp; omega
  have g3 : decide ((u.size : Int) - 6 < (p : Int)) = false := by simp; omega
  have hwp : IntKind.i64.wrap (6 + (p : Int)) = 6 + (p : Int) := (i64_w _).trans (w64p (by omega) (by omega))
  have j1 : (2 : Int) ≤ 6 + (p : Int) := by omega
  have j2 : 6 + (p : Int) ≤ (u.size : Int) := by omega
  have j3 : (0 : Int) ≤ 6 + (p : Int) := by omega
  have j4 : (6 + (p : Int)).toNat = 6 + p := by omega
  have HSO := Lib.hid hso
  have g4 : (z != 0) = true := by simpa using hz0
  clear hso hz0
  clear hXz hBb h6 hz hm hs hwb hk h1 h0 h2
  go_enter Try.func19, Try.ntmps19
  go_wp2_with (first
    | (go_at_call 29; (with_reducible refine (pack_Read.calls u u 0 0 (w.alloc (.cells #[.int .i64 0, .int .i64 0, .int .i64 0, .int .i64 0, .int .i64 0, .string ⟨#[]⟩, .string ⟨#[]⟩, .string ⟨#[]⟩, .int .i64 0, .slice none 0 0, .slice none 0 0, .int .i64 0, .int .i64 0] 25)) _ (Below.refl _ _) (by unfold pack_Read.f; rfl)).mono ?_); rintro e' w1 ⟨g, rfl, hI1, hB1, _⟩; rw [HWB.out] at hI1 hB1; have HR1 := Lib.hid (show RD wb w1 g u 0 0 from ⟨hI1, hB1, HS.out⟩); clear hI1 hB1)
    | (go_at_call 30; (with_reducible refine (rd_num HR1.out 2 HK.out).mono ?_); rintro e' w2 ⟨rfl, hR2, hK2⟩; have HB2 := Lib.hid hR2.b; clear hR2 hK2)
    | (go_at_call 31; (with_reducible refine (sum_Open.calls v b z _ HSO.out).mono ?_); rintro e' w3 ⟨rfl, hB3⟩; have HB3 := Lib.hid (below_step HB2.out hB3); clear hB3)
    | (refine wpList_store_row rfl 25 _ _ rfl w.heap.size (zeroR 0).cs rfl rfl 25 _ (HX0.out _ HB3.out) (hinfo25 (zeroR 0)) rfl (rv_one _) ?_))
  refine bodyPost_ret (results_ctt (p := 4) (u := 5) (v := 6) (ty := 25) rfl _ _ w.heap.size 25 (zeroR 0).cs (0, 0) _ rfl (set_new (HX0.out _ HB3.out)) Try.underlying25 rfl (hinfo25 (zeroR 0))) rfl ?_
  exact ⟨zeroR 0, rfl, SameV.refl _, RRow.zero _, setRow_below (below_step HBB.out HB3.out) (Nat.le_refl _) _⟩

set_option maxHeartbeats 4000000 in
set_option maxRecDepth 10000 in
theorem open_ofbad (s : ByteArray) (m : Nat) (hm : m ≤ s.size) (hs : s.size ≤ 1152921504606846976) (u : ByteArray) (hu : s.extract m s.size = u) (h6 : 6 ≤ u.size) (p : Nat) (o f : Int) (hk : numS u 0 0 2 = ((p : Int), o, f)) (h0 : 1 ≤ p) (h2 : p ≤ 4096) (h1 : (p : Int) ≤ (u.size : Int) - 6) (v : ByteArray) (hv : u.extract 2 (6 + p) = v) (b : ByteArray) (hso : sum_Open.f v = some (b, 0)) (hb : b.size ≤ 1152921504606846976) (G : Got) (hof : ofP b = G) (he : G.e ≠ 0) (w : World) : Calls Try.prog 19 #[.string s, .int .i64 m] w fun x w' => OpenOut w w' x (badG G.e) 0 := by
  have hu25 := Try.underlying25
  have hz : u.size = s.size - m := by rw [← hu, ByteArray.size_extract]; omega
  obtain ⟨wb, hwb⟩ : ∃ wb, (w.alloc (.cells #[.int .i64 0, .int .i64 0, .int .i64 0, .int .i64 0, .int .i64 0, .string ⟨#[]⟩, .string ⟨#[]⟩, .string ⟨#[]⟩, .int .i64 0, .slice none 0 0, .slice none 0 0, .int .i64 0, .int .i64 0] 25)) = wb := ⟨_, rfl⟩
  have hXz : wb.heap[w.heap.size]? = some (.cells #[.int .i64 0, .int .i64 0, .int .i64 0, .int .i64 0, .int .i64 0, .string ⟨#[]⟩, .string ⟨#[]⟩, .string ⟨#[]⟩, .int .i64 0, .slice none 0 0, .slice none 0 0, .int .i64 0, .int .i64 0] 25 (0, 0)) := hwb ▸ heap_alloc_new w _
  have hBb : Below w.heap.size w wb := hwb ▸ below_alloc (Below.refl _ _) _
  have HX0 := Lib.hid (fun (wx : World) (h : Below wb.heap.size wb wx) => (h.block w.heap.size (by have := blk_lt hXz; omega)).trans hXz)
  have HS := Lib.hid (show RInv u 0 from ⟨Int.le_refl _, by omega, by omega⟩)
  have HBB := Lib.hid hBb
  have HWB := Lib.hid hwb
  have i1 : (0 : Int) ≤ (m : Int) := by omega
  have i2 : (m : Int) ≤ (s.size : Int) := by omega
  have d1 : decide ((m : Int) < 0) = false := by simp
  have d2 : decide ((s.size : Int) < (m : Int)) = false := by simp; omega
  have d3 : decide (s.size < m) = false := by simp; omega
  have e1 : decide ((u.size : Int) < 6) = false := by simp; omega
  have e2 : decide (u.size < 6) = false := by simp; omega
  have hw6 : IntKind.i64.wrap ((u.size : Int) - 6) = (u.size : Int) - 6 := (i64_w _).trans (w64p (by omega) (by omega))
  have HK := Lib.hid hk
  have g1 : decide ((p : Int) < 1) = false := by simp; omega
  have g2 : decide (4096 < (p : Int)) = false := by simp; omega
  have g2n : decide (4096 < p) = false := by simp; omega
  have g3 : decide ((u.size : Int) - 6 < (p : Int)) = false := by simp; omega
  have hwp : IntKind.i64.wrap (6 + (p : Int)) = 6 + (p : Int) := (i64_w _).trans (w64p (by omega) (by omega))
  have j1 : (2 : Int) ≤ 6 + (p : Int) := by omega
  have j2 : 6 + (p : Int) ≤ (u.size : Int) := by omega
  have j3 : (0 : Int) ≤ 6 + (p : Int) := by omega
  have j4 : (6 + (p : Int)).toNat = 6 + p := by omega
  have HSO := Lib.hid hso
  have HOF := Lib.hid hof
  have HBS := Lib.hid hb
  have g4 : (G.e != 0) = true := by simpa using he
  clear he
  clear hso hof hb
  clear hXz hBb h6 hz hm hs hwb hk h1 h0 h2
  go_enter Try.func19, Try.ntmps19
  go_wp2_with (first
    | (go_at_call 29; (with_reducible refine (pack_Read.calls u u 0 0 (w.alloc (.cells #[.int .i64 0, .int .i64 0, .int .i64 0, .int .i64 0, .int .i64 0, .string ⟨#[]⟩, .string ⟨#[]⟩, .string ⟨#[]⟩, .int .i64 0, .slice none 0 0, .slice none 0 0, .int .i64 0, .int .i64 0] 25)) _ (Below.refl _ _) (by unfold pack_Read.f; rfl)).mono ?_); rintro e' w1 ⟨g, rfl, hI1, hB1, _⟩; rw [HWB.out] at hI1 hB1; have HR1 := Lib.hid (show RD wb w1 g u 0 0 from ⟨hI1, hB1, HS.out⟩); clear hI1 hB1)
    | (go_at_call 30; (with_reducible refine (rd_num HR1.out 2 HK.out).mono ?_); rintro e' w2 ⟨rfl, hR2, hK2⟩; have HB2 := Lib.hid hR2.b; clear hR2 hK2)
    | (go_at_call 31; (with_reducible refine (sum_Open.calls v b 0 _ HSO.out).mono ?_); rintro e' w3 ⟨rfl, hB3⟩; have HB3 := Lib.hid (below_step HB2.out hB3); clear hB3)
    | (go_at_call 32; (with_reducible refine (of_walk b HBS.out _).mono ?_); rintro e' w4 ⟨q, rfl, hsv, hrow, hB4⟩; rw [HOF.out] at hsv hrow ⊢; have HSV := Lib.hid hsv; have HRI := Lib.hid hrow.1; have HRT := Lib.hid hrow.2; have HB4 := Lib.hid (below_step HB3.out hB4); have HLE := Lib.hid hB4.size; have HB5 := Lib.hid (setRow_below (below_alloc (below_step HB3.out hB4) (.cells #[.int .i64 0, .int .i64 0, .int .i64 0, .int .i64 0, .int .i64 0, .string ⟨#[]⟩, .string ⟨#[]⟩, .string ⟨#[]⟩, .int .i64 0, .slice none 0 0, .slice none 0 0, .int .i64 0, .int .i64 0] 25)) (below_step HB3.out hB4).size q.cs); clear hsv hrow hB4)
    | (refine wpList_store_row rfl 25 _ _ rfl w4.heap.size q.cs rfl rfl 25 _ (heap_alloc_new w4 _) (hinfo25 q) rfl (rv_one _) ?_)
    | (refine wpList_store_row rfl 25 _ _ rfl w.heap.size (zeroR 0).cs rfl rfl 25 _ (HX0.out _ HB5.out) (hinfo25 (zeroR 0)) rfl (rv_one _) ?_))
  refine bodyPost_ret (results_ctt (p := 4) (u := 5) (v := 6) (ty := 25) rfl _ _ w.heap.size 25 (zeroR 0).cs (0, 0) _ rfl (set_new (HX0.out _ HB5.out)) Try.underlying25 rfl (hinfo25 (zeroR 0))) rfl ?_
  exact ⟨zeroR 0, rfl, SameV.refl _, RRow.zero _, setRow_below (below_step HBB.out HB5.out) (Nat.le_refl _) _⟩

set_option maxHeartbeats 4000000 in
set_option maxRecDepth 10000 in
theorem open_ofok (s : ByteArray) (m : Nat) (hm : m ≤ s.size) (hs : s.size ≤ 1152921504606846976) (u : ByteArray) (hu : s.extract m s.size = u) (h6 : 6 ≤ u.size) (p : Nat) (o f : Int) (hk : numS u 0 0 2 = ((p : Int), o, f)) (h0 : 1 ≤ p) (h2 : p ≤ 4096) (h1 : (p : Int) ≤ (u.size : Int) - 6) (v : ByteArray) (hv : u.extract 2 (6 + p) = v) (b : ByteArray) (hso : sum_Open.f v = some (b, 0)) (hb : b.size ≤ 1152921504606846976) (G : Got) (hof : ofP b = G) (he : G.e = 0) (w : World) : Calls Try.prog 19 #[.string s, .int .i64 m] w fun x w' => OpenOut w w' x G (6 + (p : Int)) := by
  have hu25 := Try.underlying25
  have hz : u.size = s.size - m := by rw [← hu, ByteArray.size_extract]; omega
  obtain ⟨wb, hwb⟩ : ∃ wb, (w.alloc (.cells #[.int .i64 0, .int .i64 0, .int .i64 0, .int .i64 0, .int .i64 0, .string ⟨#[]⟩, .string ⟨#[]⟩, .string ⟨#[]⟩, .int .i64 0, .slice none 0 0, .slice none 0 0, .int .i64 0, .int .i64 0] 25)) = wb := ⟨_, rfl⟩
  have hXz : wb.heap[w.heap.size]? = some (.cells #[.int .i64 0, .int .i64 0, .int .i64 0, .int .i64 0, .int .i64 0, .string ⟨#[]⟩, .string ⟨#[]⟩, .string ⟨#[]⟩, .int .i64 0, .slice none 0 0, .slice none 0 0, .int .i64 0, .int .i64 0] 25 (0, 0)) := hwb ▸ heap_alloc_new w _
  have hBb : Below w.heap.size w wb := hwb ▸ below_alloc (Below.refl _ _) _
  have HX0 := Lib.hid (fun (wx : World) (h : Below wb.heap.size wb wx) => (h.block w.heap.size (by have := blk_lt hXz; omega)).trans hXz)
  have HS := Lib.hid (show RInv u 0 from ⟨Int.le_refl _, by omega, by omega⟩)
  have HBB := Lib.hid hBb
  have HWB := Lib.hid hwb
  have i1 : (0 : Int) ≤ (m : Int) := by omega
  have i2 : (m : Int) ≤ (s.size : Int) := by omega
  have d1 : decide ((m : Int) < 0) = false := by simp
  have d2 : decide ((s.size : Int) < (m : Int)) = false := by simp; omega
  have d3 : decide (s.size < m) = false := by simp; omega
  have e1 : decide ((u.size : Int) < 6) = false := by simp; omega
  have e2 : decide (u.size < 6) = false := by simp; omega
  have hw6 : IntKind.i64.wrap ((u.size : Int) - 6) = (u.size : Int) - 6 := (i64_w _).trans (w64p (by omega) (by omega))
  have HK := Lib.hid hk
  have g1 : decide ((p : Int) < 1) = false := by simp; omega
  have g2 : decide (4096 < (p : Int)) = false := by simp; omega
  have g2n : decide (4096 < p) = false := by simp; omega
  have g3 : decide ((u.size : Int) - 6 < (p : Int)) = false := by simp; omega
  have hwp : IntKind.i64.wrap (6 + (p : Int)) = 6 + (p : Int) := (i64_w _).trans (w64p (by omega) (by omega))
  have j1 : (2 : Int) ≤ 6 + (p : Int) := by omega
  have j2 : 6 + (p : Int) ≤ (u.size : Int) := by omega
  have j3 : (0 : Int) ≤ 6 + (p : Int) := by omega
  have j4 : (6 + (p : Int)).toNat = 6 + p := by omega
  have HSO := Lib.hid hso
  have HOF := Lib.hid hof
  have HBS := Lib.hid hb
  have HE := Lib.hid he
  clear he
  clear hso hof hb
  clear hXz hBb h6 hz hm hs hwb hk h1 h0 h2
  go_enter Try.func19, Try.ntmps19
  go_wp2_with (first
    | (go_at_call 29; (with_reducible refine (pack_Read.calls u u 0 0 (w.alloc (.cells #[.int .i64 0, .int .i64 0, .int .i64 0, .int .i64 0, .int .i64 0, .string ⟨#[]⟩, .string ⟨#[]⟩, .string ⟨#[]⟩, .int .i64 0, .slice none 0 0, .slice none 0 0, .int .i64 0, .int .i64 0] 25)) _ (Below.refl _ _) (by unfold pack_Read.f; rfl)).mono ?_); rintro e' w1 ⟨g, rfl, hI1, hB1, _⟩; rw [HWB.out] at hI1 hB1; have HR1 := Lib.hid (show RD wb w1 g u 0 0 from ⟨hI1, hB1, HS.out⟩); clear hI1 hB1)
    | (go_at_call 30; (with_reducible refine (rd_num HR1.out 2 HK.out).mono ?_); rintro e' w2 ⟨rfl, hR2, hK2⟩; have HB2 := Lib.hid hR2.b; clear hR2 hK2)
    | (go_at_call 31; (with_reducible refine (sum_Open.calls v b 0 _ HSO.out).mono ?_); rintro e' w3 ⟨rfl, hB3⟩; have HB3 := Lib.hid (below_step HB2.out hB3); clear hB3)
    | (go_at_call 32; (with_reducible refine (of_walk b HBS.out _).mono ?_); rintro e' w4 ⟨q, rfl, hsv, hrow, hB4⟩; rw [HOF.out] at hsv hrow ⊢; rw [HE.out]; have HSV := Lib.hid hsv; have HRI := Lib.hid hrow.1; have HRT := Lib.hid hrow.2; have HB4 := Lib.hid (below_step HB3.out hB4); have HLE := Lib.hid hB4.size; have HB5 := Lib.hid (setRow_below (below_alloc (below_step HB3.out hB4) (.cells #[.int .i64 0, .int .i64 0, .int .i64 0, .int .i64 0, .int .i64 0, .string ⟨#[]⟩, .string ⟨#[]⟩, .string ⟨#[]⟩, .int .i64 0, .slice none 0 0, .slice none 0 0, .int .i64 0, .int .i64 0] 25)) (below_step HB3.out hB4).size q.cs); clear hsv hrow hB4)
    | (refine wpList_store_row rfl 25 _ _ rfl w4.heap.size q.cs rfl rfl 25 _ (heap_alloc_new w4 _) (hinfo25 q) rfl (rv_one _) ?_)
    | (refine wpList_load_row rfl 25 _ rfl w4.heap.size rfl 25 q.cs (0, 0) _ (set_new (heap_alloc_new w4 _)) Try.underlying25 rfl (hinfo25 q) ?_)
    | (refine wpList_store_row rfl 25 _ _ rfl w.heap.size q.cs rfl rfl 25 _ (HX0.out _ HB5.out) (hinfo25 q) rfl (rv_one _) ?_))
  refine bodyPost_ret (results_ctt (p := 4) (u := 5) (v := 6) (ty := 25) rfl _ _ w.heap.size 25 q.cs (0, 0) _ rfl (set_new (HX0.out _ HB5.out)) Try.underlying25 rfl (hinfo25 q)) rfl ?_
  refine ⟨q, by rw [HE.out]; rfl, HSV.out, RRow.of (b := w3.heap.size) (R36_row (R36_row (Kd.R_alloc HRI.out _) (heap_alloc_new w4 _)) (HX0.out _ HB5.out)) (R55_row (R55_row (Kd.R_alloc HRT.out _) (heap_alloc_new w4 _)) (HX0.out _ HB5.out)), setRow_below (below_step HBB.out HB5.out) (Nat.le_refl _) _⟩
end Go.Proofs.Ytdphikbkknkhiaa.PAll
