/- The document's reader, in one form with rec's. -/
import Derived.Test.YtdphikbkknkhiaaRecOf
namespace Go.Proofs.Ytdphikbkknkhiaa.Pure
open Go.RowKit Go.Proofs.Ytdphikbkknkhiaa.PAll Go.Proofs.YtdphikbkknkhiaaW.PrintWords Go.Proofs.YtdphikbkknkhiaaW.PrintLast Go.Proofs.YtdphikbkknkhiaaW.PrintMore
set_option linter.unusedVariables false
set_option linter.unusedSimpArgs false

theorem refraw_is {s : ByteArray} {a : Int} (h : RInv s a) (k : Nat) (hk : 1 ≤ k) (e n : Int) (hn : 0 ≤ n) (hn2 : n ≤ 70000) : gharryref07_reader_raw.f k s a e n = some ((rawS s a e n).1, s, (rawS s a e n).2.1, (rawS s a e n).2.2) := by
  have h1 := h.lo; have h2 := h.hi; have h3 := h.sz
  obtain ⟨m, rfl⟩ : ∃ m, k = m + 1 := ⟨k - 1, by omega⟩
  have w1 : wrap64 ((s.size : Int) - a) = (s.size : Int) - a := by unfold wrap64; omega
  have w2 : wrap64 (a + n) = a + n := by unfold wrap64; omega
  have w3 : wrap64 (a + n - n) = a := by unfold wrap64; omega
  unfold gharryref07_reader_raw.f rawS
  by_cases he : e = 0
  · subst he
    rw [if_pos rfl, if_pos rfl, if_neg (by omega), w1]
    simp only [gharryref07_reader_raw.j0, w2, w3]
    by_cases hs : (s.size : Int) - a < n
    · rw [if_pos (by simpa using hs), if_neg (by omega), if_pos hs]
    · rw [if_neg (by simpa using hs), if_pos trivial, if_pos h1, if_pos (by omega), if_pos (by omega), if_neg hs]
  · rw [if_neg he, if_neg he]
    simp only [gharryref07_reader_raw.j0]
    rw [if_neg (by simp), if_neg he]

theorem refnum_l0 (b : ByteArray) (hb : b.size ≤ 6) (s : ByteArray) (a e : Int) (d : Nat) : ∀ (k j : Nat), j + d = b.size → d + 1 ≤ k → gharryref07_reader_num.l0 k b (be (b.data.toList.take j)) (j : Int) s a e = some (be b.data.toList, s, a, e) := by
  induction d with
  | zero =>
    intro k j hj hk
    obtain ⟨m, rfl⟩ : ∃ m, k = m + 1 := ⟨k - 1, by omega⟩
    simp only [gharryref07_reader_num.l0]
    rw [if_neg (by omega), List.take_of_length_le (by rw [Array.length_toList]; show b.size ≤ j; omega)]
  | succ d ih =>
    intro k j hj hk
    obtain ⟨m, rfl⟩ : ∃ m, k = m + 1 := ⟨k - 1, by omega⟩
    have hjb : j < b.size := by omega
    have hjl : j < b.data.toList.length := by rw [Array.length_toList]; exact hjb
    have hs := be_small (b.data.toList.take j) (by rw [List.length_take]; omega)
    have hbt := bt_range b (j : Int)
    have hval : bt b (j : Int) = ((b.data.toList[j]).toNat : Int) := by
      rw [← bt_at b (j : Int) (by simpa using hjb)]
      rfl
    have hnext : be (b.data.toList.take (j + 1)) = 256 * be (b.data.toList.take j) + bt b (j : Int) := by
      rw [List.take_succ_eq_append_getElem hjl, be_snoc, hval]
      omega
    simp only [gharryref07_reader_num.l0]
    rw [if_pos (by omega), if_pos (by omega)]
    have w1 : wrap64 (256 * be (b.data.toList.take j)) = 256 * be (b.data.toList.take j) := by unfold wrap64; omega
    have w2 : wrap64 (bt b (j : Int)) = bt b (j : Int) := by unfold wrap64; omega
    have w3 : wrap64 (256 * be (b.data.toList.take j) + bt b (j : Int)) = be (b.data.toList.take (j + 1)) := by rw [hnext]; unfold wrap64; omega
    have w4 : wrap64 ((j : Int) + 1) = ((j + 1 : Nat) : Int) := by unfold wrap64; omega
    rw [w1, w2, w3, w4]
    exact ih m (j + 1) (by omega) (by omega)

theorem rawS_size {s : ByteArray} {a : Int} (h : RInv s a) (e n : Int) (hn : 0 ≤ n) : ((rawS s a e n).1.size : Int) ≤ n := by
  have h1 := h.lo; have h2 := h.hi
  unfold rawS
  split
  · split
    · show ((0 : Nat) : Int) ≤ n; omega
    · split
      · show ((0 : Nat) : Int) ≤ n; omega
      · show ((s.extract a.toNat (a + n).toNat).size : Int) ≤ n
        rw [ByteArray.size_extract]; omega
  · show ((0 : Nat) : Int) ≤ n; omega
theorem refnum_is {s : ByteArray} {a : Int} (h : RInv s a) (k : Nat) (hk : 8 ≤ k) (e w : Int) (hw : 1 ≤ w) (hw2 : w ≤ 6) : gharryref07_reader_num.f k s a e w = some ((numS s a e w).1, s, (numS s a e w).2.1, (numS s a e w).2.2) := by
  unfold gharryref07_reader_num.f numS
  rw [refraw_is h k (by omega) e w (by omega) (by omega), Option.bind_some, if_neg (by omega)]
  have hz := rawS_size h e w (by omega)
  have := refnum_l0 (rawS s a e w).1 (by omega) s (rawS s a e w).2.1 (rawS s a e w).2.2 (rawS s a e w).1.size k 0 (by omega) (by omega)
  exact this
theorem numS_hi {s : ByteArray} {a : Int} (h : RInv s a) (e : Int) : (numS s a e 2).1 ≤ 65535 := by
  unfold numS
  rw [if_neg (by omega)]
  have h1 := be_bound (rawS s a e 2).1.data.toList
  have hz := rawS_size h e 2 (by omega)
  have hl : (rawS s a e 2).1.data.toList.length ≤ 2 := by rw [Array.length_toList]; show (rawS s a e 2).1.size ≤ 2; omega
  have h3 : (256 : Int) ^ (rawS s a e 2).1.data.toList.length ≤ 65536 := by
    rcases (by omega : (rawS s a e 2).1.data.toList.length = 0 ∨ (rawS s a e 2).1.data.toList.length = 1 ∨ (rawS s a e 2).1.data.toList.length = 2) with q | q | q <;> rw [q] <;> decide
  show be (rawS s a e 2).1.data.toList ≤ 65535
  omega
theorem reftext_is {s : ByteArray} {a : Int} (h : RInv s a) (k : Nat) (hk : 8 ≤ k) (e most : Int) : gharryref07_reader_text.f k s a e most = some ((textS s a e most).1, s, (textS s a e most).2.1, (textS s a e most).2.2) := by
  have hi := numS_inv h e 2
  have hlo := numS_lo (s := s) (at_ := a) e 2
  have hhi := numS_hi h e
  unfold gharryref07_reader_text.f textS
  rw [refnum_is h k hk e 2 (by omega) (by omega), Option.bind_some]
  simp only
  generalize (numS s a e 2).1 = n at *
  generalize (numS s a e 2).2.1 = a2 at *
  generalize (numS s a e 2).2.2 = e2 at *
  by_cases he : e2 = 0
  · subst he
    rw [if_pos rfl]
    by_cases hm : n > most
    · rw [if_pos hm, if_pos ⟨rfl, hm⟩, refraw_is hi k (by omega) 3 n hlo (by omega), Option.bind_some]
    · rw [if_neg hm, if_neg (fun c => hm c.2), refraw_is hi k (by omega) 0 n hlo (by omega), Option.bind_some]
  · rw [if_neg he, if_neg (fun c => he c.1), refraw_is hi k (by omega) e2 n hlo (by omega), Option.bind_some]
end Go.Proofs.Ytdphikbkknkhiaa.Pure
namespace Go.Proofs.Ytdphikbkknkhiaa.PAll
open Go.RowKit Go.Proofs.Ytdphikbkknkhiaa.Pure Go.Proofs.YtdphikbkknkhiaaW.PrintWords Go.Proofs.YtdphikbkknkhiaaW.PrintLast Go.Proofs.YtdphikbkknkhiaaW.PrintMore
set_option linter.unusedVariables false
set_option linter.unusedSimpArgs false

/-- The document's reader in a world: where it stands, and its error. -/
structure RF (w0 w : World) (g : Nat) (s : ByteArray) (a e : Int) : Prop where
  i : IsS66 w0 w g s a e
  b : Below w0.heap.size w0 w
  v : RInv s a
section
variable {w0 w : World} {g : Nat} {s : ByteArray} {a e : Int}
theorem RF.below {w' : World} (h : RF w0 w g s a e) (hb : Below w.heap.size w w') : RF w0 w' g s a e := ⟨h.i.below hb, below_step h.b hb, h.v⟩
theorem RF.alloc (h : RF w0 w g s a e) (o : Obj) : RF w0 (w.alloc o) g s a e := h.below (below_alloc (Below.refl _ _) o)
theorem RF.drew (h : RF w0 w g s a e) : RF w0 w.drew g s a e := h.below (below_drew (Below.refl _ _))
theorem RF.set (h : RF w0 w g s a e) {gr : Nat} {cs : Array Value} (hx : w.heap[gr]? = some (.cells cs 25 (0, 0))) (hg : w0.heap.size ≤ gr) (j : Nat) (u : Value) : RF w0 (w.setCell ⟨gr, j, none⟩ u) g s a e :=
  ⟨IsS66.far h.i (IsS66.ne_blk h.i hx (by decide)) u, below_set h.b hg, h.v⟩
theorem RF.kept {w' : World} {a' e' : Int} (h : RF w0 w g s a e) (hk : KeepBut w w' g none) {gr : Nat} {cs : Array Value} (hx : w.heap[gr]? = some (.cells cs 25 (0, 0))) : w'.heap[gr]? = some (.cells cs 25 (0, 0)) :=
  hk.blk hx (fun c => IsS66.ne_blk h.i hx (by decide) c.symm) (by simp)
theorem rf_num (h : RF w0 w g s a e) (wd : Int) (hw : 1 ≤ wd) (hw2 : wd ≤ 6) {n a' e' : Int} (hn : numS s a e wd = (n, a', e')) :
    Calls Try.prog 33 #[.pointer (some ⟨g, 0, none⟩), .int .i64 wd] w fun x w' => x = .returned (.int .i64 n) ∧ RF w0 w' g s a' e' ∧ KeepBut w w' g none :=
  (gharryref07_reader_num.calls 10 g s a e wd n s a' e' w0 w h.i h.b (by rw [refnum_is h.v 10 (by omega) e wd hw hw2, hn])).mono fun _ _ ⟨he, hI, hB, hK⟩ => ⟨he, ⟨hI, hB, by have := numS_inv h.v e wd; rw [hn] at this; exact this⟩, hK⟩
theorem rf_text (h : RF w0 w g s a e) (most : Int) {n : ByteArray} {a' e' : Int} (hn : textS s a e most = (n, a', e')) :
    Calls Try.prog 34 #[.pointer (some ⟨g, 0, none⟩), .int .i64 most] w fun x w' => x = .returned (.string n) ∧ RF w0 w' g s a' e' ∧ KeepBut w w' g none :=
  (gharryref07_reader_text.calls 10 g s a e most n s a' e' w0 w h.i h.b (by rw [reftext_is h.v 10 (by omega) e most, hn])).mono fun _ _ ⟨he, hI, hB, hK⟩ => ⟨he, ⟨hI, hB, by have := textS_inv h.v e most; rw [hn] at this; exact this⟩, hK⟩
end
end Go.Proofs.Ytdphikbkknkhiaa.PAll
