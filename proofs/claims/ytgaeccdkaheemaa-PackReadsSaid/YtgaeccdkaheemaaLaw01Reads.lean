/- Plain: the law's own reader answers as pack's. No memory in sight. -/
import Derived.Test.YtgaeccdkaheemaaReadPlain
import Derived.Test.YtgaeccdkaheemaaPAllx2
import Derived.Test.YtgaeccdkaheemaaPAllx3
namespace Go.Proofs.Ytgaeccdkaheemaa.Pure
open Go.RowKit Go.Proofs.Ytgaeccdkaheemaa.PAll Go.Proofs.YtgaeccdkaheemaaW.PrintWords Go.Proofs.YtgaeccdkaheemaaW.PrintLast Go.Proofs.YtgaeccdkaheemaaW.PrintMore
set_option linter.unusedVariables false
set_option linter.unusedSimpArgs false

theorem praw_is {s : ByteArray} {at_ : Int} (h : RInv s at_) (e n : Int) : gharrylaw01_plain_raw.f s at_ e n = some ((rawS s at_ e n).1, s, (rawS s at_ e n).2.1, (rawS s at_ e n).2.2) := by
  have h1 := h.lo; have h2 := h.hi; have h3 := h.sz
  unfold rawS gharrylaw01_plain_raw.f
  by_cases he : e = 0
  · subst he
    have e1 : wrap64 ((s.size : Int) - at_) = (s.size : Int) - at_ := wrap64_id (by omega) (by omega)
    rw [if_pos rfl, if_pos rfl]
    by_cases hn : n < 0
    · rw [if_pos hn, if_pos hn]
    · rw [if_neg hn, if_neg hn, e1]
      by_cases hs : (s.size : Int) - at_ < n
      · rw [if_pos hs, if_pos hs]
      · have e2 : wrap64 (at_ + n) = at_ + n := wrap64_id (by omega) (by omega)
        have e3 : wrap64 (at_ + n - n) = at_ := by rw [show at_ + n - n = at_ by omega]; exact wrap64_id (by omega) (by omega)
        rw [if_neg hs, if_neg hs, e2, e3, if_pos (by omega), if_pos (by omega), if_pos (by omega)]
  · rw [if_neg he, if_neg he]
theorem none_size : (⟨#[]⟩ : ByteArray).size ≤ 6 := by decide
theorem rawS_size {s : ByteArray} {at_ : Int} (h : RInv s at_) (e n : Int) (hn : n ≤ 6) : (rawS s at_ e n).1.size ≤ 6 := by
  have h1 := h.lo; have h2 := h.hi
  unfold rawS
  split
  · split
    · exact none_size
    · split
      · exact none_size
      · show (s.extract _ _).size ≤ 6
        rw [ByteArray.size_extract]
        omega
  · exact none_size
theorem bt_nat (s : ByteArray) (i : Nat) (hi : i < s.size) : bt s (i : Int) = (((s[i]'hi).toNat : Nat) : Int) := by
  have := bt_at s (i : Int) (by simpa using hi)
  rw [← this]
  rfl
theorem pnum_loop (d : Nat) : ∀ (k : Nat) (b : ByteArray) (i : Nat) (s : ByteArray) (a e : Int), b.size ≤ 6 → i + d = b.size →
    gharrylaw01_plain_num.l0 (k + d + 1) b (be (b.data.toList.take i)) (i : Int) s a e = some (be b.data.toList, s, a, e) := by
  induction d with
  | zero =>
    intro k b i s a e hb hi
    simp only [gharrylaw01_plain_num.l0]
    rw [if_neg (by omega), List.take_of_length_le (by simp; omega)]
  | succ d ih =>
    intro k b i s a e hb hi
    have hlt : i < b.size := by omega
    rw [show k + (d + 1) + 1 = (k + d + 1) + 1 from by omega]
    simp only [gharrylaw01_plain_num.l0]
    have hl : (b.data.toList.take i).length ≤ 5 := by simp; omega
    have hsm := (be_bound (b.data.toList.take i)).1
    have hs5 : be (b.data.toList.take i) < 1099511627776 := by
      have h2 := (be_bound (b.data.toList.take i)).2
      rcases (by omega : (b.data.toList.take i).length = 0 ∨ (b.data.toList.take i).length = 1 ∨ (b.data.toList.take i).length = 2 ∨ (b.data.toList.take i).length = 3 ∨ (b.data.toList.take i).length = 4 ∨ (b.data.toList.take i).length = 5) with q | q | q | q | q | q <;> rw [q] at h2 <;> omega
    have hc : (b[i]'hlt).toNat < 256 := (b[i]'hlt).toNat_lt
    have hts : b.data.toList.take (i + 1) = b.data.toList.take i ++ [b[i]'hlt] := by
      rw [List.take_succ_eq_append_getElem (by simpa using hlt)]; rfl
    have hb1 := be_snoc (b.data.toList.take i) (b[i]'hlt)
    rw [← hts] at hb1
    rw [if_pos (by omega), if_pos (by omega), bt_nat b i hlt, wrap64_id (n := 256 * be (b.data.toList.take i)) (by omega) (by omega), wrap64_id (n := (((b[i]'hlt).toNat : Nat) : Int)) (by omega) (by omega)]
    rw [wrap64_id (n := 256 * be (b.data.toList.take i) + (((b[i]'hlt).toNat : Nat) : Int)) (by omega) (by omega), wrap64_id (n := (i : Int) + 1) (by omega) (by omega)]
    rw [show 256 * be (b.data.toList.take i) + (((b[i]'hlt).toNat : Nat) : Int) = be (b.data.toList.take (i + 1)) from by rw [hb1]; omega]
    exact ih k b (i + 1) s a e hb (by omega)
theorem pnum_is {s : ByteArray} {at_ : Int} (h : RInv s at_) (k : Nat) (hk : 10 ≤ k) (e w : Int) : gharrylaw01_plain_num.f k s at_ e w = some ((numS s at_ e w).1, s, (numS s at_ e w).2.1, (numS s at_ e w).2.2) := by
  have j1 : ∀ (m : Nat) (e' : Int), 8 ≤ m → (rawS s at_ e' w).1.size ≤ 6 → gharrylaw01_plain_num.j1 (m + 1) w s at_ e' = some (be (rawS s at_ e' w).1.data.toList, s, (rawS s at_ e' w).2.1, (rawS s at_ e' w).2.2) := fun m e' hm h6 => by
    simp only [gharrylaw01_plain_num.j1]
    rw [praw_is h, Option.bind_some]
    obtain ⟨q, rfl⟩ : ∃ q, m = q + (rawS s at_ e' w).1.size + 1 := ⟨m - (rawS s at_ e' w).1.size - 1, by omega⟩
    have := pnum_loop (rawS s at_ e' w).1.size q (rawS s at_ e' w).1 0 s (rawS s at_ e' w).2.1 (rawS s at_ e' w).2.2 h6 (by omega)
    rw [List.take_zero, be_nil] at this
    exact this
  have off6 : ∀ e' : Int, e' ≠ 0 → (rawS s at_ e' w).1.size ≤ 6 := fun e' he' => by unfold rawS; rw [if_neg he']; exact none_size
  obtain ⟨m, rfl⟩ : ∃ m, k = m + 1 + 1 := ⟨k - 2, by omega⟩
  unfold gharrylaw01_plain_num.f
  by_cases he : e = 0
  · subst he
    rw [if_pos rfl]
    by_cases hw : w < 1 ∨ 6 < w
    · have hr : rawS s at_ 1 w = (⟨#[]⟩, at_, 1) := by unfold rawS; rw [if_neg (by decide)]
      have hn : numS s at_ 0 w = (0, at_, 1) := by unfold numS; rw [if_pos ⟨rfl, hw⟩]
      have := j1 m 1 (by omega) (off6 1 (by decide))
      rw [hr] at this
      by_cases h1 : w < 1
      · rw [if_pos h1]
        simp only [gharrylaw01_plain_num.j0]
        rw [if_pos trivial, this, hn]
        rfl
      · have hd : decide (w > 6) = true := by simp; omega
        rw [if_neg h1, hd]
        simp only [gharrylaw01_plain_num.j0]
        rw [if_pos trivial, this, hn]
        rfl
    · have hd : decide (w > 6) = false := by simp; omega
      rw [if_neg (by omega), hd]
      simp only [gharrylaw01_plain_num.j0]
      rw [if_neg (by simp), j1 m 0 (by omega) (rawS_size h 0 w (by omega))]
      unfold numS
      rw [if_neg (fun c => hw c.2)]
  · rw [if_neg he]
    simp only [gharrylaw01_plain_num.j0]
    rw [if_neg (by simp), j1 m e (by omega) (off6 e he)]
    unfold numS
    rw [if_neg (fun c => he c.1)]
theorem ptext_is {s : ByteArray} {at_ : Int} (h : RInv s at_) (k : Nat) (hk : 10 ≤ k) (e most : Int) : gharrylaw01_plain_text.f k s at_ e most = some ((textS s at_ e most).1, s, (textS s at_ e most).2.1, (textS s at_ e most).2.2) := by
  have hi := numS_inv h e 2
  unfold gharrylaw01_plain_text.f textS
  rw [pnum_is h k hk, Option.bind_some]
  dsimp only
  generalize (numS s at_ e 2).1 = n at *
  generalize (numS s at_ e 2).2.1 = a2 at *
  generalize (numS s at_ e 2).2.2 = e2 at *
  by_cases he : e2 = 0
  · rw [if_pos he]
    by_cases hm : n > most
    · rw [if_pos hm, if_pos ⟨he, hm⟩, praw_is hi, Option.bind_some]
    · rw [if_neg hm, if_neg (fun c => hm c.2), praw_is hi, Option.bind_some]
  · rw [if_neg he, if_neg (fun c => he c.1), praw_is hi, Option.bind_some]
end Go.Proofs.Ytgaeccdkaheemaa.Pure
