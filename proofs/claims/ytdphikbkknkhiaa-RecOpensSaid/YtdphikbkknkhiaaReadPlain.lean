/- Plain: what a reader answers, in one form for Raw, Num, Text, Left, End. No memory in sight. -/
import Derived.Test.YtdphikbkknkhiaaPackNum
import Derived.Test.YtdphikbkknkhiaaPAllx9
import Derived.Test.YtdphikbkknkhiaaPAllx9
namespace Go.Proofs.Ytdphikbkknkhiaa.Pure
open Go.RowKit Go.Proofs.Ytdphikbkknkhiaa.PAll Go.Proofs.YtdphikbkknkhiaaW.PrintWords Go.Proofs.YtdphikbkknkhiaaW.PrintLast Go.Proofs.YtdphikbkknkhiaaW.PrintMore
set_option linter.unusedVariables false
set_option linter.unusedSimpArgs false

/-- The next bytes; where the reader stands then, and its error. -/
def rawS (s : ByteArray) (at_ e n : Int) : ByteArray × Int × Int :=
  if e = 0 then if n < 0 then (⟨#[]⟩, at_, 1) else if (s.size : Int) - at_ < n then (⟨#[]⟩, at_, 2) else (s.extract at_.toNat (at_ + n).toNat, at_ + n, 0) else (⟨#[]⟩, at_, e)
def numS (s : ByteArray) (at_ e w : Int) : Int × Int × Int :=
  if e = 0 ∧ (w < 1 ∨ 6 < w) then (0, at_, 1) else (be (rawS s at_ e w).1.data.toList, (rawS s at_ e w).2)
def textS (s : ByteArray) (at_ e most : Int) : ByteArray × Int × Int :=
  rawS s (numS s at_ e 2).2.1 (if (numS s at_ e 2).2.2 = 0 ∧ most < (numS s at_ e 2).1 then 3 else (numS s at_ e 2).2.2) (numS s at_ e 2).1
/-- The first error; nothing may be left. -/
def endS (s : ByteArray) (at_ e : Int) : Int := if e = 0 ∧ at_ < (s.size : Int) then 4 else e

structure RInv (s : ByteArray) (at_ : Int) : Prop where
  lo : 0 ≤ at_
  hi : at_ ≤ s.size
  sz : s.size ≤ 1152921504606846976
theorem rawS_inv {s : ByteArray} {at_ : Int} (h : RInv s at_) (e n : Int) : RInv s (rawS s at_ e n).2.1 := by
  have := h.lo; have := h.hi
  unfold rawS
  split
  · split
    · exact h
    · split
      · exact h
      · exact ⟨by show 0 ≤ at_ + n; omega, by show at_ + n ≤ _; omega, h.sz⟩
  · exact h
theorem numS_inv {s : ByteArray} {at_ : Int} (h : RInv s at_) (e n : Int) : RInv s (numS s at_ e n).2.1 := by
  unfold numS
  split
  · exact h
  · exact rawS_inv h e n
theorem textS_inv {s : ByteArray} {at_ : Int} (h : RInv s at_) (e n : Int) : RInv s (textS s at_ e n).2.1 := rawS_inv (numS_inv h e 2) _ _

theorem raw_is {s : ByteArray} {at_ : Int} (h : RInv s at_) (e n : Int) : pack_Reader_Raw.f s at_ e n = some ((rawS s at_ e n).1, s, (rawS s at_ e n).2.1, (rawS s at_ e n).2.2) := by
  have h1 := h.lo; have h2 := h.hi; have h3 := h.sz
  unfold rawS
  by_cases he : e = 0
  · subst he
    rw [if_pos rfl]
    by_cases hn : n < 0
    · rw [if_pos hn]
      simp [pack_Reader_Raw.f, pack_Reader_off.f, pack_Reader_fail.f, hn]
    · rw [if_neg hn]
      by_cases hs : (s.size : Int) - at_ < n
      · rw [if_pos hs, raw_short s at_ n h1 (by omega) (by omega) hs h2]
      · rw [if_neg hs, raw_ok s at_ n h1 (by omega) (by omega) (by omega)]
  · rw [if_neg he, raw_off s at_ e n he]
theorem num_is {s : ByteArray} {at_ : Int} (h : RInv s at_) (e w : Int) : pack_Reader_Num.f s at_ e w = some ((numS s at_ e w).1, s, (numS s at_ e w).2.1, (numS s at_ e w).2.2) := by
  have h1 := h.lo; have h2 := h.hi; have h3 := h.sz
  unfold numS pack_Reader_Num.f
  by_cases he : e = 0
  · rw [if_pos he]
    by_cases hw : w < 1 ∨ 6 < w
    · rw [if_pos hw, if_pos ⟨he, hw⟩]
    · rw [if_neg hw, if_neg (by omega)]
      by_cases hs : (s.size : Int) - at_ < w
      · have er : rawS s at_ e w = (⟨#[]⟩, at_, 2) := by unfold rawS; rw [if_pos he, if_neg (by omega), if_pos hs]
        rw [if_pos hs, if_neg (fun c => hw c.2), er]
        rfl
      · have er : rawS s at_ e w = (s.extract at_.toNat (at_ + w).toNat, at_ + w, 0) := by unfold rawS; rw [if_pos he, if_neg (by omega), if_neg hs]
        rw [if_neg hs, if_neg (fun c => hw c.2), er]
  · rw [if_neg he, if_neg (fun c => he c.1)]
    unfold rawS
    rw [if_neg he]
    rfl
theorem numS_lo {s : ByteArray} {at_ : Int} (e w : Int) : 0 ≤ (numS s at_ e w).1 := by
  unfold numS
  split
  · exact Int.le_refl 0
  · exact (be_bound _).1
theorem text_is {s : ByteArray} {at_ : Int} (h : RInv s at_) (k : Nat) (hk : 1 ≤ k) (e most : Int) : pack_Reader_Text.f k s at_ e most = some ((textS s at_ e most).1, s, (textS s at_ e most).2.1, (textS s at_ e most).2.2) := by
  obtain ⟨m, rfl⟩ : ∃ m, k = m + 1 := ⟨k - 1, by omega⟩
  have hi := numS_inv h e 2
  unfold pack_Reader_Text.f textS
  rw [num_is h, Option.bind_some]
  simp only [pack_Reader_off.f, Option.bind_some]
  generalize (numS s at_ e 2).1 = n at *
  generalize (numS s at_ e 2).2.1 = a2 at *
  generalize (numS s at_ e 2).2.2 = e2 at *
  by_cases he : e2 = 0
  · subst he
    rw [if_neg (by simp)]
    simp only [pack_Reader_Text.j0]
    by_cases hm : n > most
    · rw [if_pos (by simpa using hm), if_pos ⟨trivial, hm⟩]
      simp only [pack_Reader_fail.f, if_true, Option.bind_some]
      rw [raw_is hi, Option.bind_some]
    · rw [if_neg (by simpa using hm), if_neg (fun c => hm c.2), raw_is hi, Option.bind_some]
  · rw [if_pos (by simpa using he)]
    simp only [pack_Reader_Text.j0]
    rw [if_neg (by simp), if_neg (fun c => he c.1), raw_is hi, Option.bind_some]
theorem left_is {s : ByteArray} {at_ : Int} (h : RInv s at_) (e : Int) : pack_Reader_Left.f s at_ e = some ((if e = 0 then (s.size : Int) - at_ else 0), s, at_, e) := by
  have h1 := h.lo; have h2 := h.hi; have h3 := h.sz
  unfold pack_Reader_Left.f pack_Reader_off.f
  rw [Option.bind_some]
  by_cases he : e = 0
  · rw [if_neg (by simp [he]), if_pos he, wrap64_id (by show _ ≤ (s.size : Int) - at_; omega) (by show (s.size : Int) - at_ ≤ _; omega)]
  · rw [if_pos (by simpa using he), if_neg he]
theorem end_is {s : ByteArray} {at_ : Int} (h : RInv s at_) (e : Int) : pack_Reader_End.f s at_ e = some (endS s at_ e, s, at_, endS s at_ e) := by
  have h1 := h.lo; have h2 := h.hi; have h3 := h.sz
  unfold pack_Reader_End.f endS
  rw [left_is h, Option.bind_some]
  simp only [pack_Reader_Err.f]
  by_cases he : e = 0
  · subst he
    rw [if_pos rfl]
    by_cases hl : at_ < (s.size : Int)
    · rw [if_pos (by omega), if_pos ⟨rfl, hl⟩]
      simp [pack_Reader_fail.f]
    · rw [if_neg (by omega), if_neg (fun c => hl c.2)]
      simp
  · rw [if_neg he, if_neg (by omega), if_neg (fun c => he c.1)]
    simp
end Go.Proofs.Ytdphikbkknkhiaa.Pure
