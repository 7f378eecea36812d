/- Plain: the law's own register, bit by bit, is the register of Crc; Sum, More, cut, awake as plain functions. No memory in sight. -/
import Derived.Test.YtnbfphjhhdkefaaPAllx2
namespace Go.Proofs.Ytnbfphjhhdkefaa.Pure
open Go.RowKit Go.Proofs.Ytnbfphjhhdkefaa.PAll Go.Proofs.Ytnbfphjhhdkefaa.Crc Go.Proofs.YtnbfphjhhdkefaaW.PrintWords Go.Proofs.YtnbfphjhhdkefaaW.PrintLast
set_option linter.unusedVariables false
set_option linter.unusedSimpArgs false

theorem xor64 (a b : Nat) (ha : a < 9223372036854775808) (hb : b < 9223372036854775808) : Go.bits .xor .i64 (a : Int) (b : Int) = ((a ^^^ b : Nat) : Int) := by
  have hx : a ^^^ b < 2 ^ 63 := Nat.xor_lt_two_pow (by omega) (by omega)
  show IntKind.i64.wrap ((BitVec.ofInt 64 (a : Int) ^^^ BitVec.ofInt 64 (b : Int)).toNat : Int) = _
  rw [BitVec.toNat_xor, BitVec.ofInt_natCast, BitVec.ofInt_natCast, BitVec.toNat_ofNat, BitVec.toNat_ofNat, Nat.mod_eq_of_lt (by omega), Nat.mod_eq_of_lt (by omega), IntKind.wrap_i64]
  omega
theorem w64 {n : Int} (h0 : -9223372036854775808 ≤ n) (h1 : n ≤ 9223372036854775807) : wrap64 n = n := by unfold wrap64; omega

theorem run_bit (k c : Nat) (s : ByteArray) (i j : Int) (hc : c < 4294967296) (h0 : 0 ≤ j) (h1 : j < 8) :
    gharrylaw02_run.l1 (k + 1) (c : Int) s i j = gharrylaw02_run.l1 k ((L1 c : Nat) : Int) s i (j + 1) := by
  simp only [gharrylaw02_run.l1]
  rw [if_pos h1, w64 (n := j + 1) (by omega) (by omega)]
  have ht : Int.tdiv (c : Int) 2 = ((c / 2 : Nat) : Int) := by rw [Int.tdiv_eq_ediv_of_nonneg (by omega)]; omega
  have hm : Int.tmod (c : Int) 2 = ((c % 2 : Nat) : Int) := by rw [Int.tmod_eq_emod_of_nonneg (by omega)]; omega
  rw [ht, hm, w64 (n := ((c / 2 : Nat) : Int)) (by omega) (by omega)]
  unfold L1
  by_cases h : c % 2 = 1
  · rw [if_pos (by omega), if_pos h, show (2197175160 : Int) = ((poly : Nat) : Int) from rfl, xor64 _ _ (by omega) (by decide)]
  · rw [if_neg (by omega), if_neg h]
theorem run_bits (n : Nat) : ∀ (k c : Nat) (s : ByteArray) (i j : Int), c < 4294967296 → 0 ≤ j → j + n = 8 →
    gharrylaw02_run.l1 (k + n) (c : Int) s i j = gharrylaw02_run.l1 k ((Ln n c : Nat) : Int) s i 8 := by
  induction n with
  | zero => intro k c s i j _ _ hj; rw [Ln_0, show j = 8 by omega]; rfl
  | succ n ih =>
    intro k c s i j hc h0 hj
    rw [show k + (n + 1) = (k + n) + 1 from rfl, run_bit (k + n) c s i j hc h0 (by omega), ih k _ s i (j + 1) (L1_lt hc) (by omega) (by omega), Ln_succ]
theorem run_byte (k c : Nat) (s : ByteArray) (i : Nat) (hc : c < 4294967296) (hi : i < s.size) (hs : s.size ≤ 140737488351232) :
    gharrylaw02_run.l0 (k + 10) (c : Int) s (i : Int) = gharrylaw02_run.l0 k ((Ln 8 (c ^^^ (s[i]'hi).toNat) : Nat) : Int) s ((i + 1 : Nat) : Int) := by
  have hb : (s[i]'hi).toNat < 256 := (s[i]'hi).toNat_lt
  have hbt : bt s (i : Int) = (((s[i]'hi).toNat : Nat) : Int) := by
    have := bt_at s (i : Int) (by simpa using hi)
    rw [← this]
    rfl
  show gharrylaw02_run.l0 ((k + 9) + 1) (c : Int) s (i : Int) = _
  simp only [gharrylaw02_run.l0]
  rw [if_pos (by omega), if_pos (by omega), hbt, w64 (n := (((s[i]'hi).toNat : Nat) : Int)) (by omega) (by omega), xor64 _ _ (by omega) (by omega)]
  rw [show k + 9 = (k + 1) + 8 from rfl, run_bits 8 (k + 1) _ s i 0 (xor_lt32 hc (by omega)) (by omega) (by omega)]
  simp only [gharrylaw02_run.l1]
  rw [if_neg (by omega), w64 (n := (i : Int) + 1) (by omega) (by omega)]
  rfl
theorem run_from (d : Nat) : ∀ (k c : Nat) (s : ByteArray) (i : Nat), c < 4294967296 → i + d = s.size → s.size ≤ 140737488351232 →
    gharrylaw02_run.l0 (k + 10 * d + 1) (c : Int) s (i : Int) = some ((regN c (s.data.toList.drop i) : Nat) : Int) := by
  induction d with
  | zero =>
    intro k c s i hc hi hs
    simp only [gharrylaw02_run.l0]
    rw [if_neg (by omega), List.drop_of_length_le (by simp; omega)]
    rfl
  | succ d ih =>
    intro k c s i hc hi hs
    have hlt : i < s.size := by omega
    rw [show k + 10 * (d + 1) + 1 = (k + 10 * d + 1) + 10 from by omega, run_byte _ c s i hc hlt hs]
    rw [ih k _ s (i + 1) (Ln_lt 8 (xor_lt32 hc (byte_lt _))) (by omega) hs]
    have hd : s.data.toList.drop i = (s[i]'hlt) :: s.data.toList.drop (i + 1) := by
      rw [List.drop_eq_getElem_cons (by simpa using hlt)]; rfl
    rw [hd, regN_cons]
/-- The law's register over a text. -/
theorem law_run (k c : Nat) (s : ByteArray) (hc : c < 4294967296) (hs : s.size ≤ 140737488351232) (hk : 10 * s.size + 1 ≤ k) :
    gharrylaw02_run.f k (c : Int) s = some ((regN c s.data.toList : Nat) : Int) := by
  obtain ⟨m, rfl⟩ : ∃ m, k = m + 10 * s.size + 1 := ⟨k - (10 * s.size + 1), by omega⟩
  have := run_from s.size m c s 0 hc (by omega) hs
  simpa [gharrylaw02_run.f] using this
theorem law_of (k : Nat) (s : ByteArray) (hs : s.size ≤ 140737488351232) (hk : 10 * s.size + 1 ≤ k) :
    gharrylaw02_of.f k s = some ((sumN s.data.toList : Nat) : Int) := by
  unfold gharrylaw02_of.f
  rw [show (4294967295 : Int) = ((4294967295 : Nat) : Int) from rfl, law_run k _ s (by omega) hs hk]
  simp only [Option.bind_some]
  have hl := regN_lt (c := 4294967295) s.data.toList (by omega)
  rw [xor64 _ _ (by omega) (by omega)]
  rfl
theorem sum_plain (s : ByteArray) (hs : s.size ≤ 9223372036854775807) : sum_Sum.f s = some ((sumN s.data.toList : Nat) : Int) := by
  unfold sum_Sum.f sum_run.f
  rw [if_pos ⟨by omega, by omega, hs⟩]
  simp only [Option.bind_some]
  have hl := regN_lt (c := 4294967295) s.data.toList (by omega)
  have hS := sumN_lt s.data.toList
  rw [show (4294967295 : Int).toNat = 4294967295 from rfl, show (4294967295 : Int) = ((4294967295 : Nat) : Int) from rfl, xor32 _ _ hl (by omega)]
  show some (wrap64 ((sumN s.data.toList : Nat) : Int)) = _
  rw [w64 (by omega) (by omega)]
theorem law_awake : gharrylaw02_awake.f = some true := by
  unfold gharrylaw02_awake.f
  rw [sum_plain _ (by decide)]
  simp only [Option.bind_some]
  rw [show sumN (⟨#[49, 50, 51, 52, 53, 54, 55, 56, 57]⟩ : ByteArray).data.toList = 3808858755 from sum_example]
  rfl
theorem cut_plain (s : ByteArray) : ∃ t, gharrylaw02_cut.f s = some t ∧ t.size ≤ 3000 := by
  unfold gharrylaw02_cut.f
  by_cases h : (s.size : Int) > 3000
  · rw [if_pos h, if_pos (by omega), if_pos (by omega)]
    exact ⟨_, rfl, by rw [ByteArray.size_extract]; omega⟩
  · rw [if_neg h]
    exact ⟨s, rfl, by omega⟩

end Go.Proofs.Ytnbfphjhhdkefaa.Pure
