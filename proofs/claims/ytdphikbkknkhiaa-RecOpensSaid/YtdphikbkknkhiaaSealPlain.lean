/- Plain: sum.Sum, sum.Seal, sum.Open. No memory in sight. -/
import Derived.Test.YtdphikbkknkhiaaPackPlain
import Derived.Test.YtdphikbkknkhiaaPAllx4
import Derived.Test.YtdphikbkknkhiaaPAllx9
import Derived.Lib.Strings
namespace Go.Proofs.Ytdphikbkknkhiaa.Pure
open Go.RowKit Go.Proofs.Ytdphikbkknkhiaa.PAll Go.Proofs.Ytdphikbkknkhiaa.Crc Go.Proofs.YtdphikbkknkhiaaW.PrintWords Go.Proofs.YtdphikbkknkhiaaW.PrintLast
set_option linter.unusedVariables false
set_option linter.unusedSimpArgs false

theorem ba_ext {a b : ByteArray} (h : a.data.toList = b.data.toList) : a = b := by
  cases a with | mk a => cases b with | mk b => simp only at h; rw [Array.toList_inj.1 h]
theorem nb_sz (k n : Nat) : (⟨(nb k n).toArray⟩ : ByteArray).size = k := by show (nb k n).toArray.size = k; simp [nb_length]
theorem xor64 (a b : Nat) (ha : a < 9223372036854775808) (hb : b < 9223372036854775808) : Go.bits .xor .i64 (a : Int) (b : Int) = ((a ^^^ b : Nat) : Int) := by
  have hx : a ^^^ b < 2 ^ 63 := Nat.xor_lt_two_pow (by omega) (by omega)
  show IntKind.i64.wrap ((BitVec.ofInt 64 (a : Int) ^^^ BitVec.ofInt 64 (b : Int)).toNat : Int) = _
  rw [BitVec.toNat_xor, BitVec.ofInt_natCast, BitVec.ofInt_natCast, BitVec.toNat_ofNat, BitVec.toNat_ofNat, Nat.mod_eq_of_lt (by omega), Nat.mod_eq_of_lt (by omega), IntKind.wrap_i64]
  omega
theorem w64 {n : Int} (h0 : -9223372036854775808 ≤ n) (h1 : n ≤ 9223372036854775807) : wrap64 n = n := by unfold wrap64; omega
theorem sum_plain (s : ByteArray) (hs : s.size ≤ 9223372036854775807) : sum_Sum.f s = some ((sumN s.data.toList : Nat) : Int) := by
  unfold sum_Sum.f sum_run.f
  rw [if_pos ⟨by omega, by omega, hs⟩]
  simp only [Option.bind_some]
  have hl := regN_lt (c := 4294967295) s.data.toList (by omega)
  have hS := sumN_lt s.data.toList
  rw [show (4294967295 : Int).toNat = 4294967295 from rfl, show (4294967295 : Int) = ((4294967295 : Nat) : Int) from rfl, xor32 _ _ hl (by omega)]
  show some (wrap64 ((sumN s.data.toList : Nat) : Int)) = _
  rw [w64 (by omega) (by omega)]
theorem num4 (s : ByteArray) (h4 : 4 ≤ s.size) (hs : s.size ≤ 1152921504606846976) : pack_Reader_Num.f s 0 0 4 = some (be (s.data.toList.take 4), s, 4, 0) := by
  unfold pack_Reader_Num.f
  rw [if_pos rfl, if_neg (by omega), if_neg (by omega), if_neg (by omega)]
  rw [show (0 : Int).toNat = 0 from rfl, show ((0 : Int) + 4).toNat = 4 from rfl, Lib.extract_data]
  rfl
theorem open_plain (s : ByteArray) (hs : s.size ≤ 1152921504606846976) : sum_Open.f s =
    if s.size < 4 then some (⟨#[]⟩, 2) else if be (s.data.toList.take 4) = ((sumN (s.data.toList.drop 4) : Nat) : Int) then some (s.extract 4 s.size, 0) else some (⟨#[]⟩, 5) := by
  unfold sum_Open.f
  by_cases h : s.size < 4
  · rw [if_pos (by omega), if_pos h]
  · rw [if_neg (by omega), if_neg h]
    unfold pack_Read.f
    rw [Option.bind_some, num4 s (by omega) hs, Option.bind_some, if_pos (by omega), sum_plain _ (by rw [ByteArray.size_extract]; omega), Option.bind_some]
    rw [Lib.extract_data, List.take_of_length_le (l := s.data.toList.drop 4) (i := s.size - 4) (by simp)]
/-- A text with its sum ahead. -/
def sealed (s : ByteArray) : ByteArray := ⟨(nb 4 (sumN s.data.toList)).toArray⟩ ++ s
theorem sealed_size (s : ByteArray) : (sealed s).size = 4 + s.size := by unfold sealed; rw [ByteArray.size_append, nb_sz]
theorem seal_plain (k : Nat) (s : ByteArray) (hs : s.size ≤ 1152921504606846976) (hk : 8 ≤ k) : sum_Seal.f k s = some (sealed s) := by
  have hS := sumN_lt s.data.toList
  have hempty : ∀ f : ByteArray, (⟨#[]⟩ : ByteArray) ++ f = f := fun f => by apply ba_ext; rw [ByteArray.data_append]; simp
  unfold sum_Seal.f sealed
  rw [sum_plain s (by omega), Option.bind_some, show (4 : Int) = ((4 : Nat) : Int) from rfl, put_ok k ⟨#[]⟩ (sumN s.data.toList) 4 (by omega) (by omega) (by omega) (by decide) (by omega), Option.bind_some, hempty]
  rw [if_pos (by show ByteArray.size _ + s.size ≤ _; rw [nb_sz]; omega)]
theorem open_sealed (s : ByteArray) (hs : s.size ≤ 1152921504606846900) : sum_Open.f (sealed s) = some (s, 0) := by
  have hS := sumN_lt s.data.toList
  have hfsz := sealed_size s
  have hdata : (sealed s).data.toList = nb 4 (sumN s.data.toList) ++ s.data.toList := by unfold sealed; rw [ByteArray.data_append, Array.toList_append]
  have hnl := nb_length 4 (sumN s.data.toList)
  rw [open_plain _ (by omega), if_neg (by omega), hdata]
  have e1 : (nb 4 (sumN s.data.toList) ++ s.data.toList).take 4 = nb 4 (sumN s.data.toList) := by rw [List.take_append_of_le_length (by omega), List.take_of_length_le (by omega)]
  have e2 : (nb 4 (sumN s.data.toList) ++ s.data.toList).drop 4 = s.data.toList := by rw [List.drop_append_of_le_length (by omega), List.drop_of_length_le (by omega), List.nil_append]
  rw [e1, e2, be_nb 4 _ (by omega), if_pos rfl]
  congr 2
  apply ba_ext
  rw [Lib.extract_data, hdata, e2, List.take_of_length_le (by simp; omega)]
end Go.Proofs.Ytdphikbkknkhiaa.Pure
