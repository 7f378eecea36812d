/- The sum of a text goes on over another one, from any number; no condition. -/
import Derived.Test.YtnbfphjhhdkefaaSumPlain
import Derived.Test.YtnbfphjhhdkefaaPAllx2
namespace Go.Proofs.Ytnbfphjhhdkefaa.Pure
open Go.RowKit Go.Proofs.Ytnbfphjhhdkefaa.PAll Go.Proofs.Ytnbfphjhhdkefaa.Crc Go.Proofs.YtnbfphjhhdkefaaW.PrintWords Go.Proofs.YtnbfphjhhdkefaaW.PrintLast
set_option linter.unusedVariables false
set_option linter.unusedSimpArgs false

theorem and_low (n : Int) (h0 : -9223372036854775808 ≤ n) (h1 : n ≤ 9223372036854775807) : Go.bits .and .i64 n 4294967295 = n % 4294967296 := by
  show IntKind.i64.wrap ((BitVec.ofInt 64 n &&& BitVec.ofInt 64 4294967295).toNat : Int) = _
  rw [BitVec.toNat_and, show (BitVec.ofInt 64 4294967295).toNat = 2 ^ 32 - 1 from by decide, Nat.and_two_pow_sub_one_eq_mod, BitVec.toNat_ofInt, IntKind.wrap_i64]
  omega
theorem more_plain (n : Int) (s : ByteArray) (hs : s.size ≤ 9223372036854775807) (m : Nat) (hm : n % 4294967296 = (m : Int)) :
    sum_More.f n s = some ((regN (m ^^^ 4294967295) s.data.toList ^^^ 4294967295 : Nat) : Int) := by
  have hml : m < 4294967296 := by omega
  have hx : m ^^^ 4294967295 < 4294967296 := xor_lt32 hml (by omega)
  unfold sum_More.f sum_run.f
  rw [hm, show (4294967295 : Int) = ((4294967295 : Nat) : Int) from rfl, xor32 _ _ hml (by omega), if_pos ⟨by omega, by omega, hs⟩]
  simp only [Option.bind_some, Int.toNat_natCast]
  have hl := regN_lt s.data.toList hx
  have hl2 := xor_lt32 hl (show 4294967295 < 4294967296 by omega)
  rw [xor32 _ _ hl (by omega), w64 (by omega) (by omega)]

theorem SumMores : gharrylaw02_SumMores.Pure := by
  intro s t n hs ht hn
  simp [Lit.wf, IntKind.min, IntKind.max, IntKind.signed, IntKind.bits] at hn
  obtain ⟨s1, hs1, hl1⟩ := cut_plain s
  obtain ⟨t1, ht1, hl2⟩ := cut_plain t
  have hst : (s1 ++ t1).size ≤ 6000 := by rw [ByteArray.size_append]; omega
  obtain ⟨k, hk⟩ : ∃ k, k = 10 * (s1 ++ t1).size + 10 * t1.size + 1 := ⟨_, rfl⟩
  refine ⟨k, ?_⟩
  unfold gharrylaw02_SumMores.f
  rw [hs1]; rw [Option.bind_some]
  rw [ht1]; rw [Option.bind_some]
  rw [sum_plain s1 (by omega)]; rw [Option.bind_some]
  have hS := sumN_lt s1.data.toList
  rw [more_plain _ t1 (by omega) (sumN s1.data.toList) (by omega)]; rw [Option.bind_some]
  rw [if_pos (by omega), law_of _ _ (by omega) (by omega)]; rw [Option.bind_some]
  have e : regN (sumN s1.data.toList ^^^ 4294967295) t1.data.toList ^^^ 4294967295 = sumN (s1 ++ t1).data.toList := by
    rw [sum_more, ByteArray.data_append, Array.toList_append]
  rw [e, if_pos rfl]
  obtain ⟨m, hm⟩ := Int.eq_ofNat_of_zero_le (show 0 ≤ n % 4294967296 by omega)
  have hml : m < 4294967296 := by omega
  rw [more_plain n t1 (by omega) m hm]; rw [Option.bind_some]
  rw [and_low n (by omega) (by omega), hm, show (4294967295 : Int) = ((4294967295 : Nat) : Int) from rfl, xor64 _ _ (by omega) (by omega)]
  have hx : m ^^^ 4294967295 < 4294967296 := xor_lt32 hml (by omega)
  rw [law_run _ _ t1 hx (by omega) (by omega)]; rw [Option.bind_some]
  have hl := regN_lt t1.data.toList hx
  rw [xor64 _ _ (by omega) (by omega), if_pos rfl, law_awake]
  rfl
end Go.Proofs.Ytnbfphjhhdkefaa.Pure
