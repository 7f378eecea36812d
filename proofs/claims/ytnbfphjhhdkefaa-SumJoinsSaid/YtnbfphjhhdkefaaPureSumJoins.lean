/- Two sums are joined to that of both texts, and any two numbers as the document says, or that they can't be; no condition. -/
import Derived.Test.YtnbfphjhhdkefaaSumPlain
import Derived.Test.YtnbfphjhhdkefaaPAllx5
namespace Go.Proofs.Ytnbfphjhhdkefaa.Pure
open Go.RowKit Go.Proofs.Ytnbfphjhhdkefaa.PAll Go.Proofs.Ytnbfphjhhdkefaa.Crc Go.Proofs.YtnbfphjhhdkefaaW.PrintWords Go.Proofs.YtnbfphjhhdkefaaW.PrintLast
set_option linter.unusedVariables false
set_option linter.unusedSimpArgs false

theorem zeros_str (n : Nat) : (strOfNums (List.replicate n 0)).data.toList = List.replicate n 0 := by
  rw [strOfNums_data]
  simp
theorem joins_tail (k : Nat) (a b n : Int) (hn : -9223372036854775808 ≤ n ∧ n ≤ 9223372036854775807) (hk : 4100 ≤ k) :
    gharrylaw02_SumJoins.j0 k a b n false = some true := by
  obtain ⟨m, rfl⟩ : ∃ m, k = m + 1 + 1 := ⟨k - 2, by omega⟩
  simp only [gharrylaw02_SumJoins.j0]
  rw [if_neg (by simp)]
  by_cases h4 : n > 400
  · rw [if_pos h4, law_awake, Option.bind_some]
  · rw [if_neg h4]
    have bad : (a < 0 ∨ 4294967295 < a ∨ b < 0 ∨ 4294967295 < b ∨ n < 0) → sum_Join.f a b n = some (0, 1) := fun h => by
      unfold sum_Join.f
      rw [if_pos hn.2, if_pos h]
    have badj : gharrylaw02_SumJoins.j1 (m + 1) a b n 0 1 true = some true := by
      simp only [gharrylaw02_SumJoins.j1]
      rw [if_pos trivial, if_pos trivial, if_pos trivial, law_awake, Option.bind_some]
    by_cases h1 : a < 0
    · rw [bad (by omega), Option.bind_some, if_pos h1]; exact badj
    · by_cases h2 : a > 4294967295
      · rw [bad (by omega), Option.bind_some, if_neg h1, if_pos h2]; exact badj
      · by_cases h3 : b < 0
        · rw [bad (by omega), Option.bind_some, if_neg h1, if_neg h2, if_pos h3]; exact badj
        · by_cases h5 : b > 4294967295
          · rw [bad (by omega), Option.bind_some, if_neg h1, if_neg h2, if_neg h3, if_pos h5]; exact badj
          · by_cases h6 : n < 0
            · rw [bad (by omega), Option.bind_some, if_neg h1, if_neg h2, if_neg h3, if_neg h5, decide_eq_true h6]; exact badj
            · obtain ⟨a, rfl⟩ := Int.eq_ofNat_of_zero_le (show 0 ≤ a by omega)
              obtain ⟨b, rfl⟩ := Int.eq_ofNat_of_zero_le (show 0 ≤ b by omega)
              obtain ⟨n, rfl⟩ := Int.eq_ofNat_of_zero_le (show 0 ≤ n by omega)
              have hj : sum_Join.f (a : Int) (b : Int) (n : Int) = some (((Ln (8 * n) a ^^^ b : Nat) : Int), 0) := by
                unfold sum_Join.f
                rw [if_pos hn.2, if_neg (by omega)]
                simp only [Int.toNat_natCast]
              rw [hj, Option.bind_some, if_neg h1, if_neg h2, if_neg h3, if_neg h5, decide_eq_false h6]
              simp only [gharrylaw02_SumJoins.j1]
              have hsz : (strOfNums (List.replicate n 0)).size = n := by rw [strOfNums_size]; simp
              have hx : a ^^^ 4294967295 < 4294967296 := xor_lt32 (by omega) (by omega)
              rw [if_neg (by simp), if_pos (by omega), if_pos (by omega), Option.bind_some]
              rw [show ((n : Int)).toNat = n from by simp, show (4294967295 : Int) = ((4294967295 : Nat) : Int) from rfl, xor64 _ _ (by omega) (by omega)]
              rw [law_run m _ _ hx (by omega) (by omega), Option.bind_some, law_of m _ (by omega) (by omega), Option.bind_some, zeros_str]
              have hl := regN_lt (List.replicate n 0) hx
              have hl2 := xor_lt32 hl (show 4294967295 < 4294967296 by omega)
              have hS := sumN_lt (List.replicate n 0)
              have hl3 := xor_lt32 hl2 hS
              rw [xor64 _ _ (by omega) (by omega), xor64 _ _ (by omega) (by omega), xor64 _ _ (by omega) (by omega), join_any]
              rw [if_pos rfl, if_pos trivial, law_awake, Option.bind_some]

theorem SumJoins : gharrylaw02_SumJoins.Pure := by
  intro s0 t0 a b n hs ht ha hb hn
  simp [Lit.wf, IntKind.min, IntKind.max, IntKind.signed, IntKind.bits] at hn
  obtain ⟨s, hs1, hl1⟩ := cut_plain s0
  obtain ⟨t, ht1, hl2⟩ := cut_plain t0
  have hst : (s ++ t).size ≤ 6000 := by rw [ByteArray.size_append]; omega
  obtain ⟨k, hk⟩ : ∃ k, k = 10 * (s ++ t).size + 4100 := ⟨_, rfl⟩
  refine ⟨k, ?_⟩
  have hS := sumN_lt s.data.toList
  have hT := sumN_lt t.data.toList
  unfold gharrylaw02_SumJoins.f
  rw [hs1, Option.bind_some, ht1, Option.bind_some, sum_plain s (by omega), Option.bind_some, sum_plain t (by omega), Option.bind_some]
  have hj : sum_Join.f ((sumN s.data.toList : Nat) : Int) ((sumN t.data.toList : Nat) : Int) (t.size : Int) = some (((sumN (s ++ t).data.toList : Nat) : Int), 0) := by
    unfold sum_Join.f
    rw [if_pos (by omega), if_neg (by omega)]
    simp only [Int.toNat_natCast]
    have := sum_join s.data.toList t.data.toList
    rw [ByteArray.data_append, Array.toList_append, ← this, show t.data.toList.length = t.size from by simp]
  rw [hj, Option.bind_some, if_pos rfl, if_pos (by omega), law_of k _ (by omega) (by omega), Option.bind_some]
  rw [show ((((sumN (s ++ t).data.toList : Nat) : Int), (0 : Int)).1 != ((sumN (s ++ t).data.toList : Nat) : Int)) = false from by simp]
  exact joins_tail k a b n hn (by omega)
end Go.Proofs.Ytnbfphjhhdkefaa.Pure
