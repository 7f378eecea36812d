/- What stands behind its sum in any bytes (cut to 3000), or why nothing does; no condition. -/
import Derived.Test.YtnbfphjhhdkefaaSumOpen
namespace Go.Proofs.Ytnbfphjhhdkefaa.Pure
open Go.RowKit Go.Proofs.Ytnbfphjhhdkefaa.PAll Go.Proofs.Ytnbfphjhhdkefaa.Crc Go.Proofs.YtnbfphjhhdkefaaW.PrintWords Go.Proofs.YtnbfphjhhdkefaaW.PrintLast
set_option linter.unusedVariables false
set_option linter.unusedSimpArgs false

theorem SumOpens : gharrylaw02_SumOpens.Pure := by
  intro s0 hs0
  obtain ⟨s, ht, hl⟩ := cut_plain s0
  refine ⟨10 * s.size + 1, ?_⟩
  unfold gharrylaw02_SumOpens.f
  rw [ht, Option.bind_some, open_plain s (by omega)]
  by_cases h : s.size < 4
  · rw [if_pos h, Option.bind_some, if_pos (by omega), if_pos empty_list, if_pos rfl, law_awake, Option.bind_some]
  · have hsz : (s.extract 4 s.size).size ≤ s.size := by rw [ByteArray.size_extract]; omega
    have hd : (s.extract 4 s.size).data.toList = s.data.toList.drop 4 := by rw [Lib.extract_data, List.take_of_length_le (by simp)]
    rw [if_neg h]
    have hS := sumN_lt (s.data.toList.drop 4)
    have hiff := take_nb s (by omega) _ hS
    have hlist : ((s.extract 0 4).toList = (⟨(nb 4 (sumN (s.data.toList.drop 4))).toArray⟩ : ByteArray).toList) ↔ s.data.toList.take 4 = nb 4 (sumN (s.data.toList.drop 4)) := by
      rw [Lib.toList_data, Lib.toList_data, Lib.extract_data]
      simp
    by_cases he : be (s.data.toList.take 4) = ((sumN (s.data.toList.drop 4) : Nat) : Int)
    · rw [if_pos he, Option.bind_some, if_neg (by omega), if_pos (by omega), if_pos (by omega), law_of _ _ (by omega) (by omega), Option.bind_some, hd, four_plain _ hS, Option.bind_some]
      rw [if_pos (hlist.2 (hiff.1 he)), if_pos rfl, if_pos rfl, law_awake, Option.bind_some]
    · rw [if_neg he, Option.bind_some, if_neg (by omega), if_pos (by omega), if_pos (by omega), law_of _ _ (by omega) (by omega), Option.bind_some, hd, four_plain _ hS, Option.bind_some]
      rw [if_neg (fun e => he (hiff.2 (hlist.1 e))), if_pos empty_list, if_pos rfl, law_awake, Option.bind_some]
end Go.Proofs.Ytnbfphjhhdkefaa.Pure
