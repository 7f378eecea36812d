/- Any text (cut to 3000 bytes) with its sum ahead, and that it is opened as it was; no condition. -/
import Derived.Test.YtnbfphjhhdkefaaSumOpen
import Derived.Test.YtnbfphjhhdkefaaPAllx4
namespace Go.Proofs.Ytnbfphjhhdkefaa.Pure
open Go.RowKit Go.Proofs.Ytnbfphjhhdkefaa.PAll Go.Proofs.Ytnbfphjhhdkefaa.Crc Go.Proofs.YtnbfphjhhdkefaaW.PrintWords Go.Proofs.YtnbfphjhhdkefaaW.PrintLast
set_option linter.unusedVariables false
set_option linter.unusedSimpArgs false

theorem SumSeals : gharrylaw02_SumSeals.Pure := by
  intro s0 hs0
  obtain ⟨s, ht, hl⟩ := cut_plain s0
  obtain ⟨k, hk⟩ : ∃ k, k = 10 * s.size + 10 := ⟨_, rfl⟩
  refine ⟨k, ?_⟩
  have hS := sumN_lt s.data.toList
  obtain ⟨n, hn⟩ : ∃ n, n = sumN s.data.toList := ⟨_, rfl⟩
  rw [← hn] at hS
  have hnl := nb_length 4 n
  obtain ⟨f, hf⟩ : ∃ f : ByteArray, f = ⟨(nb 4 n).toArray⟩ := ⟨_, rfl⟩
  have hfd : f.data.toList = nb 4 n := by rw [hf]
  have hfs : f.size = 4 := by rw [hf]; show (nb 4 n).toArray.size = 4; simp [hnl]
  have hempty : (⟨#[]⟩ : ByteArray) ++ f = f := by apply ba_ext; rw [ByteArray.data_append]; simp
  have hseal : sum_Seal.f k s = some (f ++ s) := by
    unfold sum_Seal.f
    rw [sum_plain s (by omega), Option.bind_some, ← hn, show (4 : Int) = ((4 : Nat) : Int) from rfl, put_ok k ⟨#[]⟩ n 4 (by omega) (by omega) (by omega) (by decide) (by omega), Option.bind_some, ← hf, hempty, if_pos (by show f.size + s.size ≤ _; omega)]
  have hfsz : (f ++ s).size = 4 + s.size := by rw [ByteArray.size_append, hfs]
  have hdata : (f ++ s).data.toList = nb 4 n ++ s.data.toList := by rw [ByteArray.data_append, Array.toList_append, hfd]
  have hopen : sum_Open.f (f ++ s) = some (s, 0) := by
    rw [open_plain _ (by omega), if_neg (by omega), hdata]
    have e1 : (nb 4 n ++ s.data.toList).take 4 = nb 4 n := by rw [List.take_append_of_le_length (by omega), List.take_of_length_le (by omega)]
    have e2 : (nb 4 n ++ s.data.toList).drop 4 = s.data.toList := by rw [List.drop_append_of_le_length (by omega), List.drop_of_length_le (by omega), List.nil_append]
    rw [e1, e2, be_nb 4 n (by omega), ← hn, if_pos rfl]
    congr 2
    apply ba_ext
    rw [Lib.extract_data, hdata, e2, List.take_of_length_le (by simp; omega)]
  unfold gharrylaw02_SumSeals.f
  rw [ht, Option.bind_some, hseal, Option.bind_some, hopen, Option.bind_some, law_of _ _ (by omega) (by omega), Option.bind_some, ← hn, four_plain n hS, Option.bind_some, ← hf]
  rw [if_pos (by omega), if_pos rfl, if_pos rfl, if_pos rfl, law_awake, Option.bind_some]
end Go.Proofs.Ytnbfphjhhdkefaa.Pure
