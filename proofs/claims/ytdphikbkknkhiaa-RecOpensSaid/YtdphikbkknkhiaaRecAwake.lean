/- The law's awake: chapter 7's example. -/
import Derived.Test.YtdphikbkknkhiaaRecFrame
namespace Go.Proofs.Ytdphikbkknkhiaa.PAll
open Go.RowKit Go.Proofs.Ytdphikbkknkhiaa.Pure Go.Proofs.YtdphikbkknkhiaaW.PrintWords Go.Proofs.YtdphikbkknkhiaaW.PrintLast Go.Proofs.YtdphikbkknkhiaaW.PrintMore
set_option linter.unusedVariables false
set_option linter.unusedSimpArgs false

def rv753 : RV := ⟨7, 5, 3, 0, 0, ⟨#[]⟩, ⟨#[]⟩, ⟨#[]⟩, 0, ⟨none, 0, 0⟩, ⟨none, 0, 0⟩, 0, 0⟩
theorem body753 : (bodyP rv753 [] []).2 = 0 ∧ (bodyP rv753 [] []).1.size = 13 := by decide +kernel
theorem frame753 : (frameP rv753 [] []).2 = 0 ∧ (frameP rv753 [] []).1.size = 19 := by
  have h : cbodyP rv753 [] [] = bodyP rv753 [] [] := rfl
  unfold frameP
  rw [h, if_neg (by rw [body753.1]; decide)]
  refine ⟨rfl, ?_⟩
  show ((⟨(nb 2 (bodyP rv753 [] []).1.size).toArray⟩ : ByteArray) ++ sealed (bodyP rv753 [] []).1).size = 19
  rw [ByteArray.size_append, nb_szI, sealed_size, body753.2]

set_option maxHeartbeats 4000000 in
theorem awake_calls (w : World) : Calls Try.prog 12 #[] w fun e w' => e = .returned (.bool true) ∧ Below w.heap.size w w' := by
  obtain ⟨s, hs⟩ : ∃ s, s = (frameP rv753 [] []).1 := ⟨_, rfl⟩
  have hf := frame_walk 7 5 3 0 0 ⟨#[]⟩ ⟨#[]⟩ ⟨#[]⟩ 0 none 0 0 none 0 0 0 0 [] [] w ⟨Kd.C_nil k36 w, rfl, Nat.le_refl _, Kd.C_nil k55 w, rfl, Nat.le_refl _⟩ (by simp) (by simp)
  have hf2 : Calls Try.prog 10 #[.agg #[.int .i64 7, .int .i64 5, .int .i64 3, .int .i64 0, .int .i64 0, .string ⟨#[]⟩, .string ⟨#[]⟩, .string ⟨#[]⟩, .int .i64 0, .slice none 0 0, .slice none 0 0, .int .i64 0, .int .i64 0]] w fun e' w' => e' = .returned (.tuple #[.string s, .int .i64 0]) ∧ Below w.heap.size w w' := by
    have e := frame753.1
    show Calls Try.prog 10 _ w fun e' w' => e' = .returned (.tuple #[.string s, .int .i64 0]) ∧ Below w.heap.size w w'
    rw [hs, ← e]
    exact hf
  have hz : s.size = 19 := by rw [hs]; exact frame753.2
  have d1 : ((s.size : Int) == 19) = true := by simp; omega
  have d2 : (s.size == 19) = true := by simp; omega
  have HF := Lib.hid hf2
  clear hf hf2 hs
  go_enter Try.func12, Try.ntmps12
  go_wp2_with (go_at_call 10; (with_reducible refine HF.out.mono ?_); rintro e' w1 ⟨rfl, hB1⟩; have HB1 := Lib.hid hB1; clear hB1)
  go_ret
  exact ⟨rfl, HB1.out⟩
end Go.Proofs.Ytdphikbkknkhiaa.PAll
