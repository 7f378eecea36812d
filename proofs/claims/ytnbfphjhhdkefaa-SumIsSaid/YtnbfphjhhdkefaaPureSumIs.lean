/- For every text (cut to 3000 bytes) sum.Sum is the sum that the law reckons bit by bit; no condition. -/
import Derived.Test.YtnbfphjhhdkefaaSumPlain
namespace Go.Proofs.Ytnbfphjhhdkefaa.Pure
open Go.RowKit Go.Proofs.Ytnbfphjhhdkefaa.PAll Go.Proofs.Ytnbfphjhhdkefaa.Crc Go.Proofs.YtnbfphjhhdkefaaW.PrintWords Go.Proofs.YtnbfphjhhdkefaaW.PrintLast
set_option linter.unusedVariables false
set_option linter.unusedSimpArgs false

theorem SumIs : gharrylaw02_SumIs.Pure := by
  intro s hs
  obtain ⟨t, ht, hl⟩ := cut_plain s
  refine ⟨10 * t.size + 1, ?_⟩
  unfold gharrylaw02_SumIs.f
  rw [ht]; simp only [Option.bind_some]
  rw [sum_plain t (by omega)]; simp only [Option.bind_some]
  rw [law_of _ t (by omega) (Nat.le_refl _)]; simp only [Option.bind_some]
  rw [if_pos trivial, law_awake]
  rfl
end Go.Proofs.Ytnbfphjhhdkefaa.Pure
