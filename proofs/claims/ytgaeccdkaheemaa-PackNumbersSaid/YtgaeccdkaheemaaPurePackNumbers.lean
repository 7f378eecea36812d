/- Any number behind any text, or why it has no room; no condition. -/
import Derived.Test.YtgaeccdkaheemaaLaw01Plain
import Derived.Test.YtgaeccdkaheemaaPAllx1
namespace Go.Proofs.Ytgaeccdkaheemaa.Pure
open Go.RowKit Go.Proofs.Ytgaeccdkaheemaa.PAll Go.Proofs.YtgaeccdkaheemaaW.PrintWords Go.Proofs.YtgaeccdkaheemaaW.PrintLast
set_option linter.unusedVariables false
set_option linter.unusedSimpArgs false

theorem PackNumbers : gharrylaw01_PackNumbers.Pure := by
  intro s n w hs _ _
  obtain ⟨k, hk⟩ : ∃ k : Nat, 10 ≤ k := ⟨10, Nat.le_refl _⟩
  refine ⟨k, ?_⟩
  obtain ⟨r, h1, h2, _⟩ := put_same k s n w (by omega) hk
  unfold gharrylaw01_PackNumbers.f
  rw [h1, Option.bind_some, h2, Option.bind_some, if_pos rfl, if_pos rfl, law_awake k hk, Option.bind_some]
end Go.Proofs.Ytgaeccdkaheemaa.Pure
