/- Any text behind any other one, or that it is too long; no condition. -/
import Derived.Test.YtgaeccdkaheemaaLaw01Plain
import Derived.Test.YtgaeccdkaheemaaPAllx2
namespace Go.Proofs.Ytgaeccdkaheemaa.Pure
open Go.RowKit Go.Proofs.Ytgaeccdkaheemaa.PAll Go.Proofs.YtgaeccdkaheemaaW.PrintWords Go.Proofs.YtgaeccdkaheemaaW.PrintLast
set_option linter.unusedVariables false
set_option linter.unusedSimpArgs false

theorem PackTexts : gharrylaw01_PackTexts.Pure := by
  intro s t hs ht
  obtain ⟨k, hk⟩ : ∃ k : Nat, 10 ≤ k := ⟨10, Nat.le_refl _⟩
  refine ⟨k, ?_⟩
  obtain ⟨r, h1, h2, _⟩ := text_same k s t (by omega) (by omega) hk
  unfold gharrylaw01_PackTexts.f
  rw [h1, Option.bind_some, h2, Option.bind_some, if_pos rfl, if_pos rfl, law_awake k hk, Option.bind_some]
end Go.Proofs.Ytgaeccdkaheemaa.Pure
