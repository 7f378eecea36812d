/- The document's Body, of any record. -/
import Derived.Test.YtdphikbkknkhiaaRecRefBody
namespace Go.Proofs.Ytdphikbkknkhiaa.PAll
open Go.RowKit Go.Proofs.Ytdphikbkknkhiaa.Pure Go.Proofs.YtdphikbkknkhiaaW.PrintWords Go.Proofs.YtdphikbkknkhiaaW.PrintLast Go.Proofs.YtdphikbkknkhiaaW.PrintMore
set_option linter.unusedVariables false
set_option linter.unusedSimpArgs false

theorem clean_cut (r : RV) : 7 ≤ (cleanR r).kind → (cleanR r).kind ≤ 10 → cutE (cleanR r).key (cleanR r).old (cleanR r).new = 0 := by
  have hk : (cleanR r).kind = r.kind := by
    unfold cleanR tidyR zeroR
    split <;> (try rfl) <;> split <;> (try rfl) <;> split <;> (try rfl) <;> split <;> (try rfl) <;> split <;> (try rfl) <;> split <;> rfl
  intro h7 h10
  rw [hk] at h7 h10
  unfold cleanR
  rw [if_neg (by omega), if_neg (by omega), if_neg (by omega)]
  split
  · rfl
  · split
    · rfl
    · split <;> rfl
theorem refbody_calls (r : RV) (li : List S36) (lt : List S55) (w : World) (h : RRow w r li lt) (hli : li.length ≤ 300) (hlt : lt.length ≤ 300) :
    Calls Try.prog 11 #[.agg r.cs] w fun e' w' => e' = .returned (.tuple #[.string (cbodyP r li lt).1, .int .i64 (cbodyP r li lt).2]) ∧ Below w.heap.size w w' := by
  have hc := h.clean
  have hq1 := Nat.le_trans (cleanI_le r li) hli
  have hq2 := Nat.le_trans (cleanT_le r lt) hlt
  have hz := clean_cut r
  unfold cbodyP
  generalize cleanI r li = l1 at *
  generalize cleanT r lt = l2 at *
  generalize hq : cleanR r = q at *
  obtain ⟨kind, txn, prev, page, act, key, old, new_, next, ⟨iA, in_, ic⟩, ⟨tA, tn, tc⟩, epoch, node⟩ := q
  obtain ⟨a1, a2, a3, a4, a5, a6⟩ := hc
  simp only at a1 a2 a3 a4 a5 a6 hz
  subst a2 a5
  exact refbody_walk kind txn prev page act key old new_ next iA ic l1 tA tc l2 epoch node r hq w hq1 hq2 a3 a6 a1 a4 hz
end Go.Proofs.Ytdphikbkknkhiaa.PAll
