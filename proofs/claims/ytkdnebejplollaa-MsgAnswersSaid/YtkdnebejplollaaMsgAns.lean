/- The law MsgAnswers, walked by hand. -/
import Derived.Test.YtkdnebejplollaaMsgEq
import Derived.Test.YtkdnebejplollaaPAllx7
import Derived.Lib.Hide
namespace Go.Proofs.Ytkdnebejplollaa.PAll
open Go.RowKit Go.Proofs.YtkdnebejplollaaW.PrintWords Go.Proofs.YtkdnebejplollaaW.PrintLast Go.Proofs.YtkdnebejplollaaW.PrintMore
set_option linter.unusedVariables false
set_option linter.unusedSimpArgs false

theorem answer_any (a0 a1 a2 a3 a4 a5 a6 a7 a8 : Int) (a9 : ByteArray) (kind : Int) (w : World) : Calls Try.prog 13 #[.agg #[.int .i64 a0, .int .i64 a1, .int .i64 a2, .int .i64 a3, .int .i64 a4, .int .i64 a5, .int .i64 a6, .int .i64 a7, .int .i64 a8, .string a9], .int .i64 kind] w fun e w' => e = .returned (.agg #[.int .i64 kind, .int .i64 a2, .int .i64 a1, .int .i64 0, .int .i64 0, .int .i64 0, .int .i64 0, .int .i64 0, .int .i64 0, .string ⟨#[]⟩]) ∧ Below w.heap.size w w' :=
  msg_Answer.calls a0 a1 a2 a3 a4 a5 a6 a7 a8 a9 kind kind a2 a1 0 0 0 0 0 0 ⟨#[]⟩ w (by rfl)
set_option maxHeartbeats 4000000 in
set_option maxRecDepth 10000 in
theorem MsgAnswers.walk (a0 a1 a2 a3 a4 a5 a6 a7 a8 : Int) (a9 : ByteArray) (kind : Int) (w : World) (_hn : (Lit.int .i64 kind).wf = true) :
    Calls Try.prog 4 #[.agg #[.int .i64 a0, .int .i64 a1, .int .i64 a2, .int .i64 a3, .int .i64 a4, .int .i64 a5, .int .i64 a6, .int .i64 a7, .int .i64 a8, .string a9], .int .i64 kind] w fun e w' => e = .returned (.bool true) ∧ Below w.heap.size w w' := by
  have hu23 := Try.underlying23
  have heq := fun d w => eqA23 d w kind kind a2 a2 a1 a1 0 0 0 0 0 0 0 0 0 0 0 0 ⟨#[]⟩ ⟨#[]⟩
  have HX := Lib.hid (heap_alloc_new w (.cells #[.int .i64 a0, .int .i64 a1, .int .i64 a2, .int .i64 a3, .int .i64 a4, .int .i64 a5, .int .i64 a6, .int .i64 a7, .int .i64 a8, .string a9] 23))
  go_enter Try.func4, Try.ntmps4
  go_wp2_with (first
    | (go_at_call 13; (with_reducible refine (answer_any a0 a1 a2 a3 a4 a5 a6 a7 a8 a9 kind _).mono ?_); rintro e' w1 ⟨rfl, hB1⟩; have hx1 := (hB1.block w.heap.size (by simp)).trans HX.out; have hy1 := ((below_alloc (Below.refl _ _) (.cells #[.int .i64 kind, .int .i64 a2, .int .i64 a1, .int .i64 0, .int .i64 0, .int .i64 0, .int .i64 0, .int .i64 0, .int .i64 0, .string ⟨#[]⟩] 23)).block _ (blk_lt hx1)).trans hx1; have hc1 := (blk_cell hy1 1).trans rfl; have hc2 := (blk_cell hy1 2).trans rfl; have HB1 := Lib.hid (below_step (below_alloc (Below.refl _ _) _) hB1); clear hB1 hx1 hy1)
    | (go_at_call 10; (with_reducible refine (awake_any _).mono ?_); rintro e' w5 ⟨rfl, hB5⟩; have HB5 := Lib.hid hB5; clear hB5))
  go_ret
  exact ⟨rfl, below_step (below_alloc HB1.out _) HB5.out⟩
end Go.Proofs.Ytkdnebejplollaa.PAll
