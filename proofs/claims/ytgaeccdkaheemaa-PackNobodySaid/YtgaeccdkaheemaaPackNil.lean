/- A nil reader, and a nil writer, do nothing; no condition. The law's walk. -/
import Derived.Test.YtgaeccdkaheemaaLaw01Plain
import Derived.Test.YtgaeccdkaheemaaPackNum
import Derived.Test.YtgaeccdkaheemaaPackWr
import Derived.Laws.IdiomStrings
import Derived.Lib.Hide
namespace Go.Proofs.Ytgaeccdkaheemaa.PAll
open Go.RowKit Go.Proofs.YtgaeccdkaheemaaW.PrintWords Go.Proofs.YtgaeccdkaheemaaW.PrintLast Go.Proofs.YtgaeccdkaheemaaW.PrintMore
set_option linter.unusedVariables false
set_option linter.unusedSimpArgs false

theorem awake_any (w : World) : Calls Try.prog 11 #[] w fun e w' => e = .returned (.bool true) ∧ Below w.heap.size w w' := gharrylaw01_awake.calls 10 true w (Pure.law_awake 10 (by omega))
theorem nil_off (w : World) : Calls Try.prog 33 #[.pointer none] w fun e w' => e = .returned (.bool true) ∧ w = w' := by
  go_enter Try.func33, Try.ntmps33
  go_wp2
  go_ret
  exact ⟨rfl, rfl⟩
theorem nil_raw (n : Int) (w : World) : Calls Try.prog 18 #[.pointer none, .int .i64 n] w fun e w' => e = .returned (.string ⟨#[]⟩) ∧ w = w' := by
  go_enter Try.func18, Try.ntmps18
  go_wp2_with (go_at_call 33; (with_reducible refine (nil_off _).mono ?_); rintro e' w1 ⟨rfl, rfl⟩)
  go_ret
  exact ⟨rfl, rfl⟩
theorem nil_num (n : Int) (w : World) : Calls Try.prog 20 #[.pointer none, .int .i64 n] w fun e w' => e = .returned (.int .i64 0) ∧ Below w.heap.size w w' := by
  have hcv := fun w s => run_bytes_of_string (P := Try.prog) w 9 53 5 s Try.underlying9 Try.underlying53 Try.underlying5
  go_enter Try.func20, Try.ntmps20
  go_wp2_with (first | (go_at_call 33; (with_reducible refine (nil_off _).mono ?_); rintro e' w1 ⟨rfl, rfl⟩) | (go_at_call 18; (with_reducible refine (nil_raw _ _).mono ?_); rintro e' w1 ⟨rfl, rfl⟩))
  refine wp_loop_rounds 1 ?_
  rw [rounds_succ]
  go_wp2
  go_ret
  exact ⟨rfl, below_drew (below_alloc (Below.refl _ _) _)⟩
theorem nil_text (n : Int) (w : World) : Calls Try.prog 22 #[.pointer none, .int .i64 n] w fun e w' => e = .returned (.string ⟨#[]⟩) ∧ Below w.heap.size w w' := by
  go_enter Try.func22, Try.ntmps22
  go_wp2_with (first | (go_at_call 20; (with_reducible refine (nil_num _ _).mono ?_); rintro e' w1 ⟨rfl, hB1⟩) | (go_at_call 33; (with_reducible refine (nil_off _).mono ?_); rintro e' w1 ⟨rfl, rfl⟩) | (go_at_call 18; (with_reducible refine (nil_raw _ _).mono ?_); rintro e' w1 ⟨rfl, rfl⟩))
  go_ret
  exact ⟨rfl, hB1⟩
theorem nil_left (w : World) : Calls Try.prog 26 #[.pointer none] w fun e w' => e = .returned (.int .i64 0) ∧ w = w' := by
  go_enter Try.func26, Try.ntmps26
  go_wp2_with (go_at_call 33; (with_reducible refine (nil_off _).mono ?_); rintro e' w1 ⟨rfl, rfl⟩)
  go_ret
  exact ⟨rfl, rfl⟩
theorem nil_err (w : World) : Calls Try.prog 25 #[.pointer none] w fun e w' => e = .returned (.int .i64 11) ∧ w = w' := by
  go_enter Try.func25, Try.ntmps25
  go_wp2
  go_ret
  exact ⟨rfl, rfl⟩
theorem nil_end (w : World) : Calls Try.prog 24 #[.pointer none] w fun e w' => e = .returned (.int .i64 11) ∧ w = w' := by
  go_enter Try.func24, Try.ntmps24
  go_wp2_with (first | (go_at_call 26; (with_reducible refine (nil_left _).mono ?_); rintro e' w1 ⟨rfl, rfl⟩) | (go_at_call 25; (with_reducible refine (nil_err _).mono ?_); rintro e' w1 ⟨rfl, rfl⟩))
  go_ret
  exact ⟨rfl, rfl⟩
theorem nil_lay (fv : Value) (w : World) : Calls Try.prog 30 #[.pointer none, fv] w fun e w' => e = .returned (.tuple #[]) ∧ w = w' := by
  go_enter Try.func30, Try.ntmps30
  go_wp2
  refine bodyPost_ret (results_none rfl _ _ _) rfl ?_
  exact ⟨rfl, rfl⟩
theorem nil_wnum (a b : Int) (w : World) : Calls Try.prog 15 #[.pointer none, .int .i64 a, .int .i64 b] w fun e w' => e = .returned (.tuple #[]) ∧ Below w.heap.size w w' := by
  go_enter Try.func15, Try.ntmps15
  go_wp2_with (go_at_call 30; (with_reducible refine (nil_lay _ _).mono ?_); rintro e' w1 ⟨rfl, rfl⟩)
  go_end0
  exact ⟨rfl, below_alloc (below_alloc (Below.refl _ _) _) _⟩
theorem nil_wtext (s : ByteArray) (w : World) : Calls Try.prog 14 #[.pointer none, .string s] w fun e w' => e = .returned (.tuple #[]) ∧ Below w.heap.size w w' := by
  go_enter Try.func14, Try.ntmps14
  go_wp2_with (go_at_call 30; (with_reducible refine (nil_lay _ _).mono ?_); rintro e' w1 ⟨rfl, rfl⟩)
  go_end0
  exact ⟨rfl, below_alloc (Below.refl _ _) _⟩
theorem nil_all (w : World) : Calls Try.prog 16 #[.pointer none] w fun e w' => e = .returned (.tuple #[.string ⟨#[]⟩, .int .i64 11]) ∧ w = w' := by
  go_enter Try.func16, Try.ntmps16
  go_wp2
  go_ret2
  exact ⟨rfl, rfl⟩

theorem nobody_walk (n : Int) (s : ByteArray) (w : World) (_hn : (Lit.int .i64 n).wf = true) (_hs : s.size ≤ 140737488351232) :
    Calls Try.prog 7 #[.int .i64 n, .string s] w fun e w' => e = .returned (.bool true) ∧ Below w.heap.size w w' := by
  go_enter Try.func7, Try.ntmps7
  go_wp2_with (first
    | (go_at_call 15; (with_reducible refine (nil_wnum _ _ _).mono ?_); rintro e' w1 ⟨rfl, hB1⟩; have HB1 := Lib.hid hB1; clear hB1)
    | (go_at_call 14; (with_reducible refine (nil_wtext _ _).mono ?_); rintro e' w2 ⟨rfl, hB2⟩; have HB2 := Lib.hid hB2; clear hB2)
    | (go_at_call 16; (with_reducible refine (nil_all _).mono ?_); rintro e' w' ⟨rfl, rfl⟩)
    | (go_at_call 18; (with_reducible refine (nil_raw _ _).mono ?_); rintro e' w' ⟨rfl, rfl⟩)
    | (go_at_call 20; (with_reducible refine (nil_num _ _).mono ?_); rintro e' w3 ⟨rfl, hB3⟩; have HB3 := Lib.hid hB3; clear hB3)
    | (go_at_call 22; (with_reducible refine (nil_text _ _).mono ?_); rintro e' w4 ⟨rfl, hB4⟩; have HB4 := Lib.hid hB4; clear hB4)
    | (go_at_call 26; (with_reducible refine (nil_left _).mono ?_); rintro e' w' ⟨rfl, rfl⟩)
    | (go_at_call 25; (with_reducible refine (nil_err _).mono ?_); rintro e' w' ⟨rfl, rfl⟩)
    | (go_at_call 24; (with_reducible refine (nil_end _).mono ?_); rintro e' w' ⟨rfl, rfl⟩)
    | (go_at_call 11; (with_reducible refine (awake_any _).mono ?_); rintro e' w5 ⟨rfl, hB5⟩; have HB5 := Lib.hid hB5; clear hB5))
  go_ret
  exact ⟨rfl, below_step (below_step (below_step (below_step HB1.out HB2.out) HB3.out) HB4.out) HB5.out⟩
end Go.Proofs.Ytgaeccdkaheemaa.PAll
