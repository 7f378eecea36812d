/- The law RecOpens: a length that is none. -/
import Derived.Test.YtdphikbkknkhiaaRecOpensP
namespace Go.Proofs.Ytdphikbkknkhiaa.PAll
open Go.RowKit Go.Proofs.Ytdphikbkknkhiaa.Pure Go.Proofs.YtdphikbkknkhiaaW.PrintWords Go.Proofs.YtdphikbkknkhiaaW.PrintLast Go.Proofs.YtdphikbkknkhiaaW.PrintMore
set_option linter.unusedVariables false
set_option linter.unusedSimpArgs false

set_option maxHeartbeats 8000000 in
set_option maxRecDepth 10000 in
theorem opens_more (s S : ByteArray) (hS : CutTo s S) (hz : S.size ≤ 1000) (m : Nat) (hm : m + 6 ≤ S.size) (n : Int) (hn : 256 * bt S (m : Int) + bt S ((m : Int) + 1) = n) (h0 : 1 ≤ n) (h1 : 4096 < n) (w : World) :
    Calls Try.prog 8 #[.string s, .int .i64 m] w fun e w' => e = .returned (.bool true) ∧ Below w.heap.size w w' := by
  have hu25 := Try.underlying25
  have d1 : decide ((m : Int) < 0) = false := by simp
  have d2 : decide ((S.size : Int) < (m : Int)) = false := by simp; omega
  have d2b : decide (S.size < m) = false := by simp; omega
  have w1 : IntKind.i64.wrap ((S.size : Int) - (m : Int)) = (S.size : Int) - (m : Int) := by rw [i64_w]; unfold wrap64; omega
  have d3 : decide ((S.size : Int) - (m : Int) < 6) = false := by simp; omega
  have hu6 : 6 ≤ (S.extract m S.size).size := by rw [ByteArray.size_extract]; omega
  have hzu : ((S.extract m S.size).size : Int) = (S.size : Int) - m := by rw [ByteArray.size_extract]; omega
  have hnum := num2_at S m hm
  have r0 := bt_range S (m : Int)
  have r1 := bt_range S ((m : Int) + 1)
  have i0 : (0 : Int) ≤ (m : Int) := by omega
  have i1 : (m : Int) < (S.size : Int) := by omega
  have i2 : (0 : Int) ≤ (m : Int) + 1 := by omega
  have i3 : (m : Int) + 1 < (S.size : Int) := by omega
  have i4 : m < S.size := by omega
  have i5 : m + 1 < S.size := by omega
  have q0 : ((S[m]'i4).toNat : Int) = bt S (m : Int) := bt_at S (m : Int) i4
  have q1 : ((S[m + 1]'i5).toNat : Int) = bt S ((m : Int) + 1) := by
    have e : ((m : Int) + 1) = ((m + 1 : Nat) : Int) := by omega
    rw [e]
    exact bt_at S ((m + 1 : Nat) : Int) i5
  generalize bt S (m : Int) = b0 at *
  generalize bt S ((m : Int) + 1) = b1 at *
  have w2 : IntKind.i64.wrap ((m : Int) + 1) = (m : Int) + 1 := by rw [i64_w]; unfold wrap64; omega
  have w3 : IntKind.i64.wrap b0 = b0 := by rw [i64_w]; unfold wrap64; omega
  have w4 : IntKind.i64.wrap b1 = b1 := by rw [i64_w]; unfold wrap64; omega
  have w5 : IntKind.i64.wrap (256 * b0) = 256 * b0 := by rw [i64_w]; unfold wrap64; omega
  have w6 : IntKind.i64.wrap (256 * b0 + b1) = n := by rw [hn, i64_w]; unfold wrap64; omega
  have v6 : wrap64 (256 * b0 + b1) = n := by rw [hn]; unfold wrap64; omega
  rw [hn] at hnum
  have HO := Lib.hid (bad_out (open_more S m (by omega) (by omega) _ rfl hu6 _ _ _ hnum h0 h1))
  have d4 : decide (n < 1) = false := by simp; omega
  have d5 : decide (4096 < n) = true := by simpa using h1
  clear h0
  clear hm h1 hz hnum r0 r1 hzu hu6 hn
  rcases hS with ⟨d0, d0b, d0c, d0d, hS⟩ | ⟨d0, d0b, rfl⟩
  all_goals (
    go_enter Try.func8, Try.ntmps8
    go_wp2_with (first
      | (go_at_call 19; (with_reducible refine (HO.out _).mono ?_); rintro e' w5 ⟨q2, rfl, hsv, hrow, hB5⟩; have HSV := Lib.hid (show SameV q2 (zeroR 0) from hsv); have HRW := Lib.hid (show RRow w5 q2 [] [] from hrow); have HB5 := Lib.hid hB5; clear hsv hrow hB5)
      | (refine wpList_store_row rfl 25 _ _ rfl w5.heap.size q2.cs rfl rfl 25 _ (heap_alloc_new w5 _) (hinfo25 q2) rfl (rv_one _) ?_; have hb6 := setRow_below (below_step HB5.out (below_alloc (Below.refl _ _) (.cells #[.int .i64 0, .int .i64 0, .int .i64 0, .int .i64 0, .int .i64 0, .string ⟨#[]⟩, .string ⟨#[]⟩, .string ⟨#[]⟩, .int .i64 0, .slice none 0 0, .slice none 0 0, .int .i64 0, .int .i64 0] 25))) HB5.out.size q2.cs; have hx6 := blk_alloc (set_new (cs' := q2.cs) (heap_alloc_new w5 (.cells #[.int .i64 0, .int .i64 0, .int .i64 0, .int .i64 0, .int .i64 0, .string ⟨#[]⟩, .string ⟨#[]⟩, .string ⟨#[]⟩, .int .i64 0, .slice none 0 0, .slice none 0 0, .int .i64 0, .int .i64 0] 25))) (.cells #[.int .i64 0, .int .i64 0, .int .i64 0, .int .i64 0, .int .i64 0, .string ⟨#[]⟩, .string ⟨#[]⟩, .string ⟨#[]⟩, .int .i64 0, .slice none 0 0, .slice none 0 0, .int .i64 0, .int .i64 0] 25); have hb7 := below_step hb6 (below_alloc (Below.refl _ _) (.cells #[.int .i64 0, .int .i64 0, .int .i64 0, .int .i64 0, .int .i64 0, .string ⟨#[]⟩, .string ⟨#[]⟩, .string ⟨#[]⟩, .int .i64 0, .slice none 0 0, .slice none 0 0, .int .i64 0, .int .i64 0] 25)); have hr7 := (HRW.out.below (setRow_below (below_alloc (Below.refl _ _) (.cells #[.int .i64 0, .int .i64 0, .int .i64 0, .int .i64 0, .int .i64 0, .string ⟨#[]⟩, .string ⟨#[]⟩, .string ⟨#[]⟩, .int .i64 0, .slice none 0 0, .slice none 0 0, .int .i64 0, .int .i64 0] 25)) (Nat.le_refl _) q2.cs)).below (below_alloc (Below.refl _ _) (.cells #[.int .i64 0, .int .i64 0, .int .i64 0, .int .i64 0, .int .i64 0, .string ⟨#[]⟩, .string ⟨#[]⟩, .string ⟨#[]⟩, .int .i64 0, .slice none 0 0, .slice none 0 0, .int .i64 0, .int .i64 0] 25)); have hc7 := (below_alloc (setRow_below (below_alloc (Below.refl w5.heap.size w5) (.cells #[.int .i64 0, .int .i64 0, .int .i64 0, .int .i64 0, .int .i64 0, .string ⟨#[]⟩, .string ⟨#[]⟩, .string ⟨#[]⟩, .int .i64 0, .slice none 0 0, .slice none 0 0, .int .i64 0, .int .i64 0] 25)) (Nat.le_refl _) q2.cs) (.cells #[.int .i64 0, .int .i64 0, .int .i64 0, .int .i64 0, .int .i64 0, .string ⟨#[]⟩, .string ⟨#[]⟩, .string ⟨#[]⟩, .int .i64 0, .slice none 0 0, .slice none 0 0, .int .i64 0, .int .i64 0] 25)); have HC7 := Lib.hid hc7; have HX7 := Lib.hid hx6; have HB7 := Lib.hid hb7; have HR7 := Lib.hid hr7; clear hb6 hx6 hb7 hr7 hc7))
    go_region_held3 (fun w' => True) (trivial) (fail)
    all_goals (
      have HR7 := Lib.hid (HR7.out.below (below_drew (Below.refl _ _)))
      have HB7 := Lib.hid (below_drew HB7.out)
      go_wp2_with (first
        | (refine load_row_g (by rfl) 25 _ rfl w5.heap.size rfl 25 q2.cs (0, 0) _ HX7.out Try.underlying25 rfl (hinfo25 q2) ?_)
        | (go_at_call 14; (with_reducible refine (same_zero q2 HSV.out _ HR7.out).mono ?_); rintro e' w8 ⟨rfl, hB8⟩; have HB8 := Lib.hid (below_step HB7.out hB8); clear hB8)
        | (go_at_call 12; (with_reducible refine (awake_calls _).mono ?_); rintro e' w9 ⟨rfl, hB9⟩; have HB9 := Lib.hid (below_step HB8.out hB9); clear hB9))
      go_ret
      exact ⟨rfl, HB9.out⟩)

    )

set_option maxHeartbeats 8000000 in
set_option maxRecDepth 10000 in
theorem opens_cut (s S : ByteArray) (hS : CutTo s S) (hz : S.size ≤ 1000) (m : Nat) (hm : m + 6 ≤ S.size) (n : Int) (hn : 256 * bt S (m : Int) + bt S ((m : Int) + 1) = n) (h0 : 1 ≤ n) (h2 : n ≤ 4096) (h1 : (S.size : Int) - m - 6 < n) (w : World) :
    Calls Try.prog 8 #[.string s, .int .i64 m] w fun e w' => e = .returned (.bool true) ∧ Below w.heap.size w w' := by
  have hu25 := Try.underlying25
  have d1 : decide ((m : Int) < 0) = false := by simp
  have d2 : decide ((S.size : Int) < (m : Int)) = false := by simp; omega
  have d2b : decide (S.size < m) = false := by simp; omega
  have w1 : IntKind.i64.wrap ((S.size : Int) - (m : Int)) = (S.size : Int) - (m : Int) := by rw [i64_w]; unfold wrap64; omega
  have d3 : decide ((S.size : Int) - (m : Int) < 6) = false := by simp; omega
  have hu6 : 6 ≤ (S.extract m S.size).size := by rw [ByteArray.size_extract]; omega
  have hzu : ((S.extract m S.size).size : Int) = (S.size : Int) - m := by rw [ByteArray.size_extract]; omega
  have hnum := num2_at S m hm
  have r0 := bt_range S (m : Int)
  have r1 := bt_range S ((m : Int) + 1)
  have i0 : (0 : Int) ≤ (m : Int) := by omega
  have i1 : (m : Int) < (S.size : Int) := by omega
  have i2 : (0 : Int) ≤ (m : Int) + 1 := by omega
  have i3 : (m : Int) + 1 < (S.size : Int) := by omega
  have i4 : m < S.size := by omega
  have i5 : m + 1 < S.size := by omega
  have q0 : ((S[m]'i4).toNat : Int) = bt S (m : Int) := bt_at S (m : Int) i4
  have q1 : ((S[m + 1]'i5).toNat : Int) = bt S ((m : Int) + 1) := by
    have e : ((m : Int) + 1) = ((m + 1 : Nat) : Int) := by omega
    rw [e]
    exact bt_at S ((m + 1 : Nat) : Int) i5
  generalize bt S (m : Int) = b0 at *
  generalize bt S ((m : Int) + 1) = b1 at *
  have w2 : IntKind.i64.wrap ((m : Int) + 1) = (m : Int) + 1 := by rw [i64_w]; unfold wrap64; omega
  have w3 : IntKind.i64.wrap b0 = b0 := by rw [i64_w]; unfold wrap64; omega
  have w4 : IntKind.i64.wrap b1 = b1 := by rw [i64_w]; unfold wrap64; omega
  have w5 : IntKind.i64.wrap (256 * b0) = 256 * b0 := by rw [i64_w]; unfold wrap64; omega
  have w6 : IntKind.i64.wrap (256 * b0 + b1) = n := by rw [hn, i64_w]; unfold wrap64; omega
  have v6 : wrap64 (256 * b0 + b1) = n := by rw [hn]; unfold wrap64; omega
  rw [hn] at hnum
  have HO := Lib.hid (bad_out (open_cut S m (by omega) (by omega) _ rfl hu6 _ _ _ hnum h0 h2 (by rw [hzu]; exact h1)))
  have d4 : decide (n < 1) = false := by simp; omega
  have d5 : decide (4096 < n) = false := by simp; omega
  have w7 : IntKind.i64.wrap ((S.size : Int) - (m : Int) - 6) = (S.size : Int) - (m : Int) - 6 := by rw [i64_w]; unfold wrap64; omega
  have d6 : decide ((S.size : Int) - (m : Int) - 6 < n) = true := by simpa using h1
  clear h0 h2
  clear hm h1 hz hnum r0 r1 hzu hu6 hn
  rcases hS with ⟨d0, d0b, d0c, d0d, hS⟩ | ⟨d0, d0b, rfl⟩
  all_goals (
    go_enter Try.func8, Try.ntmps8
    go_wp2_with (first
      | (go_at_call 19; (with_reducible refine (HO.out _).mono ?_); rintro e' w5 ⟨q2, rfl, hsv, hrow, hB5⟩; have HSV := Lib.hid (show SameV q2 (zeroR 0) from hsv); have HRW := Lib.hid (show RRow w5 q2 [] [] from hrow); have HB5 := Lib.hid hB5; clear hsv hrow hB5)
      | (refine wpList_store_row rfl 25 _ _ rfl w5.heap.size q2.cs rfl rfl 25 _ (heap_alloc_new w5 _) (hinfo25 q2) rfl (rv_one _) ?_; have hb6 := setRow_below (below_step HB5.out (below_alloc (Below.refl _ _) (.cells #[.int .i64 0, .int .i64 0, .int .i64 0, .int .i64 0, .int .i64 0, .string ⟨#[]⟩, .string ⟨#[]⟩, .string ⟨#[]⟩, .int .i64 0, .slice none 0 0, .slice none 0 0, .int .i64 0, .int .i64 0] 25))) HB5.out.size q2.cs; have hx6 := blk_alloc (set_new (cs' := q2.cs) (heap_alloc_new w5 (.cells #[.int .i64 0, .int .i64 0, .int .i64 0, .int .i64 0, .int .i64 0, .string ⟨#[]⟩, .string ⟨#[]⟩, .string ⟨#[]⟩, .int .i64 0, .slice none 0 0, .slice none 0 0, .int .i64 0, .int .i64 0] 25))) (.cells #[.int .i64 0, .int .i64 0, .int .i64 0, .int .i64 0, .int .i64 0, .string ⟨#[]⟩, .string ⟨#[]⟩, .string ⟨#[]⟩, .int .i64 0, .slice none 0 0, .slice none 0 0, .int .i64 0, .int .i64 0] 25); have hb7 := below_step hb6 (below_alloc (Below.refl _ _) (.cells #[.int .i64 0, .int .i64 0, .int .i64 0, .int .i64 0, .int .i64 0, .string ⟨#[]⟩, .string ⟨#[]⟩, .string ⟨#[]⟩, .int .i64 0, .slice none 0 0, .slice none 0 0, .int .i64 0, .int .i64 0] 25)); have hr7 := (HRW.out.below (setRow_below (below_alloc (Below.refl _ _) (.cells #[.int .i64 0, .int .i64 0, .int .i64 0, .int .i64 0, .int .i64 0, .string ⟨#[]⟩, .string ⟨#[]⟩, .string ⟨#[]⟩, .int .i64 0, .slice none 0 0, .slice none 0 0, .int .i64 0, .int .i64 0] 25)) (Nat.le_refl _) q2.cs)).below (below_alloc (Below.refl _ _) (.cells #[.int .i64 0, .int .i64 0, .int .i64 0, .int .i64 0, .int .i64 0, .string ⟨#[]⟩, .string ⟨#[]⟩, .string ⟨#[]⟩, .int .i64 0, .slice none 0 0, .slice none 0 0, .int .i64 0, .int .i64 0] 25)); have hc7 := (below_alloc (setRow_below (below_alloc (Below.refl w5.heap.size w5) (.cells #[.int .i64 0, .int .i64 0, .int .i64 0, .int .i64 0, .int .i64 0, .string ⟨#[]⟩, .string ⟨#[]⟩, .string ⟨#[]⟩, .int .i64 0, .slice none 0 0, .slice none 0 0, .int .i64 0, .int .i64 0] 25)) (Nat.le_refl _) q2.cs) (.cells #[.int .i64 0, .int .i64 0, .int .i64 0, .int .i64 0, .int .i64 0, .string ⟨#[]⟩, .string ⟨#[]⟩, .string ⟨#[]⟩, .int .i64 0, .slice none 0 0, .slice none 0 0, .int .i64 0, .int .i64 0] 25)); have HC7 := Lib.hid hc7; have HX7 := Lib.hid hx6; have HB7 := Lib.hid hb7; have HR7 := Lib.hid hr7; clear hb6 hx6 hb7 hr7 hc7))
    go_region_held3 (fun w' => True) (trivial) (fail)
    all_goals (
      have HR7 := Lib.hid (HR7.out.below (below_drew (Below.refl _ _)))
      have HB7 := Lib.hid (below_drew HB7.out)
      go_wp2_with (first
        | (refine load_row_g (by rfl) 25 _ rfl w5.heap.size rfl 25 q2.cs (0, 0) _ HX7.out Try.underlying25 rfl (hinfo25 q2) ?_)
        | (go_at_call 14; (with_reducible refine (same_zero q2 HSV.out _ HR7.out).mono ?_); rintro e' w8 ⟨rfl, hB8⟩; have HB8 := Lib.hid (below_step HB7.out hB8); clear hB8)
        | (go_at_call 12; (with_reducible refine (awake_calls _).mono ?_); rintro e' w9 ⟨rfl, hB9⟩; have HB9 := Lib.hid (below_step HB8.out hB9); clear hB9))
      go_ret
      exact ⟨rfl, HB9.out⟩)

    )
end Go.Proofs.Ytdphikbkknkhiaa.PAll
