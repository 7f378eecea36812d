/- The law RecOpens: bytes that are no record. -/
import Derived.Test.YtdphikbkknkhiaaRecOpensP
namespace Go.Proofs.Ytdphikbkknkhiaa.PAll
open Go.RowKit Go.Proofs.Ytdphikbkknkhiaa.Pure Go.Proofs.YtdphikbkknkhiaaW.PrintWords Go.Proofs.YtdphikbkknkhiaaW.PrintLast Go.Proofs.YtdphikbkknkhiaaW.PrintMore
set_option linter.unusedVariables false
set_option linter.unusedSimpArgs false

set_option maxHeartbeats 8000000 in
set_option maxRecDepth 10000 in
theorem opens_ofbad (s S : ByteArray) (hS : CutTo s S) (hz : S.size ≤ 1000) (m : Nat) (hm : m + 6 ≤ S.size) (p : Nat) (hn : 256 * bt S (m : Int) + bt S ((m : Int) + 1) = (p : Int)) (h0 : 1 ≤ p) (h2 : p ≤ 4096) (h1 : m + 6 + p ≤ S.size) (b v : ByteArray) (hb : S.extract (m + 6) (m + 6 + p) = b) (hv : S.extract (m + 2) (m + 6 + p) = v) (hs : sealed b = v) (hso : sum_Open.f v = some (b, 0)) (E : Int) (hE : E ≠ 0) (hP : (ofP b).e = E) (hF : (refOfP b).e = E) (w : World) :
    Calls Try.prog 8 #[.string s, .int .i64 m] w fun e w' => e = .returned (.bool true) ∧ Below w.heap.size w w' := by
  have hu25 := Try.underlying25
  have d1 : decide ((m : Int) < 0) = false := by simp
  have d2 : decide ((S.size : Int) < (m : Int)) = false := by simp; omega
  have d2b : decide (S.size < m) = false := by simp; omega
  have w1 : IntKind.i64.wrap ((S.size : Int) - (m : Int)) = (S.size : Int) - (m : Int) := by rw [i64_w]; unfold wrap64; omega
  have d3 : decide ((S.size : Int) - (m : Int) < 6) = false := by simp; omega
  have hu6 : 6 ≤ (S.extract m S.size).size := by rw [ByteArray.size_extract]; omega
  have hzu : ((S.extract m S.size).size : Int) = (S.size : Int) - m := by rw [ByteArray.size_extract]; omega
  have hnum := num2_at S m hm
  have r0 := bt_range S (m : Int)
  have r1 := bt_range S ((m : Int) + 1)
  have i0 : (0 : Int) ≤ (m : Int) := by omega
  have i1 : (m : Int) < (S.size : Int) := by omega
  have i2 : (0 : Int) ≤ (m : Int) + 1 := by omega
  have i3 : (m : Int) + 1 < (S.size : Int) := by omega
  have i4 : m < S.size := by omega
  have i5 : m + 1 < S.size := by omega
  have q0 : ((S[m]'i4).toNat : Int) = bt S (m : Int) := bt_at S (m : Int) i4
  have q1 : ((S[m + 1]'i5).toNat : Int) = bt S ((m : Int) + 1) := by
    have e : ((m : Int) + 1) = ((m + 1 : Nat) : Int) := by omega
    rw [e]
    exact bt_at S ((m + 1 : Nat) : Int) i5
  generalize bt S (m : Int) = b0 at *
  generalize bt S ((m : Int) + 1) = b1 at *
  have w2 : IntKind.i64.wrap ((m : Int) + 1) = (m : Int) + 1 := by rw [i64_w]; unfold wrap64; omega
  have w3 : IntKind.i64.wrap b0 = b0 := by rw [i64_w]; unfold wrap64; omega
  have w4 : IntKind.i64.wrap b1 = b1 := by rw [i64_w]; unfold wrap64; omega
  have w5 : IntKind.i64.wrap (256 * b0) = 256 * b0 := by rw [i64_w]; unfold wrap64; omega
  have w6 : IntKind.i64.wrap (256 * b0 + b1) = (p : Int) := by rw [hn, i64_w]; unfold wrap64; omega
  have v6 : wrap64 (256 * b0 + b1) = (p : Int) := by rw [hn]; unfold wrap64; omega
  rw [hn] at hnum
  have d4 : decide ((p : Int) < 1) = false := by simp; omega
  have d5 : decide ((4096 : Int) < (p : Int)) = false := by simp; omega
  have d5b : decide (4096 < p) = false := by simp; omega
  have w7 : IntKind.i64.wrap ((S.size : Int) - (m : Int) - 6) = (S.size : Int) - (m : Int) - 6 := by rw [i64_w]; unfold wrap64; omega
  have d6 : decide ((S.size : Int) - (m : Int) - 6 < (p : Int)) = false := by simp; omega
  have w8 : IntKind.i64.wrap ((m : Int) + 6) = (m : Int) + 6 := by rw [i64_w]; unfold wrap64; omega
  have w9 : IntKind.i64.wrap ((m : Int) + 6 + (p : Int)) = (m : Int) + 6 + (p : Int) := by rw [i64_w]; unfold wrap64; omega
  have w10 : IntKind.i64.wrap ((m : Int) + 2) = (m : Int) + 2 := by rw [i64_w]; unfold wrap64; omega
  have w11 : IntKind.i64.wrap (6 + (p : Int)) = 6 + (p : Int) := by rw [i64_w]; unfold wrap64; omega
  have t1 : ((m : Int) + 6).toNat = m + 6 := by omega
  have t2 : ((m : Int) + 6 + (p : Int)).toNat = m + 6 + p := by omega
  have t3 : ((m : Int) + 2).toNat = m + 2 := by omega
  have j0 : (0 : Int) ≤ (m : Int) + 6 := by omega
  have j1 : (m : Int) + 6 ≤ (m : Int) + 6 + (p : Int) := by omega
  have j2 : (m : Int) + 6 + (p : Int) ≤ (S.size : Int) := by omega
  have j3 : (0 : Int) ≤ (m : Int) + 2 := by omega
  have j4 : (m : Int) + 2 ≤ (m : Int) + 6 + (p : Int) := by omega
  have hbz : b.size = p := by rw [← hb, ByteArray.size_extract]; omega
  have hvz : v.size = 4 + p := by rw [← hv, ByteArray.size_extract]; omega
  have hvb : v.extract 4 v.size = b := by
    rw [hvz, ← hv, ← hb]
    apply ba_ext
    simp only [ByteArray.data_extract, Array.toList_extract, List.extract_eq_take_drop]
    rw [List.drop_take, List.take_take, List.drop_drop]
    congr 1
    omega
  have huv : (S.extract m S.size).extract 2 (6 + p) = v := by rw [ext_ext S m 2 (6 + p) (by omega), ← hv, Nat.add_assoc]
  have HSL := Lib.hid (seal_plain 10 b (by omega) (by omega))
  have HO := Lib.hid (bad_out (E := E) (by
    have q := open_ofbad S m (by omega) (by omega) _ rfl hu6 p _ _ hnum h0 h2 (by omega) v huv b hso (by omega) (ofP b) rfl (by rw [hP]; exact hE)
    rw [hP] at q
    exact q))
  have HRF := Lib.hid (refof_bad b (by omega) E hF)
  have d7 : (E == 0) = false := by simpa using hE
  have d8 : (E != 0) = true := by simpa using hE
  subst hs
  clear hso hE hP hF
  clear hm h0 h1 h2 hz hnum r0 r1 hzu hu6 hn hbz hvz hvb huv
  rcases hS with ⟨d0, d0b, d0c, d0d, hS⟩ | ⟨d0, d0b, rfl⟩
  all_goals (
    go_enter Try.func8, Try.ntmps8
    go_wp2_with (first
      | (go_at_call 19; (with_reducible refine (HO.out _).mono ?_); rintro e' w5 ⟨q2, rfl, hsv, hrow, hB5⟩; have HSV := Lib.hid (show SameV q2 (zeroR 0) from hsv); have HRW := Lib.hid (show RRow w5 q2 [] [] from hrow); have HB5 := Lib.hid hB5; clear hsv hrow hB5)
      | (refine wpList_store_row rfl 25 _ _ rfl w5.heap.size q2.cs rfl rfl 25 _ (heap_alloc_new w5 _) (hinfo25 q2) rfl (rv_one _) ?_; have hb6 := setRow_below (below_step HB5.out (below_alloc (Below.refl _ _) (.cells #[.int .i64 0, .int .i64 0, .int .i64 0, .int .i64 0, .int .i64 0, .string ⟨#[]⟩, .string ⟨#[]⟩, .string ⟨#[]⟩, .int .i64 0, .slice none 0 0, .slice none 0 0, .int .i64 0, .int .i64 0] 25))) HB5.out.size q2.cs; have hx6 := blk_alloc (set_new (cs' := q2.cs) (heap_alloc_new w5 (.cells #[.int .i64 0, .int .i64 0, .int .i64 0, .int .i64 0, .int .i64 0, .string ⟨#[]⟩, .string ⟨#[]⟩, .string ⟨#[]⟩, .int .i64 0, .slice none 0 0, .slice none 0 0, .int .i64 0, .int .i64 0] 25))) (.cells #[.int .i64 0, .int .i64 0, .int .i64 0, .int .i64 0, .int .i64 0, .string ⟨#[]⟩, .string ⟨#[]⟩, .string ⟨#[]⟩, .int .i64 0, .slice none 0 0, .slice none 0 0, .int .i64 0, .int .i64 0] 25); have hb7 := below_step hb6 (below_alloc (Below.refl _ _) (.cells #[.int .i64 0, .int .i64 0, .int .i64 0, .int .i64 0, .int .i64 0, .string ⟨#[]⟩, .string ⟨#[]⟩, .string ⟨#[]⟩, .int .i64 0, .slice none 0 0, .slice none 0 0, .int .i64 0, .int .i64 0] 25)); have hr7 := (HRW.out.below (setRow_below (below_alloc (Below.refl _ _) (.cells #[.int .i64 0, .int .i64 0, .int .i64 0, .int .i64 0, .int .i64 0, .string ⟨#[]⟩, .string ⟨#[]⟩, .string ⟨#[]⟩, .int .i64 0, .slice none 0 0, .slice none 0 0, .int .i64 0, .int .i64 0] 25)) (Nat.le_refl _) q2.cs)).below (below_alloc (Below.refl _ _) (.cells #[.int .i64 0, .int .i64 0, .int .i64 0, .int .i64 0, .int .i64 0, .string ⟨#[]⟩, .string ⟨#[]⟩, .string ⟨#[]⟩, .int .i64 0, .slice none 0 0, .slice none 0 0, .int .i64 0, .int .i64 0] 25)); have hc7 := (below_alloc (setRow_below (below_alloc (Below.refl w5.heap.size w5) (.cells #[.int .i64 0, .int .i64 0, .int .i64 0, .int .i64 0, .int .i64 0, .string ⟨#[]⟩, .string ⟨#[]⟩, .string ⟨#[]⟩, .int .i64 0, .slice none 0 0, .slice none 0 0, .int .i64 0, .int .i64 0] 25)) (Nat.le_refl _) q2.cs) (.cells #[.int .i64 0, .int .i64 0, .int .i64 0, .int .i64 0, .int .i64 0, .string ⟨#[]⟩, .string ⟨#[]⟩, .string ⟨#[]⟩, .int .i64 0, .slice none 0 0, .slice none 0 0, .int .i64 0, .int .i64 0] 25)); have HC7 := Lib.hid hc7; have HX7 := Lib.hid hx6; have HB7 := Lib.hid hb7; have HR7 := Lib.hid hr7; clear hb6 hx6 hb7 hr7 hc7))
    go_region_held3 (fun w' => True) (trivial) (fail)
    all_goals (
      have HX7 := Lib.hid (show (((w5.alloc (.cells #[.int .i64 0, .int .i64 0, .int .i64 0, .int .i64 0, .int .i64 0, .string ⟨#[]⟩, .string ⟨#[]⟩, .string ⟨#[]⟩, .int .i64 0, .slice none 0 0, .slice none 0 0, .int .i64 0, .int .i64 0] 25)).setRow w5.heap.size q2.cs).alloc (.cells #[.int .i64 0, .int .i64 0, .int .i64 0, .int .i64 0, .int .i64 0, .string ⟨#[]⟩, .string ⟨#[]⟩, .string ⟨#[]⟩, .int .i64 0, .slice none 0 0, .slice none 0 0, .int .i64 0, .int .i64 0] 25)).drew.heap[w5.heap.size]? = _ from HX7.out)
      have HY7 := Lib.hid (show (((w5.alloc (.cells #[.int .i64 0, .int .i64 0, .int .i64 0, .int .i64 0, .int .i64 0, .string ⟨#[]⟩, .string ⟨#[]⟩, .string ⟨#[]⟩, .int .i64 0, .slice none 0 0, .slice none 0 0, .int .i64 0, .int .i64 0] 25)).setRow w5.heap.size q2.cs).alloc (.cells #[.int .i64 0, .int .i64 0, .int .i64 0, .int .i64 0, .int .i64 0, .string ⟨#[]⟩, .string ⟨#[]⟩, .string ⟨#[]⟩, .int .i64 0, .slice none 0 0, .slice none 0 0, .int .i64 0, .int .i64 0] 25)).drew.heap[w5.heap.size + 1]? = some (.cells #[.int .i64 0, .int .i64 0, .int .i64 0, .int .i64 0, .int .i64 0, .string ⟨#[]⟩, .string ⟨#[]⟩, .string ⟨#[]⟩, .int .i64 0, .slice none 0 0, .slice none 0 0, .int .i64 0, .int .i64 0] 25 (0, 0)) from by
        have q := heap_alloc_new ((w5.alloc (.cells #[.int .i64 0, .int .i64 0, .int .i64 0, .int .i64 0, .int .i64 0, .string ⟨#[]⟩, .string ⟨#[]⟩, .string ⟨#[]⟩, .int .i64 0, .slice none 0 0, .slice none 0 0, .int .i64 0, .int .i64 0] 25)).setRow w5.heap.size q2.cs) (.cells #[.int .i64 0, .int .i64 0, .int .i64 0, .int .i64 0, .int .i64 0, .string ⟨#[]⟩, .string ⟨#[]⟩, .string ⟨#[]⟩, .int .i64 0, .slice none 0 0, .slice none 0 0, .int .i64 0, .int .i64 0] 25)
        rwa [show ((w5.alloc (.cells #[.int .i64 0, .int .i64 0, .int .i64 0, .int .i64 0, .int .i64 0, .string ⟨#[]⟩, .string ⟨#[]⟩, .string ⟨#[]⟩, .int .i64 0, .slice none 0 0, .slice none 0 0, .int .i64 0, .int .i64 0] 25)).setRow w5.heap.size q2.cs).heap.size = w5.heap.size + 1 by simp [World.setRow]] at q)
      have HR7 := Lib.hid (HR7.out.below (below_drew (Below.refl _ _)))
      have HB7 := Lib.hid (below_drew HB7.out)
      have HC7 := Lib.hid (below_drew HC7.out)
      go_wp2
      generalize (((w5.alloc (.cells #[.int .i64 0, .int .i64 0, .int .i64 0, .int .i64 0, .int .i64 0, .string ⟨#[]⟩, .string ⟨#[]⟩, .string ⟨#[]⟩, .int .i64 0, .slice none 0 0, .slice none 0 0, .int .i64 0, .int .i64 0] 25)).setRow w5.heap.size q2.cs).alloc (.cells #[.int .i64 0, .int .i64 0, .int .i64 0, .int .i64 0, .int .i64 0, .string ⟨#[]⟩, .string ⟨#[]⟩, .string ⟨#[]⟩, .int .i64 0, .slice none 0 0, .slice none 0 0, .int .i64 0, .int .i64 0] 25)).drew = W8 at *
      go_region_held3 (fun w' => True) (trivial) ((go_at_call 13; (with_reducible refine (sum_Seal.calls 10 b (sealed b) _ HSL.out).mono ?_); rintro e' w6 ⟨rfl, hB6⟩; have HX8 := Lib.hid (blk_below HX7.out (below_step (below_drew (Below.refl _ _)) hB6)); have HY8 := Lib.hid (blk_below HY7.out (below_step (below_drew (Below.refl _ _)) hB6)); have HR8 := Lib.hid (HR7.out.below (below_step (below_drew (Below.refl _ _)) hB6)); have HB8 := Lib.hid (below_step HB7.out (below_step (below_drew (Below.refl _ _)) hB6)); have HC8 := Lib.hid (below_step HC7.out (below_step (below_drew (Below.refl _ _)) hB6)); clear hB6))
      all_goals (
        go_wp2_with (first
          | (go_at_call 20; (with_reducible refine (HRF.out _).mono ?_); rintro e' w7 ⟨q3, rfl, hB7⟩; have HX9 := Lib.hid (blk_below HX8.out hB7); have HY9 := Lib.hid (blk_below HY8.out hB7); have HC9 := Lib.hid (below_step HC8.out hB7); have HB9 := Lib.hid (below_step HB8.out hB7); clear hB7)
          | (refine wpList_store_row rfl 25 _ _ rfl (w5.heap.size + 1) q3.cs rfl rfl 25 _ HY9.out (hinfo25 q3) rfl (rv_one _) ?_; have HX10 := Lib.hid ((setRow_other w7 (w5.heap.size + 1) w5.heap.size q3.cs (by omega)).trans HX9.out); have HR10 := Lib.hid (HRW.out.below (setRow_below HC9.out (Nat.le_succ _) q3.cs)); have HB10 := Lib.hid (setRow_below HB9.out (Nat.le_succ_of_le HB5.out.size) q3.cs))
          | (refine load_row_g (by rfl) 25 _ rfl w5.heap.size rfl 25 q2.cs (0, 0) _ HX10.out Try.underlying25 rfl (hinfo25 q2) ?_)
          | (go_at_call 14; (with_reducible refine (same_zero q2 HSV.out _ HR10.out).mono ?_); rintro e' w8 ⟨rfl, hB8⟩; have HB11 := Lib.hid (below_step HB10.out hB8); clear hB8)
          | (go_at_call 12; (with_reducible refine (awake_calls _).mono ?_); rintro e' w9 ⟨rfl, hB9⟩; have HB12 := Lib.hid (below_step HB11.out hB9); clear hB9))
        go_ret
        exact ⟨rfl, HB12.out⟩))

    )
end Go.Proofs.Ytdphikbkknkhiaa.PAll
