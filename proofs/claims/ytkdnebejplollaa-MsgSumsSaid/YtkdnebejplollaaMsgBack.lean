/- The laws MsgBack and MsgSums, walked by hand. -/
import Derived.Test.YtkdnebejplollaaMsgEq
import Derived.Test.YtkdnebejplollaaMsgOf
import Derived.Lib.Hide
namespace Go.Proofs.Ytkdnebejplollaa.PAll
open Go.RowKit Go.Proofs.YtkdnebejplollaaW.PrintWords Go.Proofs.YtkdnebejplollaaW.PrintLast Go.Proofs.YtkdnebejplollaaW.PrintMore
open Go.Proofs.Ytkdnebejplollaa.Pure
set_option linter.unusedVariables false
set_option linter.unusedSimpArgs false

theorem of_any (s : ByteArray) (m0 m1 m2 m3 m4 m5 m6 m7 m8 : Int) (m9 : ByteArray) (f : Int) (h : msg_Of.f 10 s = some (m0, m1, m2, m3, m4, m5, m6, m7, m8, m9, f)) (w : World) :
    Calls Try.prog 14 #[.string s] w fun e w' => e = .returned (.tuple #[.agg #[.int .i64 m0, .int .i64 m1, .int .i64 m2, .int .i64 m3, .int .i64 m4, .int .i64 m5, .int .i64 m6, .int .i64 m7, .int .i64 m8, .string m9], .int .i64 f]) ∧ Below w.heap.size w w' := msg_Of.calls 10 s m0 m1 m2 m3 m4 m5 m6 m7 m8 m9 f w h
theorem open_any (s b : ByteArray) (e : Int) (h : sum_Open.f s = some (b, e)) (w : World) :
    Calls Try.prog 15 #[.string s] w fun e' w' => e' = .returned (.tuple #[.string b, .int .i64 e]) ∧ Below w.heap.size w w' := sum_Open.calls s b e w h
theorem bytes_any (a0 a1 a2 a3 a4 a5 a6 a7 a8 : Int) (a9 s : ByteArray) (e : Int) (h : msg_Bytes.f a0 a1 a2 a3 a4 a5 a6 a7 a8 a9 = some (s, e)) (w : World) :
    Calls Try.prog 7 #[.agg #[.int .i64 a0, .int .i64 a1, .int .i64 a2, .int .i64 a3, .int .i64 a4, .int .i64 a5, .int .i64 a6, .int .i64 a7, .int .i64 a8, .string a9]] w fun e' w' => e' = .returned (.tuple #[.string s, .int .i64 e]) ∧ Below w.heap.size w w' := msg_Bytes.calls a0 a1 a2 a3 a4 a5 a6 a7 a8 a9 s e w h

set_option maxHeartbeats 4000000 in
set_option maxRecDepth 10000 in
theorem back_none (a0 a1 a2 a3 a4 a5 a6 a7 a8 : Int) (a9 s : ByteArray) (e : Int) (h : msg_Bytes.f a0 a1 a2 a3 a4 a5 a6 a7 a8 a9 = some (s, e)) (he : e ≠ 0) (w : World) :
    Calls Try.prog 5 #[.agg #[.int .i64 a0, .int .i64 a1, .int .i64 a2, .int .i64 a3, .int .i64 a4, .int .i64 a5, .int .i64 a6, .int .i64 a7, .int .i64 a8, .string a9]] w fun e w' => e = .returned (.bool true) ∧ Below w.heap.size w w' := by
  have hu23 := Try.underlying23
  have hd : (e != 0) = true := by simpa using he
  have H := Lib.hid h
  clear h he
  go_enter Try.func5, Try.ntmps5
  go_wp2_with (first
    | (go_at_call 7; (with_reducible refine (bytes_any a0 a1 a2 a3 a4 a5 a6 a7 a8 a9 s e H.out _).mono ?_); rintro e' w1 ⟨rfl, hB1⟩; have HB1 := Lib.hid (below_step (below_alloc (Below.refl _ _) _) hB1); clear hB1)
    | (go_at_call 10; (with_reducible refine (awake_any _).mono ?_); rintro e' w5 ⟨rfl, hB5⟩; have HB5 := Lib.hid hB5; clear hB5))
  go_ret
  exact ⟨rfl, below_step HB1.out HB5.out⟩

set_option maxHeartbeats 8000000 in
set_option maxRecDepth 10000 in
theorem back_some (a0 a1 a2 a3 a4 a5 a6 a7 a8 : Int) (a9 s : ByteArray) (h : msg_Bytes.f a0 a1 a2 a3 a4 a5 a6 a7 a8 a9 = some (s, 0)) (ho : msg_Of.f 10 s = some (a0, a1, a2, a3, a4, a5, a6, a7, a8, a9, 0)) (w : World) :
    Calls Try.prog 5 #[.agg #[.int .i64 a0, .int .i64 a1, .int .i64 a2, .int .i64 a3, .int .i64 a4, .int .i64 a5, .int .i64 a6, .int .i64 a7, .int .i64 a8, .string a9]] w fun e w' => e = .returned (.bool true) ∧ Below w.heap.size w w' := by
  have hu23 := Try.underlying23
  have H := Lib.hid h
  have HO := Lib.hid ho
  have heq := fun d w => eqA23 d w a0 a0 a1 a1 a2 a2 a3 a3 a4 a4 a5 a5 a6 a6 a7 a7 a8 a8 a9 a9
  have HX := Lib.hid (heap_alloc_new w (.cells #[.int .i64 a0, .int .i64 a1, .int .i64 a2, .int .i64 a3, .int .i64 a4, .int .i64 a5, .int .i64 a6, .int .i64 a7, .int .i64 a8, .string a9] 23))
  clear h ho
  go_enter Try.func5, Try.ntmps5
  go_wp2_with (first
    | (go_at_call 7; (with_reducible refine (bytes_any a0 a1 a2 a3 a4 a5 a6 a7 a8 a9 s 0 H.out _).mono ?_); rintro e' w1 ⟨rfl, hB1⟩; have HX1 := Lib.hid ((hB1.block w.heap.size (by simp)).trans HX.out); have HB1 := Lib.hid (below_step (below_alloc (Below.refl _ _) _) hB1); clear hB1)
    | (go_at_call 14; (with_reducible refine (of_any s a0 a1 a2 a3 a4 a5 a6 a7 a8 a9 0 HO.out _).mono ?_); rintro e' w2 ⟨rfl, hB2⟩; have hx2 := (hB2.block w.heap.size (blk_lt HX1.out)).trans HX1.out; have hy2 := ((below_alloc (Below.refl _ _) (.cells #[.int .i64 a0, .int .i64 a1, .int .i64 a2, .int .i64 a3, .int .i64 a4, .int .i64 a5, .int .i64 a6, .int .i64 a7, .int .i64 a8, .string a9] 23)).block _ (blk_lt hx2)).trans hx2; have hc0 := (blk_cell hy2 0).trans rfl; have hc1 := (blk_cell hy2 1).trans rfl; have hc2 := (blk_cell hy2 2).trans rfl; have hc3 := (blk_cell hy2 3).trans rfl; have hc4 := (blk_cell hy2 4).trans rfl; have hc5 := (blk_cell hy2 5).trans rfl; have hc6 := (blk_cell hy2 6).trans rfl; have hc7 := (blk_cell hy2 7).trans rfl; have hc8 := (blk_cell hy2 8).trans rfl; have hc9 := (blk_cell hy2 9).trans rfl; have HB2 := Lib.hid (below_step HB1.out hB2); clear hB2 hx2 hy2)
    | (go_at_call 10; (with_reducible refine (awake_any _).mono ?_); rintro e' w5 ⟨rfl, hB5⟩; have HB5 := Lib.hid hB5; clear hB5))
  go_ret
  exact ⟨rfl, below_step (below_alloc HB2.out _) HB5.out⟩

theorem MsgBack.walk (a0 a1 a2 a3 a4 a5 a6 a7 a8 : Int) (a9 : ByteArray) (w : World) :
    Calls Try.prog 5 #[.agg #[.int .i64 a0, .int .i64 a1, .int .i64 a2, .int .i64 a3, .int .i64 a4, .int .i64 a5, .int .i64 a6, .int .i64 a7, .int .i64 a8, .string a9]] w fun e w' => e = .returned (.bool true) ∧ Below w.heap.size w w' := by
  have hm := msg_plain a0 a1 a2 a3 a4 a5 a6 a7 a8 a9
  by_cases hr : rightI a0 a1 a2 a9 = 0
  · by_cases hf : fits a3 a4 a5 a6 a7 a8
    · rw [if_pos hr, if_pos hf] at hm
      exact back_some a0 a1 a2 a3 a4 a5 a6 a7 a8 a9 _ hm (of_back 10 (by omega) a0 a1 a2 a3 a4 a5 a6 a7 a8 a9 hr hf) w
    · rw [if_pos hr, if_neg hf] at hm
      exact back_none a0 a1 a2 a3 a4 a5 a6 a7 a8 a9 _ 6 hm (by decide) w
  · rw [if_neg hr] at hm
    exact back_none a0 a1 a2 a3 a4 a5 a6 a7 a8 a9 _ _ hm hr w

set_option maxHeartbeats 8000000 in
set_option maxRecDepth 10000 in
theorem MsgSums.walk (s : ByteArray) (w : World) (hs : s.size ≤ 140737488351232) :
    Calls Try.prog 6 #[.string s] w fun e w' => e = .returned (.bool true) ∧ Below w.heap.size w w' := by
  have hu23 := Try.underlying23
  have HS := Lib.hid hs
  clear hs
  go_enter Try.func6, Try.ntmps6
  go_upto_if 9 with (fail)
  go_cut [0] (fun v0 wc => ∃ t : ByteArray, v0 = .string t ∧ t.size ≤ 6000 ∧ wc = w)
  case first =>
    by_cases hb : 6000 < s.size
    · have hb1 : decide ((6000 : Int) < (s.size : Int)) = true := by simp; omega
      have hb2 : decide (6000 < s.size) = true := by simpa using hb
      go_wp2
      go_meet
      case rel => exact ⟨_, rfl, by rw [ByteArray.size_extract]; omega, rfl⟩
    · have hb1 : decide ((6000 : Int) < (s.size : Int)) = false := by simp; omega
      have hb2 : decide (6000 < s.size) = false := by simpa using hb
      go_wp2
      go_meet
      case rel => exact ⟨_, rfl, by omega, rfl⟩
  case rest =>
    obtain ⟨t, rfl, ht, rfl⟩ := hcut
    obtain ⟨b, e, ho, hbs⟩ := open_some t (by omega)
    by_cases he : e = 0
    · subst he
      obtain ⟨m0, m1, m2, m3, m4, m5, m6, m7, m8, m9, f, hm⟩ := of_some 10 (by omega) t b (by omega) ho
      have HO := Lib.hid ho
      have HM := Lib.hid hm
      clear ho hm ht hbs
      go_wp2_with (first
        | (go_at_call 15; (with_reducible refine (open_any t b 0 HO.out _).mono ?_); rintro e' w1 ⟨rfl, hB1⟩; have HB1 := Lib.hid hB1; clear hB1)
        | (go_at_call 14; (with_reducible refine (of_any t m0 m1 m2 m3 m4 m5 m6 m7 m8 m9 f HM.out _).mono ?_); rintro e' w2 ⟨rfl, hB2⟩; have HB2 := Lib.hid (below_step HB1.out hB2); clear hB2)
        | (go_at_call 10; (with_reducible refine (awake_any _).mono ?_); rintro e' w5 ⟨rfl, hB5⟩; have HB5 := Lib.hid hB5; clear hB5))
      go_ret
      exact ⟨rfl, below_step (below_alloc HB2.out _) HB5.out⟩
    · have hm := of_err 10 t b e ho he
      have hd : (e != 0) = true := by simpa using he
      have heq := fun d w => eqA23 d w 0 0 0 0 0 0 0 0 0 0 0 0 0 0 0 0 0 0 ⟨#[]⟩ ⟨#[]⟩
      have HO := Lib.hid ho
      have HM := Lib.hid hm
      clear ho hm ht hbs he
      go_wp2_with (first
        | (go_at_call 15; (with_reducible refine (open_any t b e HO.out _).mono ?_); rintro e' w1 ⟨rfl, hB1⟩; have HB1 := Lib.hid hB1; clear hB1)
        | (go_at_call 14; (with_reducible refine (of_any t 0 0 0 0 0 0 0 0 0 ⟨#[]⟩ e HM.out _).mono ?_); rintro e' w2 ⟨rfl, hB2⟩; have HB2 := Lib.hid (below_step HB1.out hB2); clear hB2)
        | (go_at_call 10; (with_reducible refine (awake_any _).mono ?_); rintro e' w5 ⟨rfl, hB5⟩; have HB5 := Lib.hid hB5; clear hB5))
      go_ret
      exact ⟨rfl, below_step (below_alloc HB2.out _) HB5.out⟩
end Go.Proofs.Ytkdnebejplollaa.PAll
