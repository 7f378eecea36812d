/- The contract of msg.Bytes, walked by hand: its numbers are laid one behind the other by pack.Writer. -/
import Derived.Test.YtkdnebejplollaaMsgBytesPre
import Derived.Test.YtkdnebejplollaaPackWr
import Derived.Lib.Hide
namespace Go.Proofs.Ytkdnebejplollaa.PAll
open Go.RowKit Go.Proofs.YtkdnebejplollaaW.PrintWords Go.Proofs.YtkdnebejplollaaW.PrintLast Go.Proofs.YtkdnebejplollaaW.PrintMore
set_option linter.unusedVariables false
set_option linter.unusedSimpArgs false

/-- Numbers of one width, laid one behind the other. -/
def wnums (wd : Int) : List Int → ByteArray × Int → Option (ByteArray × Int)
  | [], st => some st
  | n :: l, st => (pack_Writer_Num.f st.1 st.2 n wd).bind (wnums wd l)
/-- What Bytes answers. -/
def msg_Bytes.f (a0 a1 a2 a3 a4 a5 a6 a7 a8 : Int) (a9 : ByteArray) : Option (ByteArray × Int) :=
  (msg_Right.f 10 a0 a1 a2 a3 a4 a5 a6 a7 a8 a9).bind fun e => if e = 0 then
    (wnums 1 [a0, a1, a2, a8] (⟨#[]⟩, 0)).bind fun s1 => (wnums 4 [a3, a4] s1).bind fun s2 => (wnums 6 [a5, a6, a7] s2).bind fun s3 => (pack_Writer_Text.f s3.1 s3.2 a9).bind fun s4 =>
      if s4.2 = 0 then (sum_Seal.f 10 s4.1).bind fun t => some (t, 0) else some (⟨#[]⟩, s4.2)
  else some (⟨#[]⟩, e)

/-- A writer, and a message's cells beside it. -/
structure MB (w0 w : World) (bm g : Nat) (cs : Array Value) (r : ByteArray × Int) : Prop where
  i : IsS41 w0 w g r.1 r.2
  b : Below w0.heap.size w0 w
  m : w.heap[bm]? = some (.cells cs 23 (0, 0))
section
variable {w0 w : World} {bm g : Nat} {cs : Array Value} {r : ByteArray × Int}
theorem MB.ne (h : MB w0 w bm g cs r) : bm ≠ g := Ne.symm (h.i.ne_blk h.m (by decide))
theorem mb_num (h : MB w0 w bm g cs r) (n wd : Int) {r' : ByteArray × Int} (hp : pack_Writer_Num.f r.1 r.2 n wd = some r') :
    Calls Try.prog 16 #[.pointer (some ⟨g, 0, none⟩), .int .i64 n, .int .i64 wd] w fun e' w' => e' = .returned (.tuple #[]) ∧ MB w0 w' bm g cs r' :=
  (pack_Writer_Num.calls g r.1 r.2 n wd r'.1 r'.2 w0 w h.i h.b hp).mono fun _ _ ⟨he, hI, hB, hK⟩ => ⟨he, hI, hB, hK.blk h.m h.ne (by simp)⟩
theorem mb_text (h : MB w0 w bm g cs r) (t : ByteArray) {r' : ByteArray × Int} (hp : pack_Writer_Text.f r.1 r.2 t = some r') :
    Calls Try.prog 17 #[.pointer (some ⟨g, 0, none⟩), .string t] w fun e' w' => e' = .returned (.tuple #[]) ∧ MB w0 w' bm g cs r' :=
  (pack_Writer_Text.calls g r.1 r.2 t r'.1 r'.2 w0 w h.i h.b hp).mono fun _ _ ⟨he, hI, hB, hK⟩ => ⟨he, hI, hB, hK.blk h.m h.ne (by simp)⟩
theorem mb_all (h : MB w0 w bm g cs r) :
    Calls Try.prog 18 #[.pointer (some ⟨g, 0, none⟩)] w fun e' w' => e' = .returned (.tuple #[.string r.1, .int .i64 r.2]) ∧ Below w0.heap.size w0 w' :=
  (pack_Writer_All.calls g r.1 r.2 r.1 r.2 r.1 r.2 w0 w h.i h.b (by rfl)).mono fun _ _ ⟨he, hI, hB, hK⟩ => ⟨he, hB⟩
end

theorem info3s : (Try.prog.info? 3).map (·.size) = some 1 := by kernel_rfl
theorem run_index_agg (w : World) (t : TypeId) (n : Nat) (cs : Array Value) (i : Int) (v : Value) (h : Try.prog.underlying t = some (.array n 3)) (hi : 0 ≤ i) (hn : i < (n : Int)) (hc : cs[i.toNat]? = some v) :
    (Instr.index t (.agg cs) (.int .i64 i)).run Try.prog w = .ok v w := by
  obtain ⟨i0, h1, h2⟩ := Option.map_eq_some_iff.1 info3s
  simp [Instr.index, run_underlying h, run_underlying Try.underlying3, asIntOf, hi, hn, hc, go_sem, sizeOf, typeInfo, h1, h2, isAgg]
set_option maxHeartbeats 4000000 in
set_option maxRecDepth 10000 in
theorem bytes_wrong (a0 a1 a2 a3 a4 a5 a6 a7 a8 : Int) (a9 : ByteArray) (e : Int) (w : World) (h : msg_Right.f 10 a0 a1 a2 a3 a4 a5 a6 a7 a8 a9 = some e) (he : e ≠ 0) :
    Calls Try.prog 7 #[.agg #[.int .i64 a0, .int .i64 a1, .int .i64 a2, .int .i64 a3, .int .i64 a4, .int .i64 a5, .int .i64 a6, .int .i64 a7, .int .i64 a8, .string a9]] w fun e' w' => e' = .returned (.tuple #[.string ⟨#[]⟩, .int .i64 e]) ∧ Below w.heap.size w w' := by
  have hu23 := Try.underlying23
  have hd : (e != 0) = true := by simpa using he
  have H := Lib.hid h
  clear h he
  go_enter Try.func7, Try.ntmps7
  go_wp2_with (go_at_call 8; (with_reducible refine (msg_Right.calls 10 a0 a1 a2 a3 a4 a5 a6 a7 a8 a9 e _ H.out).mono ?_); rintro e' w1 ⟨rfl, hB1⟩; have HB1 := Lib.hid hB1; clear hB1)
  go_ret2
  exact ⟨rfl, below_step (below_alloc (Below.refl _ _) _) HB1.out⟩

set_option maxHeartbeats 8000000 in
set_option maxRecDepth 10000 in
theorem bytes_laid (a0 a1 a2 a3 a4 a5 a6 a7 a8 : Int) (a9 : ByteArray) (r1 r2 r3 r4 r5 r6 r7 r8 r9 : ByteArray × Int) (s10 : ByteArray) (w : World) (hr : msg_Right.f 10 a0 a1 a2 a3 a4 a5 a6 a7 a8 a9 = some 0)
    (h1 : pack_Writer_Num.f ⟨#[]⟩ 0 a0 1 = some r1) (h2 : pack_Writer_Num.f r1.1 r1.2 a1 1 = some r2) (h3 : pack_Writer_Num.f r2.1 r2.2 a2 1 = some r3) (h4 : pack_Writer_Num.f r3.1 r3.2 a8 1 = some r4) (h5 : pack_Writer_Num.f r4.1 r4.2 a3 4 = some r5) (h6 : pack_Writer_Num.f r5.1 r5.2 a4 4 = some r6) (h7 : pack_Writer_Num.f r6.1 r6.2 a5 6 = some r7) (h8 : pack_Writer_Num.f r7.1 r7.2 a6 6 = some r8) (h9 : pack_Writer_Num.f r8.1 r8.2 a7 6 = some r9) (h10 : pack_Writer_Text.f r9.1 r9.2 a9 = some (s10, 0)) (t : ByteArray) (ht : sum_Seal.f 10 s10 = some t) :
    Calls Try.prog 7 #[.agg #[.int .i64 a0, .int .i64 a1, .int .i64 a2, .int .i64 a3, .int .i64 a4, .int .i64 a5, .int .i64 a6, .int .i64 a7, .int .i64 a8, .string a9]] w fun e' w' => e' = .returned (.tuple #[.string t, .int .i64 0]) ∧ Below w.heap.size w w' := by
  have HT := Lib.hid ht
  clear ht
  have hu23 := Try.underlying23
  have hu41 := Try.underlying41
  have hu42 := Try.underlying42
  have hu44 := Try.underlying44
  have hu45 := Try.underlying45
  have hx42_0 : ∀ w, (Instr.index 42 (.agg #[.int .i64 a0, .int .i64 a1, .int .i64 a2, .int .i64 a8]) (.int .i64 0)).run Try.prog w = .ok (.int .i64 a0) w := fun w => run_index_agg w 42 4 #[.int .i64 a0, .int .i64 a1, .int .i64 a2, .int .i64 a8] 0 _ hu42 (by decide) (by decide) rfl
  have hx42_1 : ∀ w, (Instr.index 42 (.agg #[.int .i64 a0, .int .i64 a1, .int .i64 a2, .int .i64 a8]) (.int .i64 1)).run Try.prog w = .ok (.int .i64 a1) w := fun w => run_index_agg w 42 4 #[.int .i64 a0, .int .i64 a1, .int .i64 a2, .int .i64 a8] 1 _ hu42 (by decide) (by decide) rfl
  have hx42_2 : ∀ w, (Instr.index 42 (.agg #[.int .i64 a0, .int .i64 a1, .int .i64 a2, .int .i64 a8]) (.int .i64 2)).run Try.prog w = .ok (.int .i64 a2) w := fun w => run_index_agg w 42 4 #[.int .i64 a0, .int .i64 a1, .int .i64 a2, .int .i64 a8] 2 _ hu42 (by decide) (by decide) rfl
  have hx42_3 : ∀ w, (Instr.index 42 (.agg #[.int .i64 a0, .int .i64 a1, .int .i64 a2, .int .i64 a8]) (.int .i64 3)).run Try.prog w = .ok (.int .i64 a8) w := fun w => run_index_agg w 42 4 #[.int .i64 a0, .int .i64 a1, .int .i64 a2, .int .i64 a8] 3 _ hu42 (by decide) (by decide) rfl
  have hx44_0 : ∀ w, (Instr.index 44 (.agg #[.int .i64 a3, .int .i64 a4]) (.int .i64 0)).run Try.prog w = .ok (.int .i64 a3) w := fun w => run_index_agg w 44 2 #[.int .i64 a3, .int .i64 a4] 0 _ hu44 (by decide) (by decide) rfl
  have hx44_1 : ∀ w, (Instr.index 44 (.agg #[.int .i64 a3, .int .i64 a4]) (.int .i64 1)).run Try.prog w = .ok (.int .i64 a4) w := fun w => run_index_agg w 44 2 #[.int .i64 a3, .int .i64 a4] 1 _ hu44 (by decide) (by decide) rfl
  have hx45_0 : ∀ w, (Instr.index 45 (.agg #[.int .i64 a5, .int .i64 a6, .int .i64 a7]) (.int .i64 0)).run Try.prog w = .ok (.int .i64 a5) w := fun w => run_index_agg w 45 3 #[.int .i64 a5, .int .i64 a6, .int .i64 a7] 0 _ hu45 (by decide) (by decide) rfl
  have hx45_1 : ∀ w, (Instr.index 45 (.agg #[.int .i64 a5, .int .i64 a6, .int .i64 a7]) (.int .i64 1)).run Try.prog w = .ok (.int .i64 a6) w := fun w => run_index_agg w 45 3 #[.int .i64 a5, .int .i64 a6, .int .i64 a7] 1 _ hu45 (by decide) (by decide) rfl
  have hx45_2 : ∀ w, (Instr.index 45 (.agg #[.int .i64 a5, .int .i64 a6, .int .i64 a7]) (.int .i64 2)).run Try.prog w = .ok (.int .i64 a7) w := fun w => run_index_agg w 45 3 #[.int .i64 a5, .int .i64 a6, .int .i64 a7] 2 _ hu45 (by decide) (by decide) rfl
  have HR := Lib.hid hr
  have H1 := Lib.hid h1
  have H2 := Lib.hid h2
  have H3 := Lib.hid h3
  have H4 := Lib.hid h4
  have H5 := Lib.hid h5
  have H6 := Lib.hid h6
  have H7 := Lib.hid h7
  have H8 := Lib.hid h8
  have H9 := Lib.hid h9
  have H10 := Lib.hid h10
  clear hr h1 h2 h3 h4 h5 h6 h7 h8 h9 h10
  have hX : (w.alloc (.cells #[.int .i64 a0, .int .i64 a1, .int .i64 a2, .int .i64 a3, .int .i64 a4, .int .i64 a5, .int .i64 a6, .int .i64 a7, .int .i64 a8, .string a9] 23)).heap[w.heap.size]? = some (.cells #[.int .i64 a0, .int .i64 a1, .int .i64 a2, .int .i64 a3, .int .i64 a4, .int .i64 a5, .int .i64 a6, .int .i64 a7, .int .i64 a8, .string a9] 23 (0, 0)) := heap_alloc_new _ _
  have HX := Lib.hid hX
  clear hX
  go_enter Try.func7, Try.ntmps7
  go_wp2_with (go_at_call 8; (with_reducible refine (msg_Right.calls 10 a0 a1 a2 a3 a4 a5 a6 a7 a8 a9 0 _ HR.out).mono ?_); rintro e' w1 ⟨rfl, hB1⟩; have hx1 := (hB1.block w.heap.size (by simp)).trans HX.out; have HX1 := Lib.hid hx1; have hy1 := ((below_alloc (Below.refl _ _) (.cells #[.string ⟨#[]⟩, .int .i64 0] 41)).block _ (blk_lt hx1)).trans hx1; have hc0_0 := (blk_cell hy1 0).trans rfl; have hc0_1 := (blk_cell hy1 1).trans rfl; have hc0_2 := (blk_cell hy1 2).trans rfl; have hc0_8 := (blk_cell hy1 8).trans rfl; have HB1 := Lib.hid (below_step (below_alloc (Below.refl _ _) _) hB1); clear hB1 hx1 hy1)
  have hM : MB w (w1.alloc (.cells #[.string ⟨#[]⟩, .int .i64 0] 41)) w.heap.size w1.heap.size #[.int .i64 a0, .int .i64 a1, .int .i64 a2, .int .i64 a3, .int .i64 a4, .int .i64 a5, .int .i64 a6, .int .i64 a7, .int .i64 a8, .string a9] (⟨#[]⟩, 0) := ⟨IsS41.new _ _ _ _ HB1.out, below_alloc HB1.out _, (below_alloc (Below.refl _ _) _).block _ (blk_lt HX1.out) |>.trans HX1.out⟩
  have HM0 := Lib.hid hM
  clear hM
  refine wp_loop_rounds 5 ?_
  iterate 5 (rw [rounds_succ]; go_wp2_with (first
    | (go_at_call 16; (with_reducible refine (mb_num HM8.out a7 6 H9.out).mono ?_); rintro e' w10 ⟨rfl, hB10⟩; have HM9 := Lib.hid hB10; have hc8_9 := (blk_cell hB10.m 9).trans rfl; clear hB10)
    | (go_at_call 16; (with_reducible refine (mb_num HM7.out a6 6 H8.out).mono ?_); rintro e' w9 ⟨rfl, hB9⟩; have HM8 := Lib.hid hB9; clear hB9)
    | (go_at_call 16; (with_reducible refine (mb_num HM6.out a5 6 H7.out).mono ?_); rintro e' w8 ⟨rfl, hB8⟩; have HM7 := Lib.hid hB8; clear hB8)
    | (go_at_call 16; (with_reducible refine (mb_num HM5.out a4 4 H6.out).mono ?_); rintro e' w7 ⟨rfl, hB7⟩; have HM6 := Lib.hid hB7; have hc5_5 := (blk_cell hB7.m 5).trans rfl; have hc5_6 := (blk_cell hB7.m 6).trans rfl; have hc5_7 := (blk_cell hB7.m 7).trans rfl; clear hB7)
    | (go_at_call 16; (with_reducible refine (mb_num HM4.out a3 4 H5.out).mono ?_); rintro e' w6 ⟨rfl, hB6⟩; have HM5 := Lib.hid hB6; clear hB6)
    | (go_at_call 16; (with_reducible refine (mb_num HM3.out a8 1 H4.out).mono ?_); rintro e' w5 ⟨rfl, hB5⟩; have HM4 := Lib.hid hB5; have hc3_3 := (blk_cell hB5.m 3).trans rfl; have hc3_4 := (blk_cell hB5.m 4).trans rfl; clear hB5)
    | (go_at_call 16; (with_reducible refine (mb_num HM2.out a2 1 H3.out).mono ?_); rintro e' w4 ⟨rfl, hB4⟩; have HM3 := Lib.hid hB4; clear hB4)
    | (go_at_call 16; (with_reducible refine (mb_num HM1.out a1 1 H2.out).mono ?_); rintro e' w3 ⟨rfl, hB3⟩; have HM2 := Lib.hid hB3; clear hB3)
    | (go_at_call 16; (with_reducible refine (mb_num HM0.out a0 1 H1.out).mono ?_); rintro e' w2 ⟨rfl, hB2⟩; have HM1 := Lib.hid hB2; clear hB2)))
  refine wp_loop_rounds 3 ?_
  iterate 3 (rw [rounds_succ]; go_wp2_with (first
    | (go_at_call 16; (with_reducible refine (mb_num HM8.out a7 6 H9.out).mono ?_); rintro e' w10 ⟨rfl, hB10⟩; have HM9 := Lib.hid hB10; have hc8_9 := (blk_cell hB10.m 9).trans rfl; clear hB10)
    | (go_at_call 16; (with_reducible refine (mb_num HM7.out a6 6 H8.out).mono ?_); rintro e' w9 ⟨rfl, hB9⟩; have HM8 := Lib.hid hB9; clear hB9)
    | (go_at_call 16; (with_reducible refine (mb_num HM6.out a5 6 H7.out).mono ?_); rintro e' w8 ⟨rfl, hB8⟩; have HM7 := Lib.hid hB8; clear hB8)
    | (go_at_call 16; (with_reducible refine (mb_num HM5.out a4 4 H6.out).mono ?_); rintro e' w7 ⟨rfl, hB7⟩; have HM6 := Lib.hid hB7; have hc5_5 := (blk_cell hB7.m 5).trans rfl; have hc5_6 := (blk_cell hB7.m 6).trans rfl; have hc5_7 := (blk_cell hB7.m 7).trans rfl; clear hB7)
    | (go_at_call 16; (with_reducible refine (mb_num HM4.out a3 4 H5.out).mono ?_); rintro e' w6 ⟨rfl, hB6⟩; have HM5 := Lib.hid hB6; clear hB6)
    | (go_at_call 16; (with_reducible refine (mb_num HM3.out a8 1 H4.out).mono ?_); rintro e' w5 ⟨rfl, hB5⟩; have HM4 := Lib.hid hB5; have hc3_3 := (blk_cell hB5.m 3).trans rfl; have hc3_4 := (blk_cell hB5.m 4).trans rfl; clear hB5)
    | (go_at_call 16; (with_reducible refine (mb_num HM2.out a2 1 H3.out).mono ?_); rintro e' w4 ⟨rfl, hB4⟩; have HM3 := Lib.hid hB4; clear hB4)
    | (go_at_call 16; (with_reducible refine (mb_num HM1.out a1 1 H2.out).mono ?_); rintro e' w3 ⟨rfl, hB3⟩; have HM2 := Lib.hid hB3; clear hB3)
    | (go_at_call 16; (with_reducible refine (mb_num HM0.out a0 1 H1.out).mono ?_); rintro e' w2 ⟨rfl, hB2⟩; have HM1 := Lib.hid hB2; clear hB2)))
  refine wp_loop_rounds 4 ?_
  iterate 3 (rw [rounds_succ]; go_wp2_with (first
    | (go_at_call 16; (with_reducible refine (mb_num HM8.out a7 6 H9.out).mono ?_); rintro e' w10 ⟨rfl, hB10⟩; have HM9 := Lib.hid hB10; have hc8_9 := (blk_cell hB10.m 9).trans rfl; clear hB10)
    | (go_at_call 16; (with_reducible refine (mb_num HM7.out a6 6 H8.out).mono ?_); rintro e' w9 ⟨rfl, hB9⟩; have HM8 := Lib.hid hB9; clear hB9)
    | (go_at_call 16; (with_reducible refine (mb_num HM6.out a5 6 H7.out).mono ?_); rintro e' w8 ⟨rfl, hB8⟩; have HM7 := Lib.hid hB8; clear hB8)
    | (go_at_call 16; (with_reducible refine (mb_num HM5.out a4 4 H6.out).mono ?_); rintro e' w7 ⟨rfl, hB7⟩; have HM6 := Lib.hid hB7; have hc5_5 := (blk_cell hB7.m 5).trans rfl; have hc5_6 := (blk_cell hB7.m 6).trans rfl; have hc5_7 := (blk_cell hB7.m 7).trans rfl; clear hB7)
    | (go_at_call 16; (with_reducible refine (mb_num HM4.out a3 4 H5.out).mono ?_); rintro e' w6 ⟨rfl, hB6⟩; have HM5 := Lib.hid hB6; clear hB6)
    | (go_at_call 16; (with_reducible refine (mb_num HM3.out a8 1 H4.out).mono ?_); rintro e' w5 ⟨rfl, hB5⟩; have HM4 := Lib.hid hB5; have hc3_3 := (blk_cell hB5.m 3).trans rfl; have hc3_4 := (blk_cell hB5.m 4).trans rfl; clear hB5)
    | (go_at_call 16; (with_reducible refine (mb_num HM2.out a2 1 H3.out).mono ?_); rintro e' w4 ⟨rfl, hB4⟩; have HM3 := Lib.hid hB4; clear hB4)
    | (go_at_call 16; (with_reducible refine (mb_num HM1.out a1 1 H2.out).mono ?_); rintro e' w3 ⟨rfl, hB3⟩; have HM2 := Lib.hid hB3; clear hB3)
    | (go_at_call 16; (with_reducible refine (mb_num HM0.out a0 1 H1.out).mono ?_); rintro e' w2 ⟨rfl, hB2⟩; have HM1 := Lib.hid hB2; clear hB2)))
  rw [rounds_succ]
  go_wp2_with (first
    | (go_at_call 17; (with_reducible refine (mb_text HM9.out a9 H10.out).mono ?_); rintro e' w11 ⟨rfl, hB11⟩; have HM10 := Lib.hid hB11; clear hB11)
    | (go_at_call 18; (with_reducible refine (mb_all HM10.out).mono ?_); rintro e' w12 ⟨rfl, hB12⟩; have HB12 := Lib.hid hB12; clear hB12)
    | (go_at_call 12; (with_reducible refine (sum_Seal.calls 10 s10 t _ HT.out).mono ?_); rintro e' w13 ⟨rfl, hB13⟩; have HB13 := Lib.hid hB13; clear hB13))
  go_ret2
  exact ⟨rfl, below_step HB12.out HB13.out⟩
set_option maxHeartbeats 8000000 in
set_option maxRecDepth 10000 in
theorem bytes_full (a0 a1 a2 a3 a4 a5 a6 a7 a8 : Int) (a9 : ByteArray) (r1 r2 r3 r4 r5 r6 r7 r8 r9 : ByteArray × Int) (s10 : ByteArray) (e10 : Int) (w : World) (hr : msg_Right.f 10 a0 a1 a2 a3 a4 a5 a6 a7 a8 a9 = some 0)
    (h1 : pack_Writer_Num.f ⟨#[]⟩ 0 a0 1 = some r1) (h2 : pack_Writer_Num.f r1.1 r1.2 a1 1 = some r2) (h3 : pack_Writer_Num.f r2.1 r2.2 a2 1 = some r3) (h4 : pack_Writer_Num.f r3.1 r3.2 a8 1 = some r4) (h5 : pack_Writer_Num.f r4.1 r4.2 a3 4 = some r5) (h6 : pack_Writer_Num.f r5.1 r5.2 a4 4 = some r6) (h7 : pack_Writer_Num.f r6.1 r6.2 a5 6 = some r7) (h8 : pack_Writer_Num.f r7.1 r7.2 a6 6 = some r8) (h9 : pack_Writer_Num.f r8.1 r8.2 a7 6 = some r9) (h10 : pack_Writer_Text.f r9.1 r9.2 a9 = some (s10, e10)) (he : e10 ≠ 0) :
    Calls Try.prog 7 #[.agg #[.int .i64 a0, .int .i64 a1, .int .i64 a2, .int .i64 a3, .int .i64 a4, .int .i64 a5, .int .i64 a6, .int .i64 a7, .int .i64 a8, .string a9]] w fun e' w' => e' = .returned (.tuple #[.string ⟨#[]⟩, .int .i64 e10]) ∧ Below w.heap.size w w' := by
  have hd : (e10 != 0) = true := by simpa using he
  clear he
  have hu23 := Try.underlying23
  have hu41 := Try.underlying41
  have hu42 := Try.underlying42
  have hu44 := Try.underlying44
  have hu45 := Try.underlying45
  have hx42_0 : ∀ w, (Instr.index 42 (.agg #[.int .i64 a0, .int .i64 a1, .int .i64 a2, .int .i64 a8]) (.int .i64 0)).run Try.prog w = .ok (.int .i64 a0) w := fun w => run_index_agg w 42 4 #[.int .i64 a0, .int .i64 a1, .int .i64 a2, .int .i64 a8] 0 _ hu42 (by decide) (by decide) rfl
  have hx42_1 : ∀ w, (Instr.index 42 (.agg #[.int .i64 a0, .int .i64 a1, .int .i64 a2, .int .i64 a8]) (.int .i64 1)).run Try.prog w = .ok (.int .i64 a1) w := fun w => run_index_agg w 42 4 #[.int .i64 a0, .int .i64 a1, .int .i64 a2, .int .i64 a8] 1 _ hu42 (by decide) (by decide) rfl
  have hx42_2 : ∀ w, (Instr.index 42 (.agg #[.int .i64 a0, .int .i64 a1, .int .i64 a2, .int .i64 a8]) (.int .i64 2)).run Try.prog w = .ok (.int .i64 a2) w := fun w => run_index_agg w 42 4 #[.int .i64 a0, .int .i64 a1, .int .i64 a2, .int .i64 a8] 2 _ hu42 (by decide) (by decide) rfl
  have hx42_3 : ∀ w, (Instr.index 42 (.agg #[.int .i64 a0, .int .i64 a1, .int .i64 a2, .int .i64 a8]) (.int .i64 3)).run Try.prog w = .ok (.int .i64 a8) w := fun w => run_index_agg w 42 4 #[.int .i64 a0, .int .i64 a1, .int .i64 a2, .int .i64 a8] 3 _ hu42 (by decide) (by decide) rfl
  have hx44_0 : ∀ w, (Instr.index 44 (.agg #[.int .i64 a3, .int .i64 a4]) (.int .i64 0)).run Try.prog w = .ok (.int .i64 a3) w := fun w => run_index_agg w 44 2 #[.int .i64 a3, .int .i64 a4] 0 _ hu44 (by decide) (by decide) rfl
  have hx44_1 : ∀ w, (Instr.index 44 (.agg #[.int .i64 a3, .int .i64 a4]) (.int .i64 1)).run Try.prog w = .ok (.int .i64 a4) w := fun w => run_index_agg w 44 2 #[.int .i64 a3, .int .i64 a4] 1 _ hu44 (by decide) (by decide) rfl
  have hx45_0 : ∀ w, (Instr.index 45 (.agg #[.int .i64 a5, .int .i64 a6, .int .i64 a7]) (.int .i64 0)).run Try.prog w = .ok (.int .i64 a5) w := fun w => run_index_agg w 45 3 #[.int .i64 a5, .int .i64 a6, .int .i64 a7] 0 _ hu45 (by decide) (by decide) rfl
  have hx45_1 : ∀ w, (Instr.index 45 (.agg #[.int .i64 a5, .int .i64 a6, .int .i64 a7]) (.int .i64 1)).run Try.prog w = .ok (.int .i64 a6) w := fun w => run_index_agg w 45 3 #[.int .i64 a5, .int .i64 a6, .int .i64 a7] 1 _ hu45 (by decide) (by decide) rfl
  have hx45_2 : ∀ w, (Instr.index 45 (.agg #[.int .i64 a5, .int .i64 a6, .int .i64 a7]) (.int .i64 2)).run Try.prog w = .ok (.int .i64 a7) w := fun w => run_index_agg w 45 3 #[.int .i64 a5, .int .i64 a6, .int .i64 a7] 2 _ hu45 (by decide) (by decide) rfl
  have HR := Lib.hid hr
  have H1 := Lib.hid h1
  have H2 := Lib.hid h2
  have H3 := Lib.hid h3
  have H4 := Lib.hid h4
  have H5 := Lib.hid h5
  have H6 := Lib.hid h6
  have H7 := Lib.hid h7
  have H8 := Lib.hid h8
  have H9 := Lib.hid h9
  have H10 := Lib.hid h10
  clear hr h1 h2 h3 h4 h5 h6 h7 h8 h9 h10
  have hX : (w.alloc (.cells #[.int .i64 a0, .int .i64 a1, .int .i64 a2, .int .i64 a3, .int .i64 a4, .int .i64 a5, .int .i64 a6, .int .i64 a7, .int .i64 a8, .string a9] 23)).heap[w.heap.size]? = some (.cells #[.int .i64 a0, .int .i64 a1, .int .i64 a2, .int .i64 a3, .int .i64 a4, .int .i64 a5, .int .i64 a6, .int .i64 a7, .int .i64 a8, .string a9] 23 (0, 0)) := heap_alloc_new _ _
  have HX := Lib.hid hX
  clear hX
  go_enter Try.func7, Try.ntmps7
  go_wp2_with (go_at_call 8; (with_reducible refine (msg_Right.calls 10 a0 a1 a2 a3 a4 a5 a6 a7 a8 a9 0 _ HR.out).mono ?_); rintro e' w1 ⟨rfl, hB1⟩; have hx1 := (hB1.block w.heap.size (by simp)).trans HX.out; have HX1 := Lib.hid hx1; have hy1 := ((below_alloc (Below.refl _ _) (.cells #[.string ⟨#[]⟩, .int .i64 0] 41)).block _ (blk_lt hx1)).trans hx1; have hc0_0 := (blk_cell hy1 0).trans rfl; have hc0_1 := (blk_cell hy1 1).trans rfl; have hc0_2 := (blk_cell hy1 2).trans rfl; have hc0_8 := (blk_cell hy1 8).trans rfl; have HB1 := Lib.hid (below_step (below_alloc (Below.refl _ _) _) hB1); clear hB1 hx1 hy1)
  have hM : MB w (w1.alloc (.cells #[.string ⟨#[]⟩, .int .i64 0] 41)) w.heap.size w1.heap.size #[.int .i64 a0, .int .i64 a1, .int .i64 a2, .int .i64 a3, .int .i64 a4, .int .i64 a5, .int .i64 a6, .int .i64 a7, .int .i64 a8, .string a9] (⟨#[]⟩, 0) := ⟨IsS41.new _ _ _ _ HB1.out, below_alloc HB1.out _, (below_alloc (Below.refl _ _) _).block _ (blk_lt HX1.out) |>.trans HX1.out⟩
  have HM0 := Lib.hid hM
  clear hM
  refine wp_loop_rounds 5 ?_
  iterate 5 (rw [rounds_succ]; go_wp2_with (first
    | (go_at_call 16; (with_reducible refine (mb_num HM8.out a7 6 H9.out).mono ?_); rintro e' w10 ⟨rfl, hB10⟩; have HM9 := Lib.hid hB10; have hc8_9 := (blk_cell hB10.m 9).trans rfl; clear hB10)
    | (go_at_call 16; (with_reducible refine (mb_num HM7.out a6 6 H8.out).mono ?_); rintro e' w9 ⟨rfl, hB9⟩; have HM8 := Lib.hid hB9; clear hB9)
    | (go_at_call 16; (with_reducible refine (mb_num HM6.out a5 6 H7.out).mono ?_); rintro e' w8 ⟨rfl, hB8⟩; have HM7 := Lib.hid hB8; clear hB8)
    | (go_at_call 16; (with_reducible refine (mb_num HM5.out a4 4 H6.out).mono ?_); rintro e' w7 ⟨rfl, hB7⟩; have HM6 := Lib.hid hB7; have hc5_5 := (blk_cell hB7.m 5).trans rfl; have hc5_6 := (blk_cell hB7.m 6).trans rfl; have hc5_7 := (blk_cell hB7.m 7).trans rfl; clear hB7)
    | (go_at_call 16; (with_reducible refine (mb_num HM4.out a3 4 H5.out).mono ?_); rintro e' w6 ⟨rfl, hB6⟩; have HM5 := Lib.hid hB6; clear hB6)
    | (go_at_call 16; (with_reducible refine (mb_num HM3.out a8 1 H4.out).mono ?_); rintro e' w5 ⟨rfl, hB5⟩; have HM4 := Lib.hid hB5; have hc3_3 := (blk_cell hB5.m 3).trans rfl; have hc3_4 := (blk_cell hB5.m 4).trans rfl; clear hB5)
    | (go_at_call 16; (with_reducible refine (mb_num HM2.out a2 1 H3.out).mono ?_); rintro e' w4 ⟨rfl, hB4⟩; have HM3 := Lib.hid hB4; clear hB4)
    | (go_at_call 16; (with_reducible refine (mb_num HM1.out a1 1 H2.out).mono ?_); rintro e' w3 ⟨rfl, hB3⟩; have HM2 := Lib.hid hB3; clear hB3)
    | (go_at_call 16; (with_reducible refine (mb_num HM0.out a0 1 H1.out).mono ?_); rintro e' w2 ⟨rfl, hB2⟩; have HM1 := Lib.hid hB2; clear hB2)))
  refine wp_loop_rounds 3 ?_
  iterate 3 (rw [rounds_succ]; go_wp2_with (first
    | (go_at_call 16; (with_reducible refine (mb_num HM8.out a7 6 H9.out).mono ?_); rintro e' w10 ⟨rfl, hB10⟩; have HM9 := Lib.hid hB10; have hc8_9 := (blk_cell hB10.m 9).trans rfl; clear hB10)
    | (go_at_call 16; (with_reducible refine (mb_num HM7.out a6 6 H8.out).mono ?_); rintro e' w9 ⟨rfl, hB9⟩; have HM8 := Lib.hid hB9; clear hB9)
    | (go_at_call 16; (with_reducible refine (mb_num HM6.out a5 6 H7.out).mono ?_); rintro e' w8 ⟨rfl, hB8⟩; have HM7 := Lib.hid hB8; clear hB8)
    | (go_at_call 16; (with_reducible refine (mb_num HM5.out a4 4 H6.out).mono ?_); rintro e' w7 ⟨rfl, hB7⟩; have HM6 := Lib.hid hB7; have hc5_5 := (blk_cell hB7.m 5).trans rfl; have hc5_6 := (blk_cell hB7.m 6).trans rfl; have hc5_7 := (blk_cell hB7.m 7).trans rfl; clear hB7)
    | (go_at_call 16; (with_reducible refine (mb_num HM4.out a3 4 H5.out).mono ?_); rintro e' w6 ⟨rfl, hB6⟩; have HM5 := Lib.hid hB6; clear hB6)
    | (go_at_call 16; (with_reducible refine (mb_num HM3.out a8 1 H4.out).mono ?_); rintro e' w5 ⟨rfl, hB5⟩; have HM4 := Lib.hid hB5; have hc3_3 := (blk_cell hB5.m 3).trans rfl; have hc3_4 := (blk_cell hB5.m 4).trans rfl; clear hB5)
    | (go_at_call 16; (with_reducible refine (mb_num HM2.out a2 1 H3.out).mono ?_); rintro e' w4 ⟨rfl, hB4⟩; have HM3 := Lib.hid hB4; clear hB4)
    | (go_at_call 16; (with_reducible refine (mb_num HM1.out a1 1 H2.out).mono ?_); rintro e' w3 ⟨rfl, hB3⟩; have HM2 := Lib.hid hB3; clear hB3)
    | (go_at_call 16; (with_reducible refine (mb_num HM0.out a0 1 H1.out).mono ?_); rintro e' w2 ⟨rfl, hB2⟩; have HM1 := Lib.hid hB2; clear hB2)))
  refine wp_loop_rounds 4 ?_
  iterate 3 (rw [rounds_succ]; go_wp2_with (first
    | (go_at_call 16; (with_reducible refine (mb_num HM8.out a7 6 H9.out).mono ?_); rintro e' w10 ⟨rfl, hB10⟩; have HM9 := Lib.hid hB10; have hc8_9 := (blk_cell hB10.m 9).trans rfl; clear hB10)
    | (go_at_call 16; (with_reducible refine (mb_num HM7.out a6 6 H8.out).mono ?_); rintro e' w9 ⟨rfl, hB9⟩; have HM8 := Lib.hid hB9; clear hB9)
    | (go_at_call 16; (with_reducible refine (mb_num HM6.out a5 6 H7.out).mono ?_); rintro e' w8 ⟨rfl, hB8⟩; have HM7 := Lib.hid hB8; clear hB8)
    | (go_at_call 16; (with_reducible refine (mb_num HM5.out a4 4 H6.out).mono ?_); rintro e' w7 ⟨rfl, hB7⟩; have HM6 := Lib.hid hB7; have hc5_5 := (blk_cell hB7.m 5).trans rfl; have hc5_6 := (blk_cell hB7.m 6).trans rfl; have hc5_7 := (blk_cell hB7.m 7).trans rfl; clear hB7)
    | (go_at_call 16; (with_reducible refine (mb_num HM4.out a3 4 H5.out).mono ?_); rintro e' w6 ⟨rfl, hB6⟩; have HM5 := Lib.hid hB6; clear hB6)
    | (go_at_call 16; (with_reducible refine (mb_num HM3.out a8 1 H4.out).mono ?_); rintro e' w5 ⟨rfl, hB5⟩; have HM4 := Lib.hid hB5; have hc3_3 := (blk_cell hB5.m 3).trans rfl; have hc3_4 := (blk_cell hB5.m 4).trans rfl; clear hB5)
    | (go_at_call 16; (with_reducible refine (mb_num HM2.out a2 1 H3.out).mono ?_); rintro e' w4 ⟨rfl, hB4⟩; have HM3 := Lib.hid hB4; clear hB4)
    | (go_at_call 16; (with_reducible refine (mb_num HM1.out a1 1 H2.out).mono ?_); rintro e' w3 ⟨rfl, hB3⟩; have HM2 := Lib.hid hB3; clear hB3)
    | (go_at_call 16; (with_reducible refine (mb_num HM0.out a0 1 H1.out).mono ?_); rintro e' w2 ⟨rfl, hB2⟩; have HM1 := Lib.hid hB2; clear hB2)))
  rw [rounds_succ]
  go_wp2_with (first
    | (go_at_call 17; (with_reducible refine (mb_text HM9.out a9 H10.out).mono ?_); rintro e' w11 ⟨rfl, hB11⟩; have HM10 := Lib.hid hB11; clear hB11)
    | (go_at_call 18; (with_reducible refine (mb_all HM10.out).mono ?_); rintro e' w12 ⟨rfl, hB12⟩; have HB12 := Lib.hid hB12; clear hB12))
  go_ret2
  exact ⟨rfl, HB12.out⟩

/-- The contract. -/
theorem msg_Bytes.calls (a0 a1 a2 a3 a4 a5 a6 a7 a8 : Int) (a9 : ByteArray) (r1 : ByteArray) (r2 : Int) (w : World) (h : msg_Bytes.f a0 a1 a2 a3 a4 a5 a6 a7 a8 a9 = some (r1, r2)) :
    Calls Try.prog 7 #[.agg #[.int .i64 a0, .int .i64 a1, .int .i64 a2, .int .i64 a3, .int .i64 a4, .int .i64 a5, .int .i64 a6, .int .i64 a7, .int .i64 a8, .string a9]] w fun e w' => e = .returned (.tuple #[.string r1, .int .i64 r2]) ∧ Below w.heap.size w w' := by
  unfold msg_Bytes.f at h
  obtain ⟨e, hr, h⟩ := Option.bind_eq_some_iff.1 h
  by_cases he : e = 0
  · rw [if_pos he] at h
    subst he
    simp only [wnums] at h
    obtain ⟨q1, g1, h⟩ := Option.bind_eq_some_iff.1 h
    obtain ⟨s1, h1, g1⟩ := Option.bind_eq_some_iff.1 g1
    obtain ⟨s2, h2, g1⟩ := Option.bind_eq_some_iff.1 g1
    obtain ⟨s3, h3, g1⟩ := Option.bind_eq_some_iff.1 g1
    obtain ⟨s4, h4, g1⟩ := Option.bind_eq_some_iff.1 g1
    obtain rfl := Option.some.inj g1
    obtain ⟨q2, g1, h⟩ := Option.bind_eq_some_iff.1 h
    obtain ⟨s5, h5, g1⟩ := Option.bind_eq_some_iff.1 g1
    obtain ⟨s6, h6, g1⟩ := Option.bind_eq_some_iff.1 g1
    obtain rfl := Option.some.inj g1
    obtain ⟨q3, g1, h⟩ := Option.bind_eq_some_iff.1 h
    obtain ⟨s7, h7, g1⟩ := Option.bind_eq_some_iff.1 g1
    obtain ⟨s8, h8, g1⟩ := Option.bind_eq_some_iff.1 g1
    obtain ⟨s9, h9, g1⟩ := Option.bind_eq_some_iff.1 g1
    obtain rfl := Option.some.inj g1
    obtain ⟨⟨s10, e10⟩, h10, h⟩ := Option.bind_eq_some_iff.1 h
    simp only at h
    by_cases hz : e10 = 0
    · rw [if_pos hz] at h
      subst hz
      obtain ⟨t, ht, h⟩ := Option.bind_eq_some_iff.1 h
      simp only [Option.some.injEq, Prod.mk.injEq] at h
      obtain ⟨rfl, rfl⟩ := h
      exact bytes_laid a0 a1 a2 a3 a4 a5 a6 a7 a8 a9 _ _ _ _ _ _ _ _ _ s10 w hr h1 h2 h3 h4 h5 h6 h7 h8 h9 h10 t ht
    · rw [if_neg hz] at h
      simp only [Option.some.injEq, Prod.mk.injEq] at h
      obtain ⟨rfl, rfl⟩ := h
      exact bytes_full a0 a1 a2 a3 a4 a5 a6 a7 a8 a9 _ _ _ _ _ _ _ _ _ s10 e10 w hr h1 h2 h3 h4 h5 h6 h7 h8 h9 h10 hz
  · rw [if_neg he] at h
    simp only [Option.some.injEq, Prod.mk.injEq] at h
    obtain ⟨rfl, rfl⟩ := h
    exact bytes_wrong a0 a1 a2 a3 a4 a5 a6 a7 a8 a9 e w hr he
end Go.Proofs.Ytkdnebejplollaa.PAll
