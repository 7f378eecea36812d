/- The contracts of pack.Writer's Num and Text, walked by hand through lay and the closures: Put and Text by their printed contracts. -/
import Derived.Test.YtdphikbkknkhiaaPackWrPre
import Derived.Lib.Hide
namespace Go.Proofs.Ytdphikbkknkhiaa.PAll
open Go.RowKit Go.Proofs.YtdphikbkknkhiaaW.PrintWords Go.Proofs.YtdphikbkknkhiaaW.PrintLast Go.Proofs.YtdphikbkknkhiaaW.PrintMore
set_option linter.unusedVariables false
set_option linter.unusedSimpArgs false

/-- What Num leaves in a writer: the first error stays. -/
def pack_Writer_Num.f (s : ByteArray) (e n width : Int) : Option (ByteArray × Int) :=
  if e = 0 then (pack_Put.f 10 s n width).bind fun r => if r.2 = 0 then some (r.1, 0) else some (⟨#[]⟩, r.2) else some (s, e)
def pack_Writer_Text.f (s : ByteArray) (e : Int) (t : ByteArray) : Option (ByteArray × Int) :=
  if e = 0 then (pack_Text.f 10 s t).bind fun r => if r.2 = 0 then some (r.1, 0) else some (⟨#[]⟩, r.2) else some (s, e)


/-- A fact that the walk's simp doesn't look into. -/
structure Hide_ (p : Prop) : Prop where mk :: (out : p)
theorem hide_ {p : Prop} (h : p) : Hide_ p := ⟨h⟩
set_option maxHeartbeats 1000000 in
theorem lay_off (g : Nat) (s : ByteArray) (e : Int) (fv : Value) (w0 w : World) (hI : IsS71 w0 w g s e) (hB : Below w0.heap.size w0 w) (he : e ≠ 0) :
    Calls Try.prog 53 #[.pointer (some ⟨g, 0, none⟩), fv] w fun e' w' => e' = .returned (.tuple #[]) ∧ IsS71 w0 w' g s e ∧ Below w0.heap.size w0 w' ∧ KeepBut w w' g none := by
  have hne : (e != 0) = true := by simpa using he
  have hc0 := cellS71_0 hI.1
  have hc1 := cellS71_1 hI.1
  have HI := Lib.hid hI
  have HB := Lib.hid hB
  clear hI hB he
  go_enter Try.func53, Try.ntmps53
  go_wp2
  refine bodyPost_ret (results_none rfl _ _ _) rfl ?_
  exact ⟨rfl, HI.out, HB.out, KeepBut.refl _ _ _⟩

set_option maxHeartbeats 1000000 in
theorem num1_calls (s : ByteArray) (n width : Int) (p1 p2 : Addr) (w : World) (h1 : w.cell? p1 = some (.int .i64 n)) (h2 : w.cell? p2 = some (.int .i64 width)) (r1 : ByteArray) (r2 : Int) (hput : pack_Put.f 10 s n width = some (r1, r2)) :
    Calls Try.prog 54 #[.string s, .pointer (some p1), .pointer (some p2)] w fun e w' => e = .returned (.tuple #[.string r1, .int .i64 r2]) ∧ Below w.heap.size w w' := by
  have HP := Lib.hid hput
  clear hput
  go_enter Try.func54, Try.ntmps54
  go_wp2_with (go_at_call 22; (with_reducible refine (pack_Put.calls 10 s n width r1 r2 _ HP.out).mono ?_); rintro e' w1 ⟨rfl, hB1⟩; have HB1 := Lib.hid hB1; clear hB1)
  go_ret2
  exact ⟨rfl, HB1.out⟩

set_option maxHeartbeats 1000000 in
theorem lay_num_ok (g : Nat) (s : ByteArray) (n width : Int) (p1 p2 : Addr) (w0 w : World) (hI : IsS71 w0 w g s 0) (hB : Below w0.heap.size w0 w) (h1 : w.cell? p1 = some (.int .i64 n)) (h2 : w.cell? p2 = some (.int .i64 width)) (r1 : ByteArray) (hput : pack_Put.f 10 s n width = some (r1, 0)) :
    Calls Try.prog 53 #[.pointer (some ⟨g, 0, none⟩), .func (.func 54) #[] #[.pointer (some p1), .pointer (some p2)]] w fun e w' => e = .returned (.tuple #[]) ∧ IsS71 w0 w' g r1 0 ∧ Below w0.heap.size w0 w' ∧ KeepBut w w' g none := by
  have hc0 := cellS71_0 hI.1
  have hc1 := cellS71_1 hI.1
  have HP := Lib.hid hput
  have HI := Lib.hid hI
  have HB := Lib.hid hB
  clear hput hI hB
  go_enter Try.func53, Try.ntmps53
  go_wp2_with (go_at_call 54; (with_reducible refine (num1_calls s n width p1 p2 _ h1 h2 r1 0 HP.out).mono ?_); rintro e' w1 ⟨rfl, hB1⟩; have hI1 := IsS71.below HI.out hB1; have HI1 := Lib.hid hI1; have hf0 := blk_frozen hI1.1 0; have hd0 := cellS71_0 hI1.1; have HB1 := Lib.hid hB1; clear hB1 hI1)
  go_end0
  exact ⟨rfl, IsS71.set_0 HI1.out r1, below_set (below_step HB.out HB1.out) HI.out.ge, KeepBut.set_ (KeepBut.of_below HB1.out g none) 0 _⟩

set_option maxHeartbeats 1000000 in
theorem lay_num_err (g : Nat) (s : ByteArray) (n width : Int) (p1 p2 : Addr) (w0 w : World) (hI : IsS71 w0 w g s 0) (hB : Below w0.heap.size w0 w) (h1 : w.cell? p1 = some (.int .i64 n)) (h2 : w.cell? p2 = some (.int .i64 width)) (r1 : ByteArray) (r2 : Int) (hput : pack_Put.f 10 s n width = some (r1, r2)) (hr : r2 ≠ 0) :
    Calls Try.prog 53 #[.pointer (some ⟨g, 0, none⟩), .func (.func 54) #[] #[.pointer (some p1), .pointer (some p2)]] w fun e w' => e = .returned (.tuple #[]) ∧ IsS71 w0 w' g ⟨#[]⟩ r2 ∧ Below w0.heap.size w0 w' ∧ KeepBut w w' g none := by
  have hc0 := cellS71_0 hI.1
  have hc1 := cellS71_1 hI.1
  have hne : (r2 != 0) = true := by simpa using hr
  have HP := Lib.hid hput
  have HI := Lib.hid hI
  have HB := Lib.hid hB
  clear hput hI hB hr
  go_enter Try.func53, Try.ntmps53
  go_wp2_with (go_at_call 54; (with_reducible refine (num1_calls s n width p1 p2 _ h1 h2 r1 r2 HP.out).mono ?_); rintro e' w1 ⟨rfl, hB1⟩; have hI1 := IsS71.below HI.out hB1; have HI1 := Lib.hid hI1; have hf0 := blk_frozen hI1.1 0; have hf1 := blk_frozen hI1.1 1; have hd0 := cellS71_0 hI1.1; have hd1 := cellS71_1 hI1.1; have HB1 := Lib.hid hB1; clear hB1 hI1)
  refine bodyPost_ret (results_none rfl _ _ _) rfl ?_
  exact ⟨rfl, IsS71.set_1 (IsS71.set_0 HI1.out ⟨#[]⟩) r2, below_set (below_set (below_step HB.out HB1.out) HI.out.ge) HI.out.ge, KeepBut.set_ (KeepBut.set_ (KeepBut.of_below HB1.out g none) 0 _) 1 _⟩

set_option maxHeartbeats 1000000 in
theorem text1_calls (s : ByteArray) (t : ByteArray) (p1 : Addr) (w : World) (h1 : w.cell? p1 = some (.string t)) (r1 : ByteArray) (r2 : Int) (hput : pack_Text.f 10 s t = some (r1, r2)) :
    Calls Try.prog 59 #[.string s, .pointer (some p1)] w fun e w' => e = .returned (.tuple #[.string r1, .int .i64 r2]) ∧ Below w.heap.size w w' := by
  have HP := Lib.hid hput
  clear hput
  go_enter Try.func59, Try.ntmps59
  go_wp2_with (go_at_call 60; (with_reducible refine (pack_Text.calls 10 s t r1 r2 _ HP.out).mono ?_); rintro e' w1 ⟨rfl, hB1⟩; have HB1 := Lib.hid hB1; clear hB1)
  go_ret2
  exact ⟨rfl, HB1.out⟩

set_option maxHeartbeats 1000000 in
theorem lay_text_ok (g : Nat) (s : ByteArray) (t : ByteArray) (p1 : Addr) (w0 w : World) (hI : IsS71 w0 w g s 0) (hB : Below w0.heap.size w0 w) (h1 : w.cell? p1 = some (.string t)) (r1 : ByteArray) (hput : pack_Text.f 10 s t = some (r1, 0)) :
    Calls Try.prog 53 #[.pointer (some ⟨g, 0, none⟩), .func (.func 59) #[] #[.pointer (some p1)]] w fun e w' => e = .returned (.tuple #[]) ∧ IsS71 w0 w' g r1 0 ∧ Below w0.heap.size w0 w' ∧ KeepBut w w' g none := by
  have hc0 := cellS71_0 hI.1
  have hc1 := cellS71_1 hI.1
  have HP := Lib.hid hput
  have HI := Lib.hid hI
  have HB := Lib.hid hB
  clear hput hI hB
  go_enter Try.func53, Try.ntmps53
  go_wp2_with (go_at_call 59; (with_reducible refine (text1_calls s t p1 _ h1 r1 0 HP.out).mono ?_); rintro e' w1 ⟨rfl, hB1⟩; have hI1 := IsS71.below HI.out hB1; have HI1 := Lib.hid hI1; have hf0 := blk_frozen hI1.1 0; have hd0 := cellS71_0 hI1.1; have HB1 := Lib.hid hB1; clear hB1 hI1)
  go_end0
  exact ⟨rfl, IsS71.set_0 HI1.out r1, below_set (below_step HB.out HB1.out) HI.out.ge, KeepBut.set_ (KeepBut.of_below HB1.out g none) 0 _⟩

set_option maxHeartbeats 1000000 in
theorem lay_text_err (g : Nat) (s : ByteArray) (t : ByteArray) (p1 : Addr) (w0 w : World) (hI : IsS71 w0 w g s 0) (hB : Below w0.heap.size w0 w) (h1 : w.cell? p1 = some (.string t)) (r1 : ByteArray) (r2 : Int) (hput : pack_Text.f 10 s t = some (r1, r2)) (hr : r2 ≠ 0) :
    Calls Try.prog 53 #[.pointer (some ⟨g, 0, none⟩), .func (.func 59) #[] #[.pointer (some p1)]] w fun e w' => e = .returned (.tuple #[]) ∧ IsS71 w0 w' g ⟨#[]⟩ r2 ∧ Below w0.heap.size w0 w' ∧ KeepBut w w' g none := by
  have hc0 := cellS71_0 hI.1
  have hc1 := cellS71_1 hI.1
  have hne : (r2 != 0) = true := by simpa using hr
  have HP := Lib.hid hput
  have HI := Lib.hid hI
  have HB := Lib.hid hB
  clear hput hI hB hr
  go_enter Try.func53, Try.ntmps53
  go_wp2_with (go_at_call 59; (with_reducible refine (text1_calls s t p1 _ h1 r1 r2 HP.out).mono ?_); rintro e' w1 ⟨rfl, hB1⟩; have hI1 := IsS71.below HI.out hB1; have HI1 := Lib.hid hI1; have hf0 := blk_frozen hI1.1 0; have hf1 := blk_frozen hI1.1 1; have hd0 := cellS71_0 hI1.1; have hd1 := cellS71_1 hI1.1; have HB1 := Lib.hid hB1; clear hB1 hI1)
  refine bodyPost_ret (results_none rfl _ _ _) rfl ?_
  exact ⟨rfl, IsS71.set_1 (IsS71.set_0 HI1.out ⟨#[]⟩) r2, below_set (below_set (below_step HB.out HB1.out) HI.out.ge) HI.out.ge, KeepBut.set_ (KeepBut.set_ (KeepBut.of_below HB1.out g none) 0 _) 1 _⟩

set_option maxHeartbeats 1000000 in
theorem wnum_of (g : Nat) (s0_0 : ByteArray) (s0_1 : Int) (a1 a2 : Int) (r1 : ByteArray) (r2 : Int) (w0 w : World)
    (hL : Calls Try.prog 53 #[.pointer (some ⟨g, 0, none⟩), .func (.func 54) #[] #[.pointer (some ⟨w.heap.size, 0, none⟩), .pointer (some ⟨w.heap.size + 1, 0, none⟩)]] ((w.alloc (.cells #[.int .i64 a1] 3)).alloc (.cells #[.int .i64 a2] 3)) fun e w' => e = .returned (.tuple #[]) ∧ IsS71 w0 w' g r1 r2 ∧ Below w0.heap.size w0 w' ∧ KeepBut ((w.alloc (.cells #[.int .i64 a1] 3)).alloc (.cells #[.int .i64 a2] 3)) w' g none) (hK2 : KeepBut w ((w.alloc (.cells #[.int .i64 a1] 3)).alloc (.cells #[.int .i64 a2] 3)) g none) :
    Calls Try.prog 36 #[.pointer (some ⟨g, 0, none⟩), .int .i64 a1, .int .i64 a2] w fun e w' => e = .returned (.tuple #[]) ∧ IsS71 w0 w' g r1 r2 ∧ Below w0.heap.size w0 w' ∧ KeepBut w w' g none := by
  have HL := hide_ hL
  have HK2 := hide_ hK2
  clear hL hK2
  go_enter Try.func36, Try.ntmps36
  go_wp2_with (go_at_call 53; (with_reducible refine HL.out.mono ?_); rintro e' w1 ⟨rfl, hI1, hB1, hK1⟩; have HI1 := Lib.hid hI1; have HB1 := Lib.hid hB1; have HK1 := Lib.hid hK1; clear hI1 hB1 hK1)
  go_end0
  exact ⟨rfl, HI1.out, HB1.out, KeepBut.trans HK2.out HK1.out (.inl rfl)⟩

theorem pack_Writer_Num.calls (g : Nat) (s0_0 : ByteArray) (s0_1 : Int) (a1 a2 : Int) (r1 : ByteArray) (r2 : Int) (w0 w : World) (hI : IsS71 w0 w g s0_0 s0_1) (hB : Below w0.heap.size w0 w) (h : pack_Writer_Num.f s0_0 s0_1 a1 a2 = some (r1, r2)) :
    Calls Try.prog 36 #[.pointer (some ⟨g, 0, none⟩), .int .i64 a1, .int .i64 a2] w fun e w' => e = .returned (.tuple #[]) ∧ IsS71 w0 w' g r1 r2 ∧ Below w0.heap.size w0 w' ∧ KeepBut w w' g none := by
  have hlt : g < w.heap.size := hI.lt
  have h1 : ((w.alloc (.cells #[.int .i64 a1] 3)).alloc (.cells #[.int .i64 a2] 3)).cell? ⟨w.heap.size, 0, none⟩ = some (.int .i64 a1) := by rw [cell_of_row _ w.heap.size 0 #[.int .i64 a1] 3 (0, 0) (heap_alloc2_old _ _ _)]; rfl
  have h2 : ((w.alloc (.cells #[.int .i64 a1] 3)).alloc (.cells #[.int .i64 a2] 3)).cell? ⟨w.heap.size + 1, 0, none⟩ = some (.int .i64 a2) := by rw [cell_of_row _ (w.heap.size + 1) 0 #[.int .i64 a2] 3 (0, 0) (heap_alloc2_new _ _ _)]; rfl
  have hI2 : IsS71 w0 ((w.alloc (.cells #[.int .i64 a1] 3)).alloc (.cells #[.int .i64 a2] 3)) g s0_0 s0_1 := IsS71.alloc (IsS71.alloc hI _) _
  have hB2 : Below w0.heap.size w0 ((w.alloc (.cells #[.int .i64 a1] 3)).alloc (.cells #[.int .i64 a2] 3)) := below_alloc (below_alloc hB _) _
  have hK2 : KeepBut w ((w.alloc (.cells #[.int .i64 a1] 3)).alloc (.cells #[.int .i64 a2] 3)) g none := KeepBut.of_below (below_alloc (below_alloc (Below.refl _ _) _) _) g none
  refine wnum_of g s0_0 s0_1 a1 a2 r1 r2 w0 w ?_ hK2
  unfold pack_Writer_Num.f at h
  by_cases he : s0_1 = 0
  · rw [if_pos he] at h
    subst he
    obtain ⟨⟨q1, q2⟩, hput, h⟩ := Option.bind_eq_some_iff.1 h
    by_cases hq : q2 = 0
    · subst hq
      have h' : some (q1, (0 : Int)) = some (r1, r2) := by simpa using h
      simp only [Option.some.injEq, Prod.mk.injEq] at h'
      obtain ⟨rfl, rfl⟩ := h'
      exact lay_num_ok g s0_0 a1 a2 ⟨w.heap.size, 0, none⟩ ⟨w.heap.size + 1, 0, none⟩ w0 _ hI2 hB2 h1 h2 q1 hput
    · have h' : some ((⟨#[]⟩ : ByteArray), q2) = some (r1, r2) := by rw [← h]; exact (if_neg hq).symm
      simp only [Option.some.injEq, Prod.mk.injEq] at h'
      obtain ⟨rfl, rfl⟩ := h'
      exact lay_num_err g s0_0 a1 a2 ⟨w.heap.size, 0, none⟩ ⟨w.heap.size + 1, 0, none⟩ w0 _ hI2 hB2 h1 h2 q1 q2 hput hq
  · rw [if_neg he] at h
    simp only [Option.some.injEq, Prod.mk.injEq] at h
    obtain ⟨rfl, rfl⟩ := h
    exact lay_off g s0_0 s0_1 _ w0 _ hI2 hB2 he

set_option maxHeartbeats 1000000 in
theorem wtext_of (g : Nat) (s0_0 : ByteArray) (s0_1 : Int) (a1 : ByteArray) (r1 : ByteArray) (r2 : Int) (w0 w : World)
    (hL : Calls Try.prog 53 #[.pointer (some ⟨g, 0, none⟩), .func (.func 59) #[] #[.pointer (some ⟨w.heap.size, 0, none⟩)]] (w.alloc (.cells #[.string a1] 9)) fun e w' => e = .returned (.tuple #[]) ∧ IsS71 w0 w' g r1 r2 ∧ Below w0.heap.size w0 w' ∧ KeepBut (w.alloc (.cells #[.string a1] 9)) w' g none) (hK2 : KeepBut w (w.alloc (.cells #[.string a1] 9)) g none) :
    Calls Try.prog 55 #[.pointer (some ⟨g, 0, none⟩), .string a1] w fun e w' => e = .returned (.tuple #[]) ∧ IsS71 w0 w' g r1 r2 ∧ Below w0.heap.size w0 w' ∧ KeepBut w w' g none := by
  have HL := hide_ hL
  have HK2 := hide_ hK2
  clear hL hK2
  go_enter Try.func55, Try.ntmps55
  go_wp2_with (go_at_call 53; (with_reducible refine HL.out.mono ?_); rintro e' w1 ⟨rfl, hI1, hB1, hK1⟩; have HI1 := Lib.hid hI1; have HB1 := Lib.hid hB1; have HK1 := Lib.hid hK1; clear hI1 hB1 hK1)
  go_end0
  exact ⟨rfl, HI1.out, HB1.out, KeepBut.trans HK2.out HK1.out (.inl rfl)⟩

theorem pack_Writer_Text.calls (g : Nat) (s0_0 : ByteArray) (s0_1 : Int) (a1 : ByteArray) (r1 : ByteArray) (r2 : Int) (w0 w : World) (hI : IsS71 w0 w g s0_0 s0_1) (hB : Below w0.heap.size w0 w) (h : pack_Writer_Text.f s0_0 s0_1 a1 = some (r1, r2)) :
    Calls Try.prog 55 #[.pointer (some ⟨g, 0, none⟩), .string a1] w fun e w' => e = .returned (.tuple #[]) ∧ IsS71 w0 w' g r1 r2 ∧ Below w0.heap.size w0 w' ∧ KeepBut w w' g none := by
  have hlt : g < w.heap.size := hI.lt
  have h1 : (w.alloc (.cells #[.string a1] 9)).cell? ⟨w.heap.size, 0, none⟩ = some (.string a1) := by rw [cell_of_row _ w.heap.size 0 #[.string a1] 9 (0, 0) (heap_alloc_new _ _)]; rfl
  have hI2 : IsS71 w0 (w.alloc (.cells #[.string a1] 9)) g s0_0 s0_1 := IsS71.alloc hI _
  have hB2 : Below w0.heap.size w0 (w.alloc (.cells #[.string a1] 9)) := below_alloc hB _
  have hK2 : KeepBut w (w.alloc (.cells #[.string a1] 9)) g none := KeepBut.of_below (below_alloc (Below.refl _ _) _) g none
  refine wtext_of g s0_0 s0_1 a1 r1 r2 w0 w ?_ hK2
  unfold pack_Writer_Text.f at h
  by_cases he : s0_1 = 0
  · rw [if_pos he] at h
    subst he
    obtain ⟨⟨q1, q2⟩, hput, h⟩ := Option.bind_eq_some_iff.1 h
    by_cases hq : q2 = 0
    · subst hq
      have h' : some (q1, (0 : Int)) = some (r1, r2) := by simpa using h
      simp only [Option.some.injEq, Prod.mk.injEq] at h'
      obtain ⟨rfl, rfl⟩ := h'
      exact lay_text_ok g s0_0 a1 ⟨w.heap.size, 0, none⟩ w0 _ hI2 hB2 h1 q1 hput
    · have h' : some ((⟨#[]⟩ : ByteArray), q2) = some (r1, r2) := by rw [← h]; exact (if_neg hq).symm
      simp only [Option.some.injEq, Prod.mk.injEq] at h'
      obtain ⟨rfl, rfl⟩ := h'
      exact lay_text_err g s0_0 a1 ⟨w.heap.size, 0, none⟩ w0 _ hI2 hB2 h1 q1 q2 hput hq
  · rw [if_neg he] at h
    simp only [Option.some.injEq, Prod.mk.injEq] at h
    obtain ⟨rfl, rfl⟩ := h
    exact lay_off g s0_0 s0_1 _ w0 _ hI2 hB2 he

end Go.Proofs.Ytdphikbkknkhiaa.PAll
