/- The law NetFull, walked by hand. -/
import Derived.Test.YtfipchighkpobaaNetStands
namespace Go.Proofs.Ytfipchighkpobaa.PAll
open Go.RowKit Go.Proofs.YtfipchighkpobaaW.PrintWords Go.Proofs.YtfipchighkpobaaW.PrintLast Go.Proofs.YtfipchighkpobaaW.PrintMore
set_option linter.unusedVariables false
set_option linter.unusedSimpArgs false

/-- Both, in some state. -/
def Both (B : Nat) (w0 w : World) (g p : Nat) : Prop := Below B w0 w ∧ ∃ way lost sent, way.length ≤ 128 ∧ ∃ A A' c c', LS B w g p A A' c c' way lost sent way lost sent

theorem Both.bound {B : Nat} {w0 w : World} {g p : Nat} (h : Both B w0 w g p) : B ≤ w.heap.size := by
  obtain ⟨_, _, _, _, _, _, _, _, _, h⟩ := h
  exact h.n.bound
theorem both_step {B : Nat} {w0 w : World} {g p : Nat} (h : Both B w0 w g p) (kind I K : Int) (s : ByteArray) :
    Calls Try.prog 14 #[.pointer (some ⟨g, 0, none⟩), .pointer (some ⟨p, 0, none⟩), .agg #[.int .i64 kind, .int .i64 I, .int .i64 K, .string s]] w fun e w' => e = .returned (.bool true) ∧ Both B w0 w' g p := by
  obtain ⟨hb, way, lost, sent, hl, A, A', c, c', h⟩ := h
  exact (step_ok h hl kind I K s).mono fun e w' ⟨he, way', lost', sent', hl', hs⟩ => ⟨he, hb.trans hs.1, way', lost', sent', hl', hs.2⟩
theorem both_stands {B : Nat} {w0 w : World} {g p : Nat} (h : Both B w0 w g p) :
    Calls Try.prog 15 #[.pointer (some ⟨g, 0, none⟩), .pointer (some ⟨p, 0, none⟩)] w fun e w' => e = .returned (.bool true) ∧ Both B w0 w' g p := by
  obtain ⟨hb, way, lost, sent, hl, A, A', c, c', h⟩ := h
  exact (stands_ok h hl).mono fun e w' ⟨he, ho⟩ => ⟨he, hb.trans (ho.below (fun _ e => e.elim) h.n.bound), way, lost, sent, hl, A, A', c, c', h.hold ho (fun _ _ h => h)⟩
theorem both_only {B : Nat} {w0 w w' : World} {g p : Nat} (h : Both B w0 w g p) (ho : Only w w' (fun _ => False)) : Both B w0 w' g p := by
  obtain ⟨hb, way, lost, sent, hl, A, A', c, c', h⟩ := h
  exact ⟨hb.trans (ho.below (fun _ e => e.elim) h.n.bound), way, lost, sent, hl, A, A', c, c', h.hold ho (fun _ _ h => h)⟩
theorem both_start (w w1 : World) (h : NW w w1 w.heap.size none 0 [] 0 0) : Both w.heap.size w (w1.alloc (.cells #[.slice none 0 0, .int .i64 0, .int .i64 0] 38)) w.heap.size w1.heap.size := by
  obtain ⟨h1, h2⟩ := start_LS w w1 h
  exact ⟨h2, [], 0, 0, by decide, _, _, _, _, h1⟩

set_option maxRecDepth 10000 in
set_option maxHeartbeats 4000000 in
theorem NetFull.walk (k : Int) (w : World) (hk : (Lit.int .i64 k).wf = true) :
    Calls Try.prog 5 #[.int .i64 k] w fun e w' => e = .returned (.bool true) ∧ Below w.heap.size w w' := by
  have hu38 := Try.underlying38
  have hu27 := Try.underlying27
  have hu41 := Try.underlying41
  clear hk
  by_cases h0 : k < 0
  · have d1 : decide (k < 0) = true := by simpa using h0
    clear h0
    go_enter Try.func5, Try.ntmps5
    go_wp2_with (go_at_call 13; (with_reducible refine (awake_calls _).mono ?_); rintro e' w9 ⟨rfl, hB9⟩; have HB9 := Lib.hid hB9; clear hB9)
    go_ret
    exact ⟨rfl, HB9.out⟩
  by_cases h1 : 140 < k
  · have d1 : decide (k < 0) = false := by simpa using h0
    have d2 : decide (140 < k) = true := by simpa using h1
    clear h0 h1
    go_enter Try.func5, Try.ntmps5
    go_wp2_with (go_at_call 13; (with_reducible refine (awake_calls _).mono ?_); rintro e' w9 ⟨rfl, hB9⟩; have HB9 := Lib.hid hB9; clear hB9)
    go_ret
    exact ⟨rfl, HB9.out⟩
  obtain ⟨n, rfl⟩ : ∃ n : Nat, k = n := ⟨k.toNat, by omega⟩
  have d1 : decide ((n : Int) < 0) = false := by simp
  have d2 : decide ((140 : Int) < (n : Int)) = false := by simp; omega
  have d3 : decide (140 < n) = false := by simp; omega
  have hn : n ≤ 140 := by omega
  have HN := Lib.hid hn
  clear h0 h1 hn
  go_enter Try.func5, Try.ntmps5
  go_wp2_with (go_at_call 7; (with_reducible refine (new_calls w).mono ?_); rintro e' w1 ⟨rfl, h1⟩; have H1 := Lib.hid (both_start w w1 h1); clear h1)
  go_loopw [5] (fun i wr => ∃ j : Nat, j ≤ n ∧ i = .int .i64 j ∧ Both w.heap.size w wr w.heap.size w1.heap.size) (fun i _ => n - (intOf i).toNat)
  case atStart => exact ⟨0, Nat.zero_le _, rfl, H1.out⟩
  case round =>
    obtain ⟨j, hj, rfl, hW⟩ := hrel
    have HW := Lib.hid hW
    by_cases hlt : j < n
    · have e1 : decide ((j : Int) < (n : Int)) = true := by simp; omega
      have e2 : decide (j < n) = true := by simpa using hlt
      have hj1 : j < 140 := by have := HN.out; omega
      have HJ := Lib.hid (show j + 1 ≤ n from hlt)
      clear hlt hj hW
      have hcv : (convert 41 9 (.slice (some ⟨wr.heap.size, 0, none⟩) 1 1)).run Try.prog (wr.alloc (.cells #[.int .u8 j] 5)) = .ok (.string (strOfNums [(j : Int)])) (wr.alloc (.cells #[.int .u8 j] 5)) :=
        own_string (base := 0) (e' := 5) (n := 1) Try.underlying41 Try.underlying5 Try.underlying9 ⟨rfl, .inr ⟨wr.heap.size, 1, #[.int .u8 j], rfl, Nat.zero_le _, heap_alloc_new wr _, Nat.le_refl _, by decide, rfl, rfl⟩⟩
      have HA := Lib.hid (both_only HW.out (Only.alloc wr (.cells #[.int .u8 j] 5)))
      go_wp2_with (go_at_call 14; (with_reducible refine (both_step HA.out _ _ _ _).mono ?_); rintro e' w2 ⟨rfl, h2⟩; have H2 := Lib.hid h2; clear h2)
      go_roundw
      case rel => exact ⟨j + 1, HJ.out, by go_num, H2.out⟩
      case measure => have := HJ.out; simp [intOf]; omega
    · obtain rfl : j = n := by omega
      have e1 : decide ((j : Int) < (j : Int)) = false := by simp
      clear hlt hj hW
      go_wp2_with (first
        | (go_at_call 14; (with_reducible refine (both_step HW.out _ _ _ _).mono ?_); rintro e' w2 ⟨rfl, h2⟩; have H2 := Lib.hid h2; clear h2)
        | (go_at_call 15; (with_reducible refine (both_stands H2.out).mono ?_); rintro e' w3 ⟨rfl, h3⟩; have H3 := Lib.hid h3; clear h3)
        | (go_at_call 13; (with_reducible refine (awake_calls _).mono ?_); rintro e' w9 ⟨rfl, hB9⟩; have HB9 := Lib.hid (hB9.mono H3.out.bound); clear hB9))
      go_ret
      exact ⟨rfl, H3.out.1.trans HB9.out⟩
end Go.Proofs.Ytfipchighkpobaa.PAll
