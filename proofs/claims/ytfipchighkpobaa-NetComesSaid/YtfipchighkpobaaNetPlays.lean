/- The law NetPlays, walked by hand. -/
import Derived.Test.YtfipchighkpobaaNetFull
namespace Go.Proofs.Ytfipchighkpobaa.PAll
open Go.RowKit Go.Proofs.YtfipchighkpobaaW.PrintWords Go.Proofs.YtfipchighkpobaaW.PrintLast Go.Proofs.YtfipchighkpobaaW.PrintMore
set_option linter.unusedVariables false
set_option linter.unusedSimpArgs false

/-- A script, by its cells. -/
def ScriptRow (w : World) (A : Option Addr) (len cap : Nat) : Prop :=
  (A = none ∧ len = 0 ∧ cap = 0) ∨ ∃ x, A = some x ∧ len ≤ cap ∧ cap ≤ maxLen ∧ ∀ k, k < len → ∃ (n0 : Int) (n1 : Int) (n2 : Int) (n3 : ByteArray), w.cell? (x.add (k * 4)) = some (.int .i64 n0) ∧ w.cell? ⟨(x.add (k * 4)).block, (x.add (k * 4)).off + 1, none⟩ = some (.int .i64 n1) ∧
    w.cell? ⟨(x.add (k * 4)).block, (x.add (k * 4)).off + 2, none⟩ = some (.int .i64 n2) ∧ w.cell? ⟨(x.add (k * 4)).block, (x.add (k * 4)).off + 3, none⟩ = some (.string n3)

/-- Below the base every cell is as it was. -/
theorem below_cell {B : Nat} {w w' : World} (h : Below B w w') {a : Addr} (ha : a.block < B) {v : Value} (hc : w.cell? a = some v) : w'.cell? a = some v := (World.cell?_of_block (h.block a.block ha)).trans hc

set_option maxRecDepth 10000 in
set_option maxHeartbeats 4000000 in
theorem NetPlays.walk (A : Option Addr) (len cap : Nat) (w : World) (hr : ScriptRow w A len cap) :
    Calls Try.prog 4 #[.slice A len cap] w fun e w' => e = .returned (.bool true) ∧ Below w.heap.size w w' := by
  have hu38 := Try.underlying38
  have hu27 := Try.underlying27
  have hu22 := Try.underlying22
  have HR := Lib.hid (show ∀ k, k < len → ∃ (x : Addr) (n0 : Int) (n1 : Int) (n2 : Int) (n3 : ByteArray), A = some x ∧ w.cell? (x.add (k * 4)) = some (.int .i64 n0) ∧ w.cell? ⟨(x.add (k * 4)).block, (x.add (k * 4)).off + 1, none⟩ = some (.int .i64 n1) ∧
    w.cell? ⟨(x.add (k * 4)).block, (x.add (k * 4)).off + 2, none⟩ = some (.int .i64 n2) ∧ w.cell? ⟨(x.add (k * 4)).block, (x.add (k * 4)).off + 3, none⟩ = some (.string n3) from fun k hk => by
      rcases hr with ⟨_, h0, _⟩ | ⟨x, rfl, _, _, h⟩
      · omega
      · obtain ⟨n0, n1, n2, n3, h⟩ := h k hk
        exact ⟨x, n0, n1, n2, n3, rfl, h⟩)
  clear hr
  go_enter Try.func4, Try.ntmps4
  go_wp2_with (go_at_call 7; (with_reducible refine (new_calls w).mono ?_); rintro e' w1 ⟨rfl, h1⟩; have H1 := Lib.hid (both_start w w1 h1); clear h1)
  go_loopw [5] (fun i wr => ∃ j : Nat, j ≤ 60 ∧ i = .int .i64 j ∧ Both w.heap.size w wr w.heap.size w1.heap.size) (fun i _ => 60 - (intOf i).toNat)
  case atStart => exact ⟨0, Nat.zero_le _, rfl, H1.out⟩
  case round =>
    obtain ⟨j, hj, rfl, hW⟩ := hrel
    have HW := Lib.hid hW
    by_cases hlt : j < len
    · have e1 : decide ((j : Int) < (len : Int)) = true := by simp; omega
      have e2 : decide (j < len) = true := by simpa using hlt
      by_cases h60 : j < 60
      · have e3 : decide ((j : Int) < 60) = true := by simp; omega
        have e4 : decide (j < 60) = true := by simpa using h60
        obtain ⟨x, n0, n1, n2, n3, rfl, c0, c1, c2, c3⟩ := HR.out j hlt
        have x0 := below_cell hW.1 (World.block_lt_of_cell? w _ c0) c0
        have x1 := below_cell hW.1 (World.block_lt_of_cell? w _ c1) c1
        have x2 := below_cell hW.1 (World.block_lt_of_cell? w _ c2) c2
        have x3 := below_cell hW.1 (World.block_lt_of_cell? w _ c3) c3
        have f0 : (0 : Int) ≤ (j : Int) := by omega
        have f1 : (j : Int) < (len : Int) := by omega
        have HJ := Lib.hid (show j + 1 ≤ 60 from h60)
        clear hW c0 c1 c2 c3 hj hlt
        go_wp2_with (first
          | (go_at_call 14; (with_reducible refine (both_step HW.out _ _ _ _).mono ?_); rintro e' w2 ⟨rfl, h2⟩; have H2 := Lib.hid h2; clear h2)
          | (go_at_call 15; (with_reducible refine (both_stands H2.out).mono ?_); rintro e' w3 ⟨rfl, h3⟩; have H3 := Lib.hid h3; clear h3))
        go_roundw
        case rel => exact ⟨j + 1, HJ.out, by go_num, H3.out⟩
        case measure => have := HJ.out; simp [intOf]; omega
      · have e3 : decide ((j : Int) < 60) = false := by simp; omega
        have e4 : decide (j < 60) = false := by simpa using h60
        clear hlt hj hW
        go_wp2_with (go_at_call 13; (with_reducible refine (awake_calls _).mono ?_); rintro e' w9 ⟨rfl, hB9⟩; have HB9 := Lib.hid (hB9.mono HW.out.bound); clear hB9)
        go_ret
        exact ⟨rfl, HW.out.1.trans HB9.out⟩
    · have e1 : decide ((j : Int) < (len : Int)) = false := by simp; omega
      have e2 : decide (j < len) = false := by simpa using hlt
      clear hlt hj hW
      go_wp2_with (go_at_call 13; (with_reducible refine (awake_calls _).mono ?_); rintro e' w9 ⟨rfl, hB9⟩; have HB9 := Lib.hid (hB9.mono HW.out.bound); clear hB9)
      go_ret
      exact ⟨rfl, HW.out.1.trans HB9.out⟩
end Go.Proofs.Ytfipchighkpobaa.PAll
