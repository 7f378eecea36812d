/- The net's methods, walked by hand. -/
import Derived.Test.YtfipchighkpobaaPAllx0
import Derived.Lib.Hide
import Derived.LoopTactic
namespace Go.Proofs.Ytfipchighkpobaa.PAll
open Go.RowKit Go.Proofs.YtfipchighkpobaaW.PrintWords Go.Proofs.YtfipchighkpobaaW.PrintLast Go.Proofs.YtfipchighkpobaaW.PrintMore
set_option linter.unusedVariables false
set_option linter.unusedSimpArgs false

/-- A net at block g: what is on its way, how many were lost, how many sent. -/
structure NW (w0 w : World) (g : Nat) (A : Option Addr) (c : Nat) (way : List ByteArray) (lost sent : Int) : Prop where
  rec_ : w.heap[g]? = some (.cells #[.slice A way.length c, .int .i64 lost, .int .i64 sent] 49 (0, 0))
  row : Kd.R Kd.string 9 w w0.heap.size (fun _ => True) (.slice A way.length c) way
  b : Below w0.heap.size w0 w
  ge : w0.heap.size ≤ g

theorem new_calls (w : World) : Calls Try.prog 7 #[] w fun e w' => e = .returned (.pointer (some ⟨w.heap.size, 0, none⟩)) ∧ NW w w' w.heap.size none 0 [] 0 0 := by
  have hu49 := Try.underlying49
  go_enter Try.func7, Try.ntmps7
  go_wp2
  go_ret
  exact ⟨rfl, heap_alloc_new w _, Kd.R_nil _ _ _ _ _, below_alloc (Below.refl _ _) _, Nat.le_refl _⟩

set_option maxHeartbeats 1000000 in
theorem room_ok {w0 w : World} {g : Nat} {A : Option Addr} {c : Nat} {way : List ByteArray} {lost sent : Int} (h : NW w0 w g A c way lost sent) (hl : way.length < 128) :
    Calls Try.prog 20 #[.pointer (some ⟨g, 0, none⟩)] w fun e w' => e = .returned (.bool true) ∧ w' = w := by
  have hu49 := Try.underlying49
  have hu25 := Try.underlying25
  have h0 : w.cell? ⟨g, 0, none⟩ = some (.slice A way.length c) := (blk_cell h.rec_ 0).trans rfl
  have d1 : decide ((way.length : Int) < 128) = true := by simp; omega
  have d2 : decide (way.length < 128) = true := by simpa using hl
  clear hl h
  go_enter Try.func20, Try.ntmps20
  go_wp2
  go_ret
  exact ⟨rfl, rfl⟩

set_option maxHeartbeats 2000000 in
theorem send_ok {w0 w : World} {g : Nat} {A : Option Addr} {c : Nat} {way : List ByteArray} {lost sent : Int} (h : NW w0 w g A c way lost sent) (hl : way.length < 128) (s : ByteArray) :
    Calls Try.prog 8 #[.pointer (some ⟨g, 0, none⟩), .string s] w fun e w' => e = .returned (.bool true) ∧ ∃ A' c', NW w0 w' g A' c' (way ++ [s]) lost (wrap64 (sent + 1)) := by
  have hu49 := Try.underlying49
  have hu25 := Try.underlying25
  have h0 : w.cell? ⟨g, 0, none⟩ = some (.slice A way.length c) := (blk_cell h.rec_ 0).trans rfl
  have h2 : w.cell? ⟨g, 2, none⟩ = some (.int .i64 sent) := (blk_cell h.rec_ 2).trans rfl
  have hf0 := blk_frozen h.rec_ 0
  have hf2 := blk_frozen h.rec_ 2
  have hn : NW w0 (w.setCell ⟨g, 2, none⟩ (.int .i64 (wrap64 (sent + 1)))) g A c way lost (wrap64 (sent + 1)) :=
    ⟨blk_put h.rec_ 2 _ rfl, Kd.R_set h.row h.rec_ (by decide) 2 _, below_set h.b h.ge, h.ge⟩
  have hn0 : (w.setCell ⟨g, 2, none⟩ (.int .i64 (wrap64 (sent + 1)))).cell? ⟨g, 0, none⟩ = some (.slice A way.length c) := (blk_cell hn.rec_ 0).trans rfl
  have hw : IntKind.i64.wrap (sent + 1) = wrap64 (sent + 1) := i64_w _
  have HN := Lib.hid hn
  have HL := Lib.hid hl
  clear hl h hn
  go_enter Try.func8, Try.ntmps8
  go_wp2_with (first
    | (go_at_call 20; (with_reducible refine (room_ok HN.out HL.out).mono ?_); rintro e' w1 ⟨rfl, hw1⟩; have hn1 : NW w0 w1 g A c way lost (wrap64 (sent + 1)) := hw1 ▸ HN.out; have h10 : w1.cell? ⟨g, 0, none⟩ = some (.slice A way.length c) := (blk_cell hn1.rec_ 0).trans rfl; have HN1 := Lib.hid hn1; clear hw1 hn1)
    | (at_builtin; refine Kd.R_append Kd.string (w0 := w0) w0.heap.size rfl (.tmp 21) (.tmp 23) 25 9 (.string ⟨#[]⟩) 16 rfl Try.underlying25 info9 rfl (by decide) (by omega) (.slice A way.length c) way s [.string s] (fun _ => True) (fun _ => False) rfl rfl rfl (fun _ h => h.elim) (fun _ _ => trivial) HN1.out.row HN1.out.b HN1.out.b.size (by have := HL.out; omega) ?_; intro v2 w2 hR2 hbel2 hgr2 hat2; obtain ⟨A2, c2, rfl⟩ := Kd.R_slice hR2; have hr2 := (hgr2.block g (blk_lt HN1.out.rec_) (own_ne HN1.out.row.2.choose_spec.1 HN1.out.rec_ (by decide))).trans HN1.out.rec_; have hc9 : w2.cell? ⟨g, 0, none⟩ = some (.slice A way.length c) := (blk_cell hr2 0).trans rfl; have hf9 := blk_frozen hr2 0; have HRC2 := Lib.hid hr2; have HR2 := Lib.hid hR2; have HB2 := Lib.hid hbel2; clear hR2 hbel2 hgr2 hat2 hr2))
  go_ret
  exact ⟨rfl, A2, c2, by rw [show (way ++ [s]).length = way.length + 1 by simp]; exact blk_put HRC2.out 0 _ rfl, Kd.R_set HR2.out HRC2.out (by decide) 0 _, below_set HB2.out HN1.out.ge, HN1.out.ge⟩
theorem row_str {w : World} {A : Option Addr} {c b : Nat} {xs : List ByteArray} (h : Kd.R Kd.string 9 w b (fun _ => True) (.slice A xs.length c) xs) (j : Nat) (hj : j < xs.length) : ∃ ad, A = some ad ∧ w.cell? (ad.add j) = some (.string xs[j]) := by
  obtain ⟨_, _, hC⟩ := Kd.R_reads' h
  have := Kd.at_string hC (j : Int) (by omega) (by omega)
  rw [Int.toNat_natCast] at this
  obtain ⟨ad, e, hx⟩ := this
  refine ⟨ad, e, hx.trans ?_⟩
  unfold rdOf
  rw [Int.toNat_natCast, List.getD_eq_getElem?_getD, List.getElem?_eq_getElem hj]
  rfl

set_option maxHeartbeats 1000000 in
theorem at_ok {w0 w : World} {g : Nat} {A : Option Addr} {c : Nat} {way : List ByteArray} {lost sent : Int} (h : NW w0 w g A c way lost sent) (i : Nat) (hi : i < way.length) (hl : way.length ≤ 128) :
    Calls Try.prog 16 #[.pointer (some ⟨g, 0, none⟩), .int .i64 i] w fun e w' => e = .returned (.tuple #[.string way[i], .int .i64 0]) ∧ w' = w := by
  have hu49 := Try.underlying49
  have hu25 := Try.underlying25
  obtain ⟨ad, rfl, hx⟩ := row_str h.row i hi
  have h0 : w.cell? ⟨g, 0, none⟩ = some (.slice (some ad) way.length c) := (blk_cell h.rec_ 0).trans rfl
  have d1 : decide ((i : Int) < 0) = false := by simp
  have d2 : decide ((way.length : Int) ≤ (i : Int)) = false := by simp; omega
  have d3 : decide (way.length ≤ i) = false := by simp; omega
  have e3 : (0 : Int) ≤ (i : Int) := by omega
  have e4 : (i : Int) < (way.length : Int) := by omega
  generalize way[i] = x at *
  clear h
  go_enter Try.func16, Try.ntmps16
  go_wp2
  go_ret2
  exact ⟨rfl, rfl⟩
theorem len_ok {w0 w : World} {g : Nat} {A : Option Addr} {n c : Nat} {f1 f2 : Int} (h : w.heap[g]? = some (.cells #[.slice A n c, .int .i64 f1, .int .i64 f2] 49 (0, 0))) :
    Calls Try.prog 18 #[.pointer (some ⟨g, 0, none⟩)] w fun e w' => e = .returned (.int .i64 n) ∧ w' = w := by
  have hu49 := Try.underlying49
  have hu25 := Try.underlying25
  have h0 : w.cell? ⟨g, 0, none⟩ = some (.slice A n c) := (blk_cell h 0).trans rfl
  clear h
  go_enter Try.func18, Try.ntmps18
  go_wp2
  go_ret
  exact ⟨rfl, rfl⟩
end Go.Proofs.Ytfipchighkpobaa.PAll
