/- The law PackWrites, walked by hand: a writer beside what the document says of it. -/
import Derived.Test.YtgaeccdkaheemaaLaw01Plain
import Derived.Test.YtgaeccdkaheemaaPackWr
import Derived.Lib.Hide
import Derived.LoopTactic
namespace Go.Proofs.Ytgaeccdkaheemaa.PAll
open Go.RowKit Go.Proofs.YtgaeccdkaheemaaW.PrintWords Go.Proofs.YtgaeccdkaheemaaW.PrintLast Go.Proofs.YtgaeccdkaheemaaW.PrintMore
open Go.Proofs.Ytgaeccdkaheemaa.Pure
set_option linter.unusedVariables false
set_option linter.unusedSimpArgs false

/-- A writer in a world. -/
structure Wri (w0 w : World) (g : Nat) (r : ByteArray × Int) : Prop where
  i : IsS32 w0 w g r.1 r.2
  b : Below w0.heap.size w0 w
theorem Wri.drew {w0 w : World} {g : Nat} {r : ByteArray × Int} (h : Wri w0 w g r) : Wri w0 w.drew g r := ⟨h.i.drew, below_drew h.b⟩
theorem Wri.drewN {w0 w : World} {g : Nat} {r : ByteArray × Int} (h : Wri w0 w g r) (m : Nat) : Wri w0 (w.drewN m) g r := ⟨h.i.drewN m, pw_below_drewN h.b m⟩
theorem Wri.below {w0 w w' : World} {g : Nat} {r : ByteArray × Int} (h : Wri w0 w g r) (hb : Below w.heap.size w w') : Wri w0 w' g r := ⟨h.i.below hb, below_step h.b hb⟩

/-- What a Put or a Text answers, as far as the laws need it. -/
structure Laid (s : ByteArray) (r : ByteArray × Int) : Prop where
  err : r.2 ≠ 0 → r.1 = ⟨#[]⟩
  size : r.1.size ≤ s.size + 65537
/-- What becomes of a text and its first error. -/
def nextW (s : ByteArray) (e : Int) (r : ByteArray × Int) : ByteArray × Int := if e = 0 then r else (s, e)
theorem empty_size : (⟨#[]⟩ : ByteArray).size = 0 := rfl
theorem nb_size (k n : Nat) : (⟨(nb k n).toArray⟩ : ByteArray).size = k := by show (nb k n).toArray.size = k; simp [nb_length]

theorem text_plain (s t : ByteArray) (hs : s.size ≤ 1152921504606846976) : ∃ r, pack_Text.f 10 s t = some r ∧ gharrylaw01_text.f 10 s t = some r ∧
    (65535 < t.size ∧ r = (⟨#[]⟩, 3) ∨ t.size ≤ 65535 ∧ r = ((s ++ ⟨(nb 2 t.size).toArray⟩) ++ t, 0)) := by
  by_cases h : t.size ≤ 65535
  · exact text_same 10 s t hs (by omega) (by omega)
  · have hl2 := limit_plain 2 (by omega) (by omega)
    rw [show ((2 : Nat) : Int) = 2 from rfl, show ((256 ^ 2 : Nat) : Int) = 65536 from rfl] at hl2
    refine ⟨(⟨#[]⟩, 3), ?_, ?_, .inl ⟨by omega, rfl⟩⟩
    · unfold pack_Text.f
      rw [hl2, Option.bind_some, if_pos (by omega)]
    · unfold gharrylaw01_text.f
      rw [if_pos (by omega)]
theorem num_step (s : ByteArray) (n w : Int) (hs : s.size ≤ 1152921504606846976) : ∃ r, pack_Put.f 10 s n w = some r ∧ gharrylaw01_put.f 10 s n w = some r ∧ Laid s r := by
  obtain ⟨r, h1, h2, h3⟩ := put_same 10 s n w (by omega) (by omega)
  refine ⟨r, h1, h2, ?_⟩
  rcases h3 with ⟨_, rfl⟩ | ⟨_, _, rfl⟩ | ⟨hw, _, _, rfl⟩
  · exact ⟨fun _ => rfl, by show ByteArray.size ⟨#[]⟩ ≤ _; rw [empty_size]; omega⟩
  · exact ⟨fun _ => rfl, by show ByteArray.size ⟨#[]⟩ ≤ _; rw [empty_size]; omega⟩
  · exact ⟨fun c => absurd rfl c, by show (s ++ _).size ≤ _; rw [ByteArray.size_append, nb_size]; omega⟩
theorem text_step (s t : ByteArray) (hs : s.size ≤ 1152921504606846976) : ∃ r, pack_Text.f 10 s t = some r ∧ gharrylaw01_text.f 10 s t = some r ∧ Laid s r := by
  obtain ⟨r, h1, h2, h3⟩ := text_plain s t hs
  refine ⟨r, h1, h2, ?_⟩
  rcases h3 with ⟨_, rfl⟩ | ⟨hw, rfl⟩
  · exact ⟨fun _ => rfl, by show ByteArray.size ⟨#[]⟩ ≤ _; rw [empty_size]; omega⟩
  · exact ⟨fun c => absurd rfl c, by show (s ++ _ ++ _).size ≤ _; rw [ByteArray.size_append, ByteArray.size_append, nb_size]; omega⟩
theorem wnum_f (s : ByteArray) (e n w : Int) (r : ByteArray × Int) (h : pack_Put.f 10 s n w = some r) (hl : Laid s r) : pack_Writer_Num.f s e n w = some (nextW s e r) := by
  unfold pack_Writer_Num.f nextW
  by_cases he : e = 0
  · rw [if_pos he, if_pos he, h, Option.bind_some]
    by_cases h2 : r.2 = 0
    · rw [if_pos h2]; rw [← h2]
    · rw [if_neg h2]; rw [← hl.err h2]
  · rw [if_neg he, if_neg he]
theorem wtext_f (s : ByteArray) (e : Int) (t : ByteArray) (r : ByteArray × Int) (h : pack_Text.f 10 s t = some r) (hl : Laid s r) : pack_Writer_Text.f s e t = some (nextW s e r) := by
  unfold pack_Writer_Text.f nextW
  by_cases he : e = 0
  · rw [if_pos he, if_pos he, h, Option.bind_some]
    by_cases h2 : r.2 = 0
    · rw [if_pos h2]; rw [← h2]
    · rw [if_neg h2]; rw [← hl.err h2]
  · rw [if_neg he, if_neg he]

section
variable {w0 w : World} {g : Nat} {s : ByteArray} {e : Int}
theorem wr_num (h : Wri w0 w g (s, e)) (n wd : Int) {r : ByteArray × Int} (hp : pack_Put.f 10 s n wd = some r) (hl : Laid s r) :
    Calls Try.prog 15 #[.pointer (some ⟨g, 0, none⟩), .int .i64 n, .int .i64 wd] w fun e' w' => e' = .returned (.tuple #[]) ∧ Wri w0 w' g (nextW s e r) :=
  (pack_Writer_Num.calls g s e n wd _ _ w0 w h.i h.b (wnum_f s e n wd r hp hl)).mono fun _ _ ⟨he, hI, hB, _⟩ => ⟨he, hI, hB⟩
theorem wr_text (h : Wri w0 w g (s, e)) (t : ByteArray) {r : ByteArray × Int} (hp : pack_Text.f 10 s t = some r) (hl : Laid s r) :
    Calls Try.prog 14 #[.pointer (some ⟨g, 0, none⟩), .string t] w fun e' w' => e' = .returned (.tuple #[]) ∧ Wri w0 w' g (nextW s e r) :=
  (pack_Writer_Text.calls g s e t _ _ w0 w h.i h.b (wtext_f s e t r hp hl)).mono fun _ _ ⟨he, hI, hB, _⟩ => ⟨he, hI, hB⟩
theorem wr_all (h : Wri w0 w g (s, e)) :
    Calls Try.prog 16 #[.pointer (some ⟨g, 0, none⟩)] w fun e' w' => e' = .returned (.tuple #[.string s, .int .i64 e]) ∧ Wri w0 w' g (s, e) :=
  (pack_Writer_All.calls g s e _ _ _ _ w0 w h.i h.b (by rfl)).mono fun _ _ ⟨he, hI, hB, _⟩ => ⟨he, hI, hB⟩
theorem law_put (s : ByteArray) (n wd : Int) {r : ByteArray × Int} (hp : gharrylaw01_put.f 10 s n wd = some r) (w : World) :
    Calls Try.prog 10 #[.string s, .int .i64 n, .int .i64 wd] w fun e' w' => e' = .returned (.tuple #[.string r.1, .int .i64 r.2]) ∧ Below w.heap.size w w' := gharrylaw01_put.calls 10 s n wd r.1 r.2 w hp
theorem law_text (s t : ByteArray) {r : ByteArray × Int} (hp : gharrylaw01_text.f 10 s t = some r) (w : World) :
    Calls Try.prog 13 #[.string s, .string t] w fun e' w' => e' = .returned (.tuple #[.string r.1, .int .i64 r.2]) ∧ Below w.heap.size w w' := gharrylaw01_text.calls 10 s t r.1 r.2 w hp
end
theorem awake_any (w : World) : Calls Try.prog 11 #[] w fun e w' => e = .returned (.bool true) ∧ Below w.heap.size w w' := gharrylaw01_awake.calls 10 true w (Pure.law_awake 10 (by omega))
theorem cell_lt {w : World} {a : Addr} {v : Value} (h : w.cell? a = some v) : a.block < w.heap.size := by
  unfold World.cell? at h
  cases hb : w.heap[a.block]? with
  | none => rw [hb] at h; exact absurd h (by simp)
  | some o => exact (Array.getElem?_eq_some_iff.1 hb).1
theorem cell_below {w0 w : World} (h : Below w0.heap.size w0 w) {p : Addr} {v : Value} (hc : w0.cell? p = some v) : w.cell? p = some v := (h.cell (cell_lt hc)).trans hc
theorem Laid.next {s : ByteArray} {e : Int} {r : ByteArray × Int} (hl : Laid s r) (he : e ≠ 0 → s = ⟨#[]⟩) : ((nextW s e r).2 ≠ 0 → (nextW s e r).1 = ⟨#[]⟩) ∧ (nextW s e r).1.size ≤ s.size + 65537 := by
  unfold nextW
  split
  · exact ⟨hl.err, hl.size⟩
  · rename_i h
    exact ⟨fun _ => he h, by show s.size ≤ _; omega⟩

set_option maxHeartbeats 4000000 in
set_option maxRecDepth 4000 in
theorem writes_walk (a : Addr) (len cap : Nat) (f : Nat → Int × Int × ByteArray) (w : World) (hcap : len ≤ cap) (hmax : cap ≤ maxLen)
    (hc0 : ∀ k, k < len → w.cell? (a.add (k * 3)) = some (.int .i64 (f k).1)) (hc1 : ∀ k, k < len → w.cell? ⟨(a.add (k * 3)).block, (a.add (k * 3)).off + 1, none⟩ = some (.int .i64 (f k).2.1)) (hc2 : ∀ k, k < len → w.cell? ⟨(a.add (k * 3)).block, (a.add (k * 3)).off + 2, none⟩ = some (.string (f k).2.2)) :
    Calls Try.prog 5 #[.slice (some a) len cap] w fun e w' => e = .returned (.bool true) ∧ Below w.heap.size w w' := by
  have HC0 := Lib.hid hc0
  have HC1 := Lib.hid hc1
  have HC2 := Lib.hid hc2
  clear hc0 hc1 hc2
  have hu32 := Try.underlying32
  have hW0 : Wri w (w.alloc (.cells #[.string ⟨#[]⟩, .int .i64 0] 32)) w.heap.size (⟨#[]⟩, 0) := ⟨IsS32.new _ _ _ _ (Below.refl _ _), below_alloc (Below.refl _ _) _⟩
  have HW0 := Lib.hid hW0
  clear hW0
  go_enter Try.func5, Try.ntmps5
  go_wp2
  go_loopw [4, 5, 6] (fun v4 v5 i wr => ∃ (k : Nat) (s : ByteArray) (e : Int), k ≤ len ∧ k ≤ 60 ∧ i = .int .i64 k ∧ v4 = .string s ∧ v5 = .int .i64 e ∧ (e ≠ 0 → s = ⟨#[]⟩) ∧ s.size ≤ k * 65537 ∧ Wri w wr w.heap.size (s, e)) (fun _ _ i _ => 60 - (intOf i).toNat)
  case atStart => exact ⟨0, ⟨#[]⟩, 0, Nat.zero_le _, Nat.zero_le _, rfl, rfl, rfl, fun c => absurd rfl c, by rw [empty_size]; omega, HW0.out⟩
  case round =>
    obtain ⟨k, s, e, hk, hk6, rfl, rfl, rfl, hE, hS, hB⟩ := hrel
    have HE := Lib.hid hE
    have HS := Lib.hid hS
    have HB := Lib.hid hB
    clear hE hS hB
    by_cases hlt : k < len ∧ k < 60
    · obtain ⟨h1, h2⟩ := hlt
      have hw0 := HC0.out k h1
      have hw1 := HC1.out k h1
      have hw2 := HC2.out k h1
      generalize (f k).1 = N at hw0
      generalize (f k).2.1 = D at hw1
      generalize (f k).2.2 = T at hw2
      have HW0 := Lib.hid hw0
      have HW1 := Lib.hid hw1
      have HW2 := Lib.hid hw2
      clear hw0 hw1 hw2
      have hk1 := cell_below HB.out.b HW1.out
      go_upto_if 28 with (fail)
      go_cut [7, 8] (fun v7 v8 wc => ∃ r : ByteArray × Int, v7 = .string r.1 ∧ v8 = .int .i64 r.2 ∧ Laid s r ∧ Wri w wc w.heap.size (nextW s e r))
      case first =>
        by_cases q0 : D = 0
        · have hd0 : (D == 0) = true := by simpa using q0
          clear q0
          obtain ⟨r, hr1, hr2, hr3⟩ := text_step s T (by have := HS.out; omega)
          have HR1 := Lib.hid hr1
          have HR2 := Lib.hid hr2
          have HR3 := Lib.hid hr3
          clear hr1 hr2 hr3
          have hk2 := cell_below HB.out.b HW2.out
          go_wp2_with (first
            | (go_at_call 14; (with_reducible refine (wr_text HB.out T HR1.out HR3.out).mono ?_); rintro e' w2 ⟨rfl, hB2⟩; have HB2 := Lib.hid hB2; have hk3 := cell_below hB2.b HW2.out; clear hB2)
            | (go_at_call 13; (with_reducible refine (law_text s T HR2.out _).mono ?_); rintro e' w3 ⟨rfl, hB3⟩; have HB3 := Lib.hid hB3; clear hB3))
          go_meet
          case rel => exact ⟨r, rfl, rfl, HR3.out, HB2.out.below HB3.out⟩
        · have hd0 : (D == 0) = false := by simpa using q0
          clear q0
          obtain ⟨r, hr1, hr2, hr3⟩ := num_step s N D (by have := HS.out; omega)
          have HR1 := Lib.hid hr1
          have HR2 := Lib.hid hr2
          have HR3 := Lib.hid hr3
          have HBd := Lib.hid HB.out.drew
          clear hr1 hr2 hr3
          have hk0 := cell_below HB.out.b HW0.out
          go_wp2
          go_region_held3 (fun w' => w'.cell? (a.add (k * 3)) = some (.int .i64 N) ∧ w'.cell? ⟨(a.add (k * 3)).block, (a.add (k * 3)).off + 1, none⟩ = some (.int .i64 D)) (first | exact ⟨hk0, hk1⟩ | exact ⟨cell_below HB2.out.b HW0.out, cell_below HB2.out.b HW1.out⟩)
            ((go_at_call 15; (with_reducible refine (wr_num HBd.out N D HR1.out HR3.out).mono ?_); rintro e' w2 ⟨rfl, hB2⟩; have HB2 := Lib.hid hB2; clear hB2))
          have hm0 := cell_below HB2.out.b HW0.out
          have hm1 := cell_below HB2.out.b HW1.out
          go_wp2
          go_region_held3 (fun w' => w'.cell? (a.add (k * 3)) = some (.int .i64 N) ∧ w'.cell? ⟨(a.add (k * 3)).block, (a.add (k * 3)).off + 1, none⟩ = some (.int .i64 D)) (first | exact ⟨hm0, hm1⟩ | exact ⟨cell_below HB3.out.b HW0.out, cell_below HB3.out.b HW1.out⟩)
            ((go_at_call 10; (with_reducible refine (law_put s N D HR2.out _).mono ?_); rintro e' w3 ⟨rfl, hB3⟩; have HB3 := Lib.hid (HB2.out.drew.below hB3); clear hB3))
          go_wp2
          go_meet
          case rel => exact ⟨r, rfl, rfl, HR3.out, HB3.out⟩
      case rest =>
        obtain ⟨⟨r1, r2⟩, rfl, rfl, hL, hB2⟩ := hcut
        have hN := hL.next HE.out
        have HL := Lib.hid hL
        have HB2 := Lib.hid hB2
        have HN := Lib.hid hN
        clear hL hB2 hN hk1
        by_cases he : e = 0
        · subst he
          have HB3 := Lib.hid (show Wri w wc w.heap.size (r1, r2) from HB2.out)
          by_cases h2 : r2 = 0
          · subst h2
            go_wp2_with (go_at_call 16; (with_reducible refine (wr_all HB3.out).mono ?_); rintro e' w4 ⟨rfl, hB4⟩; have HB4 := Lib.hid hB4; clear hB4)
            go_roundw
            case rel => exact ⟨k + 1, r1, 0, by omega, by omega, by go_num, rfl, rfl, HL.out.err, by have := HL.out.size; have := HS.out; simp only at *; omega, HB4.out⟩
            case measure => simp [intOf]; omega
          · have hd : (r2 == 0) = false := by simpa using h2
            have hd' : (r2 != 0) = true := by simpa using h2
            have hemp := HL.out.err h2
            simp only at hemp
            subst hemp
            go_wp2_with (go_at_call 16; (with_reducible refine (wr_all HB3.out).mono ?_); rintro e' w4 ⟨rfl, hB4⟩; have HB4 := Lib.hid hB4; clear hB4)
            go_roundw
            case rel => exact ⟨k + 1, ⟨#[]⟩, r2, by omega, by omega, by go_num, rfl, rfl, fun _ => rfl, by rw [empty_size]; omega, HB4.out⟩
            case measure => simp [intOf]; omega
        · have hd : (e == 0) = false := by simpa using he
          have hd' : (e != 0) = true := by simpa using he
          have hB3 : Wri w wc w.heap.size (s, e) := by
            have := HB2.out
            unfold nextW at this
            rw [if_neg he] at this
            exact this
          have HB3 := Lib.hid hB3
          clear hB3
          have hemp := HE.out he
          subst hemp
          go_wp2_with (go_at_call 16; (with_reducible refine (wr_all HB3.out).mono ?_); rintro e' w4 ⟨rfl, hB4⟩; have HB4 := Lib.hid hB4; clear hB4)
          go_roundw
          case rel => exact ⟨k + 1, ⟨#[]⟩, e, by omega, by omega, by go_num, rfl, rfl, fun _ => rfl, by rw [empty_size]; omega, HB4.out⟩
          case measure => simp [intOf]; omega
    · by_cases hl : k < len
      · have h6 : ¬ k < 60 := fun c => hlt ⟨hl, c⟩
        clear hlt
        go_wp2_with (go_at_call 11; (with_reducible refine (awake_any _).mono ?_); rintro e' w5 ⟨rfl, hB5⟩; have HB5 := Lib.hid hB5; clear hB5)
        go_ret
        exact ⟨rfl, below_step HB.out.b HB5.out⟩
      · clear hlt
        go_wp2_with (go_at_call 11; (with_reducible refine (awake_any _).mono ?_); rintro e' w5 ⟨rfl, hB5⟩; have HB5 := Lib.hid hB5; clear hB5)
        go_ret
        exact ⟨rfl, below_step HB.out.b HB5.out⟩

set_option maxHeartbeats 4000000 in
theorem writes_nil (w : World) : Calls Try.prog 5 #[.slice none 0 0] w fun e w' => e = .returned (.bool true) ∧ Below w.heap.size w w' := by
  have hu32 := Try.underlying32
  go_enter Try.func5, Try.ntmps5
  go_wp2
  refine wp_loop_rounds 1 ?_
  rw [rounds_succ]
  go_wp2_with (go_at_call 11; (with_reducible refine (awake_any _).mono ?_); rintro e' w5 ⟨rfl, hB5⟩; have HB5 := Lib.hid hB5; clear hB5)
  go_ret
  exact ⟨rfl, below_step (below_alloc (Below.refl _ _) _) HB5.out⟩

/-- A slice of Items, as its cells read. -/
def ItemRow (w : World) (A : Option Addr) (len cap : Nat) : Prop :=
  (A = none ∧ len = 0 ∧ cap = 0) ∨ ∃ a, A = some a ∧ len ≤ cap ∧ cap ≤ maxLen ∧ ∀ k, k < len → ∃ (n0 : Int) (n1 : Int) (n2 : ByteArray), w.cell? (a.add (k * 3)) = some (.int .i64 n0) ∧ w.cell? ⟨(a.add (k * 3)).block, (a.add (k * 3)).off + 1, none⟩ = some (.int .i64 n1) ∧ w.cell? ⟨(a.add (k * 3)).block, (a.add (k * 3)).off + 2, none⟩ = some (.string n2)
theorem ItemRow.open_ {w : World} {A : Option Addr} {len cap : Nat} (hr : ItemRow w A len cap) : (A = none ∧ len = 0 ∧ cap = 0) ∨ ∃ (a : Addr) (f : Nat → Int × Int × ByteArray), A = some a ∧ len ≤ cap ∧ cap ≤ maxLen ∧
    (∀ k, k < len → w.cell? (a.add (k * 3)) = some (.int .i64 (f k).1)) ∧ (∀ k, k < len → w.cell? ⟨(a.add (k * 3)).block, (a.add (k * 3)).off + 1, none⟩ = some (.int .i64 (f k).2.1)) ∧ (∀ k, k < len → w.cell? ⟨(a.add (k * 3)).block, (a.add (k * 3)).off + 2, none⟩ = some (.string (f k).2.2)) := by
  rcases hr with h | ⟨a, rfl, hl, hm, hc⟩
  · exact .inl h
  · have h : ∀ k, ∃ (z : Int × Int × ByteArray), k < len → w.cell? (a.add (k * 3)) = some (.int .i64 z.1) ∧ w.cell? ⟨(a.add (k * 3)).block, (a.add (k * 3)).off + 1, none⟩ = some (.int .i64 z.2.1) ∧ w.cell? ⟨(a.add (k * 3)).block, (a.add (k * 3)).off + 2, none⟩ = some (.string z.2.2) := fun k => by
      by_cases hk : k < len
      · obtain ⟨n0, n1, n2, h0, h1, h2⟩ := hc k hk
        exact ⟨(n0, n1, n2), fun _ => ⟨h0, h1, h2⟩⟩
      · exact ⟨(0, 0, ⟨#[]⟩), fun c => absurd c hk⟩
    obtain ⟨f, hf⟩ := Classical.axiomOfChoice h
    exact .inr ⟨a, f, rfl, hl, hm, fun k hk => (hf k hk).1, fun k hk => (hf k hk).2.1, fun k hk => (hf k hk).2.2⟩
/-- The law: any items. -/
theorem PackWrites.walk (A : Option Addr) (len cap : Nat) (w : World) (hr : ItemRow w A len cap) :
    Calls Try.prog 5 #[.slice A len cap] w fun e w' => e = .returned (.bool true) ∧ Below w.heap.size w w' := by
  rcases hr.open_ with ⟨rfl, rfl, rfl⟩ | ⟨a, f, rfl, hl, hm, h0, h1, h2⟩
  · exact writes_nil w
  · exact writes_walk a len cap f w hl hm h0 h1 h2
end Go.Proofs.Ytgaeccdkaheemaa.PAll
