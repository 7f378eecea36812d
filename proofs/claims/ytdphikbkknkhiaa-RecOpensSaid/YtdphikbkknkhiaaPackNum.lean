/- The contract of pack.Reader.Num, walked by hand: the bytes that Raw reads, as a number, the highest first. -/
import Derived.Test.YtdphikbkknkhiaaPackNumPre
import Derived.Laws.IdiomStrings
import Derived.Lib.Hide
import Derived.LoopTactic
import Derived.Laws.BitsAllLaws
namespace Go.Proofs.Ytdphikbkknkhiaa.PAll
open Go.RowKit Go.Proofs.YtdphikbkknkhiaaW.PrintWords Go.Proofs.YtdphikbkknkhiaaW.PrintLast Go.Proofs.YtdphikbkknkhiaaW.PrintMore
set_option linter.unusedVariables false
set_option linter.unusedSimpArgs false

/-- Bytes as a number, the highest first. -/
def be (l : List UInt8) : Int := l.foldl (fun n c => n * 256 + (c.toNat : Int)) 0
theorem be_nil : be [] = 0 := rfl
theorem be_snoc (l : List UInt8) (c : UInt8) : be (l ++ [c]) = be l * 256 + (c.toNat : Int) := by
  unfold be; rw [List.foldl_append]; rfl
theorem be_fold (l : List UInt8) : ∀ (n : Int) (m : Nat), 0 ≤ n → n < 256 ^ m → 0 ≤ l.foldl (fun n c => n * 256 + (c.toNat : Int)) n ∧ l.foldl (fun n c => n * 256 + (c.toNat : Int)) n < 256 ^ (m + l.length) := by
  induction l with
  | nil => intro n m h0 h; exact ⟨h0, h⟩
  | cons c l ih =>
    intro n m h0 h
    have hc := c.toNat_lt
    have := ih (n * 256 + (c.toNat : Int)) (m + 1) (by omega) (by rw [Int.pow_succ]; omega)
    rw [show m + (c :: l).length = m + 1 + l.length from by simp; omega]
    exact this
theorem be_bound (l : List UInt8) : 0 ≤ be l ∧ be l < 256 ^ l.length := by
  have := be_fold l 0 0 (by omega) (by decide)
  simpa [be] using this
theorem be_small (l : List UInt8) (h : l.length ≤ 6) : 0 ≤ be l ∧ be l < 281474976710656 := by
  refine ⟨(be_bound l).1, ?_⟩
  have h2 := (be_bound l).2
  rcases (by omega : l.length = 0 ∨ l.length = 1 ∨ l.length = 2 ∨ l.length = 3 ∨ l.length = 4 ∨ l.length = 5 ∨ l.length = 6) with e | e | e | e | e | e | e <;> rw [e] at h2 <;> omega

/-- What is shifted by a byte, and a byte: their bits don't meet. -/
theorem or_byte (n : Int) (c : Int) (h0 : 0 ≤ n) (h1 : n < 1099511627776) (c0 : 0 ≤ c) (c1 : c < 256) : bits .or .i64 (n * 256) c = n * 256 + c := by
  obtain ⟨a, rfl⟩ := Int.eq_ofNat_of_zero_le h0
  obtain ⟨b, rfl⟩ := Int.eq_ofNat_of_zero_le c0
  have hx : (a * 256) ||| b = a * 256 + b := nat_join 8 (a * 256) b (by omega) (by omega)
  show IntKind.i64.wrap ((BitVec.ofInt 64 ((a : Int) * 256) ||| BitVec.ofInt 64 (b : Int)).toNat : Int) = _
  rw [BitVec.toNat_or, show ((a : Int) * 256) = ((a * 256 : Nat) : Int) from by omega, BitVec.ofInt_natCast, BitVec.ofInt_natCast, BitVec.toNat_ofNat, BitVec.toNat_ofNat, Nat.mod_eq_of_lt (by omega), Nat.mod_eq_of_lt (by omega), hx, IntKind.wrap_i64]
  omega

/-- What Num answers: the number, and the reader as it then stands. -/
def pack_Reader_Num.f (s : ByteArray) (at_ : Int) (e : Int) (a1 : Int) : Option (Int × ByteArray × Int × Int) :=
  if e = 0 then
    if a1 < 1 ∨ 6 < a1 then some (0, s, at_, 1)
    else if at_ < 0 ∨ (s.size : Int) < at_ ∨ 9223372036854775807 < (s.size : Int) then none
    else if (s.size : Int) - at_ < a1 then some (0, s, at_, 2)
    else some (be (s.extract at_.toNat (at_ + a1).toNat).data.toList, s, at_ + a1, 0)
  else some (0, s, at_, e)


theorem ret_i {k : IntKind} {a b : Int} (h : a = b) : Ending.returned (.int k a) = .returned (.int k b) := by rw [h]

set_option maxHeartbeats 2000000 in
theorem num_off (g : Nat) (s : ByteArray) (at_ e a1 : Int) (b : ByteArray) (s2 : ByteArray) (at2 e2 : Int) (w0 w : World) (hI : IsS81 w0 w g s at_ e) (hB : Below w0.heap.size w0 w)
    (hb6 : b.size ≤ 6) (hraw : pack_Reader_Raw.f s at_ e a1 = some (b, s2, at2, e2)) (hcase : e ≠ 0) :
    Calls Try.prog 30 #[.pointer (some ⟨g, 0, none⟩), .int .i64 a1] w fun e w' => e = .returned (.int .i64 (be b.data.toList)) ∧ IsS81 w0 w' g s2 at2 e2 ∧ Below w0.heap.size w0 w' ∧ KeepBut w w' g none := by
  have hcv := fun w s => run_bytes_of_string (P := Try.prog) w 9 31 5 s Try.underlying9 Try.underlying31 Try.underlying5
  have hoff : pack_Reader_off.f s at_ e = some (true, s, at_, e) := by simp [pack_Reader_off.f, hcase]
  have HR := Lib.hid hraw
  have HO := Lib.hid hoff
  have HI := Lib.hid hI
  have HB := Lib.hid hB
  clear hraw hoff hI hB hcase
  go_enter Try.func30, Try.ntmps30
  go_wp2_with (go_at_call 44; (with_reducible refine (pack_Reader_off.calls g _ _ _ _ _ _ _ w0 _ HI.out HB.out HO.out).mono ?_); rintro e' w1 ⟨rfl, hI1, hB1, hK1⟩; have HI1 := Lib.hid hI1; have HB1 := Lib.hid hB1; have HK1 := Lib.hid hK1; clear hI1 hB1 hK1)
  go_wp2_with (go_at_call 46; (with_reducible refine (pack_Reader_Raw.calls g _ _ _ _ _ _ _ _ w0 _ HI1.out HB1.out HR.out).mono ?_); rintro e' w2 ⟨rfl, hI2, hB2, hK2⟩; have HI2 := Lib.hid hI2; have HB2 := Lib.hid hB2; have HK2 := Lib.hid hK2; clear hI2 hB2 hK2)
  have hcell : ∀ k, k < b.size → (w2.alloc (.cells (bytesRow b (grownCap w2 b.size 0 5)) 5 ((bytesRow b (grownCap w2 b.size 0 5)).size, (bytesRow b (grownCap w2 b.size 0 5)).size + 1))).cell? ⟨w2.heap.size, k, none⟩ = some (.int .u8 ((b.data.toList.getD k 0).toNat : Int)) := fun k hk => by
    have h0 := World.cell?_alloc_mark w2 (bytesRow b (grownCap w2 b.size 0 5)) 5 ((bytesRow b (grownCap w2 b.size 0 5)).size, (bytesRow b (grownCap w2 b.size 0 5)).size + 1) k
    refine h0.trans ?_
    have hk' : k < b.data.size := hk
    rw [bytesRow_at b _ k hk']
    simp [List.getD_eq_getElem?_getD, Array.getElem?_eq_getElem hk']
  have HC := Lib.hid hcell
  clear hcell
  go_loop [5, 26] (fun n i => ∃ k : Nat, k ≤ b.size ∧ i = .int .i64 k ∧ n = .int .i64 (be (b.data.toList.take k))) (fun _ i => b.size - (intOf i).toNat)
  case atStart => exact ⟨0, Nat.zero_le _, rfl, rfl⟩
  case round =>
    obtain ⟨k, hk, rfl, rfl⟩ := hrel
    by_cases hlt : k < b.size
    · have hk' : k < b.data.toList.length := by simpa using hlt
      have hts : b.data.toList.take (k + 1) = b.data.toList.take k ++ [b.data.toList.getD k 0] := by
        rw [List.take_succ_eq_append_getElem hk']; simp [List.getD_eq_getElem?_getD, Array.getElem?_eq_getElem (show k < b.data.size from hlt)]
      have hll : (b.data.toList.take k).length ≤ 5 := by
        have := List.length_take_le k b.data.toList
        omega
      have hsm := be_small (b.data.toList.take k) (by omega)
      have hsm5 : be (b.data.toList.take k) < 1099511627776 := by
        have h2 := (be_bound (b.data.toList.take k)).2
        rcases (by omega : (b.data.toList.take k).length = 0 ∨ (b.data.toList.take k).length = 1 ∨ (b.data.toList.take k).length = 2 ∨ (b.data.toList.take k).length = 3 ∨ (b.data.toList.take k).length = 4 ∨ (b.data.toList.take k).length = 5) with e | e | e | e | e | e <;> rw [e] at h2 <;> omega
      obtain ⟨h0, _⟩ := hsm
      have hc := (b.data.toList.getD k 0).toNat_lt
      have hstep := be_snoc (b.data.toList.take k) (b.data.toList.getD k 0)
      have hor := or_byte (be (b.data.toList.take k)) ((b.data.toList.getD k 0).toNat : Int) h0 hsm5 (by omega) (by omega)
      rw [← hts] at hstep
      have HS := Lib.hid hstep
      have hcl := HC.out k hlt
      generalize (b.data.toList.getD k 0).toNat = c at *
      generalize be (b.data.toList.take k) = n at *
      clear hts hll hstep hk'
      go_wp2
      go_round
      case rel => exact ⟨k + 1, by omega, by go_num, by rw [HS.out]⟩
      case measure => simp [intOf]; omega
    · go_wp2
      go_ret
      refine ⟨ret_i (by rw [List.take_of_length_le (by simp; omega)]), IsS81.drew (IsS81.alloc HI2.out _), below_drew (below_alloc HB2.out _), ?_⟩
      exact KeepBut.trans (KeepBut.trans HK1.out HK2.out (.inl rfl)) (KeepBut.of_below (below_drew (below_alloc (Below.refl _ _) _)) g none) (.inl rfl)

set_option maxHeartbeats 2000000 in
theorem num_arg (g : Nat) (s : ByteArray) (at_ e a1 : Int) (b : ByteArray) (s2 : ByteArray) (at2 e2 : Int) (w0 w : World) (hI : IsS81 w0 w g s at_ e) (hB : Below w0.heap.size w0 w)
    (hb6 : b.size ≤ 6) (hraw : pack_Reader_Raw.f s at_ 1 a1 = some (b, s2, at2, e2)) (hcase : e = 0) (ha : a1 < 1 ∨ 6 < a1) :
    Calls Try.prog 30 #[.pointer (some ⟨g, 0, none⟩), .int .i64 a1] w fun e w' => e = .returned (.int .i64 (be b.data.toList)) ∧ IsS81 w0 w' g s2 at2 e2 ∧ Below w0.heap.size w0 w' ∧ KeepBut w w' g none := by
  have hcv := fun w s => run_bytes_of_string (P := Try.prog) w 9 31 5 s Try.underlying9 Try.underlying31 Try.underlying5
  subst hcase
  have hoff : pack_Reader_off.f s at_ 0 = some (false, s, at_, 0) := by simp [pack_Reader_off.f]
  have hfail : pack_Reader_fail.f s at_ 0 1 = some (s, at_, 1) := by simp [pack_Reader_fail.f]
  have HF := Lib.hid hfail
  have HR := Lib.hid hraw
  have HO := Lib.hid hoff
  have HI := Lib.hid hI
  have HB := Lib.hid hB
  clear hraw hoff hI hB hfail
  rcases ha with ha | ha
  · have hd : decide (a1 < 1) = true := by simpa using ha
    go_enter Try.func30, Try.ntmps30
    go_wp2_with (go_at_call 44; (with_reducible refine (pack_Reader_off.calls g _ _ _ _ _ _ _ w0 _ HI.out HB.out HO.out).mono ?_); rintro e' w1 ⟨rfl, hI1, hB1, hK1⟩; have HI1 := Lib.hid hI1; have HB1 := Lib.hid hB1; have HK1 := Lib.hid hK1; clear hI1 hB1 hK1)
    go_wp2_with (go_at_call 45; (with_reducible refine (pack_Reader_fail.calls g _ _ _ _ _ _ _ w0 _ HI1.out HB1.out HF.out).mono ?_); rintro e' w3 ⟨rfl, hI3, hB3, hK3⟩; have HI3 := Lib.hid hI3; have HB3 := Lib.hid hB3; have HK3 := Lib.hid hK3; clear hI3 hB3 hK3)
    go_wp2_with (go_at_call 46; (with_reducible refine (pack_Reader_Raw.calls g _ _ _ _ _ _ _ _ w0 _ HI3.out HB3.out HR.out).mono ?_); rintro e' w2 ⟨rfl, hI2, hB2, hK2⟩; have HI2 := Lib.hid hI2; have HB2 := Lib.hid hB2; have HK2 := Lib.hid hK2; clear hI2 hB2 hK2)
    have hcell : ∀ k, k < b.size → (w2.alloc (.cells (bytesRow b (grownCap w2 b.size 0 5)) 5 ((bytesRow b (grownCap w2 b.size 0 5)).size, (bytesRow b (grownCap w2 b.size 0 5)).size + 1))).cell? ⟨w2.heap.size, k, none⟩ = some (.int .u8 ((b.data.toList.getD k 0).toNat : Int)) := fun k hk => by
      have h0 := World.cell?_alloc_mark w2 (bytesRow b (grownCap w2 b.size 0 5)) 5 ((bytesRow b (grownCap w2 b.size 0 5)).size, (bytesRow b (grownCap w2 b.size 0 5)).size + 1) k
      refine h0.trans ?_
      have hk' : k < b.data.size := hk
      rw [bytesRow_at b _ k hk']
      simp [List.getD_eq_getElem?_getD, Array.getElem?_eq_getElem hk']
    have HC := Lib.hid hcell
    clear hcell
    go_loop [5, 26] (fun n i => ∃ k : Nat, k ≤ b.size ∧ i = .int .i64 k ∧ n = .int .i64 (be (b.data.toList.take k))) (fun _ i => b.size - (intOf i).toNat)
    case atStart => exact ⟨0, Nat.zero_le _, rfl, rfl⟩
    case round =>
      obtain ⟨k, hk, rfl, rfl⟩ := hrel
      by_cases hlt : k < b.size
      · have hk' : k < b.data.toList.length := by simpa using hlt
        have hts : b.data.toList.take (k + 1) = b.data.toList.take k ++ [b.data.toList.getD k 0] := by
          rw [List.take_succ_eq_append_getElem hk']; simp [List.getD_eq_getElem?_getD, Array.getElem?_eq_getElem (show k < b.data.size from hlt)]
        have hll : (b.data.toList.take k).length ≤ 5 := by
          have := List.length_take_le k b.data.toList
          omega
        have hsm := be_small (b.data.toList.take k) (by omega)
        have hsm5 : be (b.data.toList.take k) < 1099511627776 := by
          have h2 := (be_bound (b.data.toList.take k)).2
          rcases (by omega : (b.data.toList.take k).length = 0 ∨ (b.data.toList.take k).length = 1 ∨ (b.data.toList.take k).length = 2 ∨ (b.data.toList.take k).length = 3 ∨ (b.data.toList.take k).length = 4 ∨ (b.data.toList.take k).length = 5) with e | e | e | e | e | e <;> rw [e] at h2 <;> omega
        obtain ⟨h0, _⟩ := hsm
        have hc := (b.data.toList.getD k 0).toNat_lt
        have hstep := be_snoc (b.data.toList.take k) (b.data.toList.getD k 0)
        have hor := or_byte (be (b.data.toList.take k)) ((b.data.toList.getD k 0).toNat : Int) h0 hsm5 (by omega) (by omega)
        rw [← hts] at hstep
        have HS := Lib.hid hstep
        have hcl := HC.out k hlt
        generalize (b.data.toList.getD k 0).toNat = c at *
        generalize be (b.data.toList.take k) = n at *
        clear hts hll hstep hk'
        go_wp2
        go_round
        case rel => exact ⟨k + 1, by omega, by go_num, by rw [HS.out]⟩
        case measure => simp [intOf]; omega
      · go_wp2
        go_ret
        refine ⟨ret_i (by rw [List.take_of_length_le (by simp; omega)]), IsS81.drew (IsS81.alloc HI2.out _), below_drew (below_alloc HB2.out _), ?_⟩
        exact KeepBut.trans (KeepBut.trans (KeepBut.trans HK1.out HK3.out (.inl rfl)) HK2.out (.inl rfl)) (KeepBut.of_below (below_drew (below_alloc (Below.refl _ _) _)) g none) (.inl rfl)

  · have hd0 : decide (a1 < 1) = false := by simp; omega
    have hd : decide (6 < a1) = true := by simpa using ha
    go_enter Try.func30, Try.ntmps30
    go_wp2_with (go_at_call 44; (with_reducible refine (pack_Reader_off.calls g _ _ _ _ _ _ _ w0 _ HI.out HB.out HO.out).mono ?_); rintro e' w1 ⟨rfl, hI1, hB1, hK1⟩; have HI1 := Lib.hid hI1; have HB1 := Lib.hid hB1; have HK1 := Lib.hid hK1; clear hI1 hB1 hK1)
    go_wp2_with (go_at_call 45; (with_reducible refine (pack_Reader_fail.calls g _ _ _ _ _ _ _ w0 _ HI1.out HB1.out HF.out).mono ?_); rintro e' w3 ⟨rfl, hI3, hB3, hK3⟩; have HI3 := Lib.hid hI3; have HB3 := Lib.hid hB3; have HK3 := Lib.hid hK3; clear hI3 hB3 hK3)
    go_wp2_with (go_at_call 46; (with_reducible refine (pack_Reader_Raw.calls g _ _ _ _ _ _ _ _ w0 _ HI3.out HB3.out HR.out).mono ?_); rintro e' w2 ⟨rfl, hI2, hB2, hK2⟩; have HI2 := Lib.hid hI2; have HB2 := Lib.hid hB2; have HK2 := Lib.hid hK2; clear hI2 hB2 hK2)
    have hcell : ∀ k, k < b.size → (w2.alloc (.cells (bytesRow b (grownCap w2 b.size 0 5)) 5 ((bytesRow b (grownCap w2 b.size 0 5)).size, (bytesRow b (grownCap w2 b.size 0 5)).size + 1))).cell? ⟨w2.heap.size, k, none⟩ = some (.int .u8 ((b.data.toList.getD k 0).toNat : Int)) := fun k hk => by
      have h0 := World.cell?_alloc_mark w2 (bytesRow b (grownCap w2 b.size 0 5)) 5 ((bytesRow b (grownCap w2 b.size 0 5)).size, (bytesRow b (grownCap w2 b.size 0 5)).size + 1) k
      refine h0.trans ?_
      have hk' : k < b.data.size := hk
      rw [bytesRow_at b _ k hk']
      simp [List.getD_eq_getElem?_getD, Array.getElem?_eq_getElem hk']
    have HC := Lib.hid hcell
    clear hcell
    go_loop [5, 26] (fun n i => ∃ k : Nat, k ≤ b.size ∧ i = .int .i64 k ∧ n = .int .i64 (be (b.data.toList.take k))) (fun _ i => b.size - (intOf i).toNat)
    case atStart => exact ⟨0, Nat.zero_le _, rfl, rfl⟩
    case round =>
      obtain ⟨k, hk, rfl, rfl⟩ := hrel
      by_cases hlt : k < b.size
      · have hk' : k < b.data.toList.length := by simpa using hlt
        have hts : b.data.toList.take (k + 1) = b.data.toList.take k ++ [b.data.toList.getD k 0] := by
          rw [List.take_succ_eq_append_getElem hk']; simp [List.getD_eq_getElem?_getD, Array.getElem?_eq_getElem (show k < b.data.size from hlt)]
        have hll : (b.data.toList.take k).length ≤ 5 := by
          have := List.length_take_le k b.data.toList
          omega
        have hsm := be_small (b.data.toList.take k) (by omega)
        have hsm5 : be (b.data.toList.take k) < 1099511627776 := by
          have h2 := (be_bound (b.data.toList.take k)).2
          rcases (by omega : (b.data.toList.take k).length = 0 ∨ (b.data.toList.take k).length = 1 ∨ (b.data.toList.take k).length = 2 ∨ (b.data.toList.take k).length = 3 ∨ (b.data.toList.take k).length = 4 ∨ (b.data.toList.take k).length = 5) with e | e | e | e | e | e <;> rw [e] at h2 <;> omega
        obtain ⟨h0, _⟩ := hsm
        have hc := (b.data.toList.getD k 0).toNat_lt
        have hstep := be_snoc (b.data.toList.take k) (b.data.toList.getD k 0)
        have hor := or_byte (be (b.data.toList.take k)) ((b.data.toList.getD k 0).toNat : Int) h0 hsm5 (by omega) (by omega)
        rw [← hts] at hstep
        have HS := Lib.hid hstep
        have hcl := HC.out k hlt
        generalize (b.data.toList.getD k 0).toNat = c at *
        generalize be (b.data.toList.take k) = n at *
        clear hts hll hstep hk'
        go_wp2
        go_round
        case rel => exact ⟨k + 1, by omega, by go_num, by rw [HS.out]⟩
        case measure => simp [intOf]; omega
      · go_wp2
        go_ret
        refine ⟨ret_i (by rw [List.take_of_length_le (by simp; omega)]), IsS81.drew (IsS81.alloc HI2.out _), below_drew (below_alloc HB2.out _), ?_⟩
        exact KeepBut.trans (KeepBut.trans (KeepBut.trans HK1.out HK3.out (.inl rfl)) HK2.out (.inl rfl)) (KeepBut.of_below (below_drew (below_alloc (Below.refl _ _) _)) g none) (.inl rfl)

set_option maxHeartbeats 2000000 in
theorem num_ok (g : Nat) (s : ByteArray) (at_ e a1 : Int) (b : ByteArray) (s2 : ByteArray) (at2 e2 : Int) (w0 w : World) (hI : IsS81 w0 w g s at_ e) (hB : Below w0.heap.size w0 w)
    (hb6 : b.size ≤ 6) (hraw : pack_Reader_Raw.f s at_ 0 a1 = some (b, s2, at2, e2)) (hcase : e = 0) (ha : 1 ≤ a1) (ha6 : a1 ≤ 6) :
    Calls Try.prog 30 #[.pointer (some ⟨g, 0, none⟩), .int .i64 a1] w fun e w' => e = .returned (.int .i64 (be b.data.toList)) ∧ IsS81 w0 w' g s2 at2 e2 ∧ Below w0.heap.size w0 w' ∧ KeepBut w w' g none := by
  have hcv := fun w s => run_bytes_of_string (P := Try.prog) w 9 31 5 s Try.underlying9 Try.underlying31 Try.underlying5
  subst hcase
  have hoff : pack_Reader_off.f s at_ 0 = some (false, s, at_, 0) := by simp [pack_Reader_off.f]
  have HR := Lib.hid hraw
  have HO := Lib.hid hoff
  have HI := Lib.hid hI
  have HB := Lib.hid hB
  clear hraw hoff hI hB
  have hd0 : decide (a1 < 1) = false := by simp; omega
  have hd : decide (6 < a1) = false := by simp; omega
  go_enter Try.func30, Try.ntmps30
  go_wp2_with (go_at_call 44; (with_reducible refine (pack_Reader_off.calls g _ _ _ _ _ _ _ w0 _ HI.out HB.out HO.out).mono ?_); rintro e' w1 ⟨rfl, hI1, hB1, hK1⟩; have HI1 := Lib.hid hI1; have HB1 := Lib.hid hB1; have HK1 := Lib.hid hK1; clear hI1 hB1 hK1)
  go_wp2_with (go_at_call 46; (with_reducible refine (pack_Reader_Raw.calls g _ _ _ _ _ _ _ _ w0 _ HI1.out HB1.out HR.out).mono ?_); rintro e' w2 ⟨rfl, hI2, hB2, hK2⟩; have HI2 := Lib.hid hI2; have HB2 := Lib.hid hB2; have HK2 := Lib.hid hK2; clear hI2 hB2 hK2)
  have hcell : ∀ k, k < b.size → (w2.alloc (.cells (bytesRow b (grownCap w2 b.size 0 5)) 5 ((bytesRow b (grownCap w2 b.size 0 5)).size, (bytesRow b (grownCap w2 b.size 0 5)).size + 1))).cell? ⟨w2.heap.size, k, none⟩ = some (.int .u8 ((b.data.toList.getD k 0).toNat : Int)) := fun k hk => by
    have h0 := World.cell?_alloc_mark w2 (bytesRow b (grownCap w2 b.size 0 5)) 5 ((bytesRow b (grownCap w2 b.size 0 5)).size, (bytesRow b (grownCap w2 b.size 0 5)).size + 1) k
    refine h0.trans ?_
    have hk' : k < b.data.size := hk
    rw [bytesRow_at b _ k hk']
    simp [List.getD_eq_getElem?_getD, Array.getElem?_eq_getElem hk']
  have HC := Lib.hid hcell
  clear hcell
  go_loop [5, 26] (fun n i => ∃ k : Nat, k ≤ b.size ∧ i = .int .i64 k ∧ n = .int .i64 (be (b.data.toList.take k))) (fun _ i => b.size - (intOf i).toNat)
  case atStart => exact ⟨0, Nat.zero_le _, rfl, rfl⟩
  case round =>
    obtain ⟨k, hk, rfl, rfl⟩ := hrel
    by_cases hlt : k < b.size
    · have hk' : k < b.data.toList.length := by simpa using hlt
      have hts : b.data.toList.take (k + 1) = b.data.toList.take k ++ [b.data.toList.getD k 0] := by
        rw [List.take_succ_eq_append_getElem hk']; simp [List.getD_eq_getElem?_getD, Array.getElem?_eq_getElem (show k < b.data.size from hlt)]
      have hll : (b.data.toList.take k).length ≤ 5 := by
        have := List.length_take_le k b.data.toList
        omega
      have hsm := be_small (b.data.toList.take k) (by omega)
      have hsm5 : be (b.data.toList.take k) < 1099511627776 := by
        have h2 := (be_bound (b.data.toList.take k)).2
        rcases (by omega : (b.data.toList.take k).length = 0 ∨ (b.data.toList.take k).length = 1 ∨ (b.data.toList.take k).length = 2 ∨ (b.data.toList.take k).length = 3 ∨ (b.data.toList.take k).length = 4 ∨ (b.data.toList.take k).length = 5) with e | e | e | e | e | e <;> rw [e] at h2 <;> omega
      obtain ⟨h0, _⟩ := hsm
      have hc := (b.data.toList.getD k 0).toNat_lt
      have hstep := be_snoc (b.data.toList.take k) (b.data.toList.getD k 0)
      have hor := or_byte (be (b.data.toList.take k)) ((b.data.toList.getD k 0).toNat : Int) h0 hsm5 (by omega) (by omega)
      rw [← hts] at hstep
      have HS := Lib.hid hstep
      have hcl := HC.out k hlt
      generalize (b.data.toList.getD k 0).toNat = c at *
      generalize be (b.data.toList.take k) = n at *
      clear hts hll hstep hk'
      go_wp2
      go_round
      case rel => exact ⟨k + 1, by omega, by go_num, by rw [HS.out]⟩
      case measure => simp [intOf]; omega
    · go_wp2
      go_ret
      refine ⟨ret_i (by rw [List.take_of_length_le (by simp; omega)]), IsS81.drew (IsS81.alloc HI2.out _), below_drew (below_alloc HB2.out _), ?_⟩
      exact KeepBut.trans (KeepBut.trans HK1.out HK2.out (.inl rfl)) (KeepBut.of_below (below_drew (below_alloc (Below.refl _ _) _)) g none) (.inl rfl)


theorem wrap64_id {n : Int} (h0 : -9223372036854775808 ≤ n) (h1 : n ≤ 9223372036854775807) : wrap64 n = n := by unfold wrap64; omega
theorem raw_off (s : ByteArray) (at_ e a1 : Int) (h : e ≠ 0) : pack_Reader_Raw.f s at_ e a1 = some (⟨#[]⟩, s, at_, e) := by
  simp [pack_Reader_Raw.f, pack_Reader_off.f, h]
theorem raw_short (s : ByteArray) (at_ a1 : Int) (h0 : 0 ≤ at_) (hs : (s.size : Int) ≤ 9223372036854775807) (ha : 0 ≤ a1) (h : (s.size : Int) - at_ < a1) (hle : at_ ≤ s.size) : pack_Reader_Raw.f s at_ 0 a1 = some (⟨#[]⟩, s, at_, 2) := by
  have e1 : wrap64 ((s.size : Int) - at_) = (s.size : Int) - at_ := wrap64_id (by omega) (by omega)
  simp only [pack_Reader_Raw.f, pack_Reader_off.f, pack_Reader_fail.f, Option.bind_some, e1]
  simp [h, Int.not_lt.2 ha]
theorem raw_ok (s : ByteArray) (at_ a1 : Int) (h0 : 0 ≤ at_) (hs : (s.size : Int) ≤ 9223372036854775807) (ha : 0 ≤ a1) (h : a1 ≤ (s.size : Int) - at_) : pack_Reader_Raw.f s at_ 0 a1 = some (s.extract at_.toNat (at_ + a1).toNat, s, at_ + a1, 0) := by
  have e1 : wrap64 ((s.size : Int) - at_) = (s.size : Int) - at_ := wrap64_id (by omega) (by omega)
  have e2 : wrap64 (at_ + a1) = at_ + a1 := wrap64_id (by omega) (by omega)
  have e3 : wrap64 (at_ + a1 - a1) = at_ := by rw [show at_ + a1 - a1 = at_ by omega]; exact wrap64_id (by omega) (by omega)
  simp only [pack_Reader_Raw.f, pack_Reader_off.f, pack_Reader_fail.f, Option.bind_some, e1, e2, e3]
  rw [if_neg (by simp), if_neg (by omega), if_neg (by omega), if_pos (by omega), if_pos (by omega), if_pos (by omega)]

theorem pack_Reader_Num.calls (g : Nat) (s0_0 : ByteArray) (s0_1 : Int) (s0_2 : Int) (a1 : Int) (r1 : Int) (r2 : ByteArray) (r3 : Int) (r4 : Int) (w0 w : World) (hI : IsS81 w0 w g s0_0 s0_1 s0_2) (hB : Below w0.heap.size w0 w) (h : pack_Reader_Num.f s0_0 s0_1 s0_2 a1 = some (r1, r2, r3, r4)) :
    Calls Try.prog 30 #[.pointer (some ⟨g, 0, none⟩), .int .i64 a1] w fun e w' => e = .returned (.int .i64 r1) ∧ IsS81 w0 w' g r2 r3 r4 ∧ Below w0.heap.size w0 w' ∧ KeepBut w w' g none := by
  unfold pack_Reader_Num.f at h
  by_cases he : s0_2 = 0
  · rw [if_pos he] at h
    by_cases ha : a1 < 1 ∨ 6 < a1
    · rw [if_pos ha] at h
      simp only [Option.some.injEq, Prod.mk.injEq] at h
      obtain ⟨rfl, rfl, rfl, rfl⟩ := h
      exact num_arg g s0_0 s0_1 s0_2 a1 ⟨#[]⟩ s0_0 s0_1 1 w0 w hI hB (by decide) (raw_off _ _ _ _ (by decide)) he ha
    · rw [if_neg ha] at h
      by_cases hi : s0_1 < 0 ∨ (s0_0.size : Int) < s0_1 ∨ 9223372036854775807 < (s0_0.size : Int)
      · rw [if_pos hi] at h; exact absurd h (by simp)
      · rw [if_neg hi] at h
        by_cases hl : (s0_0.size : Int) - s0_1 < a1
        · rw [if_pos hl] at h
          simp only [Option.some.injEq, Prod.mk.injEq] at h
          obtain ⟨rfl, rfl, rfl, rfl⟩ := h
          subst he
          exact num_ok g s0_0 s0_1 0 a1 ⟨#[]⟩ s0_0 s0_1 2 w0 w hI hB (by decide) (raw_short _ _ _ (by omega) (by omega) (by omega) hl (by omega)) rfl (by omega) (by omega)
        · rw [if_neg hl] at h
          simp only [Option.some.injEq, Prod.mk.injEq] at h
          obtain ⟨rfl, rfl, rfl, rfl⟩ := h
          subst he
          exact num_ok g s0_0 s0_1 0 a1 _ s0_0 _ 0 w0 w hI hB (by rw [ByteArray.size_extract]; omega) (raw_ok _ _ _ (by omega) (by omega) (by omega) (by omega)) rfl (by omega) (by omega)
  · rw [if_neg he] at h
    simp only [Option.some.injEq, Prod.mk.injEq] at h
    obtain ⟨rfl, rfl, rfl, rfl⟩ := h
    exact num_off g s0_0 s0_1 s0_2 a1 ⟨#[]⟩ s0_0 s0_1 s0_2 w0 w hI hB (by decide) (raw_off _ _ _ _ he) he

end Go.Proofs.Ytdphikbkknkhiaa.PAll
