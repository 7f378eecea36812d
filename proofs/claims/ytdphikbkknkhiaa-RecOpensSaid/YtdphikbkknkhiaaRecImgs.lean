/- rec.images, rec.cut, walked by hand. -/
import Derived.Test.YtdphikbkknkhiaaRecParts
namespace Go.Proofs.Ytdphikbkknkhiaa.PAll
open Go.RowKit Go.Proofs.Ytdphikbkknkhiaa.Pure Go.Proofs.YtdphikbkknkhiaaW.PrintWords Go.Proofs.YtdphikbkknkhiaaW.PrintLast Go.Proofs.YtdphikbkknkhiaaW.PrintMore
set_option linter.unusedVariables false
set_option linter.unusedSimpArgs false

/-- Why images can't be. -/
def formE (l : List S36) : Int := if ∀ x ∈ l, x.f1.size = 224 then 0 else 4
/-- What images leaves. -/
def ImgW (w0 w w' : World) (g k : Nat) (r : WS) (l : List S36) : Prop := ∃ r', WR w0 w' g k r' ∧ KeepBut w w' g none ∧ (formE l = 0 → r' = wrL r (num_ l.length 1 :: imgL l))

set_option maxHeartbeats 4000000 in
set_option maxRecDepth 10000 in
theorem images_walk (w0 w : World) (g k : Nat) (r : WS) (A : Option Addr) (l : List S36) (c : Nat) (hl : l.length ≤ 300) (hcap : l.length ≤ c) (hC : Kd.C k36 w0 A l.length l) (hW : WR w0 w g (k + 2 * l.length + 1) r) :
    Calls Try.prog 37 #[.pointer (some ⟨g, 0, none⟩), .slice A l.length c] w fun e' w' => e' = .returned (.int .i64 (formE l)) ∧ ImgW w0 w w' g k r l := by
  have hu36 := Try.underlying36
  have hu22 := Try.underlying22
  have HC := Lib.hid hC
  have HW := Lib.hid hW
  clear hC hW
  go_enter Try.func37, Try.ntmps37
  go_wp2_with (go_at_call 36; (with_reducible refine (wr_num HW.out (l.length : Int) 1 (by omega) (by omega)).mono ?_); rintro e' w1 ⟨rfl, hB1, hK1⟩; have HW1 := Lib.hid hB1; have HK1 := Lib.hid hK1; clear hB1 hK1)
  go_loopw [13] (fun i wr => ∃ j : Nat, j ≤ l.length ∧ i = .int .i64 j ∧ (∀ x ∈ l.take j, x.f1.size = 224) ∧ WR w0 wr g (k + 2 * (l.length - j)) (wrL (wrS r (num_ l.length 1)) (imgL (l.take j))) ∧ KeepBut w wr g none) (fun i _ => l.length - (intOf i).toNat)
  case atStart => exact ⟨0, Nat.zero_le _, rfl, by simp, HW1.out, HK1.out⟩
  case round =>
    obtain ⟨j, hj, rfl, h224, hB, hK⟩ := hrel
    have HB := Lib.hid hB
    have HK := Lib.hid hK
    have H224 := Lib.hid h224
    clear hB hK h224
    by_cases hlt : j < l.length
    · have hlt1 : decide ((j : Int) < (l.length : Int)) = true := by simp; omega
      obtain ⟨ad, rfl, hc0, hc1⟩ := at_T36 HC.out (j : Int) (by omega) (by omega)
      rw [rd36_get l j hlt] at hc0 hc1
      replace hc0 := cell_below HB.out.b hc0
      replace hc1 := cell_below HB.out.b hc1
      rw [Int.toNat_natCast] at hc0 hc1
      have hsn := imgL_snoc l j hlt
      have hlt2 := Lib.hid (show j + 1 ≤ l.length from hlt)
      have hmem : l[j] ∈ l := List.getElem_mem hlt
      have htk : ∀ x, x ∈ l.take (j + 1) → x ∈ l.take j ∨ x = l[j] := by
        intro x hx
        rw [List.take_succ_eq_append_getElem hlt] at hx
        rcases List.mem_append.1 hx with h | h
        · exact .inl h
        · exact .inr (List.mem_singleton.1 h)
      generalize l[j] = X at *
      obtain ⟨N, T⟩ := X
      simp only at hc0 hc1 hsn
      have hf0 := hc0
      by_cases h22 : T.size = 224
      · have d1 : ((T.size : Int) != 224) = false := by simp; omega
        have d2 : (T.size != 224) = false := by simp; omega
        have HT := Lib.hid htk
        have HS := Lib.hid hsn
        have HM := Lib.hid hmem
        have H22 := Lib.hid h22
        clear htk hsn hmem h22 hlt hj
        have hwz : WR w0 (wr.alloc (.cells #[.int .i64 N, .string T] 36)) g (k + 2 * (l.length - (j + 1)) + 1 + 1) (wrL (wrS r (num_ l.length 1)) (imgL (l.take j))) := (HB.out.alloc _).le (by have := hlt2.out; omega)
        have HZ := Lib.hid hwz
        have HL := Lib.hid HB.out.i.lt
        have HX0 := Lib.hid (heap_alloc_new wr (.cells #[.int .i64 N, .string T] 36))
        clear hwz
        go_wp2_with (first
          | (go_at_call 36; (with_reducible refine (wr_num HZ.out N 2 (by omega) (by omega)).mono ?_); rintro e' w2 ⟨rfl, hB2, hK2⟩; have HW2 := Lib.hid hB2; have HK2 := Lib.hid hK2; have x2 := keep_new HL.out HX0.out hK2; have hx2 : w2.cell? ⟨wr.heap.size, 1, none⟩ = some (.string T) := (blk_cell x2 1).trans rfl; clear x2 hB2 hK2)
          | (go_at_call 55; (with_reducible refine (wr_text HW2.out T).mono ?_); rintro e' w3 ⟨rfl, hB3, hK3⟩; have HW3 := Lib.hid hB3; have HK3 := Lib.hid hK3; clear hB3 hK3))
        go_roundw
        case rel =>
          refine ⟨j + 1, hlt2.out, by simp, ?_, ?_, KeepBut.trans (KeepBut.trans (KeepBut.trans HK.out (KeepBut.of_below (below_alloc (Below.refl _ _) _) g none) (.inl rfl)) HK2.out (.inl rfl)) HK3.out (.inl rfl)⟩
          · intro x hx
            rcases HT.out x hx with h | h
            · exact H224.out x h
            · rw [h]; exact H22.out
          · rw [HS.out, wrL_app]
            exact HW3.out
        case measure => have := hlt2.out; simp [intOf]; omega
      · have d1 : ((T.size : Int) != 224) = true := by simp; omega
        have d2 : (T.size != 224) = true := by simp; omega
        have hno : ¬ ∀ x ∈ l, x.f1.size = 224 := fun c => h22 (c _ hmem)
        have hf : formE l = 4 := if_neg hno
        have HN := Lib.hid hf
        clear hf
        clear htk hsn hmem h22 hlt hj hno
        go_wp2
        go_ret
        exact ⟨by rw [HN.out]; rfl, _, (HB.out.alloc _).le (by omega), KeepBut.trans HK.out (KeepBut.of_below (below_alloc (Below.refl _ _) _) g none) (.inl rfl), fun c => by rw [HN.out] at c; exact absurd c (by decide)⟩
    · obtain rfl : j = l.length := by omega
      have hlt1 : decide ((l.length : Int) < (l.length : Int)) = false := by simp
      rw [List.take_length] at H224
      go_wp2
      go_ret
      refine ⟨by rw [show formE l = 0 from if_pos H224.out]; rfl, _, HB.out.le (by omega), HK.out, fun _ => ?_⟩
      rw [List.take_length]
      rfl
set_option maxHeartbeats 4000000 in
set_option maxRecDepth 10000 in
theorem cut_walk (w : World) (key old new_ : ByteArray) (g : Nat) (h0 : w.cell? ⟨g, 0, none⟩ = some (.string old)) (h1 : w.cell? ⟨g, 1, none⟩ = some (.string new_)) :
    Calls Try.prog 38 #[.string key, .slice (some ⟨g, 0, none⟩) 2 2] w fun e' w' => e' = .returned (.int .i64 (cutE key old new_)) ∧ Below w.heap.size w w' := by
  unfold cutE
  by_cases hk : 16 < key.size
  · have d1 : decide ((16 : Int) < (key.size : Int)) = true := by simp; omega
    have d2 : decide (16 < key.size) = true := by simp; omega
    rw [if_pos hk]
    go_enter Try.func38, Try.ntmps38
    go_wp2
    go_ret
    exact ⟨rfl, Below.refl _ _⟩
  · have d1 : decide ((16 : Int) < (key.size : Int)) = false := by simp; omega
    have d2 : decide (16 < key.size) = false := by simp; omega
    rw [if_neg hk]
    by_cases ho : 32 < old.size
    · have d3 : decide ((32 : Int) < (old.size : Int)) = true := by simp; omega
      have d4 : decide (32 < old.size) = true := by simp; omega
      rw [if_pos (.inl ho)]
      go_enter Try.func38, Try.ntmps38
      go_wp2
      refine wp_loop_rounds 1 ?_
      rw [rounds_succ]
      go_wp2
      go_ret
      exact ⟨rfl, Below.refl _ _⟩
    · have d3 : decide ((32 : Int) < (old.size : Int)) = false := by simp; omega
      have d4 : decide (32 < old.size) = false := by simp; omega
      by_cases hn : 32 < new_.size
      · have d5 : decide ((32 : Int) < (new_.size : Int)) = true := by simp; omega
        have d6 : decide (32 < new_.size) = true := by simp; omega
        rw [if_pos (.inr hn)]
        go_enter Try.func38, Try.ntmps38
        go_wp2
        refine wp_loop_rounds 2 ?_
        rw [rounds_succ]
        go_wp2
        rw [rounds_succ]
        go_wp2
        go_ret
        exact ⟨rfl, Below.refl _ _⟩
      · have d5 : decide ((32 : Int) < (new_.size : Int)) = false := by simp; omega
        have d6 : decide (32 < new_.size) = false := by simp; omega
        rw [if_neg (by omega)]
        go_enter Try.func38, Try.ntmps38
        go_wp2
        refine wp_loop_rounds 3 ?_
        rw [rounds_succ]
        go_wp2
        rw [rounds_succ]
        go_wp2
        rw [rounds_succ]
        go_wp2
        go_ret
        exact ⟨rfl, Below.refl _ _⟩
end Go.Proofs.Ytdphikbkknkhiaa.PAll
