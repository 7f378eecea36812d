/- Two texts of one length (cut to 1000 bytes) that differ within 32 bits side by side have unlike sums; no condition. The law's walk. -/
import Derived.Test.YtnbfphjhhdkefaaSumPlain
import Derived.Laws.IdiomStrings
import Derived.Lib.Hide
import Derived.Lib.Strings
import Derived.LoopTactic
import Derived.RegionTactic
import Derived.Laws.BitsAllLaws
namespace Go.Proofs.Ytnbfphjhhdkefaa.PAll
open Go.RowKit Go.Proofs.YtnbfphjhhdkefaaW.PrintWords Go.Proofs.YtnbfphjhhdkefaaW.PrintLast Go.Proofs.YtnbfphjhhdkefaaW.PrintMore
open Go.Proofs.Ytnbfphjhhdkefaa.Crc
set_option linter.unusedVariables false
set_option linter.unusedSimpArgs false

theorem awake_any (w : World) : Calls Try.prog 12 #[] w fun e w' => e = .returned (.bool true) ∧ Below w.heap.size w w' := gharrylaw02_awake.calls true w Pure.law_awake
theorem sum_any (s : ByteArray) (w : World) (hs : s.size ≤ 9223372036854775807) : Calls Try.prog 10 #[.string s] w fun e w' => e = .returned (.int .i64 ((sumN s.data.toList : Nat) : Int)) ∧ Below w.heap.size w w' :=
  sum_Sum.calls s _ w (Pure.sum_plain s hs)

/-- The bytes b in block g are the text l. -/
structure BurstRel (w : World) (g cap : Nat) (l : List UInt8) (wr : World) : Prop where
  row : ∃ (cs : Array Value) (n : Nat), wr.heap[g]? = some (.cells cs 5 (n, n + 1)) ∧ l.length ≤ n ∧ ∀ (j : Nat) (h : j < l.length), cs[j]? = some (.int .u8 ((l[j]'h).toNat : Int))
  bel : Below w.heap.size w wr

theorem BurstRel.step {w wr : World} {g cap j : Nat} {l : List UInt8} (h : BurstRel w g cap l wr) (hj : j < l.length) (hg : w.heap.size ≤ g) (b : UInt8) {v : Value} (hv : v = .int .u8 (b.toNat : Int)) :
    BurstRel w g cap (l.set j b) (wr.setCell ⟨g, j, none⟩ v).drew := by
  obtain ⟨cs, n, hrow, hn, hcs⟩ := h.row
  subst hv
  refine ⟨⟨cs.setIfInBounds j (.int .u8 (b.toNat : Int)), n, ?_, by simpa using hn, fun i hi => ?_⟩, below_drew (h.bel.setCell hg _)⟩
  · show (wr.setCell ⟨g, j, none⟩ _).heap[g]? = _
    simp [World.setCell, Array.getElem?_modify, hrow]
  · have hi' : i < l.length := by simpa using hi
    have h1 := hcs i hi'
    rw [Array.getElem?_setIfInBounds, List.getElem_set]
    by_cases e : j = i
    · subst e
      rw [if_pos rfl, if_pos rfl]
      have : j < cs.size := (Array.getElem?_eq_some_iff.1 h1).1
      rw [if_pos this]
    · rw [if_neg e, if_neg e]; exact h1

set_option maxRecDepth 100000 in
set_option maxHeartbeats 2000000 in
theorem bursts_walk (s : ByteArray) (at_ p : Int) (w : World) (hs : s.size ≤ 140737488351232) (ha : -9223372036854775808 ≤ at_ ∧ at_ ≤ 9223372036854775807) (hp : -9223372036854775808 ≤ p ∧ p ≤ 9223372036854775807) :
    Calls Try.prog 4 #[.string s, .int .i64 at_, .int .i64 p] w fun e w' => e = .returned (.bool true) ∧ Below w.heap.size w w' := by
  have hcv := fun w s => run_bytes_of_string (P := Try.prog) w 9 26 5 s Try.underlying9 Try.underlying26 Try.underlying5
  obtain ⟨ha1, ha2⟩ := ha
  obtain ⟨hp1, hp2⟩ := hp
  go_enter Try.func4, Try.ntmps4
  go_upto_if 12 with (fail)
  go_cut [0] (fun v0 wc => ∃ t : ByteArray, v0 = .string t ∧ t.size ≤ 1000 ∧ wc = w)
  case first =>
    by_cases hb : 1000 < s.size
    · have hb1 : decide ((1000 : Int) < (s.size : Int)) = true := by simp; omega
      have hb2 : decide (1000 < s.size) = true := by simpa using hb
      go_wp2
      go_meet
      case rel => exact ⟨_, rfl, by rw [ByteArray.size_extract]; omega, rfl⟩
    · have hb1 : decide ((1000 : Int) < (s.size : Int)) = false := by simp; omega
      have hb2 : decide (1000 < s.size) = false := by simpa using hb
      go_wp2
      go_meet
      case rel => exact ⟨_, rfl, by omega, rfl⟩
  case rest =>
    obtain ⟨t, rfl, ht, rfl⟩ := hcut
    by_cases h1 : p < 1
    · have d1 : decide (p < 1) = true := by simpa using h1
      go_wp2_with (go_at_call 12; (with_reducible refine (awake_any _).mono ?_); rintro e' w1 ⟨rfl, hB1⟩)
      go_ret
      exact ⟨rfl, hB1⟩
    have d1 : decide (p < 1) = false := by simpa using h1
    by_cases h2 : 4294967295 < p
    · have d2 : decide (4294967295 < p) = true := by simpa using h2
      go_wp2_with (go_at_call 12; (with_reducible refine (awake_any _).mono ?_); rintro e' w1 ⟨rfl, hB1⟩)
      go_ret
      exact ⟨rfl, hB1⟩
    have d2 : decide (4294967295 < p) = false := by simpa using h2
    by_cases h3 : at_ < 0
    · have d3 : decide (at_ < 0) = true := by simpa using h3
      go_wp2_with (go_at_call 12; (with_reducible refine (awake_any _).mono ?_); rintro e' w1 ⟨rfl, hB1⟩)
      go_ret
      exact ⟨rfl, hB1⟩
    have d3 : decide (at_ < 0) = false := by simpa using h3
    by_cases h4 : 8 * (t.size : Int) ≤ at_
    · have d4 : decide (8 * (t.size : Int) ≤ at_) = true := by simpa using h4
      go_wp2_with (go_at_call 12; (with_reducible refine (awake_any _).mono ?_); rintro e' w1 ⟨rfl, hB1⟩)
      go_ret
      exact ⟨rfl, hB1⟩
    have d4 : decide (8 * (t.size : Int) ≤ at_) = false := by simpa using h4
    obtain ⟨a, rfl⟩ := Int.eq_ofNat_of_zero_le (show 0 ≤ at_ by omega)
    obtain ⟨p, rfl⟩ := Int.eq_ofNat_of_zero_le (show 0 ≤ p by omega)
    clear hp1 hp2 ha1 ha2
    go_wp2
    have hrow0 : BurstRel wc wc.heap.size (grownCap wc t.size 0 5) t.data.toList ((wc.alloc (.cells (bytesRow t (grownCap wc t.size 0 5)) 5 ((bytesRow t (grownCap wc t.size 0 5)).size, (bytesRow t (grownCap wc t.size 0 5)).size + 1))).drew) := by
      refine ⟨⟨_, _, heap_alloc_new wc _, by unfold bytesRow; simp, fun j hj => ?_⟩, below_drew (below_alloc (Below.refl _ _) _)⟩
      have hj' : j < t.data.size := by simpa using hj
      rw [bytesRow_at t _ j hj']
      simp
    have HR0 := Lib.hid hrow0
    clear hrow0
    go_loopw [2, 8] (fun q i wr => ∃ (k : Nat) (l : List UInt8), k ≤ 32 ∧ i = .int .i64 k ∧ q = .int .i64 ((p / 2 ^ k : Nat) : Int) ∧ l.length = t.size ∧ Hid (regN 4294967295 l = regN 4294967295 t.data.toList ^^^ Ln (8 * t.size - a) (p % 2 ^ k)) ∧ BurstRel wc wc.heap.size (grownCap wc t.size 0 5) l wr) (fun _ i _ => 32 - (intOf i).toNat)
    case atStart => exact ⟨0, t.data.toList, by omega, rfl, by simp, by simp, by show _ = _; simp [Nat.mod_one, Ln_zero], HR0.out⟩
    case round =>
      obtain ⟨k, l, hk, rfl, rfl, hl, HX, hR⟩ := hrel
      have HR := Lib.hid hR
      by_cases hlt : k < 32
      · have hq2 : p / 2 ^ k / 2 = p / 2 ^ (k + 1) := by rw [Nat.pow_succ, Nat.div_div_eq_div_mul]
        obtain ⟨q, hq⟩ : ∃ q, q = p / 2 ^ k := ⟨_, rfl⟩
        have hqp : q ≤ p := by rw [hq]; exact Nat.div_le_self _ _
        have HQ := Lib.hid hq
        have HQ2 := Lib.hid hq2
        rw [← hq]
        clear hq hq2
        by_cases hbit : q % 2 = 1
        · have hb1 : ((q : Int) % 2 == 1) = true := by simp; omega
          have HB := Lib.hid hbit
          by_cases hlen : t.size ≤ (a + k) / 8
          · have hlen' : decide ((t.size : Int) ≤ ((a : Int) + (k : Int)) / 8) = true := by simp; omega
            clear hR hbit
            go_wp2_with (go_at_call 12; (with_reducible refine (awake_any _).mono ?_); rintro e' w1 ⟨rfl, hB1⟩)
            go_ret
            exact ⟨rfl, below_step HR.out.bel hB1⟩
          · have hlen' : decide ((t.size : Int) ≤ ((a : Int) + (k : Int)) / 8) = false := by simp; omega
            obtain ⟨j, hj⟩ : ∃ j, j = (a + k) / 8 := ⟨_, rfl⟩
            obtain ⟨r, hr⟩ : ∃ r, r = (a + k) % 8 := ⟨_, rfl⟩
            have hr8 : r < 8 := by omega
            have hjl : j < l.length := by omega
            have hj0 : (0 : Int) ≤ (j : Int) := by omega
            have hjt : (j : Int) < (t.size : Int) := by omega
            have hji : ((a : Int) + (k : Int)) / 8 = (j : Int) := by omega
            have hri : ((a : Int) + (k : Int)) % 8 = (r : Int) := by omega
            obtain ⟨c, hc⟩ : ∃ c, c = (l[j]'hjl).toNat := ⟨_, rfl⟩
            have hcell : wr.cell? ⟨wc.heap.size, j, none⟩ = some (.int .u8 (c : Int)) := by
              obtain ⟨cs, n, hrow, _, hcs⟩ := hR.row
              rw [cell_of_row wr _ j cs 5 _ hrow, hcs j hjl, hc]
            have hfr : wr.frozen? ⟨wc.heap.size, j, none⟩ = false := by
              obtain ⟨cs, n, hrow, hn, _⟩ := hR.row
              simp [World.frozen?, hrow]
              omega
            have HJ := Lib.hid hj
            have HRR := Lib.hid hr
            have HC := Lib.hid hc
            rw [hji] at hlen'
            clear hR hbit hj hr hc
            go_wp2
            go_region
            go_wp2
            go_roundw
            case rel =>
              have hst := burst_step (l := t.data.toList) (b := l) (c := 4294967295) (at_ := a) (p := p) (i := k) (by simpa using hl) (by have := HJ.out; simp; omega) (by rw [← HQ.out]; exact HB.out) (by simpa using HX.out)
              refine ⟨k + 1, Crc.flip l (a + k), by omega, by go_num, by rw [← HQ2.out, ← HQ.out]; congr 1, by rw [flip_length]; exact hl, by show _ = _; simpa using hst, ?_⟩
              unfold Crc.flip
              rw [← HJ.out, ← HRR.out]
              refine HR.out.step hjl (Nat.le_refl _) _ ?_
              have h2 : 2 ^ r < 256 := Nat.lt_of_lt_of_le (Nat.pow_lt_pow_right (by omega) hr8 : 2 ^ r < 2 ^ 8) (by decide)
              have hcl : c < 256 := by rw [HC.out]; exact (l[j]'hjl).toNat_lt
              rw [u8_xor_toNat, u8_pow r hr8, show l.getD j 0 = l[j]'hjl from by simp [List.getD_eq_getElem?_getD, hjl], ← HC.out]
              have e1 : (2 : Int) ^ r = ((2 ^ r : Nat) : Int) := by simp
              obtain ⟨m, hm⟩ : ∃ m, m = 2 ^ r := ⟨_, rfl⟩
              rw [← hm] at e1 h2
              have e2 : (2 : Int) ^ r % 256 = (m : Int) := by rw [e1]; omega
              rw [← hm, e2, u8_xor_nat c m hcl h2]
            case measure => simp [intOf]; omega
        · have hb1 : ((q : Int) % 2 == 1) = false := by simp; omega
          have HB := Lib.hid hbit
          clear hR hbit
          go_wp2
          go_roundw
          case rel => exact ⟨k + 1, l, by omega, by go_num, by rw [← HQ2.out, ← HQ.out]; congr 1, hl, by show _ = _; rw [HX.out, burst_skip (by rw [← HQ.out]; exact HB.out)], HR.out⟩
          case measure => simp [intOf]; omega
      · have hk32 : k = 32 := by omega
        subst hk32
        have hconv : (convert 26 9 (.slice (some ⟨wc.heap.size, 0, none⟩) t.size (grownCap wc t.size 0 5))).run Try.prog wr = .ok (.string ⟨l.toArray⟩) wr := by
          rw [← hl]
          refine run_convert_bytes_back wr 26 9 5 ⟨wc.heap.size, 0, none⟩ _ l Try.underlying26 Try.underlying5 Try.underlying9 (fun j hj => ?_)
          obtain ⟨cs, n, hrow, _, hcs⟩ := hR.row
          have ha : (⟨wc.heap.size, 0, none⟩ : Addr).add j = ⟨wc.heap.size, j, none⟩ := by unfold Addr.add; split <;> simp_all
          rw [ha, cell_of_row wr _ j cs 5 _ hrow, hcs j hj]
        have hneB : ((((sumN l : Nat) : Int) != ((sumN t.data.toList : Nat) : Int))) = true := by
          have h32 : p % 2 ^ 32 = p := Nat.mod_eq_of_lt (by omega)
          have hX := HX.out
          rw [h32] at hX
          have := burst_ne hX (by omega) (by omega)
          simp only [bne_iff_ne, ne_eq]
          omega
        clear hR
        go_wp2_with fail
        refine (sum_any ⟨l.toArray⟩ _ (by show l.toArray.size ≤ _; simp; omega)).mono ?_
        rintro e' w1 ⟨rfl, hB1⟩
        have HB1 := Lib.hid (below_step HR.out.bel hB1)
        clear hB1
        go_wp2_with fail
        refine (sum_any t _ (by omega)).mono ?_
        rintro e' w2 ⟨rfl, hB2⟩
        have HB2 := Lib.hid (below_step HB1.out hB2)
        clear hB2
        go_wp2_with (go_at_call 12; (with_reducible refine (awake_any _).mono ?_); rintro e' w3 ⟨rfl, hB3⟩)
        go_ret
        exact ⟨rfl, below_step HB2.out hB3⟩

theorem bursts_any (s : ByteArray) (at_ p : Int) (w : World) (hs : s.size ≤ 140737488351232) (ha : (Lit.int .i64 at_).wf = true) (hp : (Lit.int .i64 p).wf = true) :
    Calls Try.prog 4 #[.string s, .int .i64 at_, .int .i64 p] w fun e w' => e = .returned (.bool true) ∧ Below w.heap.size w w' := by
  simp [Lit.wf, IntKind.min, IntKind.max, IntKind.signed, IntKind.bits] at ha hp
  exact bursts_walk s at_ p w hs ha hp
end Go.Proofs.Ytnbfphjhhdkefaa.PAll
