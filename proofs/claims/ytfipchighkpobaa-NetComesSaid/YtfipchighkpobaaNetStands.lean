/- Both step alike, whatever is called, and what stands afterwards. -/
import Derived.Test.YtfipchighkpobaaNetStep
import Derived.Test.YtfipchighkpobaaNetStep2
import Derived.Test.YtfipchighkpobaaNetStep3
namespace Go.Proofs.Ytfipchighkpobaa.PAll
open Go.RowKit Go.Proofs.YtfipchighkpobaaW.PrintWords Go.Proofs.YtfipchighkpobaaW.PrintLast Go.Proofs.YtfipchighkpobaaW.PrintMore
set_option linter.unusedVariables false
set_option linter.unusedSimpArgs false

theorem in_nat {I : Int} {n : Nat} (h : 0 ≤ I ∧ I < n) : ∃ i : Nat, I = i ∧ i < n := ⟨I.toNat, by omega, by omega⟩

theorem swapped_len (way : List ByteArray) (x y : ByteArray) (i k : Nat) : (swapped way x y i k).length = way.length := by unfold swapped; rw [List.length_set, List.length_set]

/-- Whatever is called, both answer alike and stay alike. -/
theorem step_ok {B : Nat} {w : World} {g p : Nat} {A A' : Option Addr} {c c' : Nat} {way : List ByteArray} {lost sent : Int} (h : LS B w g p A A' c c' way lost sent way lost sent) (hl : way.length ≤ 128) (kind I K : Int) (s : ByteArray) :
    Calls Try.prog 14 #[.pointer (some ⟨g, 0, none⟩), .pointer (some ⟨p, 0, none⟩), .agg #[.int .i64 kind, .int .i64 I, .int .i64 K, .string s]] w fun e w' => e = .returned (.bool true) ∧ ∃ way' lost' sent', way'.length ≤ 128 ∧ Stepped B w w' g p way' lost' sent' := by
  have go : ∀ {way' : List ByteArray} {lost' sent' : Int}, way'.length ≤ 128 → (Calls Try.prog 14 #[.pointer (some ⟨g, 0, none⟩), .pointer (some ⟨p, 0, none⟩), .agg #[.int .i64 kind, .int .i64 I, .int .i64 K, .string s]] w fun e w' => e = .returned (.bool true) ∧ Stepped B w w' g p way' lost' sent') →
      Calls Try.prog 14 #[.pointer (some ⟨g, 0, none⟩), .pointer (some ⟨p, 0, none⟩), .agg #[.int .i64 kind, .int .i64 I, .int .i64 K, .string s]] w fun e w' => e = .returned (.bool true) ∧ ∃ way' lost' sent', way'.length ≤ 128 ∧ Stepped B w w' g p way' lost' sent' :=
    fun hl' hc => hc.mono fun e w' ⟨he, hs⟩ => ⟨he, _, _, _, hl', hs⟩
  by_cases h0 : kind = 0
  · subst h0
    by_cases hl' : way.length < 128
    · exact go (by simp; omega) (step_send_in h hl' I K s)
    · exact go hl (step_send_full h hl' I K s)
  by_cases h1 : kind = 1
  · subst h1
    by_cases hi : 0 ≤ I ∧ I < way.length
    · obtain ⟨i, rfl, hi'⟩ := in_nat hi
      exact go (Nat.le_trans (cutAt_le way i) hl) (step_take1_in h i K hi' hl s)
    · exact go hl (step_take1_out h I K hi s)
  by_cases h2 : kind = 2
  · subst h2
    by_cases hi : 0 ≤ I ∧ I < way.length
    · obtain ⟨i, rfl, hi'⟩ := in_nat hi
      exact go (Nat.le_trans (cutAt_le way i) hl) (step_take2_in h i K hi' hl s)
    · exact go hl (step_take2_out h I K hi s)
  by_cases h3 : kind = 3
  · subst h3
    by_cases hi : 0 ≤ I ∧ I < way.length
    · obtain ⟨i, rfl, hi'⟩ := in_nat hi
      by_cases hl' : way.length < 128
      · exact go (by simp; omega) (step_copy_in h i K hi' hl' _ rfl s)
      · exact go hl (step_copy_full h i K hi' hl' s)
    · exact go hl (step_copy_out h I K hi s)
  by_cases hi : 0 ≤ I ∧ I < way.length
  · obtain ⟨i, rfl, hi'⟩ := in_nat hi
    by_cases hk : 0 ≤ K ∧ K < way.length
    · obtain ⟨k, rfl, hk'⟩ := in_nat hk
      exact go (by rw [swapped_len]; exact hl) (step_swap_in h kind h0 h1 h2 h3 i k hi' hk' hl _ _ rfl rfl s)
    · exact go hl (step_swap_out2 h kind h0 h1 h2 h3 i K hi' hk s)
  · exact go hl (step_swap_out1 h kind h0 h1 h2 h3 I K hi s)

/-- The new net and the new document's net. -/
theorem start_LS (w w1 : World) (h : NW w w1 w.heap.size none 0 [] 0 0) : LS w.heap.size (w1.alloc (.cells #[.slice none 0 0, .int .i64 0, .int .i64 0] 38)) w.heap.size w1.heap.size none none 0 0 [] 0 0 [] 0 0 ∧ Below w.heap.size w (w1.alloc (.cells #[.slice none 0 0, .int .i64 0, .int .i64 0] 38)) :=
  ⟨⟨⟨blk_alloc h.rec_ _, sr_nil _ _, Nat.le_refl _⟩, ⟨heap_alloc_new w1 _, sr_nil _ _, h.b.size⟩, fun r hr => by simp [ablk] at hr⟩, below_alloc h.b _⟩

set_option maxRecDepth 10000 in
set_option maxHeartbeats 4000000 in
theorem stands_ok {B : Nat} {w : World} {g p : Nat} {A A' : Option Addr} {c c' : Nat} {way : List ByteArray} {lost sent : Int} (h : LS B w g p A A' c c' way lost sent way lost sent) (hl : way.length ≤ 128) :
    Calls Try.prog 15 #[.pointer (some ⟨g, 0, none⟩), .pointer (some ⟨p, 0, none⟩)] w fun e w' => e = .returned (.bool true) ∧ Only w w' (fun _ => False) := by
  have hu38 := Try.underlying38
  have hu25 := Try.underlying25
  have HH := Lib.hid h
  have HL := Lib.hid hl
  clear h hl
  go_enter Try.func15, Try.ntmps15
  go_wp2_with (first
    | (go_at_call 17; (with_reducible refine (counts_ok HH.out.n).mono ?_); rintro e' w1 ⟨rfl, hw1⟩; have HL1 := Lib.hid (HH.out.hold hw1 (fun _ _ h => h)); have HO1 := Lib.hid hw1; clear hw1)
    | (go_at_call 19; (with_reducible refine (all_ok HL1.out.n HL.out).mono ?_); rintro e' w2 ⟨A2, c2, rfl, hA2⟩; have HO2 := Lib.hid (HO1.out.trans (hA2.2.1.mono (S' := fun _ => False) (fun k e => by simp [ablk] at e)) (fun _ _ h => h)); have HL2 := Lib.hid (HH.out.hold HO2.out (fun _ _ h => h)); have HR2 := Lib.hid hA2.1; clear hA2))
  have p0 := HL2.out.q.c0
  have p1 := HL2.out.q.c1
  have p2 := HL2.out.q.c2
  have d1 : ((way.length : Int) != (way.length : Int)) = false := by simp
  have d2 : (sent != sent) = false := by simp
  have d3 : (lost != lost) = false := by simp
  go_region_held3 (fun w' => w'.cell? ⟨p, 0, none⟩ = some (.slice A' way.length c') ∧ w'.cell? ⟨p, 1, none⟩ = some (.int .i64 sent) ∧ w'.cell? ⟨p, 2, none⟩ = some (.int .i64 lost)) (first | assumption | exact ⟨p0, p1, p2⟩) ((go_at_call 18; refine (len_ok' HL2.out.drew.n).mono ?_; rintro e' w3 ⟨rfl, hw3⟩; cases hw3))
  all_goals (
    have HOW := Lib.hid (HO2.out.trans (Only.drew w2) (fun _ _ h => h))
    have HW := Lib.hid HL2.out.drew
    have HRW := Lib.hid (HR2.out.hold (Only.drew w2) (fun _ _ h => h))
    clear p0 p1 p2 HL2 HR2 HO2 HL1 HO1
    go_wp2
    generalize w2.drew = W at *
    go_loopw [8] (fun i wr => ∃ j : Nat, j ≤ way.length ∧ i = .int .i64 j ∧ wr = W) (fun i _ => way.length - (intOf i).toNat)
    case atStart => exact ⟨0, Nat.zero_le _, rfl, rfl⟩
    case round =>
      obtain ⟨j, hj, rfl, rfl⟩ := hrel
      have p0 := HW.out.q.c0
      by_cases hlt : j < way.length
      · have e1 : decide ((j : Int) < (way.length : Int)) = true := by simp; omega
        have e2 : decide (j < way.length) = true := by simpa using hlt
        have hj1 : j < 128 := by have := HL.out; omega
        have HA := Lib.hid (at_in HW.out.n j hlt _ rfl)
        obtain ⟨r, rfl, _, hr, _⟩ := HW.out.q.row.get j hlt
        obtain ⟨q, rfl, _, hq, _⟩ := HRW.out.get j hlt
        have hr' : wr.cell? (Addr.add ⟨r, 0, none⟩ j) = some (.string way[j]) := by rw [Addr.add_lit, Nat.zero_add]; exact hr
        have hq' : wr.cell? (Addr.add ⟨q, 0, none⟩ j) = some (.string way[j]) := by rw [Addr.add_lit, Nat.zero_add]; exact hq
        have f0 : (0 : Int) ≤ (j : Int) := by omega
        have f1 : (j : Int) < (way.length : Int) := by omega
        have HJ := Lib.hid (show j + 1 ≤ way.length from hlt)
        generalize way[j] = x at *
        clear hlt hj
        go_wp2_with (go_at_call 16; (with_reducible refine HA.out.mono ?_); rintro e' w1 ⟨rfl, hw1⟩; cases hw1)
        go_roundw
        case rel => exact ⟨j + 1, HJ.out, by go_num, by first | rfl | trivial⟩
        case measure => have := HJ.out; simp [intOf]; omega
      · obtain rfl : j = way.length := by omega
        have e1 : decide ((way.length : Int) < (way.length : Int)) = false := by simp
        have HA1 := Lib.hid (at_out HW.out.n (way.length : Int) (by omega))
        have HA2 := Lib.hid (at_out HW.out.n (-1) (by omega))
        clear hlt hj
        go_wp2_with (first
          | (go_at_call 16; (with_reducible refine HA1.out.mono ?_); rintro e' w1 ⟨rfl, hw1⟩; cases hw1)
          | (go_at_call 16; (with_reducible refine HA2.out.mono ?_); rintro e' w1 ⟨rfl, hw1⟩; cases hw1))
        go_ret
        exact ⟨rfl, HOW.out⟩)
end Go.Proofs.Ytfipchighkpobaa.PAll
