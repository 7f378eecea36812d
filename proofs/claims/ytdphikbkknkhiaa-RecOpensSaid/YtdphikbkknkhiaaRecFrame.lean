/- rec.Frame, walked by hand: it returns frameP of the record's values and its rows. -/
import Derived.Test.YtdphikbkknkhiaaRecBody
import Derived.Test.YtdphikbkknkhiaaSealPlain
import Derived.Test.YtdphikbkknkhiaaPAllx4
namespace Go.Proofs.Ytdphikbkknkhiaa.PAll
open Go.RowKit Go.Proofs.Ytdphikbkknkhiaa.Pure Go.Proofs.YtdphikbkknkhiaaW.PrintWords Go.Proofs.YtdphikbkknkhiaaW.PrintLast Go.Proofs.YtdphikbkknkhiaaW.PrintMore
set_option linter.unusedVariables false
set_option linter.unusedSimpArgs false

/-- A record's rows. -/
structure RRow (w : World) (r : RV) (li : List S36) (lt : List S55) : Prop where
  ic : Kd.C k36 w r.images.A li.length li
  inn : r.images.n = li.length
  icap : li.length ≤ r.images.c
  tc : Kd.C k55 w r.table.A lt.length lt
  tn : r.table.n = lt.length
  tcap : lt.length ≤ r.table.c
theorem RRow.below {w w' : World} {r : RV} {li : List S36} {lt : List S55} (h : RRow w r li lt) (hb : Below w.heap.size w w') : RRow w' r li lt := ⟨Kd.C_below h.ic hb, h.inn, h.icap, Kd.C_below h.tc hb, h.tn, h.tcap⟩
theorem body_calls (r : RV) (li : List S36) (lt : List S55) (w : World) (h : RRow w r li lt) (hli : li.length ≤ 300) (hlt : lt.length ≤ 300) :
    Calls Try.prog 21 #[.agg r.cs] w fun e' w' => e' = .returned (.tuple #[.string (bodyP r li lt).1, .int .i64 (bodyP r li lt).2]) ∧ Below w.heap.size w w' := by
  obtain ⟨kind, txn, prev, page, act, key, old, new_, next, ⟨iA, in_, ic⟩, ⟨tA, tn, tc⟩, epoch, node⟩ := r
  obtain ⟨h1, h2, h3, h4, h5, h6⟩ := h
  simp only at h1 h2 h3 h4 h5 h6
  subst h2 h5
  exact body_walk kind txn prev page act key old new_ next iA ic li tA tc lt epoch node w hli hlt h3 h6 h1 h4
/-- The rows of a clean record. -/
def cleanI (r : RV) (li : List S36) : List S36 := if r.kind = 1 ∨ r.kind = 2 then li else []
def cleanT (r : RV) (lt : List S55) : List S55 := if r.kind = 9 then lt else []
theorem RRow.clean {w : World} {r : RV} {li : List S36} {lt : List S55} (h : RRow w r li lt) : RRow w (cleanR r) (cleanI r li) (cleanT r lt) := by
  have hi := Kd.C_nil k36 w
  have ht := Kd.C_nil k55 w
  have z1 : RRow w (zeroR r.kind) [] [] := ⟨hi, rfl, Nat.le_refl _, ht, rfl, Nat.le_refl _⟩
  unfold cleanR cleanI cleanT
  by_cases a : r.kind = 1 ∨ r.kind = 2
  · rw [if_pos a, if_pos a, if_neg (by omega)]
    exact ⟨h.ic, h.inn, h.icap, ht, rfl, Nat.le_refl _⟩
  rw [if_neg a, if_neg a]
  by_cases b : r.kind = 3 ∨ r.kind = 4 ∨ r.kind = 5
  · rw [if_pos b, if_neg (by omega)]
    unfold tidyR
    split
    · exact ⟨hi, rfl, Nat.le_refl _, ht, rfl, Nat.le_refl _⟩
    · split
      · exact ⟨hi, rfl, Nat.le_refl _, ht, rfl, Nat.le_refl _⟩
      · exact ⟨hi, rfl, Nat.le_refl _, ht, rfl, Nat.le_refl _⟩
  rw [if_neg b]
  by_cases c : r.kind = 6
  · rw [if_pos c, if_neg (by omega)]
    unfold tidyR
    split
    · exact ⟨hi, rfl, Nat.le_refl _, ht, rfl, Nat.le_refl _⟩
    · split
      · exact ⟨hi, rfl, Nat.le_refl _, ht, rfl, Nat.le_refl _⟩
      · exact ⟨hi, rfl, Nat.le_refl _, ht, rfl, Nat.le_refl _⟩
  rw [if_neg c]
  by_cases d : r.kind = 7 ∨ r.kind = 8
  · rw [if_pos d, if_neg (by omega)]
    exact ⟨hi, rfl, Nat.le_refl _, ht, rfl, Nat.le_refl _⟩
  rw [if_neg d]
  by_cases e : r.kind = 9
  · rw [if_pos e, if_pos e]
    exact ⟨hi, rfl, Nat.le_refl _, h.tc, h.tn, h.tcap⟩
  rw [if_neg e, if_neg e]
  split
  · exact ⟨hi, rfl, Nat.le_refl _, ht, rfl, Nat.le_refl _⟩
  · exact z1
theorem cleanI_le (r : RV) (li : List S36) : (cleanI r li).length ≤ li.length := by unfold cleanI; split <;> simp
theorem cleanT_le (r : RV) (lt : List S55) : (cleanT r lt).length ≤ lt.length := by unfold cleanT; split <;> simp
/-- A record's bytes without a frame, of the clean record. -/
def cbodyP (r : RV) (li : List S36) (lt : List S55) : WS := bodyP (cleanR r) (cleanI r li) (cleanT r lt)
/-- A record's frame, or why it has none. -/
def frameP (r : RV) (li : List S36) (lt : List S55) : WS :=
  if (cbodyP r li lt).2 ≠ 0 then (⟨#[]⟩, (cbodyP r li lt).2) else ((⟨(nb 2 (cbodyP r li lt).1.size).toArray⟩ : ByteArray) ++ sealed (cbodyP r li lt).1, 0)
theorem bodyP_le (r : RV) (li : List S36) (lt : List S55) : (bodyP r li lt).1.size ≤ 4096 := by
  unfold bodyP
  split
  · show (0 : Nat) ≤ _; omega
  · split
    · show (0 : Nat) ≤ _; omega
    · split
      · show (0 : Nat) ≤ _; omega
      · omega
theorem clean_lit (kind txn prev page act : Int) (key old new_ : ByteArray) (next : Int) (iA : Option Addr) (in_ ic : Nat) (tA : Option Addr) (tn tc : Nat) (epoch node : Int) (q : RV) (hq : cleanR (⟨kind, txn, prev, page, act, key, old, new_, next, ⟨iA, in_, ic⟩, ⟨tA, tn, tc⟩, epoch, node⟩ : RV) = q) (w : World) :
    Calls Try.prog 15 #[.agg #[.int .i64 kind, .int .i64 txn, .int .i64 prev, .int .i64 page, .int .i64 act, .string key, .string old, .string new_, .int .i64 next, .slice iA in_ ic, .slice tA tn tc, .int .i64 epoch, .int .i64 node]] w fun e w' => e = .returned (.agg q.cs) ∧ Below w.heap.size w w' := by
  subst hq
  exact clean_calls (⟨kind, txn, prev, page, act, key, old, new_, next, ⟨iA, in_, ic⟩, ⟨tA, tn, tc⟩, epoch, node⟩ : RV) w
theorem put2 (n : Nat) (h : n ≤ 4096) : pack_Put.f 10 ⟨#[]⟩ (n : Int) 2 = some (⟨(nb 2 n).toArray⟩, 0) := by
  have hp := put_ok 10 ⟨#[]⟩ n 2 (by omega) (by omega) (by omega) (by decide) (by omega)
  rw [show ((2 : Nat) : Int) = 2 from rfl, nil_app] at hp
  exact hp

set_option maxHeartbeats 4000000 in
set_option maxRecDepth 10000 in
theorem frame_walk (kind txn prev page act : Int) (key old new_ : ByteArray) (next : Int) (iA : Option Addr) (in_ ic : Nat) (tA : Option Addr) (tn tc : Nat) (epoch node : Int) (li : List S36) (lt : List S55) (w : World) (h : RRow w (⟨kind, txn, prev, page, act, key, old, new_, next, ⟨iA, in_, ic⟩, ⟨tA, tn, tc⟩, epoch, node⟩ : RV) li lt) (hli : li.length ≤ 300) (hlt : lt.length ≤ 300) :
    Calls Try.prog 10 #[.agg #[.int .i64 kind, .int .i64 txn, .int .i64 prev, .int .i64 page, .int .i64 act, .string key, .string old, .string new_, .int .i64 next, .slice iA in_ ic, .slice tA tn tc, .int .i64 epoch, .int .i64 node]] w fun e' w' => e' = .returned (.tuple #[.string (frameP (⟨kind, txn, prev, page, act, key, old, new_, next, ⟨iA, in_, ic⟩, ⟨tA, tn, tc⟩, epoch, node⟩ : RV) li lt).1, .int .i64 (frameP (⟨kind, txn, prev, page, act, key, old, new_, next, ⟨iA, in_, ic⟩, ⟨tA, tn, tc⟩, epoch, node⟩ : RV) li lt).2]) ∧ Below w.heap.size w w' := by
  have hu25 := Try.underlying25
  have hr := h.clean
  have hq1 : (cleanI (⟨kind, txn, prev, page, act, key, old, new_, next, ⟨iA, in_, ic⟩, ⟨tA, tn, tc⟩, epoch, node⟩ : RV) li).length ≤ 300 := Nat.le_trans (cleanI_le _ _) hli
  have hq2 : (cleanT (⟨kind, txn, prev, page, act, key, old, new_, next, ⟨iA, in_, ic⟩, ⟨tA, tn, tc⟩, epoch, node⟩ : RV) lt).length ≤ 300 := Nat.le_trans (cleanT_le _ _) hlt
  have hle := bodyP_le (cleanR (⟨kind, txn, prev, page, act, key, old, new_, next, ⟨iA, in_, ic⟩, ⟨tA, tn, tc⟩, epoch, node⟩ : RV)) (cleanI (⟨kind, txn, prev, page, act, key, old, new_, next, ⟨iA, in_, ic⟩, ⟨tA, tn, tc⟩, epoch, node⟩ : RV) li) (cleanT (⟨kind, txn, prev, page, act, key, old, new_, next, ⟨iA, in_, ic⟩, ⟨tA, tn, tc⟩, epoch, node⟩ : RV) lt)
  unfold frameP cbodyP
  obtain ⟨q, hq⟩ : ∃ q, q = cleanR (⟨kind, txn, prev, page, act, key, old, new_, next, ⟨iA, in_, ic⟩, ⟨tA, tn, tc⟩, epoch, node⟩ : RV) := ⟨_, rfl⟩
  rw [← hq] at hr hle ⊢
  generalize cleanI (⟨kind, txn, prev, page, act, key, old, new_, next, ⟨iA, in_, ic⟩, ⟨tA, tn, tc⟩, epoch, node⟩ : RV) li = li2 at *
  generalize cleanT (⟨kind, txn, prev, page, act, key, old, new_, next, ⟨iA, in_, ic⟩, ⟨tA, tn, tc⟩, epoch, node⟩ : RV) lt = lt2 at *
  have hbody := fun (w2 : World) (hb : Below w.heap.size w w2) => body_calls q li2 lt2 w2 (hr.below hb) hq1 hq2
  generalize bodyP q li2 lt2 = B at hbody hle ⊢
  obtain ⟨s, e⟩ := B
  simp only at hle hbody ⊢
  have HB0 := Lib.hid hbody
  have HQ := Lib.hid hq
  have HLE := Lib.hid hle
  clear hbody hr hq1 hq2 hle hq h hli hlt
  by_cases h0 : e = 0
  · subst h0
    rw [if_neg (fun c => c rfl)]
    have hput := put2 s.size HLE.out
    have hseal := seal_plain 10 s (by have := HLE.out; omega) (by omega)
    have hz1 : (⟨(nb 2 s.size).toArray⟩ : ByteArray).size = 2 := nb_szI _ _
    have hz2 := sealed_size s
    generalize (⟨(nb 2 s.size).toArray⟩ : ByteArray) = X at *
    generalize sealed s = Y at *
    have c1 : X.size + Y.size ≤ 9223372036854775807 := by have := HLE.out; omega
    have c2 := eq_true c1
    have c3 : decide (X.size + Y.size ≤ 9223372036854775807) = true := decide_eq_true c1
    have c4 : (9223372036854775807 < X.size + Y.size) = False := eq_false (Nat.not_lt.2 c1)
    have HP := Lib.hid hput
    have HS := Lib.hid hseal
    clear hput hseal hz1 hz2
    go_enter Try.func10, Try.ntmps10
    go_wp2_with (first
      | (go_at_call 15; (with_reducible refine (clean_lit kind txn prev page act key old new_ next iA in_ ic tA tn tc epoch node q HQ.out.symm _).mono ?_); rintro e' w1 ⟨rfl, hB1⟩; have HB1 := Lib.hid (below_step (below_alloc (Below.refl _ _) _) hB1); clear hB1)
      | (go_at_call 21; (with_reducible refine (HB0.out _ HB1.out).mono ?_); rintro e' w2 ⟨rfl, hB2⟩; have HB2 := Lib.hid (below_step HB1.out hB2); clear hB2)
      | (go_at_call 22; (with_reducible refine (pack_Put.calls 10 ⟨#[]⟩ (s.size : Int) 2 X 0 _ HP.out).mono ?_); rintro e' w3 ⟨rfl, hB3⟩; have HB3 := Lib.hid (below_step HB2.out hB3); clear hB3)
      | (go_at_call 13; (with_reducible refine (sum_Seal.calls 10 s Y _ HS.out).mono ?_); rintro e' w4 ⟨rfl, hB4⟩; have HB4 := Lib.hid (below_step HB3.out hB4); clear hB4))
    go_ret2
    exact ⟨rfl, HB4.out⟩
  · rw [if_pos h0]
    have d1 : (e == 0) = false := by simpa using h0
    have d2 : (e != 0) = true := by simpa using h0
    clear h0
    go_enter Try.func10, Try.ntmps10
    go_wp2_with (first
      | (go_at_call 15; (with_reducible refine (clean_lit kind txn prev page act key old new_ next iA in_ ic tA tn tc epoch node q HQ.out.symm _).mono ?_); rintro e' w1 ⟨rfl, hB1⟩; have HB1 := Lib.hid (below_step (below_alloc (Below.refl _ _) _) hB1); clear hB1)
      | (go_at_call 21; (with_reducible refine (HB0.out _ HB1.out).mono ?_); rintro e' w2 ⟨rfl, hB2⟩; have HB2 := Lib.hid (below_step HB1.out hB2); clear hB2))
    go_ret2
    exact ⟨rfl, HB2.out⟩
theorem frame_calls (r : RV) (li : List S36) (lt : List S55) (w : World) (h : RRow w r li lt) (hli : li.length ≤ 300) (hlt : lt.length ≤ 300) :
    Calls Try.prog 10 #[.agg r.cs] w fun e' w' => e' = .returned (.tuple #[.string (frameP r li lt).1, .int .i64 (frameP r li lt).2]) ∧ Below w.heap.size w w' := by
  obtain ⟨kind, txn, prev, page, act, key, old, new_, next, ⟨iA, in_, ic⟩, ⟨tA, tn, tc⟩, epoch, node⟩ := r
  exact frame_walk kind txn prev page act key old new_ next iA in_ ic tA tn tc epoch node li lt w h hli hlt
end Go.Proofs.Ytdphikbkknkhiaa.PAll
