/- The document's Body, walked by hand: it returns bodyP of the clean record's values and its rows. -/
import Derived.Test.YtdphikbkknkhiaaRefPlain
import Derived.Test.YtdphikbkknkhiaaRefClean
import Derived.Test.YtdphikbkknkhiaaRecFrame
namespace Go.Proofs.Ytdphikbkknkhiaa.PAll
open Go.RowKit Go.Proofs.Ytdphikbkknkhiaa.Pure Go.Proofs.YtdphikbkknkhiaaW.PrintWords Go.Proofs.YtdphikbkknkhiaaW.PrintLast Go.Proofs.YtdphikbkknkhiaaW.PrintMore
set_option linter.unusedVariables false
set_option linter.unusedSimpArgs false

theorem ref_put {k : Nat} (r r' : WS) (hN : NS (k + 1) r) (n wd : Int) (h1 : 1 ≤ wd) (h6 : wd ≤ 6) (hr : wrS r (num_ n wd) = r') (w : World) :
    Calls Try.prog 24 #[.string r.1, .int .i64 n, .int .i64 wd, .int .i64 r.2] w fun e w' => e = .returned (.tuple #[.string r'.1, .int .i64 r'.2]) ∧ Below w.heap.size w w' :=
  gharryref07_put.calls 30 r.1 n wd r.2 r'.1 r'.2 w (by rw [put_is r n wd h1 h6 (hN.le (by omega)), hr])
theorem ref_text {k : Nat} (r r' : WS) (hN : NS (k + 1) r) (t : ByteArray) (ht : r.2 ≠ 0 ∨ t.size ≤ 65535) (hr : wrS r (text_ t) = r') (w : World) :
    Calls Try.prog 25 #[.string r.1, .string t, .int .i64 r.2] w fun e w' => e = .returned (.tuple #[.string r'.1, .int .i64 r'.2]) ∧ Below w.heap.size w w' :=
  gharryref07_text.calls r.1 t r.2 r'.1 r'.2 w (by rw [rtext_is r t (hN.le (by omega)) ht, hr])
theorem ref_change (kind txn prev page act : Int) (key old new_ : ByteArray) (next : Int) (iA : Option Addr) (ic : Nat) (li : List S36) (tA : Option Addr) (tc : Nat) (lt : List S55) (epoch node : Int) (a2 : Int) {k : Nat} (r r' : WS) (hN : NS (k + 4) r) (ht : r.2 ≠ 0 ∨ (key.size ≤ 65535 ∧ old.size ≤ 65535 ∧ new_.size ≤ 65535)) (hr : wrL r (chgL page key old new_ a2) = r') (w : World)
    (hI : Kd.C k36 w iA li.length li) (hic : li.length ≤ ic) (hT : Kd.C k55 w tA lt.length lt) (htc : lt.length ≤ tc) :
    Calls Try.prog 26 #[.string r.1, .agg #[.int .i64 kind, .int .i64 txn, .int .i64 prev, .int .i64 page, .int .i64 act, .string key, .string old, .string new_, .int .i64 next, .slice iA li.length ic, .slice tA lt.length tc, .int .i64 epoch, .int .i64 node], .int .i64 a2, .int .i64 r.2] w fun e w' => e = .returned (.tuple #[.string r'.1, .int .i64 r'.2]) ∧ Below w.heap.size w w' :=
  gharryref07_change.calls 30 r.1 kind txn prev page act key old new_ next iA ic li tA tc lt epoch node a2 r.2 r'.1 r'.2 w hI hic hT htc (by rw [change_is r kind txn prev page act key old new_ next li lt epoch node a2 (hN.le (by omega)) ht, hr])
theorem ref_ahead (kind txn prev page act : Int) (key old new_ : ByteArray) (next : Int) (iA : Option Addr) (ic : Nat) (li : List S36) (tA : Option Addr) (tc : Nat) (lt : List S55) (epoch node : Int) (e0 : Int) (hli : li.length ≤ 300) (hz : 7 ≤ kind → kind ≤ 10 → cutE key old new_ = 0) (he : aheadE (⟨kind, txn, prev, page, act, key, old, new_, next, ⟨iA, li.length, ic⟩, ⟨tA, lt.length, tc⟩, epoch, node⟩ : RV) li = e0) (w : World)
    (hI : Kd.C k36 w iA li.length li) (hic : li.length ≤ ic) (hT : Kd.C k55 w tA lt.length lt) (htc : lt.length ≤ tc) :
    Calls Try.prog 23 #[.agg #[.int .i64 kind, .int .i64 txn, .int .i64 prev, .int .i64 page, .int .i64 act, .string key, .string old, .string new_, .int .i64 next, .slice iA li.length ic, .slice tA lt.length tc, .int .i64 epoch, .int .i64 node]] w fun e w' => e = .returned (.int .i64 e0) ∧ Below w.heap.size w w' :=
  gharryref07_ahead.calls 700 kind txn prev page act key old new_ next iA ic li tA tc lt epoch node e0 w hI hic hT htc (by rw [ahead_is kind txn prev page act key old new_ next iA ic li tA tc lt epoch node hli hz, he])
theorem refclean_at (kind txn prev page act : Int) (key old new_ : ByteArray) (next : Int) (iA : Option Addr) (ic : Nat) (li : List S36) (tA : Option Addr) (tc : Nat) (lt : List S55) (epoch node : Int) (r : RV) (hq : cleanR r = (⟨kind, txn, prev, page, act, key, old, new_, next, ⟨iA, li.length, ic⟩, ⟨tA, lt.length, tc⟩, epoch, node⟩ : RV)) (w : World) :
    Calls Try.prog 16 #[.agg r.cs] w fun e w' => e = .returned (.agg #[.int .i64 kind, .int .i64 txn, .int .i64 prev, .int .i64 page, .int .i64 act, .string key, .string old, .string new_, .int .i64 next, .slice iA li.length ic, .slice tA lt.length tc, .int .i64 epoch, .int .i64 node]) ∧ Below w.heap.size w w' := by
  have := refclean_calls r w
  rw [hq] at this
  exact this
theorem NS.list (l : List It) : ∀ (k : Nat) (r : WS), NS (k + l.length) r → (∀ x ∈ l, x.2.1 ≤ 6) → NS k (wrL r l) := by
  induction l with
  | nil => intro k r h _; exact h
  | cons x l ih =>
    intro k r h hx
    rw [wrL_cons]
    exact ih k _ ((h.le (by rw [List.length_cons]; omega) : NS (k + l.length + 1) r).step x (hx x List.mem_cons_self)) (fun y hy => hx y (List.mem_cons_of_mem _ hy))
theorem chg_len (page : Int) (key old new_ : ByteArray) (a : Int) : (chgL page key old new_ a).length ≤ 4 := by unfold chgL; split <;> split <;> simp
theorem chg_w (page : Int) (key old new_ : ByteArray) (a : Int) : ∀ x ∈ chgL page key old new_ a, x.2.1 ≤ 6 := by
  intro x hx
  have h : x ∈ [num_ page 2, text_ key, text_ old, text_ new_] := by
    unfold chgL at hx
    rcases List.mem_append.1 hx with h | h
    · rcases List.mem_append.1 h with h | h
      · simp only [List.mem_cons, List.not_mem_nil, or_false] at h ⊢
        exact h.elim .inl (fun c => .inr (.inl c))
      · split at h
        · exact absurd h (by simp)
        · simp only [List.mem_cons, List.not_mem_nil, or_false] at h ⊢
          exact .inr (.inr (.inl h))
    · split at h
      · exact absurd h (by simp)
      · simp only [List.mem_cons, List.not_mem_nil, or_false] at h ⊢
        exact .inr (.inr (.inr h))
  simp only [List.mem_cons, List.not_mem_nil, or_false] at h
  rcases h with h | h | h | h
  · rw [h]; show (2 : Int) ≤ 6; omega
  · rw [h]; show (0 : Int) ≤ 6; omega
  · rw [h]; show (0 : Int) ≤ 6; omega
  · rw [h]; show (0 : Int) ≤ 6; omega
theorem img_w (l : List S36) : (∀ x ∈ imgL l, x.2.1 ≤ 6) ∧ (imgL l).length = 2 * l.length := by
  induction l with
  | nil => exact ⟨fun x hx => absurd hx (by simp [imgL]), rfl⟩
  | cons y l ih =>
    have e : imgL (y :: l) = num_ y.f0 2 :: text_ y.f1 :: imgL l := rfl
    rw [e]
    refine ⟨fun x hx => ?_, by rw [List.length_cons, List.length_cons, ih.2, List.length_cons]; omega⟩
    rcases List.mem_cons.1 hx with h | h
    · rw [h]; show (2 : Int) ≤ 6; omega
    · rcases List.mem_cons.1 h with h | h
      · rw [h]; show (0 : Int) ≤ 6; omega
      · exact ih.1 x h
theorem tab_w (l : List S55) : (∀ x ∈ tabL l, x.2.1 ≤ 6) ∧ (tabL l).length = 2 * l.length := by
  induction l with
  | nil => exact ⟨fun x hx => absurd hx (by simp [tabL]), rfl⟩
  | cons y l ih =>
    have e : tabL (y :: l) = num_ y.f0 6 :: num_ y.f1 6 :: tabL l := rfl
    rw [e]
    refine ⟨fun x hx => ?_, by rw [List.length_cons, List.length_cons, ih.2, List.length_cons]; omega⟩
    rcases List.mem_cons.1 hx with h | h
    · rw [h]; show (6 : Int) ≤ 6; omega
    · rcases List.mem_cons.1 h with h | h
      · rw [h]; show (6 : Int) ≤ 6; omega
      · exact ih.1 x h
theorem cut_sz {key old new_ : ByteArray} (h : cutE key old new_ = 0) : key.size ≤ 65535 ∧ old.size ≤ 65535 ∧ new_.size ≤ 65535 := by
  unfold cutE at h
  split at h
  · omega
  · split at h
    · omega
    · omega
theorem ahead_sz (q : RV) (li : List S36) (h1 : q.kind ≠ 1) (h2 : q.kind ≠ 2) (h6 : q.kind ≤ 6) : aheadE q li ≠ 0 ∨ (q.key.size ≤ 65535 ∧ q.old.size ≤ 65535 ∧ q.new.size ≤ 65535) := by
  by_cases h : aheadE q li = 0
  · right
    unfold aheadE at h
    rw [if_neg (by omega)] at h
    split at h
    · omega
    · split at h
      · exact cut_sz h
      · split at h <;> omega
  · exact .inl h
theorem ahead_img (q : RV) (li : List S36) (h : q.kind = 1 ∨ q.kind = 2) : aheadE q li ≠ 0 ∨ ∀ x ∈ li, x.f1.size = 224 := by
  by_cases e : aheadE q li = 0
  · right
    unfold aheadE at e
    rw [if_pos h] at e
    split at e
    · omega
    · split at e
      · assumption
      · omega
  · exact .inl e
theorem wrL_err (r : WS) (l : List It) (h : r.2 ≠ 0) : (wrL r l).2 ≠ 0 := by rw [wrL_off r l h]; exact h
/-- What the document's Body answers: the errors ahead stay, the items are laid. -/
theorem body_meets (q : RV) (li : List S36) (lt : List S55) (r : WS) (hr : r = wrL (⟨#[]⟩, aheadE q li) (recL q li lt)) (hn : r.2 ≠ 0 → r.1 = ⟨#[]⟩) :
    bodyP q li lt = if r.2 = 0 ∧ 4096 < r.1.size then (⟨#[]⟩, 3) else r := by
  unfold bodyP
  by_cases h : aheadE q li = 0
  · rw [if_neg (fun c => c h)]
    rw [h] at hr
    rw [← hr]
    by_cases h2 : r.2 = 0
    · rw [if_neg (fun c => c h2)]
      by_cases h3 : 4096 < r.1.size
      · rw [if_pos h3, if_pos ⟨h2, h3⟩]
      · rw [if_neg h3, if_neg (fun c => h3 c.2)]
    · rw [if_pos h2, if_neg (fun c => h2 c.1), ← hn h2]
  · rw [if_pos h]
    have e : r = (⟨#[]⟩, aheadE q li) := hr.trans (wrL_off _ _ h)
    rw [if_neg (fun c => h (by rw [e] at c; exact c.1)), e]

set_option maxHeartbeats 8000000 in
set_option maxRecDepth 10000 in
theorem refbody_walk (kind txn prev page act : Int) (key old new_ : ByteArray) (next : Int) (iA : Option Addr) (ic : Nat) (li : List S36) (tA : Option Addr) (tc : Nat) (lt : List S55) (epoch node : Int) (r : RV) (hq : cleanR r = (⟨kind, txn, prev, page, act, key, old, new_, next, ⟨iA, li.length, ic⟩, ⟨tA, lt.length, tc⟩, epoch, node⟩ : RV)) (w : World) (hli : li.length ≤ 300) (hlt : lt.length ≤ 300) (hic : li.length ≤ ic) (htc : lt.length ≤ tc) (hI : Kd.C k36 w iA li.length li) (hT : Kd.C k55 w tA lt.length lt)
    (hz : 7 ≤ kind → kind ≤ 10 → cutE key old new_ = 0) :
    Calls Try.prog 11 #[.agg r.cs] w fun e' w' => e' = .returned (.tuple #[.string (bodyP (⟨kind, txn, prev, page, act, key, old, new_, next, ⟨iA, li.length, ic⟩, ⟨tA, lt.length, tc⟩, epoch, node⟩ : RV) li lt).1, .int .i64 (bodyP (⟨kind, txn, prev, page, act, key, old, new_, next, ⟨iA, li.length, ic⟩, ⟨tA, lt.length, tc⟩, epoch, node⟩ : RV) li lt).2]) ∧ Below w.heap.size w w' := by
  have hu25 := Try.underlying25
  have hu22 := Try.underlying22
  have hu23 := Try.underlying23
  have hu36 := Try.underlying36
  have hu55 := Try.underlying55
  have HI := Lib.hid hI
  have HT := Lib.hid hT
  have HQ := Lib.hid hq
  have HZ := Lib.hid hz
  have HXR := Lib.hid (heap_alloc_new w (.cells r.cs 25))
  obtain ⟨e0, he0⟩ : ∃ e0, aheadE (⟨kind, txn, prev, page, act, key, old, new_, next, ⟨iA, li.length, ic⟩, ⟨tA, lt.length, tc⟩, epoch, node⟩ : RV) li = e0 := ⟨_, rfl⟩
  have HE00 := Lib.hid he0
  obtain ⟨R0, hR0⟩ : ∃ Q : WS, Q = (⟨#[]⟩, e0) := ⟨_, rfl⟩
  have HN0 := Lib.hid (show NS 990 R0 from hR0 ▸ ⟨fun _ => rfl, by show (0 : Nat) + _ ≤ _; omega⟩)
  have HE0 := Lib.hid (show e0 ≠ 0 → R0.2 ≠ 0 from fun c => hR0 ▸ c)
  have hR01 : R0.1 = ⟨#[]⟩ := by rw [hR0]
  have hR02 : R0.2 = e0 := by rw [hR0]
  have HR00 := Lib.hid hR0
  obtain ⟨R1, hR1⟩ : ∃ Q, wrS R0 (num_ (kind) 1) = Q := ⟨_, rfl⟩
  have HN1 := Lib.hid (show NS 989 R1 from hR1 ▸ (HN0.out.le (Nat.le_refl _)).step (num_ (kind) 1) (by show (1 : Int) ≤ 6; omega))
  have HE1 := Lib.hid (show e0 ≠ 0 → R1.2 ≠ 0 from fun c => hR1 ▸ wrS_err _ _ (HE0.out c))
  have HR1 := Lib.hid hR1
  clear hR1
  have hput0 : ∀ w, Calls Try.prog 24 #[.string ⟨#[]⟩, .int .i64 kind, .int .i64 1, .int .i64 e0] w fun e w' => e = .returned (.tuple #[.string R1.1, .int .i64 R1.2]) ∧ Below w.heap.size w w' := fun w => by
    have := ref_put R0 R1 HN0.out kind 1 (by omega) (by omega) HR1.out w
    rw [hR01, hR02] at this
    exact this
  have HP0 := Lib.hid hput0
  clear hI hT hq hz he0 hR0 hR01 hR02 hput0
  go_enter Try.func11, Try.ntmps11
  go_upto_block 0 with (first
    | (refine wpList_load_row rfl 25 _ rfl w.heap.size rfl 25 _ (0, 0) _ HXR.out Try.underlying25 rfl (hinfo25 _) ?_)
    | (go_at_call 16; (with_reducible refine (refclean_at kind txn prev page act key old new_ next iA ic li tA tc lt epoch node r HQ.out _).mono ?_); rintro e' w1 ⟨rfl, hB1⟩; have HX1 := Lib.hid (heap_alloc_new w1 (.cells #[.int .i64 kind, .int .i64 txn, .int .i64 prev, .int .i64 page, .int .i64 act, .string key, .string old, .string new_, .int .i64 next, .slice iA li.length ic, .slice tA lt.length tc, .int .i64 epoch, .int .i64 node] 25)); have HB1 := Lib.hid (below_alloc (below_step (below_alloc (Below.refl _ _) _) hB1) (.cells #[.int .i64 kind, .int .i64 txn, .int .i64 prev, .int .i64 page, .int .i64 act, .string key, .string old, .string new_, .int .i64 next, .slice iA li.length ic, .slice tA lt.length tc, .int .i64 epoch, .int .i64 node] 25)); clear hB1)
    | (go_at_call 23; (with_reducible refine (ref_ahead kind txn prev page act key old new_ next iA ic li tA tc lt epoch node e0 hli HZ.out HE00.out _ (Kd.C_below HI.out HB1.out) hic (Kd.C_below HT.out HB1.out) htc).mono ?_); rintro e' w2 ⟨rfl, hB2⟩; have x2 := blk_below HX1.out hB2; have HX2 := Lib.hid x2; have HB2 := Lib.hid (below_step HB1.out hB2); have x2c0 : w2.cell? ⟨w1.heap.size, 0, none⟩ = some (.int .i64 kind) := (blk_cell x2 0).trans rfl; clear x2 hB2)
    | (go_at_call 24; (with_reducible refine (HP0.out _).mono ?_); rintro e' w3 ⟨rfl, hB3⟩; have x3 := blk_below HX2.out hB3; have HX3 := Lib.hid x3; have HB3 := Lib.hid (below_step HB2.out hB3); have x3c0 : w3.cell? ⟨w1.heap.size, 0, none⟩ = some (.int .i64 kind) := (blk_cell x3 0).trans rfl; have x3c1 : w3.cell? ⟨w1.heap.size, 1, none⟩ = some (.int .i64 txn) := (blk_cell x3 1).trans rfl; have x3c2 : w3.cell? ⟨w1.heap.size, 2, none⟩ = some (.int .i64 prev) := (blk_cell x3 2).trans rfl; have x3c3 : w3.cell? ⟨w1.heap.size, 3, none⟩ = some (.int .i64 page) := (blk_cell x3 3).trans rfl; have x3c4 : w3.cell? ⟨w1.heap.size, 4, none⟩ = some (.int .i64 act) := (blk_cell x3 4).trans rfl; have x3c5 : w3.cell? ⟨w1.heap.size, 5, none⟩ = some (.string key) := (blk_cell x3 5).trans rfl; have x3c6 : w3.cell? ⟨w1.heap.size, 6, none⟩ = some (.string old) := (blk_cell x3 6).trans rfl; have x3c7 : w3.cell? ⟨w1.heap.size, 7, none⟩ = some (.string new_) := (blk_cell x3 7).trans rfl; have x3c8 : w3.cell? ⟨w1.heap.size, 8, none⟩ = some (.int .i64 next) := (blk_cell x3 8).trans rfl; have x3c9 : w3.cell? ⟨w1.heap.size, 9, none⟩ = some (.slice iA li.length ic) := (blk_cell x3 9).trans rfl; have x3c10 : w3.cell? ⟨w1.heap.size, 10, none⟩ = some (.slice tA lt.length tc) := (blk_cell x3 10).trans rfl; have x3c11 : w3.cell? ⟨w1.heap.size, 11, none⟩ = some (.int .i64 epoch) := (blk_cell x3 11).trans rfl; have x3c12 : w3.cell? ⟨w1.heap.size, 12, none⟩ = some (.int .i64 node) := (blk_cell x3 12).trans rfl; clear x3 hB3))
  go_cut [5, 6] (fun v5 v6 wc => ∃ r' : WS, v5 = .int .i64 r'.2 ∧ v6 = .string r'.1 ∧ r' = wrL (⟨#[]⟩, e0) (recL (⟨kind, txn, prev, page, act, key, old, new_, next, ⟨iA, li.length, ic⟩, ⟨tA, lt.length, tc⟩, epoch, node⟩ : RV) li lt) ∧ (r'.2 ≠ 0 → r'.1 = ⟨#[]⟩) ∧ Below w.heap.size w wc)
  case first =>
    by_cases k1 : kind = 1
    · subst k1
      have x3c0 : w3.cell? ⟨w1.heap.size, 0, none⟩ = some (.int .i64 1) := (blk_cell HX3.out 0).trans rfl; have x3c1 : w3.cell? ⟨w1.heap.size, 1, none⟩ = some (.int .i64 txn) := (blk_cell HX3.out 1).trans rfl; have x3c2 : w3.cell? ⟨w1.heap.size, 2, none⟩ = some (.int .i64 prev) := (blk_cell HX3.out 2).trans rfl; have x3c3 : w3.cell? ⟨w1.heap.size, 3, none⟩ = some (.int .i64 page) := (blk_cell HX3.out 3).trans rfl; have x3c4 : w3.cell? ⟨w1.heap.size, 4, none⟩ = some (.int .i64 act) := (blk_cell HX3.out 4).trans rfl; have x3c5 : w3.cell? ⟨w1.heap.size, 5, none⟩ = some (.string key) := (blk_cell HX3.out 5).trans rfl; have x3c6 : w3.cell? ⟨w1.heap.size, 6, none⟩ = some (.string old) := (blk_cell HX3.out 6).trans rfl; have x3c7 : w3.cell? ⟨w1.heap.size, 7, none⟩ = some (.string new_) := (blk_cell HX3.out 7).trans rfl; have x3c8 : w3.cell? ⟨w1.heap.size, 8, none⟩ = some (.int .i64 next) := (blk_cell HX3.out 8).trans rfl; have x3c9 : w3.cell? ⟨w1.heap.size, 9, none⟩ = some (.slice iA li.length ic) := (blk_cell HX3.out 9).trans rfl; have x3c10 : w3.cell? ⟨w1.heap.size, 10, none⟩ = some (.slice tA lt.length tc) := (blk_cell HX3.out 10).trans rfl; have x3c11 : w3.cell? ⟨w1.heap.size, 11, none⟩ = some (.int .i64 epoch) := (blk_cell HX3.out 11).trans rfl; have x3c12 : w3.cell? ⟨w1.heap.size, 12, none⟩ = some (.int .i64 node) := (blk_cell HX3.out 12).trans rfl; 
      obtain ⟨R2, hR2⟩ : ∃ Q, wrS R1 (num_ ((li.length : Int)) 1) = Q := ⟨_, rfl⟩
      have HN2 := Lib.hid (show NS 988 R2 from hR2 ▸ (HN1.out.le (Nat.le_refl _)).step (num_ ((li.length : Int)) 1) (by show (1 : Int) ≤ 6; omega))
      have HE2 := Lib.hid (show e0 ≠ 0 → R2.2 ≠ 0 from fun c => hR2 ▸ wrS_err _ _ (HE1.out c))
      have HR2 := Lib.hid hR2
      clear hR2
      have HSZ := Lib.hid (show e0 ≠ 0 ∨ ∀ x ∈ li, x.f1.size = 224 from (ahead_img (⟨1, txn, prev, page, act, key, old, new_, next, ⟨iA, li.length, ic⟩, ⟨tA, lt.length, tc⟩, epoch, node⟩ : RV) li (by simp)).imp_left (fun c => by rw [← HE00.out]; exact c))
      go_wp2_with (first
        | (go_at_call 24; (with_reducible refine (ref_put R1 R2 HN1.out (li.length : Int) 1 (by omega) (by omega) HR2.out _).mono ?_); rintro e' w4 ⟨rfl, hB4⟩; have x4 := blk_below HX3.out hB4; have HX4 := Lib.hid x4; have HB4 := Lib.hid (below_step HB3.out hB4); have x4c0 : w4.cell? ⟨w1.heap.size, 0, none⟩ = some (.int .i64 1) := (blk_cell x4 0).trans rfl; have x4c1 : w4.cell? ⟨w1.heap.size, 1, none⟩ = some (.int .i64 txn) := (blk_cell x4 1).trans rfl; have x4c2 : w4.cell? ⟨w1.heap.size, 2, none⟩ = some (.int .i64 prev) := (blk_cell x4 2).trans rfl; have x4c3 : w4.cell? ⟨w1.heap.size, 3, none⟩ = some (.int .i64 page) := (blk_cell x4 3).trans rfl; have x4c4 : w4.cell? ⟨w1.heap.size, 4, none⟩ = some (.int .i64 act) := (blk_cell x4 4).trans rfl; have x4c5 : w4.cell? ⟨w1.heap.size, 5, none⟩ = some (.string key) := (blk_cell x4 5).trans rfl; have x4c6 : w4.cell? ⟨w1.heap.size, 6, none⟩ = some (.string old) := (blk_cell x4 6).trans rfl; have x4c7 : w4.cell? ⟨w1.heap.size, 7, none⟩ = some (.string new_) := (blk_cell x4 7).trans rfl; have x4c8 : w4.cell? ⟨w1.heap.size, 8, none⟩ = some (.int .i64 next) := (blk_cell x4 8).trans rfl; have x4c9 : w4.cell? ⟨w1.heap.size, 9, none⟩ = some (.slice iA li.length ic) := (blk_cell x4 9).trans rfl; have x4c10 : w4.cell? ⟨w1.heap.size, 10, none⟩ = some (.slice tA lt.length tc) := (blk_cell x4 10).trans rfl; have x4c11 : w4.cell? ⟨w1.heap.size, 11, none⟩ = some (.int .i64 epoch) := (blk_cell x4 11).trans rfl; have x4c12 : w4.cell? ⟨w1.heap.size, 12, none⟩ = some (.int .i64 node) := (blk_cell x4 12).trans rfl; clear x4 hB4))
      go_loopw [5, 6, 7] (fun v5 v6 v7 wr => ∃ (j : Nat) (Q : WS), j ≤ li.length ∧ v7 = .int .i64 j ∧ v5 = .int .i64 Q.2 ∧ v6 = .string Q.1 ∧ Q = wrL R2 (imgL (li.take j)) ∧ wr.heap[w1.heap.size]? = some (.cells #[.int .i64 1, .int .i64 txn, .int .i64 prev, .int .i64 page, .int .i64 act, .string key, .string old, .string new_, .int .i64 next, .slice iA li.length ic, .slice tA lt.length tc, .int .i64 epoch, .int .i64 node] 25 (0, 0)) ∧ Below w.heap.size w wr) (fun _ _ i _ => li.length - (intOf i).toNat)
      case atStart => exact ⟨0, R2, Nat.zero_le _, rfl, rfl, rfl, rfl, HX4.out, HB4.out⟩
      case round =>
        obtain ⟨j, Q, hj, rfl, rfl, rfl, hQ, hX, hB⟩ := hrel
        clear HX3 HB3 HX4 HB4
        have hXc9 : wr.cell? ⟨w1.heap.size, 9, none⟩ = some (.slice iA li.length ic) := (blk_cell hX 9).trans rfl; have hXc10 : wr.cell? ⟨w1.heap.size, 10, none⟩ = some (.slice tA lt.length tc) := (blk_cell hX 10).trans rfl; 
        have HX10 := Lib.hid hX
        have HB10 := Lib.hid hB
        have HNQ := Lib.hid (show NS (985 - 2 * j) Q from hQ ▸ NS.list _ _ _ (HN2.out.le (by rw [(img_w _).2, List.length_take]; omega)) (img_w _).1)
        have HEQ := Lib.hid (show e0 ≠ 0 → Q.2 ≠ 0 from fun c => hQ ▸ wrL_err _ _ (HE2.out c))
        have HQ2 := Lib.hid hQ
        clear hX hB hQ
        by_cases hlt1 : j < li.length
        · have d1 : decide ((j : Int) < (li.length : Int)) = true := by simp; omega
          have d2 : decide (j < li.length) = true := by simpa using hlt1
          obtain ⟨ad, rfl, hc0, hc1⟩ := at_T36 (Kd.C_below HI.out HB10.out) (j : Int) (by omega) (by omega)
          rw [rd36_get li j hlt1] at hc0 hc1
          rw [Int.toNat_natCast] at hc0 hc1
          have hsn := imgL_snoc li j hlt1
          have HJ := Lib.hid (show j + 1 ≤ li.length from hlt1)
          have hmem : li[j] ∈ li := List.getElem_mem hlt1
          have HM := Lib.hid hmem
          generalize li[j] = X at *
          obtain ⟨N, M⟩ := X
          simp only at hc0 hc1 hsn
          obtain ⟨Q1, hQ1⟩ : ∃ Y, wrS Q (num_ N 2) = Y := ⟨_, rfl⟩
          obtain ⟨Q2, hQ2⟩ : ∃ Y, wrS Q1 (text_ M) = Y := ⟨_, rfl⟩
          have HNQ1 := Lib.hid (show NS (984 - 2 * j) Q1 from hQ1 ▸ (HNQ.out.le (by omega) : NS (984 - 2 * j + 1) Q).step (num_ N 2) (by show (2 : Int) ≤ 6; omega))
          have HEQ1 := Lib.hid (show e0 ≠ 0 → Q1.2 ≠ 0 from fun c => hQ1 ▸ wrS_err _ _ (HEQ.out c))
          have HQ1 := Lib.hid hQ1
          have HQ22 := Lib.hid hQ2
          have HS := Lib.hid hsn
          have HC1 := Lib.hid hc1
          clear hQ1 hQ2 hsn hmem hlt1 hj
          go_wp2_with (first
            | (go_at_call 25; (with_reducible refine (ref_text (k := 983 - 2 * j) Q1 Q2 (HNQ1.out.le (by have := HJ.out; omega)) M (HSZ.out.elim (fun c => .inl (HEQ1.out c)) (fun c => .inr (by have := c _ HM.out; simp only at this; omega))) HQ22.out _).mono ?_); rintro e' w12 ⟨rfl, hB12⟩; have x12 := blk_below HX11.out hB12; have HX12 := Lib.hid x12; have HB12 := Lib.hid (below_step HB11.out hB12); clear x12 hB12)
            | (go_at_call 24; (with_reducible refine (ref_put (k := 984 - 2 * j) Q Q1 (HNQ.out.le (by have := HJ.out; omega)) N 2 (by omega) (by omega) HQ1.out _).mono ?_); rintro e' w11 ⟨rfl, hB11⟩; have hd1 := cell_below hB11 HC1.out; have x11 := blk_below HX10.out hB11; have HX11 := Lib.hid x11; have HB11 := Lib.hid (below_step HB10.out hB11); have x11c9 : w11.cell? ⟨w1.heap.size, 9, none⟩ = some (.slice (some ad) li.length ic) := (blk_cell x11 9).trans rfl; have x11c10 : w11.cell? ⟨w1.heap.size, 10, none⟩ = some (.slice tA lt.length tc) := (blk_cell x11 10).trans rfl; clear x11 hB11))
          go_roundw
          case rel =>
            refine ⟨j + 1, Q2, HJ.out, by first | rfl | (simp; done) | go_num, rfl, rfl, ?_, HX12.out, HB12.out⟩
            rw [HS.out, wrL_app, ← HQ2.out, ← HQ22.out, ← HQ1.out]
            rfl
          case measure => have := HJ.out; simp [intOf]; omega
        · obtain rfl : j = li.length := by omega
          have d1 : decide ((li.length : Int) < (li.length : Int)) = false := by simp
          go_wp2
          go_meet
          case rel =>
            refine ⟨Q, rfl, rfl, ?_, HNQ.out.nil, HB10.out⟩
            rw [HQ2.out, List.take_length, ← HR2.out, ← HR1.out, HR00.out]
            simp [recL, wrL]
    · by_cases k2 : kind = 2
      · subst k2
        have x3c0 : w3.cell? ⟨w1.heap.size, 0, none⟩ = some (.int .i64 2) := (blk_cell HX3.out 0).trans rfl; have x3c1 : w3.cell? ⟨w1.heap.size, 1, none⟩ = some (.int .i64 txn) := (blk_cell HX3.out 1).trans rfl; have x3c2 : w3.cell? ⟨w1.heap.size, 2, none⟩ = some (.int .i64 prev) := (blk_cell HX3.out 2).trans rfl; have x3c3 : w3.cell? ⟨w1.heap.size, 3, none⟩ = some (.int .i64 page) := (blk_cell HX3.out 3).trans rfl; have x3c4 : w3.cell? ⟨w1.heap.size, 4, none⟩ = some (.int .i64 act) := (blk_cell HX3.out 4).trans rfl; have x3c5 : w3.cell? ⟨w1.heap.size, 5, none⟩ = some (.string key) := (blk_cell HX3.out 5).trans rfl; have x3c6 : w3.cell? ⟨w1.heap.size, 6, none⟩ = some (.string old) := (blk_cell HX3.out 6).trans rfl; have x3c7 : w3.cell? ⟨w1.heap.size, 7, none⟩ = some (.string new_) := (blk_cell HX3.out 7).trans rfl; have x3c8 : w3.cell? ⟨w1.heap.size, 8, none⟩ = some (.int .i64 next) := (blk_cell HX3.out 8).trans rfl; have x3c9 : w3.cell? ⟨w1.heap.size, 9, none⟩ = some (.slice iA li.length ic) := (blk_cell HX3.out 9).trans rfl; have x3c10 : w3.cell? ⟨w1.heap.size, 10, none⟩ = some (.slice tA lt.length tc) := (blk_cell HX3.out 10).trans rfl; have x3c11 : w3.cell? ⟨w1.heap.size, 11, none⟩ = some (.int .i64 epoch) := (blk_cell HX3.out 11).trans rfl; have x3c12 : w3.cell? ⟨w1.heap.size, 12, none⟩ = some (.int .i64 node) := (blk_cell HX3.out 12).trans rfl; 
        obtain ⟨R2, hR2⟩ : ∃ Q, wrS R1 (num_ ((li.length : Int)) 1) = Q := ⟨_, rfl⟩
        have HN2 := Lib.hid (show NS 988 R2 from hR2 ▸ (HN1.out.le (Nat.le_refl _)).step (num_ ((li.length : Int)) 1) (by show (1 : Int) ≤ 6; omega))
        have HE2 := Lib.hid (show e0 ≠ 0 → R2.2 ≠ 0 from fun c => hR2 ▸ wrS_err _ _ (HE1.out c))
        have HR2 := Lib.hid hR2
        clear hR2
        have HSZ := Lib.hid (show e0 ≠ 0 ∨ ∀ x ∈ li, x.f1.size = 224 from (ahead_img (⟨2, txn, prev, page, act, key, old, new_, next, ⟨iA, li.length, ic⟩, ⟨tA, lt.length, tc⟩, epoch, node⟩ : RV) li (by simp)).imp_left (fun c => by rw [← HE00.out]; exact c))
        go_wp2_with (first
          | (go_at_call 24; (with_reducible refine (ref_put R1 R2 HN1.out (li.length : Int) 1 (by omega) (by omega) HR2.out _).mono ?_); rintro e' w4 ⟨rfl, hB4⟩; have x4 := blk_below HX3.out hB4; have HX4 := Lib.hid x4; have HB4 := Lib.hid (below_step HB3.out hB4); have x4c0 : w4.cell? ⟨w1.heap.size, 0, none⟩ = some (.int .i64 2) := (blk_cell x4 0).trans rfl; have x4c1 : w4.cell? ⟨w1.heap.size, 1, none⟩ = some (.int .i64 txn) := (blk_cell x4 1).trans rfl; have x4c2 : w4.cell? ⟨w1.heap.size, 2, none⟩ = some (.int .i64 prev) := (blk_cell x4 2).trans rfl; have x4c3 : w4.cell? ⟨w1.heap.size, 3, none⟩ = some (.int .i64 page) := (blk_cell x4 3).trans rfl; have x4c4 : w4.cell? ⟨w1.heap.size, 4, none⟩ = some (.int .i64 act) := (blk_cell x4 4).trans rfl; have x4c5 : w4.cell? ⟨w1.heap.size, 5, none⟩ = some (.string key) := (blk_cell x4 5).trans rfl; have x4c6 : w4.cell? ⟨w1.heap.size, 6, none⟩ = some (.string old) := (blk_cell x4 6).trans rfl; have x4c7 : w4.cell? ⟨w1.heap.size, 7, none⟩ = some (.string new_) := (blk_cell x4 7).trans rfl; have x4c8 : w4.cell? ⟨w1.heap.size, 8, none⟩ = some (.int .i64 next) := (blk_cell x4 8).trans rfl; have x4c9 : w4.cell? ⟨w1.heap.size, 9, none⟩ = some (.slice iA li.length ic) := (blk_cell x4 9).trans rfl; have x4c10 : w4.cell? ⟨w1.heap.size, 10, none⟩ = some (.slice tA lt.length tc) := (blk_cell x4 10).trans rfl; have x4c11 : w4.cell? ⟨w1.heap.size, 11, none⟩ = some (.int .i64 epoch) := (blk_cell x4 11).trans rfl; have x4c12 : w4.cell? ⟨w1.heap.size, 12, none⟩ = some (.int .i64 node) := (blk_cell x4 12).trans rfl; clear x4 hB4))
        go_loopw [5, 6, 7] (fun v5 v6 v7 wr => ∃ (j : Nat) (Q : WS), j ≤ li.length ∧ v7 = .int .i64 j ∧ v5 = .int .i64 Q.2 ∧ v6 = .string Q.1 ∧ Q = wrL R2 (imgL (li.take j)) ∧ wr.heap[w1.heap.size]? = some (.cells #[.int .i64 2, .int .i64 txn, .int .i64 prev, .int .i64 page, .int .i64 act, .string key, .string old, .string new_, .int .i64 next, .slice iA li.length ic, .slice tA lt.length tc, .int .i64 epoch, .int .i64 node] 25 (0, 0)) ∧ Below w.heap.size w wr) (fun _ _ i _ => li.length - (intOf i).toNat)
        case atStart => exact ⟨0, R2, Nat.zero_le _, rfl, rfl, rfl, rfl, HX4.out, HB4.out⟩
        case round =>
          obtain ⟨j, Q, hj, rfl, rfl, rfl, hQ, hX, hB⟩ := hrel
          clear HX3 HB3 HX4 HB4
          have hXc9 : wr.cell? ⟨w1.heap.size, 9, none⟩ = some (.slice iA li.length ic) := (blk_cell hX 9).trans rfl; have hXc10 : wr.cell? ⟨w1.heap.size, 10, none⟩ = some (.slice tA lt.length tc) := (blk_cell hX 10).trans rfl; 
          have HX10 := Lib.hid hX
          have HB10 := Lib.hid hB
          have HNQ := Lib.hid (show NS (985 - 2 * j) Q from hQ ▸ NS.list _ _ _ (HN2.out.le (by rw [(img_w _).2, List.length_take]; omega)) (img_w _).1)
          have HEQ := Lib.hid (show e0 ≠ 0 → Q.2 ≠ 0 from fun c => hQ ▸ wrL_err _ _ (HE2.out c))
          have HQ2 := Lib.hid hQ
          clear hX hB hQ
          by_cases hlt1 : j < li.length
          · have d1 : decide ((j : Int) < (li.length : Int)) = true := by simp; omega
            have d2 : decide (j < li.length) = true := by simpa using hlt1
            obtain ⟨ad, rfl, hc0, hc1⟩ := at_T36 (Kd.C_below HI.out HB10.out) (j : Int) (by omega) (by omega)
            rw [rd36_get li j hlt1] at hc0 hc1
            rw [Int.toNat_natCast] at hc0 hc1
            have hsn := imgL_snoc li j hlt1
            have HJ := Lib.hid (show j + 1 ≤ li.length from hlt1)
            have hmem : li[j] ∈ li := List.getElem_mem hlt1
            have HM := Lib.hid hmem
            generalize li[j] = X at *
            obtain ⟨N, M⟩ := X
            simp only at hc0 hc1 hsn
            obtain ⟨Q1, hQ1⟩ : ∃ Y, wrS Q (num_ N 2) = Y := ⟨_, rfl⟩
            obtain ⟨Q2, hQ2⟩ : ∃ Y, wrS Q1 (text_ M) = Y := ⟨_, rfl⟩
            have HNQ1 := Lib.hid (show NS (984 - 2 * j) Q1 from hQ1 ▸ (HNQ.out.le (by omega) : NS (984 - 2 * j + 1) Q).step (num_ N 2) (by show (2 : Int) ≤ 6; omega))
            have HEQ1 := Lib.hid (show e0 ≠ 0 → Q1.2 ≠ 0 from fun c => hQ1 ▸ wrS_err _ _ (HEQ.out c))
            have HQ1 := Lib.hid hQ1
            have HQ22 := Lib.hid hQ2
            have HS := Lib.hid hsn
            have HC1 := Lib.hid hc1
            clear hQ1 hQ2 hsn hmem hlt1 hj
            go_wp2_with (first
              | (go_at_call 25; (with_reducible refine (ref_text (k := 983 - 2 * j) Q1 Q2 (HNQ1.out.le (by have := HJ.out; omega)) M (HSZ.out.elim (fun c => .inl (HEQ1.out c)) (fun c => .inr (by have := c _ HM.out; simp only at this; omega))) HQ22.out _).mono ?_); rintro e' w12 ⟨rfl, hB12⟩; have x12 := blk_below HX11.out hB12; have HX12 := Lib.hid x12; have HB12 := Lib.hid (below_step HB11.out hB12); clear x12 hB12)
              | (go_at_call 24; (with_reducible refine (ref_put (k := 984 - 2 * j) Q Q1 (HNQ.out.le (by have := HJ.out; omega)) N 2 (by omega) (by omega) HQ1.out _).mono ?_); rintro e' w11 ⟨rfl, hB11⟩; have hd1 := cell_below hB11 HC1.out; have x11 := blk_below HX10.out hB11; have HX11 := Lib.hid x11; have HB11 := Lib.hid (below_step HB10.out hB11); have x11c9 : w11.cell? ⟨w1.heap.size, 9, none⟩ = some (.slice (some ad) li.length ic) := (blk_cell x11 9).trans rfl; have x11c10 : w11.cell? ⟨w1.heap.size, 10, none⟩ = some (.slice tA lt.length tc) := (blk_cell x11 10).trans rfl; clear x11 hB11))
            go_roundw
            case rel =>
              refine ⟨j + 1, Q2, HJ.out, by first | rfl | (simp; done) | go_num, rfl, rfl, ?_, HX12.out, HB12.out⟩
              rw [HS.out, wrL_app, ← HQ2.out, ← HQ22.out, ← HQ1.out]
              rfl
            case measure => have := HJ.out; simp [intOf]; omega
          · obtain rfl : j = li.length := by omega
            have d1 : decide ((li.length : Int) < (li.length : Int)) = false := by simp
            go_wp2
            go_meet
            case rel =>
              refine ⟨Q, rfl, rfl, ?_, HNQ.out.nil, HB10.out⟩
              rw [HQ2.out, List.take_length, ← HR2.out, ← HR1.out, HR00.out]
              simp [recL, wrL]
      · by_cases k9 : kind = 9
        · subst k9
          have x3c0 : w3.cell? ⟨w1.heap.size, 0, none⟩ = some (.int .i64 9) := (blk_cell HX3.out 0).trans rfl; have x3c1 : w3.cell? ⟨w1.heap.size, 1, none⟩ = some (.int .i64 txn) := (blk_cell HX3.out 1).trans rfl; have x3c2 : w3.cell? ⟨w1.heap.size, 2, none⟩ = some (.int .i64 prev) := (blk_cell HX3.out 2).trans rfl; have x3c3 : w3.cell? ⟨w1.heap.size, 3, none⟩ = some (.int .i64 page) := (blk_cell HX3.out 3).trans rfl; have x3c4 : w3.cell? ⟨w1.heap.size, 4, none⟩ = some (.int .i64 act) := (blk_cell HX3.out 4).trans rfl; have x3c5 : w3.cell? ⟨w1.heap.size, 5, none⟩ = some (.string key) := (blk_cell HX3.out 5).trans rfl; have x3c6 : w3.cell? ⟨w1.heap.size, 6, none⟩ = some (.string old) := (blk_cell HX3.out 6).trans rfl; have x3c7 : w3.cell? ⟨w1.heap.size, 7, none⟩ = some (.string new_) := (blk_cell HX3.out 7).trans rfl; have x3c8 : w3.cell? ⟨w1.heap.size, 8, none⟩ = some (.int .i64 next) := (blk_cell HX3.out 8).trans rfl; have x3c9 : w3.cell? ⟨w1.heap.size, 9, none⟩ = some (.slice iA li.length ic) := (blk_cell HX3.out 9).trans rfl; have x3c10 : w3.cell? ⟨w1.heap.size, 10, none⟩ = some (.slice tA lt.length tc) := (blk_cell HX3.out 10).trans rfl; have x3c11 : w3.cell? ⟨w1.heap.size, 11, none⟩ = some (.int .i64 epoch) := (blk_cell HX3.out 11).trans rfl; have x3c12 : w3.cell? ⟨w1.heap.size, 12, none⟩ = some (.int .i64 node) := (blk_cell HX3.out 12).trans rfl; 
          obtain ⟨R2, hR2⟩ : ∃ Q, wrS R1 (num_ ((lt.length : Int)) 1) = Q := ⟨_, rfl⟩
          have HN2 := Lib.hid (show NS 988 R2 from hR2 ▸ (HN1.out.le (Nat.le_refl _)).step (num_ ((lt.length : Int)) 1) (by show (1 : Int) ≤ 6; omega))
          have HE2 := Lib.hid (show e0 ≠ 0 → R2.2 ≠ 0 from fun c => hR2 ▸ wrS_err _ _ (HE1.out c))
          have HR2 := Lib.hid hR2
          clear hR2
          have HSZ := Lib.hid (show True from trivial)
          go_wp2_with (first
            | (go_at_call 24; (with_reducible refine (ref_put R1 R2 HN1.out (lt.length : Int) 1 (by omega) (by omega) HR2.out _).mono ?_); rintro e' w4 ⟨rfl, hB4⟩; have x4 := blk_below HX3.out hB4; have HX4 := Lib.hid x4; have HB4 := Lib.hid (below_step HB3.out hB4); have x4c0 : w4.cell? ⟨w1.heap.size, 0, none⟩ = some (.int .i64 9) := (blk_cell x4 0).trans rfl; have x4c1 : w4.cell? ⟨w1.heap.size, 1, none⟩ = some (.int .i64 txn) := (blk_cell x4 1).trans rfl; have x4c2 : w4.cell? ⟨w1.heap.size, 2, none⟩ = some (.int .i64 prev) := (blk_cell x4 2).trans rfl; have x4c3 : w4.cell? ⟨w1.heap.size, 3, none⟩ = some (.int .i64 page) := (blk_cell x4 3).trans rfl; have x4c4 : w4.cell? ⟨w1.heap.size, 4, none⟩ = some (.int .i64 act) := (blk_cell x4 4).trans rfl; have x4c5 : w4.cell? ⟨w1.heap.size, 5, none⟩ = some (.string key) := (blk_cell x4 5).trans rfl; have x4c6 : w4.cell? ⟨w1.heap.size, 6, none⟩ = some (.string old) := (blk_cell x4 6).trans rfl; have x4c7 : w4.cell? ⟨w1.heap.size, 7, none⟩ = some (.string new_) := (blk_cell x4 7).trans rfl; have x4c8 : w4.cell? ⟨w1.heap.size, 8, none⟩ = some (.int .i64 next) := (blk_cell x4 8).trans rfl; have x4c9 : w4.cell? ⟨w1.heap.size, 9, none⟩ = some (.slice iA li.length ic) := (blk_cell x4 9).trans rfl; have x4c10 : w4.cell? ⟨w1.heap.size, 10, none⟩ = some (.slice tA lt.length tc) := (blk_cell x4 10).trans rfl; have x4c11 : w4.cell? ⟨w1.heap.size, 11, none⟩ = some (.int .i64 epoch) := (blk_cell x4 11).trans rfl; have x4c12 : w4.cell? ⟨w1.heap.size, 12, none⟩ = some (.int .i64 node) := (blk_cell x4 12).trans rfl; clear x4 hB4))
          go_loopw [5, 6, 8] (fun v5 v6 v7 wr => ∃ (j : Nat) (Q : WS), j ≤ lt.length ∧ v7 = .int .i64 j ∧ v5 = .int .i64 Q.2 ∧ v6 = .string Q.1 ∧ Q = wrL R2 (tabL (lt.take j)) ∧ wr.heap[w1.heap.size]? = some (.cells #[.int .i64 9, .int .i64 txn, .int .i64 prev, .int .i64 page, .int .i64 act, .string key, .string old, .string new_, .int .i64 next, .slice iA li.length ic, .slice tA lt.length tc, .int .i64 epoch, .int .i64 node] 25 (0, 0)) ∧ Below w.heap.size w wr) (fun _ _ i _ => lt.length - (intOf i).toNat)
          case atStart => exact ⟨0, R2, Nat.zero_le _, rfl, rfl, rfl, rfl, HX4.out, HB4.out⟩
          case round =>
            obtain ⟨j, Q, hj, rfl, rfl, rfl, hQ, hX, hB⟩ := hrel
            clear HX3 HB3 HX4 HB4
            have hXc9 : wr.cell? ⟨w1.heap.size, 9, none⟩ = some (.slice iA li.length ic) := (blk_cell hX 9).trans rfl; have hXc10 : wr.cell? ⟨w1.heap.size, 10, none⟩ = some (.slice tA lt.length tc) := (blk_cell hX 10).trans rfl; 
            have HX10 := Lib.hid hX
            have HB10 := Lib.hid hB
            have HNQ := Lib.hid (show NS (985 - 2 * j) Q from hQ ▸ NS.list _ _ _ (HN2.out.le (by rw [(tab_w _).2, List.length_take]; omega)) (tab_w _).1)
            have HEQ := Lib.hid (show e0 ≠ 0 → Q.2 ≠ 0 from fun c => hQ ▸ wrL_err _ _ (HE2.out c))
            have HQ2 := Lib.hid hQ
            clear hX hB hQ
            by_cases hlt1 : j < lt.length
            · have d1 : decide ((j : Int) < (lt.length : Int)) = true := by simp; omega
              have d2 : decide (j < lt.length) = true := by simpa using hlt1
              obtain ⟨ad, rfl, hc0, hc1⟩ := at_T55 (Kd.C_below HT.out HB10.out) (j : Int) (by omega) (by omega)
              rw [rd55_get lt j hlt1] at hc0 hc1
              rw [Int.toNat_natCast] at hc0 hc1
              have hsn := tabL_snoc lt j hlt1
              have HJ := Lib.hid (show j + 1 ≤ lt.length from hlt1)
              have hmem : lt[j] ∈ lt := List.getElem_mem hlt1
              have HM := Lib.hid hmem
              generalize lt[j] = X at *
              obtain ⟨N, M⟩ := X
              simp only at hc0 hc1 hsn
              obtain ⟨Q1, hQ1⟩ : ∃ Y, wrS Q (num_ N 6) = Y := ⟨_, rfl⟩
              obtain ⟨Q2, hQ2⟩ : ∃ Y, wrS Q1 (num_ M 6) = Y := ⟨_, rfl⟩
              have HNQ1 := Lib.hid (show NS (984 - 2 * j) Q1 from hQ1 ▸ (HNQ.out.le (by omega) : NS (984 - 2 * j + 1) Q).step (num_ N 6) (by show (6 : Int) ≤ 6; omega))
              have HEQ1 := Lib.hid (show e0 ≠ 0 → Q1.2 ≠ 0 from fun c => hQ1 ▸ wrS_err _ _ (HEQ.out c))
              have HQ1 := Lib.hid hQ1
              have HQ22 := Lib.hid hQ2
              have HS := Lib.hid hsn
              have HC1 := Lib.hid hc1
              clear hQ1 hQ2 hsn hmem hlt1 hj
              go_wp2_with (first
                | (go_at_call 24; (with_reducible refine (ref_put (k := 983 - 2 * j) Q1 Q2 (HNQ1.out.le (by have := HJ.out; omega)) M 6 (by omega) (by omega) HQ22.out _).mono ?_); rintro e' w12 ⟨rfl, hB12⟩; have x12 := blk_below HX11.out hB12; have HX12 := Lib.hid x12; have HB12 := Lib.hid (below_step HB11.out hB12); clear x12 hB12)
                | (go_at_call 24; (with_reducible refine (ref_put (k := 984 - 2 * j) Q Q1 (HNQ.out.le (by have := HJ.out; omega)) N 6 (by omega) (by omega) HQ1.out _).mono ?_); rintro e' w11 ⟨rfl, hB11⟩; have hd1 := cell_below hB11 HC1.out; have x11 := blk_below HX10.out hB11; have HX11 := Lib.hid x11; have HB11 := Lib.hid (below_step HB10.out hB11); have x11c9 : w11.cell? ⟨w1.heap.size, 9, none⟩ = some (.slice iA li.length ic) := (blk_cell x11 9).trans rfl; have x11c10 : w11.cell? ⟨w1.heap.size, 10, none⟩ = some (.slice (some ad) lt.length tc) := (blk_cell x11 10).trans rfl; clear x11 hB11))
              go_roundw
              case rel =>
                refine ⟨j + 1, Q2, HJ.out, by first | rfl | (simp; done) | go_num, rfl, rfl, ?_, HX12.out, HB12.out⟩
                rw [HS.out, wrL_app, ← HQ2.out, ← HQ22.out, ← HQ1.out]
                rfl
              case measure => have := HJ.out; simp [intOf]; omega
            · obtain rfl : j = lt.length := by omega
              have d1 : decide ((lt.length : Int) < (lt.length : Int)) = false := by simp
              go_wp2
              go_meet
              case rel =>
                refine ⟨Q, rfl, rfl, ?_, HNQ.out.nil, HB10.out⟩
                rw [HQ2.out, List.take_length, ← HR2.out, ← HR1.out, HR00.out]
                simp [recL, wrL]
        · by_cases k10 : kind = 10
          · subst k10
            obtain ⟨R2, hR2⟩ : ∃ Q, wrS R1 (num_ (epoch) 4) = Q := ⟨_, rfl⟩
            have HN2 := Lib.hid (show NS 988 R2 from hR2 ▸ (HN1.out.le (Nat.le_refl _)).step (num_ (epoch) 4) (by show (4 : Int) ≤ 6; omega))
            have HE2 := Lib.hid (show e0 ≠ 0 → R2.2 ≠ 0 from fun c => hR2 ▸ wrS_err _ _ (HE1.out c))
            have HR2 := Lib.hid hR2
            clear hR2
            obtain ⟨R3, hR3⟩ : ∃ Q, wrS R2 (num_ (node) 1) = Q := ⟨_, rfl⟩
            have HN3 := Lib.hid (show NS 987 R3 from hR3 ▸ (HN2.out.le (Nat.le_refl _)).step (num_ (node) 1) (by show (1 : Int) ≤ 6; omega))
            have HE3 := Lib.hid (show e0 ≠ 0 → R3.2 ≠ 0 from fun c => hR3 ▸ wrS_err _ _ (HE2.out c))
            have HR3 := Lib.hid hR3
            clear hR3
            have x3c0 : w3.cell? ⟨w1.heap.size, 0, none⟩ = some (.int .i64 10) := (blk_cell HX3.out 0).trans rfl; have x3c1 : w3.cell? ⟨w1.heap.size, 1, none⟩ = some (.int .i64 txn) := (blk_cell HX3.out 1).trans rfl; have x3c2 : w3.cell? ⟨w1.heap.size, 2, none⟩ = some (.int .i64 prev) := (blk_cell HX3.out 2).trans rfl; have x3c3 : w3.cell? ⟨w1.heap.size, 3, none⟩ = some (.int .i64 page) := (blk_cell HX3.out 3).trans rfl; have x3c4 : w3.cell? ⟨w1.heap.size, 4, none⟩ = some (.int .i64 act) := (blk_cell HX3.out 4).trans rfl; have x3c5 : w3.cell? ⟨w1.heap.size, 5, none⟩ = some (.string key) := (blk_cell HX3.out 5).trans rfl; have x3c6 : w3.cell? ⟨w1.heap.size, 6, none⟩ = some (.string old) := (blk_cell HX3.out 6).trans rfl; have x3c7 : w3.cell? ⟨w1.heap.size, 7, none⟩ = some (.string new_) := (blk_cell HX3.out 7).trans rfl; have x3c8 : w3.cell? ⟨w1.heap.size, 8, none⟩ = some (.int .i64 next) := (blk_cell HX3.out 8).trans rfl; have x3c9 : w3.cell? ⟨w1.heap.size, 9, none⟩ = some (.slice iA li.length ic) := (blk_cell HX3.out 9).trans rfl; have x3c10 : w3.cell? ⟨w1.heap.size, 10, none⟩ = some (.slice tA lt.length tc) := (blk_cell HX3.out 10).trans rfl; have x3c11 : w3.cell? ⟨w1.heap.size, 11, none⟩ = some (.int .i64 epoch) := (blk_cell HX3.out 11).trans rfl; have x3c12 : w3.cell? ⟨w1.heap.size, 12, none⟩ = some (.int .i64 node) := (blk_cell HX3.out 12).trans rfl; 
            go_wp2_with (first
              | (go_at_call 24; (with_reducible refine (ref_put R2 R3 HN2.out node 1 (by omega) (by omega) HR3.out _).mono ?_); rintro e' w5 ⟨rfl, hB5⟩; have x5 := blk_below HX4.out hB5; have HX5 := Lib.hid x5; have HB5 := Lib.hid (below_step HB4.out hB5); have x5c0 : w5.cell? ⟨w1.heap.size, 0, none⟩ = some (.int .i64 10) := (blk_cell x5 0).trans rfl; have x5c1 : w5.cell? ⟨w1.heap.size, 1, none⟩ = some (.int .i64 txn) := (blk_cell x5 1).trans rfl; have x5c2 : w5.cell? ⟨w1.heap.size, 2, none⟩ = some (.int .i64 prev) := (blk_cell x5 2).trans rfl; have x5c3 : w5.cell? ⟨w1.heap.size, 3, none⟩ = some (.int .i64 page) := (blk_cell x5 3).trans rfl; have x5c4 : w5.cell? ⟨w1.heap.size, 4, none⟩ = some (.int .i64 act) := (blk_cell x5 4).trans rfl; have x5c5 : w5.cell? ⟨w1.heap.size, 5, none⟩ = some (.string key) := (blk_cell x5 5).trans rfl; have x5c6 : w5.cell? ⟨w1.heap.size, 6, none⟩ = some (.string old) := (blk_cell x5 6).trans rfl; have x5c7 : w5.cell? ⟨w1.heap.size, 7, none⟩ = some (.string new_) := (blk_cell x5 7).trans rfl; have x5c8 : w5.cell? ⟨w1.heap.size, 8, none⟩ = some (.int .i64 next) := (blk_cell x5 8).trans rfl; have x5c9 : w5.cell? ⟨w1.heap.size, 9, none⟩ = some (.slice iA li.length ic) := (blk_cell x5 9).trans rfl; have x5c10 : w5.cell? ⟨w1.heap.size, 10, none⟩ = some (.slice tA lt.length tc) := (blk_cell x5 10).trans rfl; have x5c11 : w5.cell? ⟨w1.heap.size, 11, none⟩ = some (.int .i64 epoch) := (blk_cell x5 11).trans rfl; have x5c12 : w5.cell? ⟨w1.heap.size, 12, none⟩ = some (.int .i64 node) := (blk_cell x5 12).trans rfl; clear x5 hB5)
              | (go_at_call 24; (with_reducible refine (ref_put R1 R2 HN1.out epoch 4 (by omega) (by omega) HR2.out _).mono ?_); rintro e' w4 ⟨rfl, hB4⟩; have x4 := blk_below HX3.out hB4; have HX4 := Lib.hid x4; have HB4 := Lib.hid (below_step HB3.out hB4); have x4c0 : w4.cell? ⟨w1.heap.size, 0, none⟩ = some (.int .i64 10) := (blk_cell x4 0).trans rfl; have x4c1 : w4.cell? ⟨w1.heap.size, 1, none⟩ = some (.int .i64 txn) := (blk_cell x4 1).trans rfl; have x4c2 : w4.cell? ⟨w1.heap.size, 2, none⟩ = some (.int .i64 prev) := (blk_cell x4 2).trans rfl; have x4c3 : w4.cell? ⟨w1.heap.size, 3, none⟩ = some (.int .i64 page) := (blk_cell x4 3).trans rfl; have x4c4 : w4.cell? ⟨w1.heap.size, 4, none⟩ = some (.int .i64 act) := (blk_cell x4 4).trans rfl; have x4c5 : w4.cell? ⟨w1.heap.size, 5, none⟩ = some (.string key) := (blk_cell x4 5).trans rfl; have x4c6 : w4.cell? ⟨w1.heap.size, 6, none⟩ = some (.string old) := (blk_cell x4 6).trans rfl; have x4c7 : w4.cell? ⟨w1.heap.size, 7, none⟩ = some (.string new_) := (blk_cell x4 7).trans rfl; have x4c8 : w4.cell? ⟨w1.heap.size, 8, none⟩ = some (.int .i64 next) := (blk_cell x4 8).trans rfl; have x4c9 : w4.cell? ⟨w1.heap.size, 9, none⟩ = some (.slice iA li.length ic) := (blk_cell x4 9).trans rfl; have x4c10 : w4.cell? ⟨w1.heap.size, 10, none⟩ = some (.slice tA lt.length tc) := (blk_cell x4 10).trans rfl; have x4c11 : w4.cell? ⟨w1.heap.size, 11, none⟩ = some (.int .i64 epoch) := (blk_cell x4 11).trans rfl; have x4c12 : w4.cell? ⟨w1.heap.size, 12, none⟩ = some (.int .i64 node) := (blk_cell x4 12).trans rfl; clear x4 hB4))
            go_meet
            case rel =>
              refine ⟨R3, rfl, rfl, ?_, HN3.out.nil, HB5.out⟩
              rw [← HR3.out, ← HR2.out, ← HR1.out, HR00.out]
              simp [recL, wrL]
          · by_cases k6 : kind = 6
            · subst k6
              obtain ⟨R2, hR2⟩ : ∃ Q, wrS R1 (num_ (txn) 6) = Q := ⟨_, rfl⟩
              have HN2 := Lib.hid (show NS 988 R2 from hR2 ▸ (HN1.out.le (Nat.le_refl _)).step (num_ (txn) 6) (by show (6 : Int) ≤ 6; omega))
              have HE2 := Lib.hid (show e0 ≠ 0 → R2.2 ≠ 0 from fun c => hR2 ▸ wrS_err _ _ (HE1.out c))
              have HR2 := Lib.hid hR2
              clear hR2
              obtain ⟨R3, hR3⟩ : ∃ Q, wrS R2 (num_ (prev) 6) = Q := ⟨_, rfl⟩
              have HN3 := Lib.hid (show NS 987 R3 from hR3 ▸ (HN2.out.le (Nat.le_refl _)).step (num_ (prev) 6) (by show (6 : Int) ≤ 6; omega))
              have HE3 := Lib.hid (show e0 ≠ 0 → R3.2 ≠ 0 from fun c => hR3 ▸ wrS_err _ _ (HE2.out c))
              have HR3 := Lib.hid hR3
              clear hR3
              obtain ⟨R4, hR4⟩ : ∃ Q, wrS R3 (num_ (next) 6) = Q := ⟨_, rfl⟩
              have HN4 := Lib.hid (show NS 986 R4 from hR4 ▸ (HN3.out.le (Nat.le_refl _)).step (num_ (next) 6) (by show (6 : Int) ≤ 6; omega))
              have HE4 := Lib.hid (show e0 ≠ 0 → R4.2 ≠ 0 from fun c => hR4 ▸ wrS_err _ _ (HE3.out c))
              have HR4 := Lib.hid hR4
              clear hR4
              obtain ⟨R5, hR5⟩ : ∃ Q, wrS R4 (num_ (act) 1) = Q := ⟨_, rfl⟩
              have HN5 := Lib.hid (show NS 985 R5 from hR5 ▸ (HN4.out.le (Nat.le_refl _)).step (num_ (act) 1) (by show (1 : Int) ≤ 6; omega))
              have HE5 := Lib.hid (show e0 ≠ 0 → R5.2 ≠ 0 from fun c => hR5 ▸ wrS_err _ _ (HE4.out c))
              have HR5 := Lib.hid hR5
              clear hR5
              obtain ⟨R6, hR6⟩ : ∃ Q, wrL R5 (chgL page key old new_ act) = Q := ⟨_, rfl⟩
              have HN6 := Lib.hid (show NS 900 R6 from hR6 ▸ NS.list _ 900 _ (HN5.out.le (by have := chg_len page key old new_ act; omega)) (chg_w page key old new_ act))
              have HR6 := Lib.hid hR6
              clear hR6
              have HC := Lib.hid (show R5.2 ≠ 0 ∨ (key.size ≤ 65535 ∧ old.size ≤ 65535 ∧ new_.size ≤ 65535) from (ahead_sz (⟨6, txn, prev, page, act, key, old, new_, next, ⟨iA, li.length, ic⟩, ⟨tA, lt.length, tc⟩, epoch, node⟩ : RV) li (by show (6 : Int) ≠ 1; omega) (by show (6 : Int) ≠ 2; omega) (by show (6 : Int) ≤ 6; omega)).imp_left (fun c => HE5.out (by rw [← HE00.out]; exact c)))
              have x3c0 : w3.cell? ⟨w1.heap.size, 0, none⟩ = some (.int .i64 6) := (blk_cell HX3.out 0).trans rfl; have x3c1 : w3.cell? ⟨w1.heap.size, 1, none⟩ = some (.int .i64 txn) := (blk_cell HX3.out 1).trans rfl; have x3c2 : w3.cell? ⟨w1.heap.size, 2, none⟩ = some (.int .i64 prev) := (blk_cell HX3.out 2).trans rfl; have x3c3 : w3.cell? ⟨w1.heap.size, 3, none⟩ = some (.int .i64 page) := (blk_cell HX3.out 3).trans rfl; have x3c4 : w3.cell? ⟨w1.heap.size, 4, none⟩ = some (.int .i64 act) := (blk_cell HX3.out 4).trans rfl; have x3c5 : w3.cell? ⟨w1.heap.size, 5, none⟩ = some (.string key) := (blk_cell HX3.out 5).trans rfl; have x3c6 : w3.cell? ⟨w1.heap.size, 6, none⟩ = some (.string old) := (blk_cell HX3.out 6).trans rfl; have x3c7 : w3.cell? ⟨w1.heap.size, 7, none⟩ = some (.string new_) := (blk_cell HX3.out 7).trans rfl; have x3c8 : w3.cell? ⟨w1.heap.size, 8, none⟩ = some (.int .i64 next) := (blk_cell HX3.out 8).trans rfl; have x3c9 : w3.cell? ⟨w1.heap.size, 9, none⟩ = some (.slice iA li.length ic) := (blk_cell HX3.out 9).trans rfl; have x3c10 : w3.cell? ⟨w1.heap.size, 10, none⟩ = some (.slice tA lt.length tc) := (blk_cell HX3.out 10).trans rfl; have x3c11 : w3.cell? ⟨w1.heap.size, 11, none⟩ = some (.int .i64 epoch) := (blk_cell HX3.out 11).trans rfl; have x3c12 : w3.cell? ⟨w1.heap.size, 12, none⟩ = some (.int .i64 node) := (blk_cell HX3.out 12).trans rfl; 
              go_wp2_with (first
                | (go_at_call 26; (with_reducible refine (ref_change 6 txn prev page act key old new_ next iA ic li tA tc lt epoch node act (k := 900) R5 R6 (HN5.out.le (by omega)) HC.out HR6.out _ (Kd.C_below HI.out HB7.out) hic (Kd.C_below HT.out HB7.out) htc).mono ?_); rintro e' w8 ⟨rfl, hB8⟩; have x8 := blk_below HX7.out hB8; have HX8 := Lib.hid x8; have HB8 := Lib.hid (below_step HB7.out hB8); clear x8 hB8)
                | (go_at_call 24; (with_reducible refine (ref_put R4 R5 HN4.out act 1 (by omega) (by omega) HR5.out _).mono ?_); rintro e' w7 ⟨rfl, hB7⟩; have x7 := blk_below HX6.out hB7; have HX7 := Lib.hid x7; have HB7 := Lib.hid (below_step HB6.out hB7); have x7c0 : w7.cell? ⟨w1.heap.size, 0, none⟩ = some (.int .i64 6) := (blk_cell x7 0).trans rfl; have x7c1 : w7.cell? ⟨w1.heap.size, 1, none⟩ = some (.int .i64 txn) := (blk_cell x7 1).trans rfl; have x7c2 : w7.cell? ⟨w1.heap.size, 2, none⟩ = some (.int .i64 prev) := (blk_cell x7 2).trans rfl; have x7c3 : w7.cell? ⟨w1.heap.size, 3, none⟩ = some (.int .i64 page) := (blk_cell x7 3).trans rfl; have x7c4 : w7.cell? ⟨w1.heap.size, 4, none⟩ = some (.int .i64 act) := (blk_cell x7 4).trans rfl; have x7c5 : w7.cell? ⟨w1.heap.size, 5, none⟩ = some (.string key) := (blk_cell x7 5).trans rfl; have x7c6 : w7.cell? ⟨w1.heap.size, 6, none⟩ = some (.string old) := (blk_cell x7 6).trans rfl; have x7c7 : w7.cell? ⟨w1.heap.size, 7, none⟩ = some (.string new_) := (blk_cell x7 7).trans rfl; have x7c8 : w7.cell? ⟨w1.heap.size, 8, none⟩ = some (.int .i64 next) := (blk_cell x7 8).trans rfl; have x7c9 : w7.cell? ⟨w1.heap.size, 9, none⟩ = some (.slice iA li.length ic) := (blk_cell x7 9).trans rfl; have x7c10 : w7.cell? ⟨w1.heap.size, 10, none⟩ = some (.slice tA lt.length tc) := (blk_cell x7 10).trans rfl; have x7c11 : w7.cell? ⟨w1.heap.size, 11, none⟩ = some (.int .i64 epoch) := (blk_cell x7 11).trans rfl; have x7c12 : w7.cell? ⟨w1.heap.size, 12, none⟩ = some (.int .i64 node) := (blk_cell x7 12).trans rfl; clear x7 hB7)
                | (go_at_call 24; (with_reducible refine (ref_put R3 R4 HN3.out next 6 (by omega) (by omega) HR4.out _).mono ?_); rintro e' w6 ⟨rfl, hB6⟩; have x6 := blk_below HX5.out hB6; have HX6 := Lib.hid x6; have HB6 := Lib.hid (below_step HB5.out hB6); have x6c0 : w6.cell? ⟨w1.heap.size, 0, none⟩ = some (.int .i64 6) := (blk_cell x6 0).trans rfl; have x6c1 : w6.cell? ⟨w1.heap.size, 1, none⟩ = some (.int .i64 txn) := (blk_cell x6 1).trans rfl; have x6c2 : w6.cell? ⟨w1.heap.size, 2, none⟩ = some (.int .i64 prev) := (blk_cell x6 2).trans rfl; have x6c3 : w6.cell? ⟨w1.heap.size, 3, none⟩ = some (.int .i64 page) := (blk_cell x6 3).trans rfl; have x6c4 : w6.cell? ⟨w1.heap.size, 4, none⟩ = some (.int .i64 act) := (blk_cell x6 4).trans rfl; have x6c5 : w6.cell? ⟨w1.heap.size, 5, none⟩ = some (.string key) := (blk_cell x6 5).trans rfl; have x6c6 : w6.cell? ⟨w1.heap.size, 6, none⟩ = some (.string old) := (blk_cell x6 6).trans rfl; have x6c7 : w6.cell? ⟨w1.heap.size, 7, none⟩ = some (.string new_) := (blk_cell x6 7).trans rfl; have x6c8 : w6.cell? ⟨w1.heap.size, 8, none⟩ = some (.int .i64 next) := (blk_cell x6 8).trans rfl; have x6c9 : w6.cell? ⟨w1.heap.size, 9, none⟩ = some (.slice iA li.length ic) := (blk_cell x6 9).trans rfl; have x6c10 : w6.cell? ⟨w1.heap.size, 10, none⟩ = some (.slice tA lt.length tc) := (blk_cell x6 10).trans rfl; have x6c11 : w6.cell? ⟨w1.heap.size, 11, none⟩ = some (.int .i64 epoch) := (blk_cell x6 11).trans rfl; have x6c12 : w6.cell? ⟨w1.heap.size, 12, none⟩ = some (.int .i64 node) := (blk_cell x6 12).trans rfl; clear x6 hB6)
                | (go_at_call 24; (with_reducible refine (ref_put R2 R3 HN2.out prev 6 (by omega) (by omega) HR3.out _).mono ?_); rintro e' w5 ⟨rfl, hB5⟩; have x5 := blk_below HX4.out hB5; have HX5 := Lib.hid x5; have HB5 := Lib.hid (below_step HB4.out hB5); have x5c0 : w5.cell? ⟨w1.heap.size, 0, none⟩ = some (.int .i64 6) := (blk_cell x5 0).trans rfl; have x5c1 : w5.cell? ⟨w1.heap.size, 1, none⟩ = some (.int .i64 txn) := (blk_cell x5 1).trans rfl; have x5c2 : w5.cell? ⟨w1.heap.size, 2, none⟩ = some (.int .i64 prev) := (blk_cell x5 2).trans rfl; have x5c3 : w5.cell? ⟨w1.heap.size, 3, none⟩ = some (.int .i64 page) := (blk_cell x5 3).trans rfl; have x5c4 : w5.cell? ⟨w1.heap.size, 4, none⟩ = some (.int .i64 act) := (blk_cell x5 4).trans rfl; have x5c5 : w5.cell? ⟨w1.heap.size, 5, none⟩ = some (.string key) := (blk_cell x5 5).trans rfl; have x5c6 : w5.cell? ⟨w1.heap.size, 6, none⟩ = some (.string old) := (blk_cell x5 6).trans rfl; have x5c7 : w5.cell? ⟨w1.heap.size, 7, none⟩ = some (.string new_) := (blk_cell x5 7).trans rfl; have x5c8 : w5.cell? ⟨w1.heap.size, 8, none⟩ = some (.int .i64 next) := (blk_cell x5 8).trans rfl; have x5c9 : w5.cell? ⟨w1.heap.size, 9, none⟩ = some (.slice iA li.length ic) := (blk_cell x5 9).trans rfl; have x5c10 : w5.cell? ⟨w1.heap.size, 10, none⟩ = some (.slice tA lt.length tc) := (blk_cell x5 10).trans rfl; have x5c11 : w5.cell? ⟨w1.heap.size, 11, none⟩ = some (.int .i64 epoch) := (blk_cell x5 11).trans rfl; have x5c12 : w5.cell? ⟨w1.heap.size, 12, none⟩ = some (.int .i64 node) := (blk_cell x5 12).trans rfl; clear x5 hB5)
                | (go_at_call 24; (with_reducible refine (ref_put R1 R2 HN1.out txn 6 (by omega) (by omega) HR2.out _).mono ?_); rintro e' w4 ⟨rfl, hB4⟩; have x4 := blk_below HX3.out hB4; have HX4 := Lib.hid x4; have HB4 := Lib.hid (below_step HB3.out hB4); have x4c0 : w4.cell? ⟨w1.heap.size, 0, none⟩ = some (.int .i64 6) := (blk_cell x4 0).trans rfl; have x4c1 : w4.cell? ⟨w1.heap.size, 1, none⟩ = some (.int .i64 txn) := (blk_cell x4 1).trans rfl; have x4c2 : w4.cell? ⟨w1.heap.size, 2, none⟩ = some (.int .i64 prev) := (blk_cell x4 2).trans rfl; have x4c3 : w4.cell? ⟨w1.heap.size, 3, none⟩ = some (.int .i64 page) := (blk_cell x4 3).trans rfl; have x4c4 : w4.cell? ⟨w1.heap.size, 4, none⟩ = some (.int .i64 act) := (blk_cell x4 4).trans rfl; have x4c5 : w4.cell? ⟨w1.heap.size, 5, none⟩ = some (.string key) := (blk_cell x4 5).trans rfl; have x4c6 : w4.cell? ⟨w1.heap.size, 6, none⟩ = some (.string old) := (blk_cell x4 6).trans rfl; have x4c7 : w4.cell? ⟨w1.heap.size, 7, none⟩ = some (.string new_) := (blk_cell x4 7).trans rfl; have x4c8 : w4.cell? ⟨w1.heap.size, 8, none⟩ = some (.int .i64 next) := (blk_cell x4 8).trans rfl; have x4c9 : w4.cell? ⟨w1.heap.size, 9, none⟩ = some (.slice iA li.length ic) := (blk_cell x4 9).trans rfl; have x4c10 : w4.cell? ⟨w1.heap.size, 10, none⟩ = some (.slice tA lt.length tc) := (blk_cell x4 10).trans rfl; have x4c11 : w4.cell? ⟨w1.heap.size, 11, none⟩ = some (.int .i64 epoch) := (blk_cell x4 11).trans rfl; have x4c12 : w4.cell? ⟨w1.heap.size, 12, none⟩ = some (.int .i64 node) := (blk_cell x4 12).trans rfl; clear x4 hB4))
              go_meet
              case rel =>
                refine ⟨R6, rfl, rfl, ?_, HN6.out.nil, HB8.out⟩
                rw [← HR6.out, ← HR5.out, ← HR4.out, ← HR3.out, ← HR2.out, ← HR1.out, HR00.out]
                simp [recL, wrL]
            · have d1 : (kind == 1) = false := by simpa using k1
              have d2 : (kind == 2) = false := by simpa using k2
              have d6 : (kind == 6) = false := by simpa using k6
              have d9 : (kind == 9) = false := by simpa using k9
              have d10 : (kind == 10) = false := by simpa using k10
              have x3c0 : w3.cell? ⟨w1.heap.size, 0, none⟩ = some (.int .i64 kind) := (blk_cell HX3.out 0).trans rfl; have x3c1 : w3.cell? ⟨w1.heap.size, 1, none⟩ = some (.int .i64 txn) := (blk_cell HX3.out 1).trans rfl; have x3c2 : w3.cell? ⟨w1.heap.size, 2, none⟩ = some (.int .i64 prev) := (blk_cell HX3.out 2).trans rfl; have x3c3 : w3.cell? ⟨w1.heap.size, 3, none⟩ = some (.int .i64 page) := (blk_cell HX3.out 3).trans rfl; have x3c4 : w3.cell? ⟨w1.heap.size, 4, none⟩ = some (.int .i64 act) := (blk_cell HX3.out 4).trans rfl; have x3c5 : w3.cell? ⟨w1.heap.size, 5, none⟩ = some (.string key) := (blk_cell HX3.out 5).trans rfl; have x3c6 : w3.cell? ⟨w1.heap.size, 6, none⟩ = some (.string old) := (blk_cell HX3.out 6).trans rfl; have x3c7 : w3.cell? ⟨w1.heap.size, 7, none⟩ = some (.string new_) := (blk_cell HX3.out 7).trans rfl; have x3c8 : w3.cell? ⟨w1.heap.size, 8, none⟩ = some (.int .i64 next) := (blk_cell HX3.out 8).trans rfl; have x3c9 : w3.cell? ⟨w1.heap.size, 9, none⟩ = some (.slice iA li.length ic) := (blk_cell HX3.out 9).trans rfl; have x3c10 : w3.cell? ⟨w1.heap.size, 10, none⟩ = some (.slice tA lt.length tc) := (blk_cell HX3.out 10).trans rfl; have x3c11 : w3.cell? ⟨w1.heap.size, 11, none⟩ = some (.int .i64 epoch) := (blk_cell HX3.out 11).trans rfl; have x3c12 : w3.cell? ⟨w1.heap.size, 12, none⟩ = some (.int .i64 node) := (blk_cell HX3.out 12).trans rfl; 
              by_cases kl : kind < 6
              · obtain ⟨R2, hR2⟩ : ∃ Q, wrS R1 (num_ (txn) 6) = Q := ⟨_, rfl⟩
                have HN2 := Lib.hid (show NS 988 R2 from hR2 ▸ (HN1.out.le (Nat.le_refl _)).step (num_ (txn) 6) (by show (6 : Int) ≤ 6; omega))
                have HE2 := Lib.hid (show e0 ≠ 0 → R2.2 ≠ 0 from fun c => hR2 ▸ wrS_err _ _ (HE1.out c))
                have HR2 := Lib.hid hR2
                clear hR2
                obtain ⟨R3, hR3⟩ : ∃ Q, wrS R2 (num_ (prev) 6) = Q := ⟨_, rfl⟩
                have HN3 := Lib.hid (show NS 987 R3 from hR3 ▸ (HN2.out.le (Nat.le_refl _)).step (num_ (prev) 6) (by show (6 : Int) ≤ 6; omega))
                have HE3 := Lib.hid (show e0 ≠ 0 → R3.2 ≠ 0 from fun c => hR3 ▸ wrS_err _ _ (HE2.out c))
                have HR3 := Lib.hid hR3
                clear hR3
                obtain ⟨R4, hR4⟩ : ∃ Q, wrL R3 (chgL page key old new_ kind) = Q := ⟨_, rfl⟩
                have HN4 := Lib.hid (show NS 900 R4 from hR4 ▸ NS.list _ 900 _ (HN3.out.le (by have := chg_len page key old new_ kind; omega)) (chg_w page key old new_ kind))
                have HR4 := Lib.hid hR4
                clear hR4
                have dl : decide (kind < 6) = true := by simpa using kl
                have K_ := Lib.hid (And.intro k1 (And.intro k2 (And.intro k6 (And.intro k9 (And.intro k10 kl)))))
                have HC := Lib.hid (show R3.2 ≠ 0 ∨ (key.size ≤ 65535 ∧ old.size ≤ 65535 ∧ new_.size ≤ 65535) from (ahead_sz (⟨kind, txn, prev, page, act, key, old, new_, next, ⟨iA, li.length, ic⟩, ⟨tA, lt.length, tc⟩, epoch, node⟩ : RV) li k1 k2 (by show kind ≤ 6; omega)).imp_left (fun c => HE3.out (by rw [← HE00.out]; exact c)))
                clear k1 k2 k6 k9 k10 kl
                go_wp2_with (first
                  | (go_at_call 26; (with_reducible refine (ref_change kind txn prev page act key old new_ next iA ic li tA tc lt epoch node kind (k := 900) R3 R4 (HN3.out.le (by omega)) HC.out HR4.out _ (Kd.C_below HI.out HB5.out) hic (Kd.C_below HT.out HB5.out) htc).mono ?_); rintro e' w6 ⟨rfl, hB6⟩; have x6 := blk_below HX5.out hB6; have HX6 := Lib.hid x6; have HB6 := Lib.hid (below_step HB5.out hB6); clear x6 hB6)
                  | (go_at_call 24; (with_reducible refine (ref_put R2 R3 HN2.out prev 6 (by omega) (by omega) HR3.out _).mono ?_); rintro e' w5 ⟨rfl, hB5⟩; have x5 := blk_below HX4.out hB5; have HX5 := Lib.hid x5; have HB5 := Lib.hid (below_step HB4.out hB5); have x5c0 : w5.cell? ⟨w1.heap.size, 0, none⟩ = some (.int .i64 kind) := (blk_cell x5 0).trans rfl; have x5c1 : w5.cell? ⟨w1.heap.size, 1, none⟩ = some (.int .i64 txn) := (blk_cell x5 1).trans rfl; have x5c2 : w5.cell? ⟨w1.heap.size, 2, none⟩ = some (.int .i64 prev) := (blk_cell x5 2).trans rfl; have x5c3 : w5.cell? ⟨w1.heap.size, 3, none⟩ = some (.int .i64 page) := (blk_cell x5 3).trans rfl; have x5c4 : w5.cell? ⟨w1.heap.size, 4, none⟩ = some (.int .i64 act) := (blk_cell x5 4).trans rfl; have x5c5 : w5.cell? ⟨w1.heap.size, 5, none⟩ = some (.string key) := (blk_cell x5 5).trans rfl; have x5c6 : w5.cell? ⟨w1.heap.size, 6, none⟩ = some (.string old) := (blk_cell x5 6).trans rfl; have x5c7 : w5.cell? ⟨w1.heap.size, 7, none⟩ = some (.string new_) := (blk_cell x5 7).trans rfl; have x5c8 : w5.cell? ⟨w1.heap.size, 8, none⟩ = some (.int .i64 next) := (blk_cell x5 8).trans rfl; have x5c9 : w5.cell? ⟨w1.heap.size, 9, none⟩ = some (.slice iA li.length ic) := (blk_cell x5 9).trans rfl; have x5c10 : w5.cell? ⟨w1.heap.size, 10, none⟩ = some (.slice tA lt.length tc) := (blk_cell x5 10).trans rfl; have x5c11 : w5.cell? ⟨w1.heap.size, 11, none⟩ = some (.int .i64 epoch) := (blk_cell x5 11).trans rfl; have x5c12 : w5.cell? ⟨w1.heap.size, 12, none⟩ = some (.int .i64 node) := (blk_cell x5 12).trans rfl; clear x5 hB5)
                  | (go_at_call 24; (with_reducible refine (ref_put R1 R2 HN1.out txn 6 (by omega) (by omega) HR2.out _).mono ?_); rintro e' w4 ⟨rfl, hB4⟩; have x4 := blk_below HX3.out hB4; have HX4 := Lib.hid x4; have HB4 := Lib.hid (below_step HB3.out hB4); have x4c0 : w4.cell? ⟨w1.heap.size, 0, none⟩ = some (.int .i64 kind) := (blk_cell x4 0).trans rfl; have x4c1 : w4.cell? ⟨w1.heap.size, 1, none⟩ = some (.int .i64 txn) := (blk_cell x4 1).trans rfl; have x4c2 : w4.cell? ⟨w1.heap.size, 2, none⟩ = some (.int .i64 prev) := (blk_cell x4 2).trans rfl; have x4c3 : w4.cell? ⟨w1.heap.size, 3, none⟩ = some (.int .i64 page) := (blk_cell x4 3).trans rfl; have x4c4 : w4.cell? ⟨w1.heap.size, 4, none⟩ = some (.int .i64 act) := (blk_cell x4 4).trans rfl; have x4c5 : w4.cell? ⟨w1.heap.size, 5, none⟩ = some (.string key) := (blk_cell x4 5).trans rfl; have x4c6 : w4.cell? ⟨w1.heap.size, 6, none⟩ = some (.string old) := (blk_cell x4 6).trans rfl; have x4c7 : w4.cell? ⟨w1.heap.size, 7, none⟩ = some (.string new_) := (blk_cell x4 7).trans rfl; have x4c8 : w4.cell? ⟨w1.heap.size, 8, none⟩ = some (.int .i64 next) := (blk_cell x4 8).trans rfl; have x4c9 : w4.cell? ⟨w1.heap.size, 9, none⟩ = some (.slice iA li.length ic) := (blk_cell x4 9).trans rfl; have x4c10 : w4.cell? ⟨w1.heap.size, 10, none⟩ = some (.slice tA lt.length tc) := (blk_cell x4 10).trans rfl; have x4c11 : w4.cell? ⟨w1.heap.size, 11, none⟩ = some (.int .i64 epoch) := (blk_cell x4 11).trans rfl; have x4c12 : w4.cell? ⟨w1.heap.size, 12, none⟩ = some (.int .i64 node) := (blk_cell x4 12).trans rfl; clear x4 hB4))
                go_meet
                case rel =>
                  refine ⟨R4, rfl, rfl, ?_, HN4.out.nil, HB6.out⟩
                  rw [← HR4.out, ← HR3.out, ← HR2.out, ← HR1.out, HR00.out]
                  obtain ⟨k1, k2, k6, k9, k10, kl⟩ := K_.out
                  unfold recL
                  simp only
                  rw [if_neg (by omega), if_neg k9, if_neg k10, if_neg k6, if_pos (by omega)]
                  simp [wrL]
              · obtain ⟨R2, hR2⟩ : ∃ Q, wrS R1 (num_ (txn) 6) = Q := ⟨_, rfl⟩
                have HN2 := Lib.hid (show NS 988 R2 from hR2 ▸ (HN1.out.le (Nat.le_refl _)).step (num_ (txn) 6) (by show (6 : Int) ≤ 6; omega))
                have HE2 := Lib.hid (show e0 ≠ 0 → R2.2 ≠ 0 from fun c => hR2 ▸ wrS_err _ _ (HE1.out c))
                have HR2 := Lib.hid hR2
                clear hR2
                obtain ⟨R3, hR3⟩ : ∃ Q, wrS R2 (num_ (prev) 6) = Q := ⟨_, rfl⟩
                have HN3 := Lib.hid (show NS 987 R3 from hR3 ▸ (HN2.out.le (Nat.le_refl _)).step (num_ (prev) 6) (by show (6 : Int) ≤ 6; omega))
                have HE3 := Lib.hid (show e0 ≠ 0 → R3.2 ≠ 0 from fun c => hR3 ▸ wrS_err _ _ (HE2.out c))
                have HR3 := Lib.hid hR3
                clear hR3
                have dl : decide (kind < 6) = false := by simpa using kl
                have K_ := Lib.hid (And.intro k1 (And.intro k2 (And.intro k6 (And.intro k9 (And.intro k10 kl)))))
                clear k1 k2 k6 k9 k10 kl
                go_wp2_with (first
                  | (go_at_call 24; (with_reducible refine (ref_put R2 R3 HN2.out prev 6 (by omega) (by omega) HR3.out _).mono ?_); rintro e' w5 ⟨rfl, hB5⟩; have x5 := blk_below HX4.out hB5; have HX5 := Lib.hid x5; have HB5 := Lib.hid (below_step HB4.out hB5); have x5c0 : w5.cell? ⟨w1.heap.size, 0, none⟩ = some (.int .i64 kind) := (blk_cell x5 0).trans rfl; have x5c1 : w5.cell? ⟨w1.heap.size, 1, none⟩ = some (.int .i64 txn) := (blk_cell x5 1).trans rfl; have x5c2 : w5.cell? ⟨w1.heap.size, 2, none⟩ = some (.int .i64 prev) := (blk_cell x5 2).trans rfl; have x5c3 : w5.cell? ⟨w1.heap.size, 3, none⟩ = some (.int .i64 page) := (blk_cell x5 3).trans rfl; have x5c4 : w5.cell? ⟨w1.heap.size, 4, none⟩ = some (.int .i64 act) := (blk_cell x5 4).trans rfl; have x5c5 : w5.cell? ⟨w1.heap.size, 5, none⟩ = some (.string key) := (blk_cell x5 5).trans rfl; have x5c6 : w5.cell? ⟨w1.heap.size, 6, none⟩ = some (.string old) := (blk_cell x5 6).trans rfl; have x5c7 : w5.cell? ⟨w1.heap.size, 7, none⟩ = some (.string new_) := (blk_cell x5 7).trans rfl; have x5c8 : w5.cell? ⟨w1.heap.size, 8, none⟩ = some (.int .i64 next) := (blk_cell x5 8).trans rfl; have x5c9 : w5.cell? ⟨w1.heap.size, 9, none⟩ = some (.slice iA li.length ic) := (blk_cell x5 9).trans rfl; have x5c10 : w5.cell? ⟨w1.heap.size, 10, none⟩ = some (.slice tA lt.length tc) := (blk_cell x5 10).trans rfl; have x5c11 : w5.cell? ⟨w1.heap.size, 11, none⟩ = some (.int .i64 epoch) := (blk_cell x5 11).trans rfl; have x5c12 : w5.cell? ⟨w1.heap.size, 12, none⟩ = some (.int .i64 node) := (blk_cell x5 12).trans rfl; clear x5 hB5)
                  | (go_at_call 24; (with_reducible refine (ref_put R1 R2 HN1.out txn 6 (by omega) (by omega) HR2.out _).mono ?_); rintro e' w4 ⟨rfl, hB4⟩; have x4 := blk_below HX3.out hB4; have HX4 := Lib.hid x4; have HB4 := Lib.hid (below_step HB3.out hB4); have x4c0 : w4.cell? ⟨w1.heap.size, 0, none⟩ = some (.int .i64 kind) := (blk_cell x4 0).trans rfl; have x4c1 : w4.cell? ⟨w1.heap.size, 1, none⟩ = some (.int .i64 txn) := (blk_cell x4 1).trans rfl; have x4c2 : w4.cell? ⟨w1.heap.size, 2, none⟩ = some (.int .i64 prev) := (blk_cell x4 2).trans rfl; have x4c3 : w4.cell? ⟨w1.heap.size, 3, none⟩ = some (.int .i64 page) := (blk_cell x4 3).trans rfl; have x4c4 : w4.cell? ⟨w1.heap.size, 4, none⟩ = some (.int .i64 act) := (blk_cell x4 4).trans rfl; have x4c5 : w4.cell? ⟨w1.heap.size, 5, none⟩ = some (.string key) := (blk_cell x4 5).trans rfl; have x4c6 : w4.cell? ⟨w1.heap.size, 6, none⟩ = some (.string old) := (blk_cell x4 6).trans rfl; have x4c7 : w4.cell? ⟨w1.heap.size, 7, none⟩ = some (.string new_) := (blk_cell x4 7).trans rfl; have x4c8 : w4.cell? ⟨w1.heap.size, 8, none⟩ = some (.int .i64 next) := (blk_cell x4 8).trans rfl; have x4c9 : w4.cell? ⟨w1.heap.size, 9, none⟩ = some (.slice iA li.length ic) := (blk_cell x4 9).trans rfl; have x4c10 : w4.cell? ⟨w1.heap.size, 10, none⟩ = some (.slice tA lt.length tc) := (blk_cell x4 10).trans rfl; have x4c11 : w4.cell? ⟨w1.heap.size, 11, none⟩ = some (.int .i64 epoch) := (blk_cell x4 11).trans rfl; have x4c12 : w4.cell? ⟨w1.heap.size, 12, none⟩ = some (.int .i64 node) := (blk_cell x4 12).trans rfl; clear x4 hB4))
                go_meet
                case rel =>
                  refine ⟨R3, rfl, rfl, ?_, HN3.out.nil, HB5.out⟩
                  rw [← HR3.out, ← HR2.out, ← HR1.out, HR00.out]
                  obtain ⟨k1, k2, k6, k9, k10, kl⟩ := K_.out
                  unfold recL
                  simp only
                  rw [if_neg (by omega), if_neg k9, if_neg k10, if_neg k6, if_neg (by omega)]
                  simp [wrL]
  case rest =>
    obtain ⟨r', rfl, rfl, hr, hn, hB⟩ := hcut
    have hm := body_meets (⟨kind, txn, prev, page, act, key, old, new_, next, ⟨iA, li.length, ic⟩, ⟨tA, lt.length, tc⟩, epoch, node⟩ : RV) li lt r' (by rw [HE00.out]; exact hr) hn
    have HBW := Lib.hid hB
    clear hr hn hB HX3 HB3
    obtain ⟨s, e⟩ := r'
    by_cases h0 : e = 0
    · subst h0
      by_cases hl : 4096 < s.size
      · have d1 : decide ((4096 : Int) < (s.size : Int)) = true := by simp; omega
        have d2 : decide (4096 < s.size) = true := by simp; omega
        rw [if_pos ⟨rfl, hl⟩] at hm
        have HM := Lib.hid hm
        clear hm hl
        go_wp2
        go_ret2
        exact ⟨by rw [HM.out]; rfl, HBW.out⟩
      · have d1 : decide ((4096 : Int) < (s.size : Int)) = false := by simp; omega
        have d2 : decide (4096 < s.size) = false := by simp; omega
        rw [if_neg (fun c => hl c.2)] at hm
        have HM := Lib.hid hm
        clear hm hl
        go_wp2
        go_ret2
        exact ⟨by rw [HM.out]; rfl, HBW.out⟩
    · have d1 : (e == 0) = false := by simpa using h0
      have d2 : (e != 0) = true := by simpa using h0
      rw [if_neg (fun c => h0 c.1)] at hm
      have HM := Lib.hid hm
      clear hm h0
      go_wp2
      go_ret2
      exact ⟨by rw [HM.out]; rfl, HBW.out⟩
end Go.Proofs.Ytdphikbkknkhiaa.PAll
