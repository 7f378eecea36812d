/- The law RecFrames, walked by hand. -/
import Derived.Test.YtdphikbkknkhiaaRecLaw
import Derived.Test.YtdphikbkknkhiaaRecRefBody
namespace Go.Proofs.Ytdphikbkknkhiaa.PAll
open Go.RowKit Go.Proofs.Ytdphikbkknkhiaa.Pure Go.Proofs.YtdphikbkknkhiaaW.PrintWords Go.Proofs.YtdphikbkknkhiaaW.PrintLast Go.Proofs.YtdphikbkknkhiaaW.PrintMore
set_option linter.unusedVariables false
set_option linter.unusedSimpArgs false

theorem clean_cut (r : RV) : 7 ≤ (cleanR r).kind → (cleanR r).kind ≤ 10 → cutE (cleanR r).key (cleanR r).old (cleanR r).new = 0 := by
  have hk : (cleanR r).kind = r.kind := by
    unfold cleanR tidyR zeroR
    split <;> (try rfl) <;> split <;> (try rfl) <;> split <;> (try rfl) <;> split <;> (try rfl) <;> split <;> (try rfl) <;> split <;> rfl
  intro h7 h10
  rw [hk] at h7 h10
  unfold cleanR
  rw [if_neg (by omega), if_neg (by omega), if_neg (by omega)]
  split
  · rfl
  · split
    · rfl
    · split <;> rfl
theorem refbody_calls (r : RV) (li : List S36) (lt : List S55) (w : World) (h : RRow w r li lt) (hli : li.length ≤ 300) (hlt : lt.length ≤ 300) :
    Calls Try.prog 11 #[.agg r.cs] w fun e' w' => e' = .returned (.tuple #[.string (cbodyP r li lt).1, .int .i64 (cbodyP r li lt).2]) ∧ Below w.heap.size w w' := by
  have hc := h.clean
  have hq1 := Nat.le_trans (cleanI_le r li) hli
  have hq2 := Nat.le_trans (cleanT_le r lt) hlt
  have hz := clean_cut r
  unfold cbodyP
  generalize cleanI r li = l1 at *
  generalize cleanT r lt = l2 at *
  generalize hq : cleanR r = q at *
  obtain ⟨kind, txn, prev, page, act, key, old, new_, next, ⟨iA, in_, ic⟩, ⟨tA, tn, tc⟩, epoch, node⟩ := q
  obtain ⟨a1, a2, a3, a4, a5, a6⟩ := hc
  simp only at a1 a2 a3 a4 a5 a6 hz
  subst a2 a5
  exact refbody_walk kind txn prev page act key old new_ next iA ic l1 tA tc l2 epoch node r hq w hq1 hq2 a3 a6 a1 a4 hz
theorem frame_lit (kind txn prev page act : Int) (key old new_ : ByteArray) (next : Int) (iA : Option Addr) (in_ ic : Nat) (tA : Option Addr) (tn tc : Nat) (epoch node : Int) (li : List S36) (lt : List S55) (F : WS) (hF : frameP ⟨kind, txn, prev, page, act, key, old, new_, next, ⟨iA, in_, ic⟩, ⟨tA, tn, tc⟩, epoch, node⟩ li lt = F) (w : World) (h : RRow w ⟨kind, txn, prev, page, act, key, old, new_, next, ⟨iA, in_, ic⟩, ⟨tA, tn, tc⟩, epoch, node⟩ li lt) (hli : li.length ≤ 300) (hlt : lt.length ≤ 300) :
    Calls Try.prog 10 #[.agg #[.int .i64 kind, .int .i64 txn, .int .i64 prev, .int .i64 page, .int .i64 act, .string key, .string old, .string new_, .int .i64 next, .slice iA in_ ic, .slice tA tn tc, .int .i64 epoch, .int .i64 node]] w fun e' w' => e' = .returned (.tuple #[.string F.1, .int .i64 F.2]) ∧ Below w.heap.size w w' := by
  subst hF
  exact frame_walk kind txn prev page act key old new_ next iA in_ ic tA tn tc epoch node li lt w h hli hlt
theorem refbody_lit (kind txn prev page act : Int) (key old new_ : ByteArray) (next : Int) (iA : Option Addr) (in_ ic : Nat) (tA : Option Addr) (tn tc : Nat) (epoch node : Int) (li : List S36) (lt : List S55) (F : WS) (hF : cbodyP ⟨kind, txn, prev, page, act, key, old, new_, next, ⟨iA, in_, ic⟩, ⟨tA, tn, tc⟩, epoch, node⟩ li lt = F) (w : World) (h : RRow w ⟨kind, txn, prev, page, act, key, old, new_, next, ⟨iA, in_, ic⟩, ⟨tA, tn, tc⟩, epoch, node⟩ li lt) (hli : li.length ≤ 300) (hlt : lt.length ≤ 300) :
    Calls Try.prog 11 #[.agg #[.int .i64 kind, .int .i64 txn, .int .i64 prev, .int .i64 page, .int .i64 act, .string key, .string old, .string new_, .int .i64 next, .slice iA in_ ic, .slice tA tn tc, .int .i64 epoch, .int .i64 node]] w fun e' w' => e' = .returned (.tuple #[.string F.1, .int .i64 F.2]) ∧ Below w.heap.size w w' := by
  subst hF
  exact refbody_calls ⟨kind, txn, prev, page, act, key, old, new_, next, ⟨iA, in_, ic⟩, ⟨tA, tn, tc⟩, epoch, node⟩ li lt w h hli hlt

theorem conv2 (W : World) (g n : Nat) (hn : n ≤ 65535) (h0 : W.cell? ⟨g, 0, none⟩ = some (.int .u8 ((n : Int) / 256))) (h1 : W.cell? ⟨g, 1, none⟩ = some (.int .u8 ((n : Int) % 256))) :
    (convert 31 9 (.slice (some ⟨g, 0, none⟩) 2 2)).run Try.prog W = .ok (.string ⟨(nb 2 n).toArray⟩) W := by
  have hd : (n : Int) / 256 = ((n / 256 : Nat) : Int) := by omega
  have hm : (n : Int) % 256 = ((n % 256 : Nat) : Int) := by omega
  rw [hd] at h0
  rw [hm] at h1
  have e : (⟨(nb 2 n).toArray⟩ : ByteArray) = strOfNums [((n / 256 : Nat) : Int), ((n % 256 : Nat) : Int)] := by
    have e1 : n / 256 % 256 = n / 256 := by omega
    show (⟨#[UInt8.ofNat (n / 256 % 256), UInt8.ofNat (n % 256)]⟩ : ByteArray) = _
    rw [e1]
    rfl
  rw [e]
  refine run_convert_bytes_arg W 31 5 Try.underlying31 Try.underlying5 g 0 2 2 _ rfl (fun i hi => ?_) 9 Try.underlying9
  match i with
  | 0 => exact h0
  | 1 => exact h1
  | i + 2 => omega
theorem conv2_new (n : Nat) (hn : n ≤ 65535) {X : ByteArray} (hX : ⟨(nb 2 n).toArray⟩ = X) (W : World) :
    (convert 31 9 (.slice (some ⟨W.heap.size, 0, none⟩) 2 2)).run Try.prog (W.alloc (.cells #[.int .u8 ((n : Int) / 256), .int .u8 ((n : Int) % 256)] 5)) = .ok (.string X) (W.alloc (.cells #[.int .u8 ((n : Int) / 256), .int .u8 ((n : Int) % 256)] 5)) := hX ▸
  conv2 _ _ n hn ((blk_cell (heap_alloc_new W _) 0).trans rfl) ((blk_cell (heap_alloc_new W _) 1).trans rfl)
theorem conv2_kept (n : Nat) (hn : n ≤ 65535) {X : ByteArray} (hX : ⟨(nb 2 n).toArray⟩ = X) {W W' : World} (h : Below (W.alloc (.cells #[.int .u8 ((n : Int) / 256), .int .u8 ((n : Int) % 256)] 5)).heap.size (W.alloc (.cells #[.int .u8 ((n : Int) / 256), .int .u8 ((n : Int) % 256)] 5)) W') :
    (convert 31 9 (.slice (some ⟨W.heap.size, 0, none⟩) 2 2)).run Try.prog W' = .ok (.string X) W' := hX ▸
  conv2 _ _ n hn ((blk_cell (blk_below (heap_alloc_new W _) h) 0).trans rfl) ((blk_cell (blk_below (heap_alloc_new W _) h) 1).trans rfl)

set_option maxHeartbeats 8000000 in
set_option maxRecDepth 10000 in
theorem RecFrames.walk (r : RV) (li : List S36) (lt : List S55) (w : World) (h : RRow w r li lt) (hi : SlOk r.images) (ht : SlOk r.table) :
    Calls Try.prog 3 #[.agg r.cs] w fun e w' => e = .returned (.bool true) ∧ Below w.heap.size w w' := by
  have hu25 := Try.underlying25
  have hrow := h.few
  have hfew := fun w1 => few_calls r hi ht w1
  have hl1 : (li.take 20).length ≤ 300 := by rw [List.length_take]; omega
  have hl2 : (lt.take 300).length ≤ 300 := by rw [List.length_take]; omega
  generalize li.take 20 = l1 at *
  generalize lt.take 300 = l2 at *
  generalize fewR r = q at *
  obtain ⟨kind, txn, prev, page, act, key, old, new_, next, ⟨iA, in_, ic⟩, ⟨tA, tn, tc⟩, epoch, node⟩ := q
  have hle := bodyP_le (cleanR ⟨kind, txn, prev, page, act, key, old, new_, next, ⟨iA, in_, ic⟩, ⟨tA, tn, tc⟩, epoch, node⟩) (cleanI ⟨kind, txn, prev, page, act, key, old, new_, next, ⟨iA, in_, ic⟩, ⟨tA, tn, tc⟩, epoch, node⟩ l1) (cleanT ⟨kind, txn, prev, page, act, key, old, new_, next, ⟨iA, in_, ic⟩, ⟨tA, tn, tc⟩, epoch, node⟩ l2)
  have hfr : frameP ⟨kind, txn, prev, page, act, key, old, new_, next, ⟨iA, in_, ic⟩, ⟨tA, tn, tc⟩, epoch, node⟩ l1 l2 = if (cbodyP ⟨kind, txn, prev, page, act, key, old, new_, next, ⟨iA, in_, ic⟩, ⟨tA, tn, tc⟩, epoch, node⟩ l1 l2).2 ≠ 0 then (⟨#[]⟩, (cbodyP ⟨kind, txn, prev, page, act, key, old, new_, next, ⟨iA, in_, ic⟩, ⟨tA, tn, tc⟩, epoch, node⟩ l1 l2).2) else ((⟨(nb 2 (cbodyP ⟨kind, txn, prev, page, act, key, old, new_, next, ⟨iA, in_, ic⟩, ⟨tA, tn, tc⟩, epoch, node⟩ l1 l2).1.size).toArray⟩ : ByteArray) ++ sealed (cbodyP ⟨kind, txn, prev, page, act, key, old, new_, next, ⟨iA, in_, ic⟩, ⟨tA, tn, tc⟩, epoch, node⟩ l1 l2).1, 0) := rfl
  obtain ⟨G, hG⟩ : ∃ G, cbodyP ⟨kind, txn, prev, page, act, key, old, new_, next, ⟨iA, in_, ic⟩, ⟨tA, tn, tc⟩, epoch, node⟩ l1 l2 = G := ⟨_, rfl⟩
  have hle2 : G.1.size ≤ 4096 := by rw [← hG]; exact hle
  rw [hG] at hfr
  have HF := Lib.hid hfew
  have HR := Lib.hid hrow
  have HG := Lib.hid hG
  have HX := Lib.hid (heap_alloc_new w (.cells r.cs 25))
  have HL1 := Lib.hid hl1
  have HL2 := Lib.hid hl2
  have HLE := Lib.hid hle2
  clear hfew hrow hl1 hl2 h hi ht hle hG hle2
  obtain ⟨t, e⟩ := G
  by_cases h0 : e = 0
  · subst h0
    rw [if_neg (fun c => c rfl)] at hfr
    have HFR := Lib.hid hfr
    clear hfr
    have hsz : t.size ≤ 4096 := HLE.out
    have hseal := seal_plain 10 t (by omega) (by omega)
    have hz1 : (⟨(nb 2 t.size).toArray⟩ : ByteArray).size = 2 := nb_szI _ _
    have hz2 := sealed_size t
    generalize sealed t = Y at *
    obtain ⟨X, hXX⟩ : ∃ X, (⟨(nb 2 t.size).toArray⟩ : ByteArray) = X := ⟨_, rfl⟩
    rw [hXX] at hz1 HFR
    have HXX := Lib.hid hXX
    have c1 : X.size + Y.size ≤ 9223372036854775807 := by rw [hz1]; omega
    have c2 := eq_true c1
    have c3 : decide (X.size + Y.size ≤ 9223372036854775807) = true := decide_eq_true c1
    have c4 : (9223372036854775807 < X.size + Y.size) = False := eq_false (Nat.not_lt.2 c1)
    have hA : IntKind.u8.wrap (IntKind.i64.wrap ((t.size : Int) / 256)) = (t.size : Int) / 256 := by simp [IntKind.wrap, IntKind.bits, IntKind.signed]; omega
    have hA2 : IntKind.u8.wrap ((t.size : Int).tmod 256) = (t.size : Int) % 256 := by
      have e : (t.size : Int).tmod 256 = (t.size : Int) % 256 := rfl
      rw [e]; simp [IntKind.wrap, IntKind.bits, IntKind.signed]
    have hcv := conv2_new t.size (by omega) hXX
    have hcvd := fun W => conv2_kept t.size (by omega) hXX (W := W) (below_drew (Below.refl _ _))
    have HSZ := Lib.hid (show t.size ≤ 65535 by omega)
    clear hz1 hz2 hsz hXX
    have HS := Lib.hid hseal
    clear hseal
    go_enter Try.func3, Try.ntmps3
    go_wp2_with (first
      | (refine wpList_load_row rfl 25 _ rfl w.heap.size rfl 25 _ (0, 0) _ HX.out Try.underlying25 rfl (hinfo25 _) ?_)
      | (go_at_call 9; (with_reducible refine (HF.out _).mono ?_); rintro e' w1 ⟨rfl, hB1⟩; have HX1 := Lib.hid (blk_below HX.out hB1); have HB1 := Lib.hid (below_step (below_alloc (Below.refl _ _) _) hB1); have HX2 := Lib.hid (set_new (cs' := RV.cs ⟨kind, txn, prev, page, act, key, old, new_, next, ⟨iA, in_, ic⟩, ⟨tA, tn, tc⟩, epoch, node⟩) HX1.out); have HB2 := Lib.hid (setRow_below HB1.out (Nat.le_refl w.heap.size) (RV.cs ⟨kind, txn, prev, page, act, key, old, new_, next, ⟨iA, in_, ic⟩, ⟨tA, tn, tc⟩, epoch, node⟩)); clear hB1)
      | (refine wpList_store_row rfl 25 _ _ rfl w.heap.size (RV.cs ⟨kind, txn, prev, page, act, key, old, new_, next, ⟨iA, in_, ic⟩, ⟨tA, tn, tc⟩, epoch, node⟩) rfl rfl 25 _ HX1.out (hinfo25 _) rfl (rv_one _) ?_)
      | (refine wpList_load_row rfl 25 _ rfl w.heap.size rfl 25 #[.int .i64 kind, .int .i64 txn, .int .i64 prev, .int .i64 page, .int .i64 act, .string key, .string old, .string new_, .int .i64 next, .slice iA in_ ic, .slice tA tn tc, .int .i64 epoch, .int .i64 node] (0, 0) _ HX2.out Try.underlying25 rfl (hinfo25 ⟨kind, txn, prev, page, act, key, old, new_, next, ⟨iA, in_, ic⟩, ⟨tA, tn, tc⟩, epoch, node⟩) ?_)
      | (go_at_call 10; (with_reducible refine (frame_lit kind txn prev page act key old new_ next iA in_ ic tA tn tc epoch node l1 l2 _ HFR.out _ (HR.out.below HB2.out) HL1.out HL2.out).mono ?_); rintro e' w3 ⟨rfl, hB3⟩; have HX3 := Lib.hid (blk_below HX2.out hB3); have HB3 := Lib.hid (below_step HB2.out hB3); clear hB3)
      | (refine wpList_load_row rfl 25 _ rfl w.heap.size rfl 25 #[.int .i64 kind, .int .i64 txn, .int .i64 prev, .int .i64 page, .int .i64 act, .string key, .string old, .string new_, .int .i64 next, .slice iA in_ ic, .slice tA tn tc, .int .i64 epoch, .int .i64 node] (0, 0) _ HX3.out Try.underlying25 rfl (hinfo25 ⟨kind, txn, prev, page, act, key, old, new_, next, ⟨iA, in_, ic⟩, ⟨tA, tn, tc⟩, epoch, node⟩) ?_)
      | (go_at_call 11; (with_reducible refine (refbody_lit kind txn prev page act key old new_ next iA in_ ic tA tn tc epoch node l1 l2 _ HG.out _ (HR.out.below HB3.out) HL1.out HL2.out).mono ?_); rintro e' w4 ⟨rfl, hB4⟩; have HB4 := Lib.hid (below_step HB3.out hB4); clear hB4))
    have hS0 := HB4.out
    refine wp_region_held_drew (S := fun w' => Below w.heap.size w w') (by kernel_rfl) (below_drew hS0) (fun hH0 => ?_)
    clear HX HF HR HG hS0 HX1 HX2 HX3 HB1 HB2 HB3
    refine wpAnyH_take (i := 0) (oi := { dst := some 34, op := Go.Op.move (Go.Operand.tmp 4), type := 27, pos := "law.go:37", after := #[], guard := none }) (v := ?_) rfl (by kernel_rfl) (by kernel_rfl) (by kernel_rfl) (fun _ _ _ h => h) (Or.inl ⟨by rfl, ?_⟩) hH0 ?_
    rotate_left
    · intro w' hSw
      go_simp
      try with_reducible rfl
    (try simp only [Act.put, List.setIfInBounds_toArray, List.set_cons_zero, List.set_cons_succ])
    refine wpAnyH_take (i := 1) (oi := { dst := some 35, op := Go.Op.binOp Go.BinOp.eql 27 (Go.Operand.tmp 34) (Go.Operand.const (Go.Value.int Go.IntKind.i64 0)) 27, type := 4, pos := "law.go:37", after := #[{ on := 0, ground := Go.Ground.data }], guard := none }) (v := ?_) rfl (by kernel_rfl) (by kernel_rfl) (by kernel_rfl) (fun _ _ _ h => h) (Or.inl ⟨by rfl, ?_⟩) hH0 ?_
    rotate_left
    · intro w' hSw
      go_simp
      try with_reducible rfl
    (try simp only [Act.put, List.setIfInBounds_toArray, List.set_cons_zero, List.set_cons_succ])
    refine wpAnyH_take (i := 2) (oi := { dst := some 36, op := Go.Op.move (Go.Operand.tmp 35), type := 4, pos := "law.go:37", after := #[{ on := 1, ground := Go.Ground.data }], guard := none }) (v := ?_) rfl (by kernel_rfl) (by kernel_rfl) (by kernel_rfl) (fun _ _ _ h => h) (Or.inl ⟨by rfl, ?_⟩) hH0 ?_
    rotate_left
    · intro w' hSw
      go_simp
      try with_reducible rfl
    (try simp only [Act.put, List.setIfInBounds_toArray, List.set_cons_zero, List.set_cons_succ])
    refine wpAnyH_take (i := 3) (oi := { dst := some 37, op := Go.Op.move (Go.Operand.tmp 3), type := 9, pos := "law.go:37", after := #[{ on := 2, ground := Go.Ground.guard }], guard := some (2, true) }) (v := ?_) rfl (by kernel_rfl) (by kernel_rfl) (by kernel_rfl) (fun _ _ _ h => h) (Or.inl ⟨by rfl, ?_⟩) hH0 ?_
    rotate_left
    · intro w' hSw
      go_simp
      try with_reducible rfl
    (try simp only [Act.put, List.setIfInBounds_toArray, List.set_cons_zero, List.set_cons_succ])
    refine wpAnyH_take (i := 4) (oi := { dst := some 38, op := Go.Op.move (Go.Operand.tmp 7), type := 3, pos := "law.go:37", after := #[{ on := 2, ground := Go.Ground.guard }], guard := some (2, true) }) (v := ?_) rfl (by kernel_rfl) (by kernel_rfl) (by kernel_rfl) (fun _ _ _ h => h) (Or.inl ⟨by rfl, ?_⟩) hH0 ?_
    rotate_left
    · intro w' hSw
      go_simp
      try with_reducible rfl
    (try simp only [Act.put, List.setIfInBounds_toArray, List.set_cons_zero, List.set_cons_succ])
    refine wpAnyH_take (i := 5) (oi := { dst := some 39, op := Go.Op.binOp Go.BinOp.quo 3 (Go.Operand.tmp 38) (Go.Operand.const (Go.Value.int Go.IntKind.i64 256)) 3, type := 3, pos := "law.go:37", after := #[{ on := 4, ground := Go.Ground.data }, { on := 2, ground := Go.Ground.guard }], guard := some (2, true) }) (v := ?_) rfl (by kernel_rfl) (by kernel_rfl) (by kernel_rfl) (fun _ _ _ h => h) (Or.inl ⟨by rfl, ?_⟩) hH0 ?_
    rotate_left
    · intro w' hSw
      go_simp
      try with_reducible rfl
    (try simp only [Act.put, List.setIfInBounds_toArray, List.set_cons_zero, List.set_cons_succ])
    refine wpAnyH_take (i := 6) (oi := { dst := some 40, op := Go.Op.convert 3 5 (Go.Operand.tmp 39), type := 5, pos := "law.go:37", after := #[{ on := 5, ground := Go.Ground.data }, { on := 2, ground := Go.Ground.guard }], guard := some (2, true) }) (v := ?_) rfl (by kernel_rfl) (by kernel_rfl) (by kernel_rfl) (fun _ _ _ h => h) (Or.inl ⟨by rfl, ?_⟩) hH0 ?_
    rotate_left
    · intro w' hSw
      go_simp
      try with_reducible rfl
    (try simp only [Act.put, List.setIfInBounds_toArray, List.set_cons_zero, List.set_cons_succ])
    refine wpAnyH_take (i := 7) (oi := { dst := some 41, op := Go.Op.move (Go.Operand.tmp 7), type := 3, pos := "law.go:37", after := #[{ on := 2, ground := Go.Ground.guard }], guard := some (2, true) }) (v := ?_) rfl (by kernel_rfl) (by kernel_rfl) (by kernel_rfl) (fun _ _ _ h => h) (Or.inl ⟨by rfl, ?_⟩) hH0 ?_
    rotate_left
    · intro w' hSw
      go_simp
      try with_reducible rfl
    (try simp only [Act.put, List.setIfInBounds_toArray, List.set_cons_zero, List.set_cons_succ])
    refine wpAnyH_take (i := 8) (oi := { dst := some 42, op := Go.Op.binOp Go.BinOp.rem 3 (Go.Operand.tmp 41) (Go.Operand.const (Go.Value.int Go.IntKind.i64 256)) 3, type := 3, pos := "law.go:37", after := #[{ on := 7, ground := Go.Ground.data }, { on := 2, ground := Go.Ground.guard }], guard := some (2, true) }) (v := ?_) rfl (by kernel_rfl) (by kernel_rfl) (by kernel_rfl) (fun _ _ _ h => h) (Or.inl ⟨by rfl, ?_⟩) hH0 ?_
    rotate_left
    · intro w' hSw
      go_simp
      try with_reducible rfl
    (try simp only [Act.put, List.setIfInBounds_toArray, List.set_cons_zero, List.set_cons_succ])
    refine wpAnyH_take (i := 9) (oi := { dst := some 43, op := Go.Op.convert 3 5 (Go.Operand.tmp 42), type := 5, pos := "law.go:37", after := #[{ on := 8, ground := Go.Ground.data }, { on := 2, ground := Go.Ground.guard }], guard := some (2, true) }) (v := ?_) rfl (by kernel_rfl) (by kernel_rfl) (by kernel_rfl) (fun _ _ _ h => h) (Or.inl ⟨by rfl, ?_⟩) hH0 ?_
    rotate_left
    · intro w' hSw
      go_simp
      try with_reducible rfl
    (try simp only [Act.put, List.setIfInBounds_toArray, List.set_cons_zero, List.set_cons_succ])
    refine wpAnyH_take (i := 12) (oi := { dst := some 46, op := Go.Op.move (Go.Operand.tmp 5), type := 9, pos := "law.go:37", after := #[{ on := 2, ground := Go.Ground.guard }], guard := some (2, true) }) (v := ?_) rfl (by kernel_rfl) (by kernel_rfl) (by kernel_rfl) (fun _ _ _ h => h) (Or.inl ⟨by rfl, ?_⟩) hH0 ?_
    rotate_left
    · intro w' hSw
      go_simp
      try with_reducible rfl
    (try simp only [Act.put, List.setIfInBounds_toArray, List.set_cons_zero, List.set_cons_succ])
    refine wpAnyH_ready (rs := [10, 13]) (by kernel_rfl) (by simp) ?_
    refine AllReadyH.cons (o := { dst := some 44, op := Go.Op.buildSlice 31 2 #[(0, Go.Operand.tmp 40), (1, Go.Operand.tmp 43)], type := 31, pos := "law.go:37", after := #[{ on := 6, ground := Go.Ground.data }, { on := 9, ground := Go.Ground.data }, { on := 2, ground := Go.Ground.guard }], guard := some (2, true) }) rfl (fun K hK => ?_) ?_
    · go_simp
      refine hK.out _ _ ?_ (fun hH1 => ?_)
      · exact below_alloc hH0 _
      clear hK K
      (try simp only [Act.put, List.setIfInBounds_toArray, List.set_cons_zero, List.set_cons_succ])
      refine wpAnyH_ready (rs := [11, 13]) (by kernel_rfl) (by simp) ?_
      refine AllReadyH.cons (o := { dst := some 45, op := Go.Op.convert 31 9 (Go.Operand.tmp 44), type := 9, pos := "law.go:37", after := #[{ on := 10, ground := Go.Ground.data }, { on := 2, ground := Go.Ground.guard }], guard := some (2, true) }) rfl (fun K hK => ?_) ?_
      · go_simp
        refine hK.out _ _ ?_ (fun hH2 => ?_)
        · exact hH1
        clear hK K
        (try simp only [Act.put, List.setIfInBounds_toArray, List.set_cons_zero, List.set_cons_succ])
        refine wpAnyH_ready (rs := [13]) (by kernel_rfl) (by simp) ?_
        refine AllReadyH.cons (o := { dst := some 47, op := Go.Op.call { callee := Go.Callee.value (Go.Operand.func 13), args := #[Go.Operand.tmp 46], argTypes := #[9] }, type := 9, pos := "law.go:37", after := #[{ on := 12, ground := Go.Ground.data }, { on := 2, ground := Go.Ground.chain }, { on := 2, ground := Go.Ground.guard }], guard := some (2, true) }) rfl (fun K hK => ?_) ?_
        · go_simp
          go_at_call 13
          with_reducible refine (sum_Seal.calls 10 t Y _ HS.out).mono ?_
          rintro e' v3 ⟨rfl, hC3⟩
          (try have hcv2 := conv2_kept t.size HSZ.out HXX.out hC3)
          (try have hcv3 := conv2_kept t.size HSZ.out HXX.out (below_step (below_drew (Below.refl _ _)) hC3))
          (try dsimp only)
          refine hK.out _ _ ?_ (fun hH3 => ?_)
          · exact below_step hH2 hC3
          clear hK K
          (try simp only [Act.put, List.setIfInBounds_toArray, List.set_cons_zero, List.set_cons_succ])
          refine wpAnyH_take (i := 14) (oi := { dst := some 48, op := Go.Op.binOp Go.BinOp.add 9 (Go.Operand.tmp 45) (Go.Operand.tmp 47) 9, type := 9, pos := "law.go:37", after := #[{ on := 11, ground := Go.Ground.data }, { on := 13, ground := Go.Ground.data }, { on := 2, ground := Go.Ground.guard }], guard := some (2, true) }) (v := ?_) rfl (by kernel_rfl) (by kernel_rfl) (by kernel_rfl) (fun _ _ _ h => h) (Or.inl ⟨by rfl, ?_⟩) hH3 ?_
          rotate_left
          · intro w' hSw
            go_simp
            try with_reducible rfl
          (try simp only [Act.put, List.setIfInBounds_toArray, List.set_cons_zero, List.set_cons_succ])
          refine wpAnyH_take (i := 15) (oi := { dst := some 49, op := Go.Op.binOp Go.BinOp.eql 9 (Go.Operand.tmp 37) (Go.Operand.tmp 48) 9, type := 4, pos := "law.go:37", after := #[{ on := 3, ground := Go.Ground.data }, { on := 14, ground := Go.Ground.data }, { on := 2, ground := Go.Ground.guard }], guard := some (2, true) }) (v := ?_) rfl (by kernel_rfl) (by kernel_rfl) (by kernel_rfl) (fun _ _ _ h => h) (Or.inl ⟨by rfl, ?_⟩) hH3 ?_
          rotate_left
          · intro w' hSw
            go_simp
            try with_reducible rfl
          (try simp only [Act.put, List.setIfInBounds_toArray, List.set_cons_zero, List.set_cons_succ])
          refine wpAnyH_take (i := 16) (oi := { dst := some 50, op := Go.Op.pick (Go.Operand.tmp 36) (Go.Operand.tmp 49) (Go.Operand.const (Go.Value.bool false)), type := 4, pos := "law.go:37", after := #[{ on := 2, ground := Go.Ground.data }, { on := 15, ground := Go.Ground.data }], guard := none }) (v := ?_) rfl (by kernel_rfl) (by kernel_rfl) (by kernel_rfl) (fun _ _ _ h => h) (Or.inl ⟨by rfl, ?_⟩) hH3 ?_
          rotate_left
          · intro w' hSw
            go_simp
            try with_reducible rfl
          (try simp only [Act.put, List.setIfInBounds_toArray, List.set_cons_zero, List.set_cons_succ])
          refine wpAnyH_take (i := 17) (oi := { dst := some 51, op := Go.Op.move (Go.Operand.tmp 50), type := 4, pos := "law.go:37", after := #[{ on := 16, ground := Go.Ground.data }, { on := 13, ground := Go.Ground.chain }], guard := none }) (v := ?_) rfl (by kernel_rfl) (by kernel_rfl) (by kernel_rfl) (fun _ _ _ h => h) (Or.inl ⟨by rfl, ?_⟩) hH3 ?_
          rotate_left
          · intro w' hSw
            go_simp
            try with_reducible rfl
          (try simp only [Act.put, List.setIfInBounds_toArray, List.set_cons_zero, List.set_cons_succ])
          refine wpAnyH_ready (rs := [18]) (by kernel_rfl) (by simp) ?_
          refine AllReadyH.cons (o := { dst := some 52, op := Go.Op.call { callee := Go.Callee.value (Go.Operand.func 12), args := #[], argTypes := #[] }, type := 4, pos := "law.go:37", after := #[{ on := 17, ground := Go.Ground.chain }, { on := 17, ground := Go.Ground.guard }], guard := some (17, true) }) rfl (fun K hK => ?_) ?_
          · go_simp
            go_at_call 12
            with_reducible refine (awake_calls _).mono ?_
            rintro e' v4 ⟨rfl, hC4⟩
            (try dsimp only)
            refine hK.out _ _ ?_ (fun hH4 => ?_)
            · exact below_step hH3 hC4
            clear hK K
            (try simp only [Act.put, List.setIfInBounds_toArray, List.set_cons_zero, List.set_cons_succ])
            refine wpAnyH_take (i := 19) (oi := { dst := some 53, op := Go.Op.pick (Go.Operand.tmp 51) (Go.Operand.tmp 52) (Go.Operand.const (Go.Value.bool false)), type := 4, pos := "law.go:37", after := #[{ on := 17, ground := Go.Ground.data }, { on := 18, ground := Go.Ground.data }], guard := none }) (v := ?_) rfl (by kernel_rfl) (by kernel_rfl) (by kernel_rfl) (fun _ _ _ h => h) (Or.inl ⟨by rfl, ?_⟩) hH4 ?_
            rotate_left
            · intro w' hSw
              go_simp
              try with_reducible rfl
            (try simp only [Act.put, List.setIfInBounds_toArray, List.set_cons_zero, List.set_cons_succ])
            refine wpAnyH_take (i := 20) (oi := { dst := some 2, op := Go.Op.assign (Go.Operand.tmp 53), type := 4, pos := "law.go:37", after := #[{ on := 19, ground := Go.Ground.data }, { on := 18, ground := Go.Ground.chain }, { on := 0, ground := Go.Ground.phase }, { on := 1, ground := Go.Ground.phase }, { on := 2, ground := Go.Ground.phase }, { on := 3, ground := Go.Ground.phase }, { on := 4, ground := Go.Ground.phase }, { on := 5, ground := Go.Ground.phase }, { on := 6, ground := Go.Ground.phase }, { on := 7, ground := Go.Ground.phase }, { on := 8, ground := Go.Ground.phase }, { on := 9, ground := Go.Ground.phase }, { on := 10, ground := Go.Ground.phase }, { on := 11, ground := Go.Ground.phase }, { on := 12, ground := Go.Ground.phase }, { on := 13, ground := Go.Ground.phase }, { on := 14, ground := Go.Ground.phase }, { on := 15, ground := Go.Ground.phase }, { on := 16, ground := Go.Ground.phase }, { on := 17, ground := Go.Ground.phase }, { on := 18, ground := Go.Ground.phase }, { on := 19, ground := Go.Ground.phase }], guard := none }) (v := ?_) rfl (by kernel_rfl) (by kernel_rfl) (by kernel_rfl) (fun _ _ _ h => h) (Or.inl ⟨by rfl, ?_⟩) hH4 ?_
            rotate_left
            · intro w' hSw
              go_simp
              try with_reducible rfl
            (try simp only [Act.put, List.setIfInBounds_toArray, List.set_cons_zero, List.set_cons_succ])
            refine wpAnyH_done (by kernel_rfl) ?_ _
            go_wp2
            go_ret
            exact ⟨rfl, hH4⟩
          exact AllReadyH.nil
        exact AllReadyH.nil
      refine AllReadyH.cons (o := { dst := some 47, op := Go.Op.call { callee := Go.Callee.value (Go.Operand.func 13), args := #[Go.Operand.tmp 46], argTypes := #[9] }, type := 9, pos := "law.go:37", after := #[{ on := 12, ground := Go.Ground.data }, { on := 2, ground := Go.Ground.chain }, { on := 2, ground := Go.Ground.guard }], guard := some (2, true) }) rfl (fun K hK => ?_) ?_
      · go_simp
        go_at_call 13
        with_reducible refine (sum_Seal.calls 10 t Y _ HS.out).mono ?_
        rintro e' v5 ⟨rfl, hC5⟩
        (try have hcv2 := conv2_kept t.size HSZ.out HXX.out hC5)
        (try have hcv3 := conv2_kept t.size HSZ.out HXX.out (below_step (below_drew (Below.refl _ _)) hC5))
        (try dsimp only)
        refine hK.out _ _ ?_ (fun hH5 => ?_)
        · exact below_step hH1 hC5
        clear hK K
        (try simp only [Act.put, List.setIfInBounds_toArray, List.set_cons_zero, List.set_cons_succ])
        refine wpAnyH_ready (rs := [11]) (by kernel_rfl) (by simp) ?_
        refine AllReadyH.cons (o := { dst := some 45, op := Go.Op.convert 31 9 (Go.Operand.tmp 44), type := 9, pos := "law.go:37", after := #[{ on := 10, ground := Go.Ground.data }, { on := 2, ground := Go.Ground.guard }], guard := some (2, true) }) rfl (fun K hK => ?_) ?_
        · go_simp
          refine hK.out _ _ ?_ (fun hH6 => ?_)
          · exact hH5
          clear hK K
          (try simp only [Act.put, List.setIfInBounds_toArray, List.set_cons_zero, List.set_cons_succ])
          refine wpAnyH_take (i := 14) (oi := { dst := some 48, op := Go.Op.binOp Go.BinOp.add 9 (Go.Operand.tmp 45) (Go.Operand.tmp 47) 9, type := 9, pos := "law.go:37", after := #[{ on := 11, ground := Go.Ground.data }, { on := 13, ground := Go.Ground.data }, { on := 2, ground := Go.Ground.guard }], guard := some (2, true) }) (v := ?_) rfl (by kernel_rfl) (by kernel_rfl) (by kernel_rfl) (fun _ _ _ h => h) (Or.inl ⟨by rfl, ?_⟩) hH6 ?_
          rotate_left
          · intro w' hSw
            go_simp
            try with_reducible rfl
          (try simp only [Act.put, List.setIfInBounds_toArray, List.set_cons_zero, List.set_cons_succ])
          refine wpAnyH_take (i := 15) (oi := { dst := some 49, op := Go.Op.binOp Go.BinOp.eql 9 (Go.Operand.tmp 37) (Go.Operand.tmp 48) 9, type := 4, pos := "law.go:37", after := #[{ on := 3, ground := Go.Ground.data }, { on := 14, ground := Go.Ground.data }, { on := 2, ground := Go.Ground.guard }], guard := some (2, true) }) (v := ?_) rfl (by kernel_rfl) (by kernel_rfl) (by kernel_rfl) (fun _ _ _ h => h) (Or.inl ⟨by rfl, ?_⟩) hH6 ?_
          rotate_left
          · intro w' hSw
            go_simp
            try with_reducible rfl
          (try simp only [Act.put, List.setIfInBounds_toArray, List.set_cons_zero, List.set_cons_succ])
          refine wpAnyH_take (i := 16) (oi := { dst := some 50, op := Go.Op.pick (Go.Operand.tmp 36) (Go.Operand.tmp 49) (Go.Operand.const (Go.Value.bool false)), type := 4, pos := "law.go:37", after := #[{ on := 2, ground := Go.Ground.data }, { on := 15, ground := Go.Ground.data }], guard := none }) (v := ?_) rfl (by kernel_rfl) (by kernel_rfl) (by kernel_rfl) (fun _ _ _ h => h) (Or.inl ⟨by rfl, ?_⟩) hH6 ?_
          rotate_left
          · intro w' hSw
            go_simp
            try with_reducible rfl
          (try simp only [Act.put, List.setIfInBounds_toArray, List.set_cons_zero, List.set_cons_succ])
          refine wpAnyH_take (i := 17) (oi := { dst := some 51, op := Go.Op.move (Go.Operand.tmp 50), type := 4, pos := "law.go:37", after := #[{ on := 16, ground := Go.Ground.data }, { on := 13, ground := Go.Ground.chain }], guard := none }) (v := ?_) rfl (by kernel_rfl) (by kernel_rfl) (by kernel_rfl) (fun _ _ _ h => h) (Or.inl ⟨by rfl, ?_⟩) hH6 ?_
          rotate_left
          · intro w' hSw
            go_simp
            try with_reducible rfl
          (try simp only [Act.put, List.setIfInBounds_toArray, List.set_cons_zero, List.set_cons_succ])
          refine wpAnyH_ready (rs := [18]) (by kernel_rfl) (by simp) ?_
          refine AllReadyH.cons (o := { dst := some 52, op := Go.Op.call { callee := Go.Callee.value (Go.Operand.func 12), args := #[], argTypes := #[] }, type := 4, pos := "law.go:37", after := #[{ on := 17, ground := Go.Ground.chain }, { on := 17, ground := Go.Ground.guard }], guard := some (17, true) }) rfl (fun K hK => ?_) ?_
          · go_simp
            go_at_call 12
            with_reducible refine (awake_calls _).mono ?_
            rintro e' v7 ⟨rfl, hC7⟩
            (try dsimp only)
            refine hK.out _ _ ?_ (fun hH7 => ?_)
            · exact below_step hH6 hC7
            clear hK K
            (try simp only [Act.put, List.setIfInBounds_toArray, List.set_cons_zero, List.set_cons_succ])
            refine wpAnyH_take (i := 19) (oi := { dst := some 53, op := Go.Op.pick (Go.Operand.tmp 51) (Go.Operand.tmp 52) (Go.Operand.const (Go.Value.bool false)), type := 4, pos := "law.go:37", after := #[{ on := 17, ground := Go.Ground.data }, { on := 18, ground := Go.Ground.data }], guard := none }) (v := ?_) rfl (by kernel_rfl) (by kernel_rfl) (by kernel_rfl) (fun _ _ _ h => h) (Or.inl ⟨by rfl, ?_⟩) hH7 ?_
            rotate_left
            · intro w' hSw
              go_simp
              try with_reducible rfl
            (try simp only [Act.put, List.setIfInBounds_toArray, List.set_cons_zero, List.set_cons_succ])
            refine wpAnyH_take (i := 20) (oi := { dst := some 2, op := Go.Op.assign (Go.Operand.tmp 53), type := 4, pos := "law.go:37", after := #[{ on := 19, ground := Go.Ground.data }, { on := 18, ground := Go.Ground.chain }, { on := 0, ground := Go.Ground.phase }, { on := 1, ground := Go.Ground.phase }, { on := 2, ground := Go.Ground.phase }, { on := 3, ground := Go.Ground.phase }, { on := 4, ground := Go.Ground.phase }, { on := 5, ground := Go.Ground.phase }, { on := 6, ground := Go.Ground.phase }, { on := 7, ground := Go.Ground.phase }, { on := 8, ground := Go.Ground.phase }, { on := 9, ground := Go.Ground.phase }, { on := 10, ground := Go.Ground.phase }, { on := 11, ground := Go.Ground.phase }, { on := 12, ground := Go.Ground.phase }, { on := 13, ground := Go.Ground.phase }, { on := 14, ground := Go.Ground.phase }, { on := 15, ground := Go.Ground.phase }, { on := 16, ground := Go.Ground.phase }, { on := 17, ground := Go.Ground.phase }, { on := 18, ground := Go.Ground.phase }, { on := 19, ground := Go.Ground.phase }], guard := none }) (v := ?_) rfl (by kernel_rfl) (by kernel_rfl) (by kernel_rfl) (fun _ _ _ h => h) (Or.inl ⟨by rfl, ?_⟩) hH7 ?_
            rotate_left
            · intro w' hSw
              go_simp
              try with_reducible rfl
            (try simp only [Act.put, List.setIfInBounds_toArray, List.set_cons_zero, List.set_cons_succ])
            refine wpAnyH_done (by kernel_rfl) ?_ _
            go_wp2
            go_ret
            exact ⟨rfl, hH7⟩
          exact AllReadyH.nil
        exact AllReadyH.nil
      exact AllReadyH.nil
    refine AllReadyH.cons (o := { dst := some 47, op := Go.Op.call { callee := Go.Callee.value (Go.Operand.func 13), args := #[Go.Operand.tmp 46], argTypes := #[9] }, type := 9, pos := "law.go:37", after := #[{ on := 12, ground := Go.Ground.data }, { on := 2, ground := Go.Ground.chain }, { on := 2, ground := Go.Ground.guard }], guard := some (2, true) }) rfl (fun K hK => ?_) ?_
    · go_simp
      go_at_call 13
      with_reducible refine (sum_Seal.calls 10 t Y _ HS.out).mono ?_
      rintro e' v8 ⟨rfl, hC8⟩
      (try have hcv2 := conv2_kept t.size HSZ.out HXX.out hC8)
      (try have hcv3 := conv2_kept t.size HSZ.out HXX.out (below_step (below_drew (Below.refl _ _)) hC8))
      (try dsimp only)
      refine hK.out _ _ ?_ (fun hH8 => ?_)
      · exact below_step hH0 hC8
      clear hK K
      (try simp only [Act.put, List.setIfInBounds_toArray, List.set_cons_zero, List.set_cons_succ])
      refine wpAnyH_ready (rs := [10]) (by kernel_rfl) (by simp) ?_
      refine AllReadyH.cons (o := { dst := some 44, op := Go.Op.buildSlice 31 2 #[(0, Go.Operand.tmp 40), (1, Go.Operand.tmp 43)], type := 31, pos := "law.go:37", after := #[{ on := 6, ground := Go.Ground.data }, { on := 9, ground := Go.Ground.data }, { on := 2, ground := Go.Ground.guard }], guard := some (2, true) }) rfl (fun K hK => ?_) ?_
      · go_simp
        refine hK.out _ _ ?_ (fun hH9 => ?_)
        · exact below_alloc hH8 _
        clear hK K
        (try simp only [Act.put, List.setIfInBounds_toArray, List.set_cons_zero, List.set_cons_succ])
        refine wpAnyH_ready (rs := [11]) (by kernel_rfl) (by simp) ?_
        refine AllReadyH.cons (o := { dst := some 45, op := Go.Op.convert 31 9 (Go.Operand.tmp 44), type := 9, pos := "law.go:37", after := #[{ on := 10, ground := Go.Ground.data }, { on := 2, ground := Go.Ground.guard }], guard := some (2, true) }) rfl (fun K hK => ?_) ?_
        · go_simp
          refine hK.out _ _ ?_ (fun hH10 => ?_)
          · exact hH9
          clear hK K
          (try simp only [Act.put, List.setIfInBounds_toArray, List.set_cons_zero, List.set_cons_succ])
          refine wpAnyH_take (i := 14) (oi := { dst := some 48, op := Go.Op.binOp Go.BinOp.add 9 (Go.Operand.tmp 45) (Go.Operand.tmp 47) 9, type := 9, pos := "law.go:37", after := #[{ on := 11, ground := Go.Ground.data }, { on := 13, ground := Go.Ground.data }, { on := 2, ground := Go.Ground.guard }], guard := some (2, true) }) (v := ?_) rfl (by kernel_rfl) (by kernel_rfl) (by kernel_rfl) (fun _ _ _ h => h) (Or.inl ⟨by rfl, ?_⟩) hH10 ?_
          rotate_left
          · intro w' hSw
            go_simp
            try with_reducible rfl
          (try simp only [Act.put, List.setIfInBounds_toArray, List.set_cons_zero, List.set_cons_succ])
          refine wpAnyH_take (i := 15) (oi := { dst := some 49, op := Go.Op.binOp Go.BinOp.eql 9 (Go.Operand.tmp 37) (Go.Operand.tmp 48) 9, type := 4, pos := "law.go:37", after := #[{ on := 3, ground := Go.Ground.data }, { on := 14, ground := Go.Ground.data }, { on := 2, ground := Go.Ground.guard }], guard := some (2, true) }) (v := ?_) rfl (by kernel_rfl) (by kernel_rfl) (by kernel_rfl) (fun _ _ _ h => h) (Or.inl ⟨by rfl, ?_⟩) hH10 ?_
          rotate_left
          · intro w' hSw
            go_simp
            try with_reducible rfl
          (try simp only [Act.put, List.setIfInBounds_toArray, List.set_cons_zero, List.set_cons_succ])
          refine wpAnyH_take (i := 16) (oi := { dst := some 50, op := Go.Op.pick (Go.Operand.tmp 36) (Go.Operand.tmp 49) (Go.Operand.const (Go.Value.bool false)), type := 4, pos := "law.go:37", after := #[{ on := 2, ground := Go.Ground.data }, { on := 15, ground := Go.Ground.data }], guard := none }) (v := ?_) rfl (by kernel_rfl) (by kernel_rfl) (by kernel_rfl) (fun _ _ _ h => h) (Or.inl ⟨by rfl, ?_⟩) hH10 ?_
          rotate_left
          · intro w' hSw
            go_simp
            try with_reducible rfl
          (try simp only [Act.put, List.setIfInBounds_toArray, List.set_cons_zero, List.set_cons_succ])
          refine wpAnyH_take (i := 17) (oi := { dst := some 51, op := Go.Op.move (Go.Operand.tmp 50), type := 4, pos := "law.go:37", after := #[{ on := 16, ground := Go.Ground.data }, { on := 13, ground := Go.Ground.chain }], guard := none }) (v := ?_) rfl (by kernel_rfl) (by kernel_rfl) (by kernel_rfl) (fun _ _ _ h => h) (Or.inl ⟨by rfl, ?_⟩) hH10 ?_
          rotate_left
          · intro w' hSw
            go_simp
            try with_reducible rfl
          (try simp only [Act.put, List.setIfInBounds_toArray, List.set_cons_zero, List.set_cons_succ])
          refine wpAnyH_ready (rs := [18]) (by kernel_rfl) (by simp) ?_
          refine AllReadyH.cons (o := { dst := some 52, op := Go.Op.call { callee := Go.Callee.value (Go.Operand.func 12), args := #[], argTypes := #[] }, type := 4, pos := "law.go:37", after := #[{ on := 17, ground := Go.Ground.chain }, { on := 17, ground := Go.Ground.guard }], guard := some (17, true) }) rfl (fun K hK => ?_) ?_
          · go_simp
            go_at_call 12
            with_reducible refine (awake_calls _).mono ?_
            rintro e' v11 ⟨rfl, hC11⟩
            (try dsimp only)
            refine hK.out _ _ ?_ (fun hH11 => ?_)
            · exact below_step hH10 hC11
            clear hK K
            (try simp only [Act.put, List.setIfInBounds_toArray, List.set_cons_zero, List.set_cons_succ])
            refine wpAnyH_take (i := 19) (oi := { dst := some 53, op := Go.Op.pick (Go.Operand.tmp 51) (Go.Operand.tmp 52) (Go.Operand.const (Go.Value.bool false)), type := 4, pos := "law.go:37", after := #[{ on := 17, ground := Go.Ground.data }, { on := 18, ground := Go.Ground.data }], guard := none }) (v := ?_) rfl (by kernel_rfl) (by kernel_rfl) (by kernel_rfl) (fun _ _ _ h => h) (Or.inl ⟨by rfl, ?_⟩) hH11 ?_
            rotate_left
            · intro w' hSw
              go_simp
              try with_reducible rfl
            (try simp only [Act.put, List.setIfInBounds_toArray, List.set_cons_zero, List.set_cons_succ])
            refine wpAnyH_take (i := 20) (oi := { dst := some 2, op := Go.Op.assign (Go.Operand.tmp 53), type := 4, pos := "law.go:37", after := #[{ on := 19, ground := Go.Ground.data }, { on := 18, ground := Go.Ground.chain }, { on := 0, ground := Go.Ground.phase }, { on := 1, ground := Go.Ground.phase }, { on := 2, ground := Go.Ground.phase }, { on := 3, ground := Go.Ground.phase }, { on := 4, ground := Go.Ground.phase }, { on := 5, ground := Go.Ground.phase }, { on := 6, ground := Go.Ground.phase }, { on := 7, ground := Go.Ground.phase }, { on := 8, ground := Go.Ground.phase }, { on := 9, ground := Go.Ground.phase }, { on := 10, ground := Go.Ground.phase }, { on := 11, ground := Go.Ground.phase }, { on := 12, ground := Go.Ground.phase }, { on := 13, ground := Go.Ground.phase }, { on := 14, ground := Go.Ground.phase }, { on := 15, ground := Go.Ground.phase }, { on := 16, ground := Go.Ground.phase }, { on := 17, ground := Go.Ground.phase }, { on := 18, ground := Go.Ground.phase }, { on := 19, ground := Go.Ground.phase }], guard := none }) (v := ?_) rfl (by kernel_rfl) (by kernel_rfl) (by kernel_rfl) (fun _ _ _ h => h) (Or.inl ⟨by rfl, ?_⟩) hH11 ?_
            rotate_left
            · intro w' hSw
              go_simp
              try with_reducible rfl
            (try simp only [Act.put, List.setIfInBounds_toArray, List.set_cons_zero, List.set_cons_succ])
            refine wpAnyH_done (by kernel_rfl) ?_ _
            go_wp2
            go_ret
            exact ⟨rfl, hH11⟩
          exact AllReadyH.nil
        exact AllReadyH.nil
      exact AllReadyH.nil
    exact AllReadyH.nil
  · rw [if_pos h0] at hfr
    have HFR := Lib.hid hfr
    have d1 : (e != 0) = true := by simpa using h0
    have d2 : (e == e) = true := by simp
    clear hfr h0
    go_enter Try.func3, Try.ntmps3
    go_wp2_with (first
      | (refine wpList_load_row rfl 25 _ rfl w.heap.size rfl 25 _ (0, 0) _ HX.out Try.underlying25 rfl (hinfo25 _) ?_)
      | (go_at_call 9; (with_reducible refine (HF.out _).mono ?_); rintro e' w1 ⟨rfl, hB1⟩; have HX1 := Lib.hid (blk_below HX.out hB1); have HB1 := Lib.hid (below_step (below_alloc (Below.refl _ _) _) hB1); have HX2 := Lib.hid (set_new (cs' := RV.cs ⟨kind, txn, prev, page, act, key, old, new_, next, ⟨iA, in_, ic⟩, ⟨tA, tn, tc⟩, epoch, node⟩) HX1.out); have HB2 := Lib.hid (setRow_below HB1.out (Nat.le_refl w.heap.size) (RV.cs ⟨kind, txn, prev, page, act, key, old, new_, next, ⟨iA, in_, ic⟩, ⟨tA, tn, tc⟩, epoch, node⟩)); clear hB1)
      | (refine wpList_store_row rfl 25 _ _ rfl w.heap.size (RV.cs ⟨kind, txn, prev, page, act, key, old, new_, next, ⟨iA, in_, ic⟩, ⟨tA, tn, tc⟩, epoch, node⟩) rfl rfl 25 _ HX1.out (hinfo25 _) rfl (rv_one _) ?_)
      | (refine wpList_load_row rfl 25 _ rfl w.heap.size rfl 25 #[.int .i64 kind, .int .i64 txn, .int .i64 prev, .int .i64 page, .int .i64 act, .string key, .string old, .string new_, .int .i64 next, .slice iA in_ ic, .slice tA tn tc, .int .i64 epoch, .int .i64 node] (0, 0) _ HX2.out Try.underlying25 rfl (hinfo25 ⟨kind, txn, prev, page, act, key, old, new_, next, ⟨iA, in_, ic⟩, ⟨tA, tn, tc⟩, epoch, node⟩) ?_)
      | (go_at_call 10; (with_reducible refine (frame_lit kind txn prev page act key old new_ next iA in_ ic tA tn tc epoch node l1 l2 _ HFR.out _ (HR.out.below HB2.out) HL1.out HL2.out).mono ?_); rintro e' w3 ⟨rfl, hB3⟩; have HX3 := Lib.hid (blk_below HX2.out hB3); have HB3 := Lib.hid (below_step HB2.out hB3); clear hB3)
      | (refine wpList_load_row rfl 25 _ rfl w.heap.size rfl 25 #[.int .i64 kind, .int .i64 txn, .int .i64 prev, .int .i64 page, .int .i64 act, .string key, .string old, .string new_, .int .i64 next, .slice iA in_ ic, .slice tA tn tc, .int .i64 epoch, .int .i64 node] (0, 0) _ HX3.out Try.underlying25 rfl (hinfo25 ⟨kind, txn, prev, page, act, key, old, new_, next, ⟨iA, in_, ic⟩, ⟨tA, tn, tc⟩, epoch, node⟩) ?_)
      | (go_at_call 11; (with_reducible refine (refbody_lit kind txn prev page act key old new_ next iA in_ ic tA tn tc epoch node l1 l2 _ HG.out _ (HR.out.below HB3.out) HL1.out HL2.out).mono ?_); rintro e' w4 ⟨rfl, hB4⟩; have HB4 := Lib.hid (below_step HB3.out hB4); clear hB4)
      | (go_at_call 12; (with_reducible refine (awake_calls _).mono ?_); rintro e' w5 ⟨rfl, hB5⟩; have HB5 := Lib.hid (below_step HB4.out hB5); clear hB5))
    go_ret
    exact ⟨rfl, HB5.out⟩
end Go.Proofs.Ytdphikbkknkhiaa.PAll
