/- rec.Of, walked by hand: any bytes. -/
import Derived.Test.YtdphikbkknkhiaaRecRead
import Derived.Test.YtdphikbkknkhiaaRecReadF
import Derived.Test.YtdphikbkknkhiaaRecSame
import Derived.Lib.Strings
namespace Go.Proofs.Ytdphikbkknkhiaa.PAll
open Go.RowKit Go.Proofs.Ytdphikbkknkhiaa.Pure Go.Proofs.YtdphikbkknkhiaaW.PrintWords Go.Proofs.YtdphikbkknkhiaaW.PrintLast Go.Proofs.YtdphikbkknkhiaaW.PrintMore
set_option linter.unusedVariables false
set_option linter.unusedSimpArgs false

/-- Which record bytes are, or why they are none. -/
def ofP (s : ByteArray) : Got :=
  if (numS s 0 0 1).2.2 ≠ 0 then ⟨zeroR 0, [], [], 0, (numS s 0 0 1).2.2⟩
  else if endS s (readF s (numS s 0 0 1).1 (numS s 0 0 1).2.1).a (readF s (numS s 0 0 1).1 (numS s 0 0 1).2.1).e ≠ 0 then ⟨zeroR 0, [], [], 0, endS s (readF s (numS s 0 0 1).1 (numS s 0 0 1).2.1).a (readF s (numS s 0 0 1).1 (numS s 0 0 1).2.1).e⟩
  else if (bodyP (readF s (numS s 0 0 1).1 (numS s 0 0 1).2.1).q (readF s (numS s 0 0 1).1 (numS s 0 0 1).2.1).li (readF s (numS s 0 0 1).1 (numS s 0 0 1).2.1).lt).2 ≠ 0 ∨ (bodyP (readF s (numS s 0 0 1).1 (numS s 0 0 1).2.1).q (readF s (numS s 0 0 1).1 (numS s 0 0 1).2.1).li (readF s (numS s 0 0 1).1 (numS s 0 0 1).2.1).lt).1 ≠ s then ⟨zeroR 0, [], [], 0, 4⟩
  else ⟨(readF s (numS s 0 0 1).1 (numS s 0 0 1).2.1).q, (readF s (numS s 0 0 1).1 (numS s 0 0 1).2.1).li, (readF s (numS s 0 0 1).1 (numS s 0 0 1).2.1).lt, 0, 0⟩
theorem ofP_err (s : ByteArray) (k a e : Int) (h : numS s 0 0 1 = (k, a, e)) (he : e ≠ 0) : ofP s = ⟨zeroR 0, [], [], 0, e⟩ := by
  unfold ofP; rw [h]; rw [if_pos he]
theorem ofP_end (s : ByteArray) (k a : Int) (h : numS s 0 0 1 = (k, a, 0)) (he : endS s (readF s k a).a (readF s k a).e ≠ 0) : ofP s = ⟨zeroR 0, [], [], 0, endS s (readF s k a).a (readF s k a).e⟩ := by
  unfold ofP; rw [h]; rw [if_neg (fun c => c rfl), if_pos he]
theorem ofP_not (s : ByteArray) (k a : Int) (h : numS s 0 0 1 = (k, a, 0)) (he : endS s (readF s k a).a (readF s k a).e = 0) (hb : (bodyP (readF s k a).q (readF s k a).li (readF s k a).lt).2 ≠ 0 ∨ (bodyP (readF s k a).q (readF s k a).li (readF s k a).lt).1 ≠ s) : ofP s = ⟨zeroR 0, [], [], 0, 4⟩ := by
  unfold ofP; rw [h]; rw [if_neg (fun c => c rfl), if_neg (fun c => c he), if_pos hb]
theorem ofP_ok (s : ByteArray) (k a : Int) (h : numS s 0 0 1 = (k, a, 0)) (he : endS s (readF s k a).a (readF s k a).e = 0) (hb : ¬ ((bodyP (readF s k a).q (readF s k a).li (readF s k a).lt).2 ≠ 0 ∨ (bodyP (readF s k a).q (readF s k a).li (readF s k a).lt).1 ≠ s)) : ofP s = ⟨(readF s k a).q, (readF s k a).li, (readF s k a).lt, 0, 0⟩ := by
  unfold ofP; rw [h]; rw [if_neg (fun c => c rfl), if_neg (fun c => c he), if_neg hb]
theorem bodyP_same {a b : RV} (h : SameV a b) (li : List S36) (lt : List S55) : bodyP a li lt = bodyP b li lt := by
  have e1 : aheadE a li = aheadE b li := by unfold aheadE; rw [h.kind, h.act, h.key, h.old, h.new_]
  have e2 : recL a li lt = recL b li lt := by unfold recL; rw [h.kind, h.act, h.key, h.old, h.new_, h.txn, h.prev, h.next, h.page, h.epoch, h.node]
  unfold bodyP
  rw [e1, e2]
/-- What rec.Of hands back. -/
def OfOut (w w' : World) (x : Ending) (g : Got) : Prop := ∃ q : RV, x = .returned (.tuple #[.agg q.cs, .int .i64 g.e]) ∧ SameV q g.q ∧ (Kd.R k36 36 w' w.heap.size (fun _ => True) q.images.v g.li ∧ Kd.R k55 55 w' w.heap.size (fun _ => True) q.table.v g.lt) ∧ Below w.heap.size w w'
/-- The record's block and its rows, as they have been read. -/
structure QR (wb w : World) (g gr : Nat) (s : ByteArray) (q : RV) (x : Got) : Prop where
  rd : RD wb w g s x.a x.e
  rec_ : w.heap[gr]? = some (.cells q.cs 25 (0, 0))
  ri : Kd.R k36 36 w wb.heap.size (fun _ => True) q.images.v x.li
  rt : Kd.R k55 55 w wb.heap.size (fun _ => True) q.table.v x.lt
  sv : SameV q x.q
  li : x.li.length ≤ 300
  lt : x.lt.length ≤ 300
theorem R36_keep {wb w w' : World} {g : Nat} {s : ByteArray} {a e : Int} {b : Nat} {v : Value} {l : List S36} (h : Kd.R k36 36 w b (fun _ => True) v l) (hr : RD wb w g s a e) (hk : KeepBut w w' g none) : Kd.R k36 36 w' b (fun _ => True) v l :=
  Kd.R_mono (Kd.R_keep (IsS81.apart hr.i h (by decide)) hk (fun _ h => h.2)) (fun _ h => h.1)
theorem R55_keep {wb w w' : World} {g : Nat} {s : ByteArray} {a e : Int} {b : Nat} {v : Value} {l : List S55} (h : Kd.R k55 55 w b (fun _ => True) v l) (hr : RD wb w g s a e) (hk : KeepBut w w' g none) : Kd.R k55 55 w' b (fun _ => True) v l :=
  Kd.R_mono (Kd.R_keep (IsS81.apart hr.i h (by decide)) hk (fun _ h => h.2)) (fun _ h => h.1)
theorem keep_row (w : World) (g : Nat) (cs : Array Value) : KeepBut w (w.setRow g cs) g none :=
  ⟨by simp [World.setRow], fun i hi hne _ => by
    simp only [World.setRow, Array.getElem?_modify]
    rw [if_neg (fun c => hne c.symm)]⟩
theorem R36_row {w : World} {b : Nat} {v : Value} {l : List S36} (h : Kd.R k36 36 w b (fun _ => True) v l) {g : Nat} {cs cs' : Array Value} (hb : w.heap[g]? = some (.cells cs 25 (0, 0))) : Kd.R k36 36 (w.setRow g cs') b (fun _ => True) v l :=
  Kd.R_mono (Kd.R_keep (Kd.R_types h hb (by decide)) (keep_row w g cs') (fun _ h => h.2)) (fun _ h => h.1)
theorem R55_row {w : World} {b : Nat} {v : Value} {l : List S55} (h : Kd.R k55 55 w b (fun _ => True) v l) {g : Nat} {cs cs' : Array Value} (hb : w.heap[g]? = some (.cells cs 25 (0, 0))) : Kd.R k55 55 (w.setRow g cs') b (fun _ => True) v l :=
  Kd.R_mono (Kd.R_keep (Kd.R_types h hb (by decide)) (keep_row w g cs') (fun _ h => h.2)) (fun _ h => h.1)
theorem RRow.of {w : World} {b : Nat} {q : RV} {li : List S36} {lt : List S55} (hi : Kd.R k36 36 w b (fun _ => True) q.images.v li) (ht : Kd.R k55 55 w b (fun _ => True) q.table.v lt) : RRow w q li lt := by
  obtain ⟨h1, h2, h3⟩ := Kd.R_reads' (show Kd.R k36 36 w b (fun _ => True) (.slice q.images.A q.images.n q.images.c) li from hi)
  obtain ⟨h4, h5, h6⟩ := Kd.R_reads' (show Kd.R k55 55 w b (fun _ => True) (.slice q.table.A q.table.n q.table.c) lt from ht)
  exact ⟨h3, h1, by omega, h6, h4, by omega⟩
theorem RRow.zero (w : World) : RRow w (zeroR 0) [] [] := ⟨Kd.C_nil k36 w, rfl, Nat.le_refl _, Kd.C_nil k55 w, rfl, Nat.le_refl _⟩

set_option maxHeartbeats 8000000 in
set_option maxRecDepth 10000 in
theorem of_walk (s : ByteArray) (hs : s.size ≤ 1152921504606846976) (w : World) : Calls Try.prog 32 #[.string s] w fun x w' => OfOut w w' x (ofP s) := by
  have hu25 := Try.underlying25
  obtain ⟨k, a1, e1, hk⟩ : ∃ k a1 e1, numS s 0 0 1 = (k, a1, e1) := ⟨_, _, _, rfl⟩
  obtain ⟨wb, hwb⟩ : ∃ wb, w.alloc (.cells #[.int .i64 0, .int .i64 0, .int .i64 0, .int .i64 0, .int .i64 0, .string ⟨#[]⟩, .string ⟨#[]⟩, .string ⟨#[]⟩, .int .i64 0, .slice none 0 0, .slice none 0 0, .int .i64 0, .int .i64 0] 25) = wb := ⟨_, rfl⟩
  have hXz : wb.heap[w.heap.size]? = some (.cells #[.int .i64 0, .int .i64 0, .int .i64 0, .int .i64 0, .int .i64 0, .string ⟨#[]⟩, .string ⟨#[]⟩, .string ⟨#[]⟩, .int .i64 0, .slice none 0 0, .slice none 0 0, .int .i64 0, .int .i64 0] 25 (0, 0)) := hwb ▸ heap_alloc_new w _
  have hBb : Below w.heap.size w wb := hwb ▸ below_alloc (Below.refl _ _) _
  have HS := Lib.hid (show RInv s 0 from ⟨Int.le_refl _, by omega, hs⟩)
  have HK := Lib.hid hk
  have HXZ := Lib.hid hXz
  have HBB := Lib.hid hBb
  have HWB := Lib.hid hwb
  clear hXz hBb hk hwb hs
  by_cases h0 : e1 = 0
  · subst h0
    obtain ⟨G, hG⟩ : ∃ G, readF s k a1 = G := ⟨_, rfl⟩
    have HG := Lib.hid hG
    clear hG
    go_enter Try.func32, Try.ntmps32
    go_upto_block 0 with (first
      | (go_at_call 29; (with_reducible refine (pack_Read.calls s s 0 0 (w.alloc (.cells #[.int .i64 0, .int .i64 0, .int .i64 0, .int .i64 0, .int .i64 0, .string ⟨#[]⟩, .string ⟨#[]⟩, .string ⟨#[]⟩, .int .i64 0, .slice none 0 0, .slice none 0 0, .int .i64 0, .int .i64 0] 25)) _ (Below.refl _ _) (by unfold pack_Read.f; rfl)).mono ?_); rintro e' w1 ⟨g, rfl, hI1, hB1, _⟩; rw [HWB.out] at hI1 hB1; have HR1 := Lib.hid (show RD wb w1 g s 0 0 from ⟨hI1, hB1, HS.out⟩); clear hI1 hB1)
      | (go_at_call 30; (with_reducible refine (rd_num HR1.out 1 HK.out).mono ?_); rintro e' w2 ⟨rfl, hR2, hK2⟩; have HR2 := Lib.hid (hR2.alloc (.cells #[.int .i64 k, .int .i64 0, .int .i64 0, .int .i64 0, .int .i64 0, .string ⟨#[]⟩, .string ⟨#[]⟩, .string ⟨#[]⟩, .int .i64 0, .slice none 0 0, .slice none 0 0, .int .i64 0, .int .i64 0] 25)); have HX2 := Lib.hid (heap_alloc_new w2 (.cells #[.int .i64 k, .int .i64 0, .int .i64 0, .int .i64 0, .int .i64 0, .string ⟨#[]⟩, .string ⟨#[]⟩, .string ⟨#[]⟩, .int .i64 0, .slice none 0 0, .slice none 0 0, .int .i64 0, .int .i64 0] 25)); have HGE := Lib.hid hR2.b.size; clear hR2 hK2)
      | (go_at_call 47; (with_reducible refine (rd_err HR2.out).mono ?_); rintro e' w3 ⟨rfl, hR3, hK3⟩; have x3 := RD.kept (a' := 0) (e' := 0) HR2.out hK3 HX2.out; have x3c0 : w3.cell? ⟨w2.heap.size, 0, none⟩ = some (.int .i64 k) := (blk_cell x3 0).trans rfl; have HX3 := Lib.hid x3; have HR3 := Lib.hid hR3; clear hR3 hK3 x3))
    go_cut [] (fun wc => ∃ q, QR wb wc g w2.heap.size s q G)
    case first =>
      by_cases k1 : k = 1
      · subst k1
        have x3 := HX3.out
        clear x3
        obtain ⟨l4, b4, f4, h4, hv4, hl4⟩ := imgs_some HR3.out.v 0
        obtain rfl : G = ⟨zeroR 1, l4, [], b4, f4⟩ := by
          rw [← HG.out]
          unfold readF
          simp [h4]
        have HF4 := Lib.hid h4
        have HV4 := Lib.hid hv4
        have HL4 := Lib.hid hl4
        clear h4 hv4 hl4
        go_wp2_with (first
          | (go_at_call 48; (with_reducible refine (rec_readImages.calls 300 g s a1 0 l4 s b4 f4 wb w3 HR3.out.i HR3.out.b HF4.out).mono ?_); rintro e' w4 ⟨v4, rfl, hR4, hI4, hB4, hK4⟩; obtain ⟨A4, c4, rfl⟩ := Kd.R_slice hR4; have x4 := RD.kept (a' := 0) (e' := 0) HR3.out hK4 HX3.out; have zf := blk_frozen x4 9; have zc : w4.cell? ⟨w2.heap.size, 9, none⟩ = some (.slice none 0 0) := (blk_cell x4 9).trans rfl; have HX4 := Lib.hid x4; have HRR4 := Lib.hid (Kd.R_lower hR4 HR3.out.b.size); have HR4 := Lib.hid (show RD wb w4 g s b4 f4 from ⟨hI4, hB4, HV4.out⟩); clear hR4 hI4 hB4 hK4 x4))
        go_meet
        case rel => exact ⟨(⟨1, 0, 0, 0, 0, ⟨#[]⟩, ⟨#[]⟩, ⟨#[]⟩, 0, ⟨A4, l4.length, c4⟩, nilS, 0, 0⟩ : RV), RD.set HR4.out HX4.out HGE.out 9 _, blk_put HX4.out 9 _ rfl, Kd.R_set HRR4.out HX4.out (by decide) 9 _, Kd.R_nil _ _ _ _ _, ⟨rfl, rfl, rfl, rfl, rfl, rfl, rfl, rfl, rfl, rfl, rfl⟩, HL4.out, by simp⟩
      by_cases k2 : k = 2
      · subst k2
        have x3 := HX3.out
        clear x3
        obtain ⟨l4, b4, f4, h4, hv4, hl4⟩ := imgs_some HR3.out.v 0
        obtain rfl : G = ⟨zeroR 2, l4, [], b4, f4⟩ := by
          rw [← HG.out]
          unfold readF
          simp [h4]
        have HF4 := Lib.hid h4
        have HV4 := Lib.hid hv4
        have HL4 := Lib.hid hl4
        clear h4 hv4 hl4
        go_wp2_with (first
          | (go_at_call 48; (with_reducible refine (rec_readImages.calls 300 g s a1 0 l4 s b4 f4 wb w3 HR3.out.i HR3.out.b HF4.out).mono ?_); rintro e' w4 ⟨v4, rfl, hR4, hI4, hB4, hK4⟩; obtain ⟨A4, c4, rfl⟩ := Kd.R_slice hR4; have x4 := RD.kept (a' := 0) (e' := 0) HR3.out hK4 HX3.out; have zf := blk_frozen x4 9; have zc : w4.cell? ⟨w2.heap.size, 9, none⟩ = some (.slice none 0 0) := (blk_cell x4 9).trans rfl; have HX4 := Lib.hid x4; have HRR4 := Lib.hid (Kd.R_lower hR4 HR3.out.b.size); have HR4 := Lib.hid (show RD wb w4 g s b4 f4 from ⟨hI4, hB4, HV4.out⟩); clear hR4 hI4 hB4 hK4 x4))
        go_meet
        case rel => exact ⟨(⟨2, 0, 0, 0, 0, ⟨#[]⟩, ⟨#[]⟩, ⟨#[]⟩, 0, ⟨A4, l4.length, c4⟩, nilS, 0, 0⟩ : RV), RD.set HR4.out HX4.out HGE.out 9 _, blk_put HX4.out 9 _ rfl, Kd.R_set HRR4.out HX4.out (by decide) 9 _, Kd.R_nil _ _ _ _ _, ⟨rfl, rfl, rfl, rfl, rfl, rfl, rfl, rfl, rfl, rfl, rfl⟩, HL4.out, by simp⟩
      by_cases k3 : k = 3
      · subst k3
        have x3 := HX3.out
        clear x3
        obtain ⟨n1, o1, f1, h1⟩ : ∃ n o f, numS s a1 0 6 = (n, o, f) := ⟨_, _, _, rfl⟩
        obtain ⟨n2, o2, f2, h2⟩ : ∃ n o f, numS s o1 f1 6 = (n, o, f) := ⟨_, _, _, rfl⟩
        obtain ⟨n3, o3, f3, h3⟩ : ∃ n o f, numS s o2 f2 2 = (n, o, f) := ⟨_, _, _, rfl⟩
        obtain ⟨n4, o4, f4, h4⟩ : ∃ n o f, textS s o3 f3 16 = (n, o, f) := ⟨_, _, _, rfl⟩
        obtain ⟨n5, o5, f5, h5⟩ : ∃ n o f, textS s o4 f4 32 = (n, o, f) := ⟨_, _, _, rfl⟩
        obtain rfl : G = ⟨(⟨3, n1, n2, n3, 0, n4, ⟨#[]⟩, n5, 0, nilS, nilS, 0, 0⟩ : RV), [], [], o5, f5⟩ := by
          rw [← HG.out]
          unfold readF chgS
          simp [h1, h2, h3, h4, h5, zeroR]
        have H1 := Lib.hid h1
        have H2 := Lib.hid h2
        have H3 := Lib.hid h3
        have H4 := Lib.hid h4
        have H5 := Lib.hid h5
        clear h1 h2 h3 h4 h5
        go_wp2_with (first
          | (go_at_call 49; (with_reducible refine (rdchg_3 3 n1 n2 0 0 ⟨#[]⟩ ⟨#[]⟩ ⟨#[]⟩ 0 none 0 0 none 0 0 0 0 3 HRS.out w2.heap.size HGE.out HYS.out rfl H3.out H4.out H5.out).mono ?_); rintro e' w9 ⟨rfl, hR9, hX9⟩; have HR9 := Lib.hid hR9; have HX9 := Lib.hid hX9; clear hR9 hX9)
          | (go_at_call 30; (with_reducible refine (rd_num HR4.out 6 H2.out).mono ?_); rintro e' w5 ⟨rfl, hR5, hK5⟩; have x5 := RD.kept (a' := 0) (e' := 0) HR4.out hK5 HX4.out; have HX5 := Lib.hid x5; have HR5 := Lib.hid hR5; have zf1 := blk_frozen x5 1; have zc1 : w5.cell? ⟨w2.heap.size, 1, none⟩ = some (.int .i64 0) := (blk_cell x5 1).trans rfl; have zf2 := blk_frozen x5 2; have zc2 : w5.cell? ⟨w2.heap.size, 2, none⟩ = some (.int .i64 0) := (blk_cell x5 2).trans rfl; have y0 : (w5.setCell ⟨w2.heap.size, 1, none⟩ (.int .i64 n1)).heap[w2.heap.size]? = some (.cells #[.int .i64 3, .int .i64 n1, .int .i64 0, .int .i64 0, .int .i64 0, .string ⟨#[]⟩, .string ⟨#[]⟩, .string ⟨#[]⟩, .int .i64 0, .slice none 0 0, .slice none 0 0, .int .i64 0, .int .i64 0] 25 (0, 0)) := blk_put x5 1 _ rfl; have r0 := RD.set hR5 x5 HGE.out 1 (.int .i64 n1); have y1 : ((w5.setCell ⟨w2.heap.size, 1, none⟩ (.int .i64 n1)).setCell ⟨w2.heap.size, 2, none⟩ (.int .i64 n2)).heap[w2.heap.size]? = some (.cells #[.int .i64 3, .int .i64 n1, .int .i64 n2, .int .i64 0, .int .i64 0, .string ⟨#[]⟩, .string ⟨#[]⟩, .string ⟨#[]⟩, .int .i64 0, .slice none 0 0, .slice none 0 0, .int .i64 0, .int .i64 0] 25 (0, 0)) := blk_put y0 2 _ rfl; have r1 := RD.set r0 y0 HGE.out 2 (.int .i64 n2); have HYS := Lib.hid y1; have HRS := Lib.hid r1; have yc0 : ((w5.setCell ⟨w2.heap.size, 1, none⟩ (.int .i64 n1)).setCell ⟨w2.heap.size, 2, none⟩ (.int .i64 n2)).cell? ⟨w2.heap.size, 0, none⟩ = some (.int .i64 3) := (blk_cell y1 0).trans rfl; have yc4 : ((w5.setCell ⟨w2.heap.size, 1, none⟩ (.int .i64 n1)).setCell ⟨w2.heap.size, 2, none⟩ (.int .i64 n2)).cell? ⟨w2.heap.size, 4, none⟩ = some (.int .i64 0) := (blk_cell y1 4).trans rfl; clear y0 r0 y1 r1; clear x5 hR5 hK5)
          | (go_at_call 30; (with_reducible refine (rd_num HR3.out 6 H1.out).mono ?_); rintro e' w4 ⟨rfl, hR4, hK4⟩; have x4 := RD.kept (a' := 0) (e' := 0) HR3.out hK4 HX3.out; have HX4 := Lib.hid x4; have HR4 := Lib.hid hR4; clear x4 hR4 hK4))
        go_meet
        case rel => exact ⟨(⟨3, n1, n2, n3, 0, n4, ⟨#[]⟩, n5, 0, nilS, nilS, 0, 0⟩ : RV), HR9.out, HX9.out, Kd.R_nil _ _ _ _ _, Kd.R_nil _ _ _ _ _, SameV.refl _, by simp, by simp⟩
      by_cases k4 : k = 4
      · subst k4
        have x3 := HX3.out
        clear x3
        obtain ⟨n1, o1, f1, h1⟩ : ∃ n o f, numS s a1 0 6 = (n, o, f) := ⟨_, _, _, rfl⟩
        obtain ⟨n2, o2, f2, h2⟩ : ∃ n o f, numS s o1 f1 6 = (n, o, f) := ⟨_, _, _, rfl⟩
        obtain ⟨n3, o3, f3, h3⟩ : ∃ n o f, numS s o2 f2 2 = (n, o, f) := ⟨_, _, _, rfl⟩
        obtain ⟨n4, o4, f4, h4⟩ : ∃ n o f, textS s o3 f3 16 = (n, o, f) := ⟨_, _, _, rfl⟩
        obtain ⟨n5, o5, f5, h5⟩ : ∃ n o f, textS s o4 f4 32 = (n, o, f) := ⟨_, _, _, rfl⟩
        obtain rfl : G = ⟨(⟨4, n1, n2, n3, 0, n4, n5, ⟨#[]⟩, 0, nilS, nilS, 0, 0⟩ : RV), [], [], o5, f5⟩ := by
          rw [← HG.out]
          unfold readF chgS
          simp [h1, h2, h3, h4, h5, zeroR]
        have H1 := Lib.hid h1
        have H2 := Lib.hid h2
        have H3 := Lib.hid h3
        have H4 := Lib.hid h4
        have H5 := Lib.hid h5
        clear h1 h2 h3 h4 h5
        go_wp2_with (first
          | (go_at_call 49; (with_reducible refine (rdchg_4 4 n1 n2 0 0 ⟨#[]⟩ ⟨#[]⟩ ⟨#[]⟩ 0 none 0 0 none 0 0 0 0 4 HRS.out w2.heap.size HGE.out HYS.out rfl H3.out H4.out H5.out).mono ?_); rintro e' w9 ⟨rfl, hR9, hX9⟩; have HR9 := Lib.hid hR9; have HX9 := Lib.hid hX9; clear hR9 hX9)
          | (go_at_call 30; (with_reducible refine (rd_num HR4.out 6 H2.out).mono ?_); rintro e' w5 ⟨rfl, hR5, hK5⟩; have x5 := RD.kept (a' := 0) (e' := 0) HR4.out hK5 HX4.out; have HX5 := Lib.hid x5; have HR5 := Lib.hid hR5; have zf1 := blk_frozen x5 1; have zc1 : w5.cell? ⟨w2.heap.size, 1, none⟩ = some (.int .i64 0) := (blk_cell x5 1).trans rfl; have zf2 := blk_frozen x5 2; have zc2 : w5.cell? ⟨w2.heap.size, 2, none⟩ = some (.int .i64 0) := (blk_cell x5 2).trans rfl; have y0 : (w5.setCell ⟨w2.heap.size, 1, none⟩ (.int .i64 n1)).heap[w2.heap.size]? = some (.cells #[.int .i64 4, .int .i64 n1, .int .i64 0, .int .i64 0, .int .i64 0, .string ⟨#[]⟩, .string ⟨#[]⟩, .string ⟨#[]⟩, .int .i64 0, .slice none 0 0, .slice none 0 0, .int .i64 0, .int .i64 0] 25 (0, 0)) := blk_put x5 1 _ rfl; have r0 := RD.set hR5 x5 HGE.out 1 (.int .i64 n1); have y1 : ((w5.setCell ⟨w2.heap.size, 1, none⟩ (.int .i64 n1)).setCell ⟨w2.heap.size, 2, none⟩ (.int .i64 n2)).heap[w2.heap.size]? = some (.cells #[.int .i64 4, .int .i64 n1, .int .i64 n2, .int .i64 0, .int .i64 0, .string ⟨#[]⟩, .string ⟨#[]⟩, .string ⟨#[]⟩, .int .i64 0, .slice none 0 0, .slice none 0 0, .int .i64 0, .int .i64 0] 25 (0, 0)) := blk_put y0 2 _ rfl; have r1 := RD.set r0 y0 HGE.out 2 (.int .i64 n2); have HYS := Lib.hid y1; have HRS := Lib.hid r1; have yc0 : ((w5.setCell ⟨w2.heap.size, 1, none⟩ (.int .i64 n1)).setCell ⟨w2.heap.size, 2, none⟩ (.int .i64 n2)).cell? ⟨w2.heap.size, 0, none⟩ = some (.int .i64 4) := (blk_cell y1 0).trans rfl; have yc4 : ((w5.setCell ⟨w2.heap.size, 1, none⟩ (.int .i64 n1)).setCell ⟨w2.heap.size, 2, none⟩ (.int .i64 n2)).cell? ⟨w2.heap.size, 4, none⟩ = some (.int .i64 0) := (blk_cell y1 4).trans rfl; clear y0 r0 y1 r1; clear x5 hR5 hK5)
          | (go_at_call 30; (with_reducible refine (rd_num HR3.out 6 H1.out).mono ?_); rintro e' w4 ⟨rfl, hR4, hK4⟩; have x4 := RD.kept (a' := 0) (e' := 0) HR3.out hK4 HX3.out; have HX4 := Lib.hid x4; have HR4 := Lib.hid hR4; clear x4 hR4 hK4))
        go_meet
        case rel => exact ⟨(⟨4, n1, n2, n3, 0, n4, n5, ⟨#[]⟩, 0, nilS, nilS, 0, 0⟩ : RV), HR9.out, HX9.out, Kd.R_nil _ _ _ _ _, Kd.R_nil _ _ _ _ _, SameV.refl _, by simp, by simp⟩
      by_cases k5 : k = 5
      · subst k5
        have x3 := HX3.out
        clear x3
        obtain ⟨n1, o1, f1, h1⟩ : ∃ n o f, numS s a1 0 6 = (n, o, f) := ⟨_, _, _, rfl⟩
        obtain ⟨n2, o2, f2, h2⟩ : ∃ n o f, numS s o1 f1 6 = (n, o, f) := ⟨_, _, _, rfl⟩
        obtain ⟨n3, o3, f3, h3⟩ : ∃ n o f, numS s o2 f2 2 = (n, o, f) := ⟨_, _, _, rfl⟩
        obtain ⟨n4, o4, f4, h4⟩ : ∃ n o f, textS s o3 f3 16 = (n, o, f) := ⟨_, _, _, rfl⟩
        obtain ⟨n5, o5, f5, h5⟩ : ∃ n o f, textS s o4 f4 32 = (n, o, f) := ⟨_, _, _, rfl⟩
        obtain ⟨n6, o6, f6, h6⟩ : ∃ n o f, textS s o5 f5 32 = (n, o, f) := ⟨_, _, _, rfl⟩
        obtain rfl : G = ⟨(⟨5, n1, n2, n3, 0, n4, n5, n6, 0, nilS, nilS, 0, 0⟩ : RV), [], [], o6, f6⟩ := by
          rw [← HG.out]
          unfold readF chgS
          simp [h1, h2, h3, h4, h5, h6, zeroR]
        have H1 := Lib.hid h1
        have H2 := Lib.hid h2
        have H3 := Lib.hid h3
        have H4 := Lib.hid h4
        have H5 := Lib.hid h5
        have H6 := Lib.hid h6
        clear h1 h2 h3 h4 h5 h6
        go_wp2_with (first
          | (go_at_call 49; (with_reducible refine (rdchg_5 5 n1 n2 0 0 ⟨#[]⟩ ⟨#[]⟩ ⟨#[]⟩ 0 none 0 0 none 0 0 0 0 5 HRS.out w2.heap.size HGE.out HYS.out (by omega) (by omega) H3.out H4.out H5.out H6.out).mono ?_); rintro e' w9 ⟨rfl, hR9, hX9⟩; have HR9 := Lib.hid hR9; have HX9 := Lib.hid hX9; clear hR9 hX9)
          | (go_at_call 30; (with_reducible refine (rd_num HR4.out 6 H2.out).mono ?_); rintro e' w5 ⟨rfl, hR5, hK5⟩; have x5 := RD.kept (a' := 0) (e' := 0) HR4.out hK5 HX4.out; have HX5 := Lib.hid x5; have HR5 := Lib.hid hR5; have zf1 := blk_frozen x5 1; have zc1 : w5.cell? ⟨w2.heap.size, 1, none⟩ = some (.int .i64 0) := (blk_cell x5 1).trans rfl; have zf2 := blk_frozen x5 2; have zc2 : w5.cell? ⟨w2.heap.size, 2, none⟩ = some (.int .i64 0) := (blk_cell x5 2).trans rfl; have y0 : (w5.setCell ⟨w2.heap.size, 1, none⟩ (.int .i64 n1)).heap[w2.heap.size]? = some (.cells #[.int .i64 5, .int .i64 n1, .int .i64 0, .int .i64 0, .int .i64 0, .string ⟨#[]⟩, .string ⟨#[]⟩, .string ⟨#[]⟩, .int .i64 0, .slice none 0 0, .slice none 0 0, .int .i64 0, .int .i64 0] 25 (0, 0)) := blk_put x5 1 _ rfl; have r0 := RD.set hR5 x5 HGE.out 1 (.int .i64 n1); have y1 : ((w5.setCell ⟨w2.heap.size, 1, none⟩ (.int .i64 n1)).setCell ⟨w2.heap.size, 2, none⟩ (.int .i64 n2)).heap[w2.heap.size]? = some (.cells #[.int .i64 5, .int .i64 n1, .int .i64 n2, .int .i64 0, .int .i64 0, .string ⟨#[]⟩, .string ⟨#[]⟩, .string ⟨#[]⟩, .int .i64 0, .slice none 0 0, .slice none 0 0, .int .i64 0, .int .i64 0] 25 (0, 0)) := blk_put y0 2 _ rfl; have r1 := RD.set r0 y0 HGE.out 2 (.int .i64 n2); have HYS := Lib.hid y1; have HRS := Lib.hid r1; have yc0 : ((w5.setCell ⟨w2.heap.size, 1, none⟩ (.int .i64 n1)).setCell ⟨w2.heap.size, 2, none⟩ (.int .i64 n2)).cell? ⟨w2.heap.size, 0, none⟩ = some (.int .i64 5) := (blk_cell y1 0).trans rfl; have yc4 : ((w5.setCell ⟨w2.heap.size, 1, none⟩ (.int .i64 n1)).setCell ⟨w2.heap.size, 2, none⟩ (.int .i64 n2)).cell? ⟨w2.heap.size, 4, none⟩ = some (.int .i64 0) := (blk_cell y1 4).trans rfl; clear y0 r0 y1 r1; clear x5 hR5 hK5)
          | (go_at_call 30; (with_reducible refine (rd_num HR3.out 6 H1.out).mono ?_); rintro e' w4 ⟨rfl, hR4, hK4⟩; have x4 := RD.kept (a' := 0) (e' := 0) HR3.out hK4 HX3.out; have HX4 := Lib.hid x4; have HR4 := Lib.hid hR4; clear x4 hR4 hK4))
        go_meet
        case rel => exact ⟨(⟨5, n1, n2, n3, 0, n4, n5, n6, 0, nilS, nilS, 0, 0⟩ : RV), HR9.out, HX9.out, Kd.R_nil _ _ _ _ _, Kd.R_nil _ _ _ _ _, SameV.refl _, by simp, by simp⟩
      by_cases k6 : k = 6
      · subst k6
        have x3 := HX3.out
        clear x3
        obtain ⟨n1, o1, f1, h1⟩ : ∃ n o f, numS s a1 0 6 = (n, o, f) := ⟨_, _, _, rfl⟩
        obtain ⟨n2, o2, f2, h2⟩ : ∃ n o f, numS s o1 f1 6 = (n, o, f) := ⟨_, _, _, rfl⟩
        obtain ⟨n3, o3, f3, h3⟩ : ∃ n o f, numS s o2 f2 6 = (n, o, f) := ⟨_, _, _, rfl⟩
        obtain ⟨n4, o4, f4, h4⟩ : ∃ n o f, numS s o3 f3 1 = (n, o, f) := ⟨_, _, _, rfl⟩
        by_cases ha3 : n4 = 3
        · subst ha3
          obtain ⟨n5, o5, f5, h5⟩ : ∃ n o f, numS s o4 f4 2 = (n, o, f) := ⟨_, _, _, rfl⟩
          obtain ⟨n6, o6, f6, h6⟩ : ∃ n o f, textS s o5 f5 16 = (n, o, f) := ⟨_, _, _, rfl⟩
          obtain ⟨n7, o7, f7, h7⟩ : ∃ n o f, textS s o6 f6 32 = (n, o, f) := ⟨_, _, _, rfl⟩
          obtain rfl : G = ⟨(⟨6, n1, n2, n5, 3, n6, ⟨#[]⟩, n7, n3, nilS, nilS, 0, 0⟩ : RV), [], [], o7, f7⟩ := by
            rw [← HG.out]
            unfold readF chgS
            simp [h1, h2, h3, h4, h5, h6, h7, zeroR]
          have H1 := Lib.hid h1
          have H2 := Lib.hid h2
          have H3 := Lib.hid h3
          have H4 := Lib.hid h4
          have H5 := Lib.hid h5
          have H6 := Lib.hid h6
          have H7 := Lib.hid h7
          clear h1 h2 h3 h4 h5 h6 h7
          go_wp2_with (first
            | (go_at_call 49; (with_reducible refine (rdchg_3 6 n1 n2 0 3 ⟨#[]⟩ ⟨#[]⟩ ⟨#[]⟩ n3 none 0 0 none 0 0 0 0 3 HRS.out w2.heap.size HGE.out HYS.out rfl H5.out H6.out H7.out).mono ?_); rintro e' w9 ⟨rfl, hR9, hX9⟩; have HR9 := Lib.hid hR9; have HX9 := Lib.hid hX9; clear hR9 hX9)
            | (go_at_call 30; (with_reducible refine (rd_num HR6.out 1 H4.out).mono ?_); rintro e' w7 ⟨rfl, hR7, hK7⟩; have x7 := RD.kept (a' := 0) (e' := 0) HR6.out hK7 HX6.out; have HX7 := Lib.hid x7; have HR7 := Lib.hid hR7; have zf1 := blk_frozen x7 1; have zc1 : w7.cell? ⟨w2.heap.size, 1, none⟩ = some (.int .i64 0) := (blk_cell x7 1).trans rfl; have zf2 := blk_frozen x7 2; have zc2 : w7.cell? ⟨w2.heap.size, 2, none⟩ = some (.int .i64 0) := (blk_cell x7 2).trans rfl; have zf8 := blk_frozen x7 8; have zc8 : w7.cell? ⟨w2.heap.size, 8, none⟩ = some (.int .i64 0) := (blk_cell x7 8).trans rfl; have zf4 := blk_frozen x7 4; have zc4 : w7.cell? ⟨w2.heap.size, 4, none⟩ = some (.int .i64 0) := (blk_cell x7 4).trans rfl; have y0 : (w7.setCell ⟨w2.heap.size, 1, none⟩ (.int .i64 n1)).heap[w2.heap.size]? = some (.cells #[.int .i64 6, .int .i64 n1, .int .i64 0, .int .i64 0, .int .i64 0, .string ⟨#[]⟩, .string ⟨#[]⟩, .string ⟨#[]⟩, .int .i64 0, .slice none 0 0, .slice none 0 0, .int .i64 0, .int .i64 0] 25 (0, 0)) := blk_put x7 1 _ rfl; have r0 := RD.set hR7 x7 HGE.out 1 (.int .i64 n1); have y1 : ((w7.setCell ⟨w2.heap.size, 1, none⟩ (.int .i64 n1)).setCell ⟨w2.heap.size, 2, none⟩ (.int .i64 n2)).heap[w2.heap.size]? = some (.cells #[.int .i64 6, .int .i64 n1, .int .i64 n2, .int .i64 0, .int .i64 0, .string ⟨#[]⟩, .string ⟨#[]⟩, .string ⟨#[]⟩, .int .i64 0, .slice none 0 0, .slice none 0 0, .int .i64 0, .int .i64 0] 25 (0, 0)) := blk_put y0 2 _ rfl; have r1 := RD.set r0 y0 HGE.out 2 (.int .i64 n2); have y2 : (((w7.setCell ⟨w2.heap.size, 1, none⟩ (.int .i64 n1)).setCell ⟨w2.heap.size, 2, none⟩ (.int .i64 n2)).setCell ⟨w2.heap.size, 8, none⟩ (.int .i64 n3)).heap[w2.heap.size]? = some (.cells #[.int .i64 6, .int .i64 n1, .int .i64 n2, .int .i64 0, .int .i64 0, .string ⟨#[]⟩, .string ⟨#[]⟩, .string ⟨#[]⟩, .int .i64 n3, .slice none 0 0, .slice none 0 0, .int .i64 0, .int .i64 0] 25 (0, 0)) := blk_put y1 8 _ rfl; have r2 := RD.set r1 y1 HGE.out 8 (.int .i64 n3); have y3 : ((((w7.setCell ⟨w2.heap.size, 1, none⟩ (.int .i64 n1)).setCell ⟨w2.heap.size, 2, none⟩ (.int .i64 n2)).setCell ⟨w2.heap.size, 8, none⟩ (.int .i64 n3)).setCell ⟨w2.heap.size, 4, none⟩ (.int .i64 3)).heap[w2.heap.size]? = some (.cells #[.int .i64 6, .int .i64 n1, .int .i64 n2, .int .i64 0, .int .i64 3, .string ⟨#[]⟩, .string ⟨#[]⟩, .string ⟨#[]⟩, .int .i64 n3, .slice none 0 0, .slice none 0 0, .int .i64 0, .int .i64 0] 25 (0, 0)) := blk_put y2 4 _ rfl; have r3 := RD.set r2 y2 HGE.out 4 (.int .i64 3); have HYS := Lib.hid y3; have HRS := Lib.hid r3; have yc0 : ((((w7.setCell ⟨w2.heap.size, 1, none⟩ (.int .i64 n1)).setCell ⟨w2.heap.size, 2, none⟩ (.int .i64 n2)).setCell ⟨w2.heap.size, 8, none⟩ (.int .i64 n3)).setCell ⟨w2.heap.size, 4, none⟩ (.int .i64 3)).cell? ⟨w2.heap.size, 0, none⟩ = some (.int .i64 6) := (blk_cell y3 0).trans rfl; have yc4 : ((((w7.setCell ⟨w2.heap.size, 1, none⟩ (.int .i64 n1)).setCell ⟨w2.heap.size, 2, none⟩ (.int .i64 n2)).setCell ⟨w2.heap.size, 8, none⟩ (.int .i64 n3)).setCell ⟨w2.heap.size, 4, none⟩ (.int .i64 3)).cell? ⟨w2.heap.size, 4, none⟩ = some (.int .i64 3) := (blk_cell y3 4).trans rfl; clear y0 r0 y1 r1 y2 r2 y3 r3; clear x7 hR7 hK7)
            | (go_at_call 30; (with_reducible refine (rd_num HR5.out 6 H3.out).mono ?_); rintro e' w6 ⟨rfl, hR6, hK6⟩; have x6 := RD.kept (a' := 0) (e' := 0) HR5.out hK6 HX5.out; have HX6 := Lib.hid x6; have HR6 := Lib.hid hR6; clear x6 hR6 hK6)
            | (go_at_call 30; (with_reducible refine (rd_num HR4.out 6 H2.out).mono ?_); rintro e' w5 ⟨rfl, hR5, hK5⟩; have x5 := RD.kept (a' := 0) (e' := 0) HR4.out hK5 HX4.out; have HX5 := Lib.hid x5; have HR5 := Lib.hid hR5; clear x5 hR5 hK5)
            | (go_at_call 30; (with_reducible refine (rd_num HR3.out 6 H1.out).mono ?_); rintro e' w4 ⟨rfl, hR4, hK4⟩; have x4 := RD.kept (a' := 0) (e' := 0) HR3.out hK4 HX3.out; have HX4 := Lib.hid x4; have HR4 := Lib.hid hR4; clear x4 hR4 hK4))
          go_meet
          case rel => exact ⟨(⟨6, n1, n2, n5, 3, n6, ⟨#[]⟩, n7, n3, nilS, nilS, 0, 0⟩ : RV), HR9.out, HX9.out, Kd.R_nil _ _ _ _ _, Kd.R_nil _ _ _ _ _, SameV.refl _, by simp, by simp⟩
        · by_cases ha4 : n4 = 4
          · subst ha4
            obtain ⟨n5, o5, f5, h5⟩ : ∃ n o f, numS s o4 f4 2 = (n, o, f) := ⟨_, _, _, rfl⟩
            obtain ⟨n6, o6, f6, h6⟩ : ∃ n o f, textS s o5 f5 16 = (n, o, f) := ⟨_, _, _, rfl⟩
            obtain ⟨n7, o7, f7, h7⟩ : ∃ n o f, textS s o6 f6 32 = (n, o, f) := ⟨_, _, _, rfl⟩
            obtain rfl : G = ⟨(⟨6, n1, n2, n5, 4, n6, n7, ⟨#[]⟩, n3, nilS, nilS, 0, 0⟩ : RV), [], [], o7, f7⟩ := by
              rw [← HG.out]
              unfold readF chgS
              simp [h1, h2, h3, h4, h5, h6, h7, zeroR]
            have H1 := Lib.hid h1
            have H2 := Lib.hid h2
            have H3 := Lib.hid h3
            have H4 := Lib.hid h4
            have H5 := Lib.hid h5
            have H6 := Lib.hid h6
            have H7 := Lib.hid h7
            clear h1 h2 h3 h4 h5 h6 h7
            go_wp2_with (first
              | (go_at_call 49; (with_reducible refine (rdchg_4 6 n1 n2 0 4 ⟨#[]⟩ ⟨#[]⟩ ⟨#[]⟩ n3 none 0 0 none 0 0 0 0 4 HRS.out w2.heap.size HGE.out HYS.out rfl H5.out H6.out H7.out).mono ?_); rintro e' w9 ⟨rfl, hR9, hX9⟩; have HR9 := Lib.hid hR9; have HX9 := Lib.hid hX9; clear hR9 hX9)
              | (go_at_call 30; (with_reducible refine (rd_num HR6.out 1 H4.out).mono ?_); rintro e' w7 ⟨rfl, hR7, hK7⟩; have x7 := RD.kept (a' := 0) (e' := 0) HR6.out hK7 HX6.out; have HX7 := Lib.hid x7; have HR7 := Lib.hid hR7; have zf1 := blk_frozen x7 1; have zc1 : w7.cell? ⟨w2.heap.size, 1, none⟩ = some (.int .i64 0) := (blk_cell x7 1).trans rfl; have zf2 := blk_frozen x7 2; have zc2 : w7.cell? ⟨w2.heap.size, 2, none⟩ = some (.int .i64 0) := (blk_cell x7 2).trans rfl; have zf8 := blk_frozen x7 8; have zc8 : w7.cell? ⟨w2.heap.size, 8, none⟩ = some (.int .i64 0) := (blk_cell x7 8).trans rfl; have zf4 := blk_frozen x7 4; have zc4 : w7.cell? ⟨w2.heap.size, 4, none⟩ = some (.int .i64 0) := (blk_cell x7 4).trans rfl; have y0 : (w7.setCell ⟨w2.heap.size, 1, none⟩ (.int .i64 n1)).heap[w2.heap.size]? = some (.cells #[.int .i64 6, .int .i64 n1, .int .i64 0, .int .i64 0, .int .i64 0, .string ⟨#[]⟩, .string ⟨#[]⟩, .string ⟨#[]⟩, .int .i64 0, .slice none 0 0, .slice none 0 0, .int .i64 0, .int .i64 0] 25 (0, 0)) := blk_put x7 1 _ rfl; have r0 := RD.set hR7 x7 HGE.out 1 (.int .i64 n1); have y1 : ((w7.setCell ⟨w2.heap.size, 1, none⟩ (.int .i64 n1)).setCell ⟨w2.heap.size, 2, none⟩ (.int .i64 n2)).heap[w2.heap.size]? = some (.cells #[.int .i64 6, .int .i64 n1, .int .i64 n2, .int .i64 0, .int .i64 0, .string ⟨#[]⟩, .string ⟨#[]⟩, .string ⟨#[]⟩, .int .i64 0, .slice none 0 0, .slice none 0 0, .int .i64 0, .int .i64 0] 25 (0, 0)) := blk_put y0 2 _ rfl; have r1 := RD.set r0 y0 HGE.out 2 (.int .i64 n2); have y2 : (((w7.setCell ⟨w2.heap.size, 1, none⟩ (.int .i64 n1)).setCell ⟨w2.heap.size, 2, none⟩ (.int .i64 n2)).setCell ⟨w2.heap.size, 8, none⟩ (.int .i64 n3)).heap[w2.heap.size]? = some (.cells #[.int .i64 6, .int .i64 n1, .int .i64 n2, .int .i64 0, .int .i64 0, .string ⟨#[]⟩, .string ⟨#[]⟩, .string ⟨#[]⟩, .int .i64 n3, .slice none 0 0, .slice none 0 0, .int .i64 0, .int .i64 0] 25 (0, 0)) := blk_put y1 8 _ rfl; have r2 := RD.set r1 y1 HGE.out 8 (.int .i64 n3); have y3 : ((((w7.setCell ⟨w2.heap.size, 1, none⟩ (.int .i64 n1)).setCell ⟨w2.heap.size, 2, none⟩ (.int .i64 n2)).setCell ⟨w2.heap.size, 8, none⟩ (.int .i64 n3)).setCell ⟨w2.heap.size, 4, none⟩ (.int .i64 4)).heap[w2.heap.size]? = some (.cells #[.int .i64 6, .int .i64 n1, .int .i64 n2, .int .i64 0, .int .i64 4, .string ⟨#[]⟩, .string ⟨#[]⟩, .string ⟨#[]⟩, .int .i64 n3, .slice none 0 0, .slice none 0 0, .int .i64 0, .int .i64 0] 25 (0, 0)) := blk_put y2 4 _ rfl; have r3 := RD.set r2 y2 HGE.out 4 (.int .i64 4); have HYS := Lib.hid y3; have HRS := Lib.hid r3; have yc0 : ((((w7.setCell ⟨w2.heap.size, 1, none⟩ (.int .i64 n1)).setCell ⟨w2.heap.size, 2, none⟩ (.int .i64 n2)).setCell ⟨w2.heap.size, 8, none⟩ (.int .i64 n3)).setCell ⟨w2.heap.size, 4, none⟩ (.int .i64 4)).cell? ⟨w2.heap.size, 0, none⟩ = some (.int .i64 6) := (blk_cell y3 0).trans rfl; have yc4 : ((((w7.setCell ⟨w2.heap.size, 1, none⟩ (.int .i64 n1)).setCell ⟨w2.heap.size, 2, none⟩ (.int .i64 n2)).setCell ⟨w2.heap.size, 8, none⟩ (.int .i64 n3)).setCell ⟨w2.heap.size, 4, none⟩ (.int .i64 4)).cell? ⟨w2.heap.size, 4, none⟩ = some (.int .i64 4) := (blk_cell y3 4).trans rfl; clear y0 r0 y1 r1 y2 r2 y3 r3; clear x7 hR7 hK7)
              | (go_at_call 30; (with_reducible refine (rd_num HR5.out 6 H3.out).mono ?_); rintro e' w6 ⟨rfl, hR6, hK6⟩; have x6 := RD.kept (a' := 0) (e' := 0) HR5.out hK6 HX5.out; have HX6 := Lib.hid x6; have HR6 := Lib.hid hR6; clear x6 hR6 hK6)
              | (go_at_call 30; (with_reducible refine (rd_num HR4.out 6 H2.out).mono ?_); rintro e' w5 ⟨rfl, hR5, hK5⟩; have x5 := RD.kept (a' := 0) (e' := 0) HR4.out hK5 HX4.out; have HX5 := Lib.hid x5; have HR5 := Lib.hid hR5; clear x5 hR5 hK5)
              | (go_at_call 30; (with_reducible refine (rd_num HR3.out 6 H1.out).mono ?_); rintro e' w4 ⟨rfl, hR4, hK4⟩; have x4 := RD.kept (a' := 0) (e' := 0) HR3.out hK4 HX3.out; have HX4 := Lib.hid x4; have HR4 := Lib.hid hR4; clear x4 hR4 hK4))
            go_meet
            case rel => exact ⟨(⟨6, n1, n2, n5, 4, n6, n7, ⟨#[]⟩, n3, nilS, nilS, 0, 0⟩ : RV), HR9.out, HX9.out, Kd.R_nil _ _ _ _ _, Kd.R_nil _ _ _ _ _, SameV.refl _, by simp, by simp⟩
          · skip
            obtain ⟨n5, o5, f5, h5⟩ : ∃ n o f, numS s o4 f4 2 = (n, o, f) := ⟨_, _, _, rfl⟩
            obtain ⟨n6, o6, f6, h6⟩ : ∃ n o f, textS s o5 f5 16 = (n, o, f) := ⟨_, _, _, rfl⟩
            obtain ⟨n7, o7, f7, h7⟩ : ∃ n o f, textS s o6 f6 32 = (n, o, f) := ⟨_, _, _, rfl⟩
            obtain ⟨n8, o8, f8, h8⟩ : ∃ n o f, textS s o7 f7 32 = (n, o, f) := ⟨_, _, _, rfl⟩
            obtain rfl : G = ⟨(⟨6, n1, n2, n5, n4, n6, n7, n8, n3, nilS, nilS, 0, 0⟩ : RV), [], [], o8, f8⟩ := by
              rw [← HG.out]
              unfold readF chgS
              simp [h1, h2, h3, h4, h5, h6, h7, h8, zeroR, ha3, ha4]
            have H1 := Lib.hid h1
            have H2 := Lib.hid h2
            have H3 := Lib.hid h3
            have H4 := Lib.hid h4
            have H5 := Lib.hid h5
            have H6 := Lib.hid h6
            have H7 := Lib.hid h7
            have H8 := Lib.hid h8
            clear h1 h2 h3 h4 h5 h6 h7 h8
            have HA3 := Lib.hid ha3
            have HA4 := Lib.hid ha4
            clear ha3 ha4
            go_wp2_with (first
              | (go_at_call 49; (with_reducible refine (rdchg_5 6 n1 n2 0 n4 ⟨#[]⟩ ⟨#[]⟩ ⟨#[]⟩ n3 none 0 0 none 0 0 0 0 n4 HRS.out w2.heap.size HGE.out HYS.out HA3.out HA4.out H5.out H6.out H7.out H8.out).mono ?_); rintro e' w9 ⟨rfl, hR9, hX9⟩; have HR9 := Lib.hid hR9; have HX9 := Lib.hid hX9; clear hR9 hX9)
              | (go_at_call 30; (with_reducible refine (rd_num HR6.out 1 H4.out).mono ?_); rintro e' w7 ⟨rfl, hR7, hK7⟩; have x7 := RD.kept (a' := 0) (e' := 0) HR6.out hK7 HX6.out; have HX7 := Lib.hid x7; have HR7 := Lib.hid hR7; have zf1 := blk_frozen x7 1; have zc1 : w7.cell? ⟨w2.heap.size, 1, none⟩ = some (.int .i64 0) := (blk_cell x7 1).trans rfl; have zf2 := blk_frozen x7 2; have zc2 : w7.cell? ⟨w2.heap.size, 2, none⟩ = some (.int .i64 0) := (blk_cell x7 2).trans rfl; have zf8 := blk_frozen x7 8; have zc8 : w7.cell? ⟨w2.heap.size, 8, none⟩ = some (.int .i64 0) := (blk_cell x7 8).trans rfl; have zf4 := blk_frozen x7 4; have zc4 : w7.cell? ⟨w2.heap.size, 4, none⟩ = some (.int .i64 0) := (blk_cell x7 4).trans rfl; have y0 : (w7.setCell ⟨w2.heap.size, 1, none⟩ (.int .i64 n1)).heap[w2.heap.size]? = some (.cells #[.int .i64 6, .int .i64 n1, .int .i64 0, .int .i64 0, .int .i64 0, .string ⟨#[]⟩, .string ⟨#[]⟩, .string ⟨#[]⟩, .int .i64 0, .slice none 0 0, .slice none 0 0, .int .i64 0, .int .i64 0] 25 (0, 0)) := blk_put x7 1 _ rfl; have r0 := RD.set hR7 x7 HGE.out 1 (.int .i64 n1); have y1 : ((w7.setCell ⟨w2.heap.size, 1, none⟩ (.int .i64 n1)).setCell ⟨w2.heap.size, 2, none⟩ (.int .i64 n2)).heap[w2.heap.size]? = some (.cells #[.int .i64 6, .int .i64 n1, .int .i64 n2, .int .i64 0, .int .i64 0, .string ⟨#[]⟩, .string ⟨#[]⟩, .string ⟨#[]⟩, .int .i64 0, .slice none 0 0, .slice none 0 0, .int .i64 0, .int .i64 0] 25 (0, 0)) := blk_put y0 2 _ rfl; have r1 := RD.set r0 y0 HGE.out 2 (.int .i64 n2); have y2 : (((w7.setCell ⟨w2.heap.size, 1, none⟩ (.int .i64 n1)).setCell ⟨w2.heap.size, 2, none⟩ (.int .i64 n2)).setCell ⟨w2.heap.size, 8, none⟩ (.int .i64 n3)).heap[w2.heap.size]? = some (.cells #[.int .i64 6, .int .i64 n1, .int .i64 n2, .int .i64 0, .int .i64 0, .string ⟨#[]⟩, .string ⟨#[]⟩, .string ⟨#[]⟩, .int .i64 n3, .slice none 0 0, .slice none 0 0, .int .i64 0, .int .i64 0] 25 (0, 0)) := blk_put y1 8 _ rfl; have r2 := RD.set r1 y1 HGE.out 8 (.int .i64 n3); have y3 : ((((w7.setCell ⟨w2.heap.size, 1, none⟩ (.int .i64 n1)).setCell ⟨w2.heap.size, 2, none⟩ (.int .i64 n2)).setCell ⟨w2.heap.size, 8, none⟩ (.int .i64 n3)).setCell ⟨w2.heap.size, 4, none⟩ (.int .i64 n4)).heap[w2.heap.size]? = some (.cells #[.int .i64 6, .int .i64 n1, .int .i64 n2, .int .i64 0, .int .i64 n4, .string ⟨#[]⟩, .string ⟨#[]⟩, .string ⟨#[]⟩, .int .i64 n3, .slice none 0 0, .slice none 0 0, .int .i64 0, .int .i64 0] 25 (0, 0)) := blk_put y2 4 _ rfl; have r3 := RD.set r2 y2 HGE.out 4 (.int .i64 n4); have HYS := Lib.hid y3; have HRS := Lib.hid r3; have yc0 : ((((w7.setCell ⟨w2.heap.size, 1, none⟩ (.int .i64 n1)).setCell ⟨w2.heap.size, 2, none⟩ (.int .i64 n2)).setCell ⟨w2.heap.size, 8, none⟩ (.int .i64 n3)).setCell ⟨w2.heap.size, 4, none⟩ (.int .i64 n4)).cell? ⟨w2.heap.size, 0, none⟩ = some (.int .i64 6) := (blk_cell y3 0).trans rfl; have yc4 : ((((w7.setCell ⟨w2.heap.size, 1, none⟩ (.int .i64 n1)).setCell ⟨w2.heap.size, 2, none⟩ (.int .i64 n2)).setCell ⟨w2.heap.size, 8, none⟩ (.int .i64 n3)).setCell ⟨w2.heap.size, 4, none⟩ (.int .i64 n4)).cell? ⟨w2.heap.size, 4, none⟩ = some (.int .i64 n4) := (blk_cell y3 4).trans rfl; clear y0 r0 y1 r1 y2 r2 y3 r3; clear x7 hR7 hK7)
              | (go_at_call 30; (with_reducible refine (rd_num HR5.out 6 H3.out).mono ?_); rintro e' w6 ⟨rfl, hR6, hK6⟩; have x6 := RD.kept (a' := 0) (e' := 0) HR5.out hK6 HX5.out; have HX6 := Lib.hid x6; have HR6 := Lib.hid hR6; clear x6 hR6 hK6)
              | (go_at_call 30; (with_reducible refine (rd_num HR4.out 6 H2.out).mono ?_); rintro e' w5 ⟨rfl, hR5, hK5⟩; have x5 := RD.kept (a' := 0) (e' := 0) HR4.out hK5 HX4.out; have HX5 := Lib.hid x5; have HR5 := Lib.hid hR5; clear x5 hR5 hK5)
              | (go_at_call 30; (with_reducible refine (rd_num HR3.out 6 H1.out).mono ?_); rintro e' w4 ⟨rfl, hR4, hK4⟩; have x4 := RD.kept (a' := 0) (e' := 0) HR3.out hK4 HX3.out; have HX4 := Lib.hid x4; have HR4 := Lib.hid hR4; clear x4 hR4 hK4))
            go_meet
            case rel => exact ⟨(⟨6, n1, n2, n5, n4, n6, n7, n8, n3, nilS, nilS, 0, 0⟩ : RV), HR9.out, HX9.out, Kd.R_nil _ _ _ _ _, Kd.R_nil _ _ _ _ _, SameV.refl _, by simp, by simp⟩
      by_cases k7 : k = 7
      · subst k7
        have x3 := HX3.out
        clear x3
        obtain ⟨n1, o1, f1, h1⟩ : ∃ n o f, numS s a1 0 6 = (n, o, f) := ⟨_, _, _, rfl⟩
        obtain ⟨n2, o2, f2, h2⟩ : ∃ n o f, numS s o1 f1 6 = (n, o, f) := ⟨_, _, _, rfl⟩
        obtain rfl : G = ⟨(⟨7, n1, n2, 0, 0, ⟨#[]⟩, ⟨#[]⟩, ⟨#[]⟩, 0, nilS, nilS, 0, 0⟩ : RV), [], [], o2, f2⟩ := by
          rw [← HG.out]
          unfold readF
          simp [h1, h2, zeroR]
        have H1 := Lib.hid h1
        have H2 := Lib.hid h2
        clear h1 h2
        go_wp2_with (first
          | (go_at_call 30; (with_reducible refine (rd_num HR4.out 6 H2.out).mono ?_); rintro e' w5 ⟨rfl, hR5, hK5⟩; have x5 := RD.kept (a' := 0) (e' := 0) HR4.out hK5 HX4.out; have HX5 := Lib.hid x5; have HR5 := Lib.hid hR5; have zf1 := blk_frozen x5 1; have zc1 : w5.cell? ⟨w2.heap.size, 1, none⟩ = some (.int .i64 0) := (blk_cell x5 1).trans rfl; have zf2 := blk_frozen x5 2; have zc2 : w5.cell? ⟨w2.heap.size, 2, none⟩ = some (.int .i64 0) := (blk_cell x5 2).trans rfl; have y0 : (w5.setCell ⟨w2.heap.size, 1, none⟩ (.int .i64 n1)).heap[w2.heap.size]? = some (.cells #[.int .i64 7, .int .i64 n1, .int .i64 0, .int .i64 0, .int .i64 0, .string ⟨#[]⟩, .string ⟨#[]⟩, .string ⟨#[]⟩, .int .i64 0, .slice none 0 0, .slice none 0 0, .int .i64 0, .int .i64 0] 25 (0, 0)) := blk_put x5 1 _ rfl; have r0 := RD.set hR5 x5 HGE.out 1 (.int .i64 n1); have y1 : ((w5.setCell ⟨w2.heap.size, 1, none⟩ (.int .i64 n1)).setCell ⟨w2.heap.size, 2, none⟩ (.int .i64 n2)).heap[w2.heap.size]? = some (.cells #[.int .i64 7, .int .i64 n1, .int .i64 n2, .int .i64 0, .int .i64 0, .string ⟨#[]⟩, .string ⟨#[]⟩, .string ⟨#[]⟩, .int .i64 0, .slice none 0 0, .slice none 0 0, .int .i64 0, .int .i64 0] 25 (0, 0)) := blk_put y0 2 _ rfl; have r1 := RD.set r0 y0 HGE.out 2 (.int .i64 n2); have HYS := Lib.hid y1; have HRS := Lib.hid r1; have yc0 : ((w5.setCell ⟨w2.heap.size, 1, none⟩ (.int .i64 n1)).setCell ⟨w2.heap.size, 2, none⟩ (.int .i64 n2)).cell? ⟨w2.heap.size, 0, none⟩ = some (.int .i64 7) := (blk_cell y1 0).trans rfl; have yc4 : ((w5.setCell ⟨w2.heap.size, 1, none⟩ (.int .i64 n1)).setCell ⟨w2.heap.size, 2, none⟩ (.int .i64 n2)).cell? ⟨w2.heap.size, 4, none⟩ = some (.int .i64 0) := (blk_cell y1 4).trans rfl; clear y0 r0 y1 r1; clear x5 hR5 hK5)
          | (go_at_call 30; (with_reducible refine (rd_num HR3.out 6 H1.out).mono ?_); rintro e' w4 ⟨rfl, hR4, hK4⟩; have x4 := RD.kept (a' := 0) (e' := 0) HR3.out hK4 HX3.out; have HX4 := Lib.hid x4; have HR4 := Lib.hid hR4; clear x4 hR4 hK4))
        go_meet
        case rel => exact ⟨(⟨7, n1, n2, 0, 0, ⟨#[]⟩, ⟨#[]⟩, ⟨#[]⟩, 0, nilS, nilS, 0, 0⟩ : RV), HRS.out, HYS.out, Kd.R_nil _ _ _ _ _, Kd.R_nil _ _ _ _ _, SameV.refl _, by simp, by simp⟩
      by_cases k8 : k = 8
      · subst k8
        have x3 := HX3.out
        clear x3
        obtain ⟨n1, o1, f1, h1⟩ : ∃ n o f, numS s a1 0 6 = (n, o, f) := ⟨_, _, _, rfl⟩
        obtain ⟨n2, o2, f2, h2⟩ : ∃ n o f, numS s o1 f1 6 = (n, o, f) := ⟨_, _, _, rfl⟩
        obtain rfl : G = ⟨(⟨8, n1, n2, 0, 0, ⟨#[]⟩, ⟨#[]⟩, ⟨#[]⟩, 0, nilS, nilS, 0, 0⟩ : RV), [], [], o2, f2⟩ := by
          rw [← HG.out]
          unfold readF
          simp [h1, h2, zeroR]
        have H1 := Lib.hid h1
        have H2 := Lib.hid h2
        clear h1 h2
        go_wp2_with (first
          | (go_at_call 30; (with_reducible refine (rd_num HR4.out 6 H2.out).mono ?_); rintro e' w5 ⟨rfl, hR5, hK5⟩; have x5 := RD.kept (a' := 0) (e' := 0) HR4.out hK5 HX4.out; have HX5 := Lib.hid x5; have HR5 := Lib.hid hR5; have zf1 := blk_frozen x5 1; have zc1 : w5.cell? ⟨w2.heap.size, 1, none⟩ = some (.int .i64 0) := (blk_cell x5 1).trans rfl; have zf2 := blk_frozen x5 2; have zc2 : w5.cell? ⟨w2.heap.size, 2, none⟩ = some (.int .i64 0) := (blk_cell x5 2).trans rfl; have y0 : (w5.setCell ⟨w2.heap.size, 1, none⟩ (.int .i64 n1)).heap[w2.heap.size]? = some (.cells #[.int .i64 8, .int .i64 n1, .int .i64 0, .int .i64 0, .int .i64 0, .string ⟨#[]⟩, .string ⟨#[]⟩, .string ⟨#[]⟩, .int .i64 0, .slice none 0 0, .slice none 0 0, .int .i64 0, .int .i64 0] 25 (0, 0)) := blk_put x5 1 _ rfl; have r0 := RD.set hR5 x5 HGE.out 1 (.int .i64 n1); have y1 : ((w5.setCell ⟨w2.heap.size, 1, none⟩ (.int .i64 n1)).setCell ⟨w2.heap.size, 2, none⟩ (.int .i64 n2)).heap[w2.heap.size]? = some (.cells #[.int .i64 8, .int .i64 n1, .int .i64 n2, .int .i64 0, .int .i64 0, .string ⟨#[]⟩, .string ⟨#[]⟩, .string ⟨#[]⟩, .int .i64 0, .slice none 0 0, .slice none 0 0, .int .i64 0, .int .i64 0] 25 (0, 0)) := blk_put y0 2 _ rfl; have r1 := RD.set r0 y0 HGE.out 2 (.int .i64 n2); have HYS := Lib.hid y1; have HRS := Lib.hid r1; have yc0 : ((w5.setCell ⟨w2.heap.size, 1, none⟩ (.int .i64 n1)).setCell ⟨w2.heap.size, 2, none⟩ (.int .i64 n2)).cell? ⟨w2.heap.size, 0, none⟩ = some (.int .i64 8) := (blk_cell y1 0).trans rfl; have yc4 : ((w5.setCell ⟨w2.heap.size, 1, none⟩ (.int .i64 n1)).setCell ⟨w2.heap.size, 2, none⟩ (.int .i64 n2)).cell? ⟨w2.heap.size, 4, none⟩ = some (.int .i64 0) := (blk_cell y1 4).trans rfl; clear y0 r0 y1 r1; clear x5 hR5 hK5)
          | (go_at_call 30; (with_reducible refine (rd_num HR3.out 6 H1.out).mono ?_); rintro e' w4 ⟨rfl, hR4, hK4⟩; have x4 := RD.kept (a' := 0) (e' := 0) HR3.out hK4 HX3.out; have HX4 := Lib.hid x4; have HR4 := Lib.hid hR4; clear x4 hR4 hK4))
        go_meet
        case rel => exact ⟨(⟨8, n1, n2, 0, 0, ⟨#[]⟩, ⟨#[]⟩, ⟨#[]⟩, 0, nilS, nilS, 0, 0⟩ : RV), HRS.out, HYS.out, Kd.R_nil _ _ _ _ _, Kd.R_nil _ _ _ _ _, SameV.refl _, by simp, by simp⟩
      by_cases k9 : k = 9
      · subst k9
        have x3 := HX3.out
        clear x3
        obtain ⟨l4, b4, f4, h4, hv4, hl4⟩ := tab_some HR3.out.v 0
        obtain rfl : G = ⟨zeroR 9, [], l4, b4, f4⟩ := by
          rw [← HG.out]
          unfold readF
          simp [h4]
        have HF4 := Lib.hid h4
        have HV4 := Lib.hid hv4
        have HL4 := Lib.hid hl4
        clear h4 hv4 hl4
        go_wp2_with (first
          | (go_at_call 50; (with_reducible refine (rec_readTable.calls 300 g s a1 0 l4 s b4 f4 wb w3 HR3.out.i HR3.out.b HF4.out).mono ?_); rintro e' w4 ⟨v4, rfl, hR4, hI4, hB4, hK4⟩; obtain ⟨A4, c4, rfl⟩ := Kd.R_slice hR4; have x4 := RD.kept (a' := 0) (e' := 0) HR3.out hK4 HX3.out; have zf := blk_frozen x4 10; have zc : w4.cell? ⟨w2.heap.size, 10, none⟩ = some (.slice none 0 0) := (blk_cell x4 10).trans rfl; have HX4 := Lib.hid x4; have HRR4 := Lib.hid (Kd.R_lower hR4 HR3.out.b.size); have HR4 := Lib.hid (show RD wb w4 g s b4 f4 from ⟨hI4, hB4, HV4.out⟩); clear hR4 hI4 hB4 hK4 x4))
        go_meet
        case rel => exact ⟨(⟨9, 0, 0, 0, 0, ⟨#[]⟩, ⟨#[]⟩, ⟨#[]⟩, 0, nilS, ⟨A4, l4.length, c4⟩, 0, 0⟩ : RV), RD.set HR4.out HX4.out HGE.out 10 _, blk_put HX4.out 10 _ rfl, Kd.R_nil _ _ _ _ _, Kd.R_set HRR4.out HX4.out (by decide) 10 _, ⟨rfl, rfl, rfl, rfl, rfl, rfl, rfl, rfl, rfl, rfl, rfl⟩, by simp, HL4.out⟩
      by_cases k10 : k = 10
      · subst k10
        have x3 := HX3.out
        clear x3
        obtain ⟨n1, o1, f1, h1⟩ : ∃ n o f, numS s a1 0 4 = (n, o, f) := ⟨_, _, _, rfl⟩
        obtain ⟨n2, o2, f2, h2⟩ : ∃ n o f, numS s o1 f1 1 = (n, o, f) := ⟨_, _, _, rfl⟩
        obtain rfl : G = ⟨(⟨10, 0, 0, 0, 0, ⟨#[]⟩, ⟨#[]⟩, ⟨#[]⟩, 0, nilS, nilS, n1, n2⟩ : RV), [], [], o2, f2⟩ := by
          rw [← HG.out]
          unfold readF
          simp [h1, h2, zeroR]
        have H1 := Lib.hid h1
        have H2 := Lib.hid h2
        clear h1 h2
        go_wp2_with (first
          | (go_at_call 30; (with_reducible refine (rd_num HR4.out 1 H2.out).mono ?_); rintro e' w5 ⟨rfl, hR5, hK5⟩; have x5 := RD.kept (a' := 0) (e' := 0) HR4.out hK5 HX4.out; have HX5 := Lib.hid x5; have HR5 := Lib.hid hR5; have zf11 := blk_frozen x5 11; have zc11 : w5.cell? ⟨w2.heap.size, 11, none⟩ = some (.int .i64 0) := (blk_cell x5 11).trans rfl; have zf12 := blk_frozen x5 12; have zc12 : w5.cell? ⟨w2.heap.size, 12, none⟩ = some (.int .i64 0) := (blk_cell x5 12).trans rfl; have y0 : (w5.setCell ⟨w2.heap.size, 11, none⟩ (.int .i64 n1)).heap[w2.heap.size]? = some (.cells #[.int .i64 10, .int .i64 0, .int .i64 0, .int .i64 0, .int .i64 0, .string ⟨#[]⟩, .string ⟨#[]⟩, .string ⟨#[]⟩, .int .i64 0, .slice none 0 0, .slice none 0 0, .int .i64 n1, .int .i64 0] 25 (0, 0)) := blk_put x5 11 _ rfl; have r0 := RD.set hR5 x5 HGE.out 11 (.int .i64 n1); have y1 : ((w5.setCell ⟨w2.heap.size, 11, none⟩ (.int .i64 n1)).setCell ⟨w2.heap.size, 12, none⟩ (.int .i64 n2)).heap[w2.heap.size]? = some (.cells #[.int .i64 10, .int .i64 0, .int .i64 0, .int .i64 0, .int .i64 0, .string ⟨#[]⟩, .string ⟨#[]⟩, .string ⟨#[]⟩, .int .i64 0, .slice none 0 0, .slice none 0 0, .int .i64 n1, .int .i64 n2] 25 (0, 0)) := blk_put y0 12 _ rfl; have r1 := RD.set r0 y0 HGE.out 12 (.int .i64 n2); have HYS := Lib.hid y1; have HRS := Lib.hid r1; have yc0 : ((w5.setCell ⟨w2.heap.size, 11, none⟩ (.int .i64 n1)).setCell ⟨w2.heap.size, 12, none⟩ (.int .i64 n2)).cell? ⟨w2.heap.size, 0, none⟩ = some (.int .i64 10) := (blk_cell y1 0).trans rfl; have yc4 : ((w5.setCell ⟨w2.heap.size, 11, none⟩ (.int .i64 n1)).setCell ⟨w2.heap.size, 12, none⟩ (.int .i64 n2)).cell? ⟨w2.heap.size, 4, none⟩ = some (.int .i64 0) := (blk_cell y1 4).trans rfl; clear y0 r0 y1 r1; clear x5 hR5 hK5)
          | (go_at_call 30; (with_reducible refine (rd_num HR3.out 4 H1.out).mono ?_); rintro e' w4 ⟨rfl, hR4, hK4⟩; have x4 := RD.kept (a' := 0) (e' := 0) HR3.out hK4 HX3.out; have HX4 := Lib.hid x4; have HR4 := Lib.hid hR4; clear x4 hR4 hK4))
        go_meet
        case rel => exact ⟨(⟨10, 0, 0, 0, 0, ⟨#[]⟩, ⟨#[]⟩, ⟨#[]⟩, 0, nilS, nilS, n1, n2⟩ : RV), HRS.out, HYS.out, Kd.R_nil _ _ _ _ _, Kd.R_nil _ _ _ _ _, SameV.refl _, by simp, by simp⟩
      have d1 : (k == 1) = false := by simpa using k1
      have d2 : (k == 2) = false := by simpa using k2
      have d3 : (k == 3) = false := by simpa using k3
      have d4 : (k == 4) = false := by simpa using k4
      have d5 : (k == 5) = false := by simpa using k5
      have d6 : (k == 6) = false := by simpa using k6
      have d7 : (k == 7) = false := by simpa using k7
      have d8 : (k == 8) = false := by simpa using k8
      have d9 : (k == 9) = false := by simpa using k9
      have d10 : (k == 10) = false := by simpa using k10
      obtain rfl : G = ⟨zeroR k, [], [], a1, 0⟩ := by
        rw [← HG.out]
        unfold readF
        rw [if_neg (by omega), if_neg (by omega), if_neg (by omega), if_neg (by omega), if_neg (by omega), if_neg (by omega)]
      clear k1 k2 k3 k4 k5 k6 k7 k8 k9 k10
      go_wp2
      go_meet
      case rel => exact ⟨zeroR k, HR3.out, HX3.out, Kd.R_nil _ _ _ _ _, Kd.R_nil _ _ _ _ _, SameV.refl _, by simp, by simp⟩
    case rest =>
      obtain ⟨q, hQ⟩ := hcut
      have HQ := Lib.hid hQ
      clear hQ HR1 HR2 HR3 HX2 HX3 x3c0
      have hX0 := fun (wx : World) (h : Below wb.heap.size wb wx) => (h.block w.heap.size (by have := blk_lt HXZ.out; omega)).trans HXZ.out
      have HX0 := Lib.hid hX0
      clear hX0
      by_cases he : endS s G.a G.e = 0
      · obtain ⟨B, hB⟩ : ∃ B, bodyP G.q G.li G.lt = B := ⟨_, rfl⟩
        have hbody := fun (wx : World) (h : RRow wx q G.li G.lt) => body_calls q G.li G.lt wx h HQ.out.li HQ.out.lt
        rw [bodyP_same HQ.out.sv, hB] at hbody
        have HBD := Lib.hid hbody
        have hok := ofP_ok s k a1 HK.out (by rw [HG.out]; exact he)
        have hnot := ofP_not s k a1 HK.out (by rw [HG.out]; exact he)
        rw [HG.out, hB] at hok hnot
        have hend := fun (wx : World) (h : RD wb wx g s G.a G.e) => rd_end h
        rw [he] at hend
        have HEND := Lib.hid hend
        obtain ⟨t, f⟩ := B
        simp only at hok hnot
        clear hbody hend hB he
        by_cases hf : f = 0
        · subst hf
          by_cases hts : t = s
          · subst hts
            have HP := Lib.hid (hok (fun c => c.elim (fun d => d rfl) (fun d => d rfl)))
            clear hok hnot
            go_wp2_with (first
              | (go_at_call 51; (with_reducible refine (HEND.out _ HQ.out.rd).mono ?_); rintro e' w5 ⟨rfl, hR5, hK5⟩; have HX5 := Lib.hid (RD.kept (a' := 0) (e' := 0) HQ.out.rd hK5 HQ.out.rec_); have HRR := Lib.hid (RRow.of (R36_keep HQ.out.ri HQ.out.rd hK5) (R55_keep HQ.out.rt HQ.out.rd hK5)); have HRI5 := Lib.hid (R36_keep HQ.out.ri HQ.out.rd hK5); have HRT5 := Lib.hid (R55_keep HQ.out.rt HQ.out.rd hK5); have HR5 := Lib.hid hR5; clear hR5 hK5)
              | (refine wpList_load_row rfl 25 _ rfl w2.heap.size rfl 25 q.cs (0, 0) _ HX5.out Try.underlying25 rfl (hinfo25 q) ?_) | (go_at_call 21; (with_reducible refine (HBD.out _ HRR.out).mono ?_); rintro e' w6 ⟨rfl, hB6⟩; have HX6 := Lib.hid (blk_below HX5.out hB6); have HR6 := Lib.hid (HR5.out.below hB6); have HRI6 := Lib.hid (Kd.R_below HRI5.out hB6); have HRT6 := Lib.hid (Kd.R_below HRT5.out hB6); clear hB6) | (refine wpList_load_row rfl 25 _ rfl w2.heap.size rfl 25 q.cs (0, 0) _ HX6.out Try.underlying25 rfl (hinfo25 q) ?_)
              | (refine wpList_store_row rfl 25 _ _ rfl w.heap.size q.cs rfl rfl 25 _ (HX0.out _ HR6.out.b) (hinfo25 q) rfl (rv_one _) ?_))
            refine bodyPost_ret (results_ct (p := 2) (u := 3) (ty := 25) rfl _ _ w.heap.size 25 q.cs (0, 0) _ rfl (set_new (HX0.out _ HR6.out.b)) Try.underlying25 rfl (hinfo25 q)) rfl ?_
            rw [HP.out]
            exact ⟨q, rfl, HQ.out.sv, ⟨Kd.R_lower (R36_row HRI6.out (HX0.out _ HR6.out.b)) HBB.out.size, Kd.R_lower (R55_row HRT6.out (HX0.out _ HR6.out.b)) HBB.out.size⟩, setRow_below (below_step HBB.out HR6.out.b) (Nat.le_refl _) _⟩
          · have hl : t.toList ≠ s.toList := fun c => by
              rw [Lib.toList_data, Lib.toList_data] at c
              exact hts (ba_ext c)
            have d3 : (t.toList == s.toList) = false := by simpa using hl
            have d4 : (t.toList != s.toList) = true := by simpa using hl
            have HP := Lib.hid (hnot (.inr hts))
            clear hok hnot hl hts
            go_wp2_with (first
              | (go_at_call 51; (with_reducible refine (HEND.out _ HQ.out.rd).mono ?_); rintro e' w5 ⟨rfl, hR5, hK5⟩; have HX5 := Lib.hid (RD.kept (a' := 0) (e' := 0) HQ.out.rd hK5 HQ.out.rec_); have HRR := Lib.hid (RRow.of (R36_keep HQ.out.ri HQ.out.rd hK5) (R55_keep HQ.out.rt HQ.out.rd hK5)); have HRI5 := Lib.hid (R36_keep HQ.out.ri HQ.out.rd hK5); have HRT5 := Lib.hid (R55_keep HQ.out.rt HQ.out.rd hK5); have HR5 := Lib.hid hR5; clear hR5 hK5)
              | (refine wpList_load_row rfl 25 _ rfl w2.heap.size rfl 25 q.cs (0, 0) _ HX5.out Try.underlying25 rfl (hinfo25 q) ?_) | (go_at_call 21; (with_reducible refine (HBD.out _ HRR.out).mono ?_); rintro e' w6 ⟨rfl, hB6⟩; have HX6 := Lib.hid (blk_below HX5.out hB6); have HR6 := Lib.hid (HR5.out.below hB6); have HRI6 := Lib.hid (Kd.R_below HRI5.out hB6); have HRT6 := Lib.hid (Kd.R_below HRT5.out hB6); clear hB6) | (refine wpList_load_row rfl 25 _ rfl w2.heap.size rfl 25 q.cs (0, 0) _ HX6.out Try.underlying25 rfl (hinfo25 q) ?_)
              | (refine wpList_store_row rfl 25 _ _ rfl w.heap.size (zeroR 0).cs rfl rfl 25 _ (HX0.out _ HR6.out.b) (hinfo25 (zeroR 0)) rfl (rv_one _) ?_))
            refine bodyPost_ret (results_ct (p := 2) (u := 3) (ty := 25) rfl _ _ w.heap.size 25 (zeroR 0).cs (0, 0) _ rfl (set_new (HX0.out _ HR6.out.b)) Try.underlying25 rfl (hinfo25 (zeroR 0))) rfl ?_
            rw [HP.out]
            exact ⟨zeroR 0, rfl, SameV.refl _, ⟨Kd.R_nil _ _ _ _ _, Kd.R_nil _ _ _ _ _⟩, setRow_below (below_step HBB.out HR6.out.b) (Nat.le_refl _) _⟩
        · have d1 : (f == 0) = false := by simpa using hf
          have d2 : (f != 0) = true := by simpa using hf
          have HP := Lib.hid (hnot (.inl hf))
          clear hok hnot hf
          go_wp2_with (first
            | (go_at_call 51; (with_reducible refine (HEND.out _ HQ.out.rd).mono ?_); rintro e' w5 ⟨rfl, hR5, hK5⟩; have HX5 := Lib.hid (RD.kept (a' := 0) (e' := 0) HQ.out.rd hK5 HQ.out.rec_); have HRR := Lib.hid (RRow.of (R36_keep HQ.out.ri HQ.out.rd hK5) (R55_keep HQ.out.rt HQ.out.rd hK5)); have HRI5 := Lib.hid (R36_keep HQ.out.ri HQ.out.rd hK5); have HRT5 := Lib.hid (R55_keep HQ.out.rt HQ.out.rd hK5); have HR5 := Lib.hid hR5; clear hR5 hK5)
            | (refine wpList_load_row rfl 25 _ rfl w2.heap.size rfl 25 q.cs (0, 0) _ HX5.out Try.underlying25 rfl (hinfo25 q) ?_) | (go_at_call 21; (with_reducible refine (HBD.out _ HRR.out).mono ?_); rintro e' w6 ⟨rfl, hB6⟩; have HX6 := Lib.hid (blk_below HX5.out hB6); have HR6 := Lib.hid (HR5.out.below hB6); have HRI6 := Lib.hid (Kd.R_below HRI5.out hB6); have HRT6 := Lib.hid (Kd.R_below HRT5.out hB6); clear hB6) | (refine wpList_load_row rfl 25 _ rfl w2.heap.size rfl 25 q.cs (0, 0) _ HX6.out Try.underlying25 rfl (hinfo25 q) ?_)
            | (refine wpList_store_row rfl 25 _ _ rfl w.heap.size (zeroR 0).cs rfl rfl 25 _ (HX0.out _ HR6.out.b) (hinfo25 (zeroR 0)) rfl (rv_one _) ?_))
          refine bodyPost_ret (results_ct (p := 2) (u := 3) (ty := 25) rfl _ _ w.heap.size 25 (zeroR 0).cs (0, 0) _ rfl (set_new (HX0.out _ HR6.out.b)) Try.underlying25 rfl (hinfo25 (zeroR 0))) rfl ?_
          rw [HP.out]
          exact ⟨zeroR 0, rfl, SameV.refl _, ⟨Kd.R_nil _ _ _ _ _, Kd.R_nil _ _ _ _ _⟩, setRow_below (below_step HBB.out HR6.out.b) (Nat.le_refl _) _⟩
      · have hp := ofP_end s k a1 HK.out (by rw [HG.out]; exact he)
        rw [HG.out] at hp
        have hend := fun (wx : World) (h : RD wb wx g s G.a G.e) => rd_end h
        generalize endS s G.a G.e = z at hp hend he
        have d1 : (z == 0) = false := by simpa using he
        have d2 : (z != 0) = true := by simpa using he
        have HP := Lib.hid hp
        have HEND := Lib.hid hend
        clear hp hend he
        go_wp2_with (first
          | (go_at_call 51; (with_reducible refine (HEND.out _ HQ.out.rd).mono ?_); rintro e' w5 ⟨rfl, hR5, hK5⟩; have HX5 := Lib.hid (RD.kept (a' := 0) (e' := 0) HQ.out.rd hK5 HQ.out.rec_); have HRR := Lib.hid (RRow.of (R36_keep HQ.out.ri HQ.out.rd hK5) (R55_keep HQ.out.rt HQ.out.rd hK5)); have HRI5 := Lib.hid (R36_keep HQ.out.ri HQ.out.rd hK5); have HRT5 := Lib.hid (R55_keep HQ.out.rt HQ.out.rd hK5); have HR5 := Lib.hid hR5; clear hR5 hK5)
          | (refine wpList_store_row rfl 25 _ _ rfl w.heap.size (zeroR 0).cs rfl rfl 25 _ (HX0.out _ HR5.out.b) (hinfo25 (zeroR 0)) rfl (rv_one _) ?_))
        refine bodyPost_ret (results_ct (p := 2) (u := 3) (ty := 25) rfl _ _ w.heap.size 25 (zeroR 0).cs (0, 0) _ rfl (set_new (HX0.out _ HR5.out.b)) Try.underlying25 rfl (hinfo25 (zeroR 0))) rfl ?_
        rw [HP.out]
        exact ⟨zeroR 0, rfl, SameV.refl _, ⟨Kd.R_nil _ _ _ _ _, Kd.R_nil _ _ _ _ _⟩, setRow_below (below_step HBB.out HR5.out.b) (Nat.le_refl _) _⟩
  · have d1 : (e1 != 0) = true := by simpa using h0
    have HP := Lib.hid (ofP_err s k a1 e1 HK.out h0)
    clear h0
    go_enter Try.func32, Try.ntmps32
    go_wp2_with (first
      | (go_at_call 29; (with_reducible refine (pack_Read.calls s s 0 0 (w.alloc (.cells #[.int .i64 0, .int .i64 0, .int .i64 0, .int .i64 0, .int .i64 0, .string ⟨#[]⟩, .string ⟨#[]⟩, .string ⟨#[]⟩, .int .i64 0, .slice none 0 0, .slice none 0 0, .int .i64 0, .int .i64 0] 25)) _ (Below.refl _ _) (by unfold pack_Read.f; rfl)).mono ?_); rintro e' w1 ⟨g, rfl, hI1, hB1, _⟩; rw [HWB.out] at hI1 hB1; have HR1 := Lib.hid (show RD wb w1 g s 0 0 from ⟨hI1, hB1, HS.out⟩); clear hI1 hB1)
      | (go_at_call 30; (with_reducible refine (rd_num HR1.out 1 HK.out).mono ?_); rintro e' w2 ⟨rfl, hR2, hK2⟩; have HR2 := Lib.hid (hR2.alloc (.cells #[.int .i64 k, .int .i64 0, .int .i64 0, .int .i64 0, .int .i64 0, .string ⟨#[]⟩, .string ⟨#[]⟩, .string ⟨#[]⟩, .int .i64 0, .slice none 0 0, .slice none 0 0, .int .i64 0, .int .i64 0] 25)); clear hR2 hK2)
      | (go_at_call 47; (with_reducible refine (rd_err HR2.out).mono ?_); rintro e' w3 ⟨rfl, hR3, hK3⟩; have HR3 := Lib.hid hR3; clear hR3 hK3)
      | (go_at_call 47; (with_reducible refine (rd_err HR3.out).mono ?_); rintro e' w4 ⟨rfl, hR4, hK4⟩; have HR4 := Lib.hid hR4; have HX4 := Lib.hid ((hR4.b.block w.heap.size (by have := blk_lt HXZ.out; omega)).trans HXZ.out); clear hR4 hK4)
      | (refine wpList_store_row rfl 25 _ _ rfl w.heap.size (zeroR 0).cs rfl rfl 25 _ HX4.out (hinfo25 (zeroR 0)) rfl (rv_one _) ?_))
    refine bodyPost_ret (results_ct (p := 2) (u := 3) (ty := 25) rfl _ _ w.heap.size 25 (zeroR 0).cs (0, 0) _ rfl (set_new HX4.out) Try.underlying25 rfl (hinfo25 (zeroR 0))) rfl ?_
    rw [HP.out]
    exact ⟨zeroR 0, rfl, SameV.refl _, ⟨Kd.R_nil _ _ _ _ _, Kd.R_nil _ _ _ _ _⟩, setRow_below (below_step HBB.out HR4.out.b) (Nat.le_refl _) _⟩
end Go.Proofs.Ytdphikbkknkhiaa.PAll
