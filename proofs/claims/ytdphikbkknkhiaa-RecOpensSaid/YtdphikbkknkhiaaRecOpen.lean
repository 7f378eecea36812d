/- rec.Open, walked by hand: any bytes, any place. -/
import Derived.Test.YtdphikbkknkhiaaRecOf
namespace Go.Proofs.Ytdphikbkknkhiaa.PAll
open Go.RowKit Go.Proofs.Ytdphikbkknkhiaa.Pure Go.Proofs.YtdphikbkknkhiaaW.PrintWords Go.Proofs.YtdphikbkknkhiaaW.PrintLast Go.Proofs.YtdphikbkknkhiaaW.PrintMore
set_option linter.unusedVariables false
set_option linter.unusedSimpArgs false

def badG (e : Int) : Got := ⟨zeroR 0, [], [], 0, e⟩
/-- What rec.Open hands back: a record, how long its frame is, an error. -/
def OpenOut (w w' : World) (x : Ending) (g : Got) (n : Int) : Prop := ∃ q : RV, x = .returned (.tuple #[.agg q.cs, .int .i64 n, .int .i64 g.e]) ∧ SameV q g.q ∧ RRow w' q g.li g.lt ∧ Below w.heap.size w w'

set_option maxHeartbeats 4000000 in
set_option maxRecDepth 10000 in
theorem open_range (s : ByteArray) (at_ : Int) (h : at_ < 0 ∨ (s.size : Int) < at_) (w : World) : Calls Try.prog 19 #[.string s, .int .i64 at_] w fun x w' => OpenOut w w' x (badG 6) 0 := by
  have hu25 := Try.underlying25
  have HX0 := Lib.hid (fun (wx : World) (h : wx = (w.alloc (.cells #[.int .i64 0, .int .i64 0, .int .i64 0, .int .i64 0, .int .i64 0, .string ⟨#[]⟩, .string ⟨#[]⟩, .string ⟨#[]⟩, .int .i64 0, .slice none 0 0, .slice none 0 0, .int .i64 0, .int .i64 0] 25))) => (h ▸ heap_alloc_new w (.cells #[.int .i64 0, .int .i64 0, .int .i64 0, .int .i64 0, .int .i64 0, .string ⟨#[]⟩, .string ⟨#[]⟩, .string ⟨#[]⟩, .int .i64 0, .slice none 0 0, .slice none 0 0, .int .i64 0, .int .i64 0] 25) : wx.heap[w.heap.size]? = some (.cells #[.int .i64 0, .int .i64 0, .int .i64 0, .int .i64 0, .int .i64 0, .string ⟨#[]⟩, .string ⟨#[]⟩, .string ⟨#[]⟩, .int .i64 0, .slice none 0 0, .slice none 0 0, .int .i64 0, .int .i64 0] 25 (0, 0))))
  have HBB := Lib.hid (below_alloc (Below.refl w.heap.size w) (.cells #[.int .i64 0, .int .i64 0, .int .i64 0, .int .i64 0, .int .i64 0, .string ⟨#[]⟩, .string ⟨#[]⟩, .string ⟨#[]⟩, .int .i64 0, .slice none 0 0, .slice none 0 0, .int .i64 0, .int .i64 0] 25))
  have HP := Lib.hid (rfl : badG 6 = badG 6)
  by_cases h0 : at_ < 0
  · have d1 : decide (at_ < 0) = true := by simpa using h0
    clear h h0
    go_enter Try.func19, Try.ntmps19
    go_wp2_with (refine wpList_store_row rfl 25 _ _ rfl w.heap.size (zeroR 0).cs rfl rfl 25 _ (HX0.out _ rfl) (hinfo25 (zeroR 0)) rfl (rv_one _) ?_)
    refine bodyPost_ret (results_ctt (p := 4) (u := 5) (v := 6) (ty := 25) rfl _ _ w.heap.size 25 (zeroR 0).cs (0, 0) _ rfl (set_new (HX0.out _ rfl)) Try.underlying25 rfl (hinfo25 (zeroR 0))) rfl ?_
    exact ⟨zeroR 0, rfl, SameV.refl _, RRow.zero _, setRow_below HBB.out (Nat.le_refl _) _⟩
  · have d1 : decide (at_ < 0) = false := by simpa using h0
    have h1 : (s.size : Int) < at_ := h.resolve_left h0
    have d2 : decide ((s.size : Int) < at_) = true := by simpa using h1
    clear h h0 h1
    go_enter Try.func19, Try.ntmps19
    go_wp2_with (refine wpList_store_row rfl 25 _ _ rfl w.heap.size (zeroR 0).cs rfl rfl 25 _ (HX0.out _ rfl) (hinfo25 (zeroR 0)) rfl (rv_one _) ?_)
    refine bodyPost_ret (results_ctt (p := 4) (u := 5) (v := 6) (ty := 25) rfl _ _ w.heap.size 25 (zeroR 0).cs (0, 0) _ rfl (set_new (HX0.out _ rfl)) Try.underlying25 rfl (hinfo25 (zeroR 0))) rfl ?_
    exact ⟨zeroR 0, rfl, SameV.refl _, RRow.zero _, setRow_below HBB.out (Nat.le_refl _) _⟩

set_option maxHeartbeats 4000000 in
set_option maxRecDepth 10000 in
theorem open_short (s : ByteArray) (m : Nat) (hm : m ≤ s.size) (hs : s.size ≤ 1152921504606846976) (u : ByteArray) (hu : s.extract m s.size = u) (h6 : u.size < 6) (w : World) : Calls Try.prog 19 #[.string s, .int .i64 m] w fun x w' => OpenOut w w' x (badG 2) 0 := by
  have hu25 := Try.underlying25
  have hz : u.size = s.size - m := by rw [← hu, ByteArray.size_extract]; omega
  obtain ⟨wb, hwb⟩ : ∃ wb, (w.alloc (.cells #[.int .i64 0, .int .i64 0, .int .i64 0, .int .i64 0, .int .i64 0, .string ⟨#[]⟩, .string ⟨#[]⟩, .string ⟨#[]⟩, .int .i64 0, .slice none 0 0, .slice none 0 0, .int .i64 0, .int .i64 0] 25)) = wb := ⟨_, rfl⟩
  have hXz : wb.heap[w.heap.size]? = some (.cells #[.int .i64 0, .int .i64 0, .int .i64 0, .int .i64 0, .int .i64 0, .string ⟨#[]⟩, .string ⟨#[]⟩, .string ⟨#[]⟩, .int .i64 0, .slice none 0 0, .slice none 0 0, .int .i64 0, .int .i64 0] 25 (0, 0)) := hwb ▸ heap_alloc_new w _
  have hBb : Below w.heap.size w wb := hwb ▸ below_alloc (Below.refl _ _) _
  have HX0 := Lib.hid (fun (wx : World) (h : Below wb.heap.size wb wx) => (h.block w.heap.size (by have := blk_lt hXz; omega)).trans hXz)
  have HS := Lib.hid (show RInv u 0 from ⟨Int.le_refl _, by omega, by omega⟩)
  have HBB := Lib.hid hBb
  have HWB := Lib.hid hwb
  have i1 : (0 : Int) ≤ (m : Int) := by omega
  have i2 : (m : Int) ≤ (s.size : Int) := by omega
  have d1 : decide ((m : Int) < 0) = false := by simp
  have d2 : decide ((s.size : Int) < (m : Int)) = false := by simp; omega
  have d3 : decide (s.size < m) = false := by simp; omega
  have e1 : decide ((u.size : Int) < 6) = true := by simp; omega
  have e2 : decide (u.size < 6) = true := by simpa using h6
  have HX00 := Lib.hid (heap_alloc_new w (.cells #[.int .i64 0, .int .i64 0, .int .i64 0, .int .i64 0, .int .i64 0, .string ⟨#[]⟩, .string ⟨#[]⟩, .string ⟨#[]⟩, .int .i64 0, .slice none 0 0, .slice none 0 0, .int .i64 0, .int .i64 0] 25))
  have HB00 := Lib.hid (below_alloc (Below.refl w.heap.size w) (.cells #[.int .i64 0, .int .i64 0, .int .i64 0, .int .i64 0, .int .i64 0, .string ⟨#[]⟩, .string ⟨#[]⟩, .string ⟨#[]⟩, .int .i64 0, .slice none 0 0, .slice none 0 0, .int .i64 0, .int .i64 0] 25))
  clear hXz hBb h6 hz hm hs hwb HX0 HS HBB HWB
  go_enter Try.func19, Try.ntmps19
  go_wp2_with (refine wpList_store_row rfl 25 _ _ rfl w.heap.size (zeroR 0).cs rfl rfl 25 _ (HX00.out) (hinfo25 (zeroR 0)) rfl (rv_one _) ?_)
  refine bodyPost_ret (results_ctt (p := 4) (u := 5) (v := 6) (ty := 25) rfl _ _ w.heap.size 25 (zeroR 0).cs (0, 0) _ rfl (set_new (HX00.out)) Try.underlying25 rfl (hinfo25 (zeroR 0))) rfl ?_
  exact ⟨zeroR 0, rfl, SameV.refl _, RRow.zero _, setRow_below (HB00.out) (Nat.le_refl _) _⟩

set_option maxHeartbeats 4000000 in
set_option maxRecDepth 10000 in
theorem open_less (s : ByteArray) (m : Nat) (hm : m ≤ s.size) (hs : s.size ≤ 1152921504606846976) (u : ByteArray) (hu : s.extract m s.size = u) (h6 : 6 ≤ u.size) (n o f : Int) (hk : numS u 0 0 2 = (n, o, f)) (h1 : n < 1) (w : World) : Calls Try.prog 19 #[.string s, .int .i64 m] w fun x w' => OpenOut w w' x (badG 4) 0 := by
  have hu25 := Try.underlying25
  have hz : u.size = s.size - m := by rw [← hu, ByteArray.size_extract]; omega
  obtain ⟨wb, hwb⟩ : ∃ wb, (w.alloc (.cells #[.int .i64 0, .int .i64 0, .int .i64 0, .int .i64 0, .int .i64 0, .string ⟨#[]⟩, .string ⟨#[]⟩, .string ⟨#[]⟩, .int .i64 0, .slice none 0 0, .slice none 0 0, .int .i64 0, .int .i64 0] 25)) = wb := ⟨_, rfl⟩
  have hXz : wb.heap[w.heap.size]? = some (.cells #[.int .i64 0, .int .i64 0, .int .i64 0, .int .i64 0, .int .i64 0, .string ⟨#[]⟩, .string ⟨#[]⟩, .string ⟨#[]⟩, .int .i64 0, .slice none 0 0, .slice none 0 0, .int .i64 0, .int .i64 0] 25 (0, 0)) := hwb ▸ heap_alloc_new w _
  have hBb : Below w.heap.size w wb := hwb ▸ below_alloc (Below.refl _ _) _
  have HX0 := Lib.hid (fun (wx : World) (h : Below wb.heap.size wb wx) => (h.block w.heap.size (by have := blk_lt hXz; omega)).trans hXz)
  have HS := Lib.hid (show RInv u 0 from ⟨Int.le_refl _, by omega, by omega⟩)
  have HBB := Lib.hid hBb
  have HWB := Lib.hid hwb
  have i1 : (0 : Int) ≤ (m : Int) := by omega
  have i2 : (m : Int) ≤ (s.size : Int) := by omega
  have d1 : decide ((m : Int) < 0) = false := by simp
  have d2 : decide ((s.size : Int) < (m : Int)) = false := by simp; omega
  have d3 : decide (s.size < m) = false := by simp; omega
  have e1 : decide ((u.size : Int) < 6) = false := by simp; omega
  have e2 : decide (u.size < 6) = false := by simp; omega
  have hw6 : IntKind.i64.wrap ((u.size : Int) - 6) = (u.size : Int) - 6 := (i64_w _).trans (w64p (by omega) (by omega))
  have HK := Lib.hid hk
  have g1 : decide (n < 1) = true := by simpa using h1
  clear hXz hBb h6 hz hm hs hwb hk h1
  go_enter Try.func19, Try.ntmps19
  go_wp2_with (first
    | (go_at_call 29; (with_reducible refine (pack_Read.calls u u 0 0 (w.alloc (.cells #[.int .i64 0, .int .i64 0, .int .i64 0, .int .i64 0, .int .i64 0, .string ⟨#[]⟩, .string ⟨#[]⟩, .string ⟨#[]⟩, .int .i64 0, .slice none 0 0, .slice none 0 0, .int .i64 0, .int .i64 0] 25)) _ (Below.refl _ _) (by unfold pack_Read.f; rfl)).mono ?_); rintro e' w1 ⟨g, rfl, hI1, hB1, _⟩; rw [HWB.out] at hI1 hB1; have HR1 := Lib.hid (show RD wb w1 g u 0 0 from ⟨hI1, hB1, HS.out⟩); clear hI1 hB1)
    | (go_at_call 30; (with_reducible refine (rd_num HR1.out 2 HK.out).mono ?_); rintro e' w2 ⟨rfl, hR2, hK2⟩; have HB2 := Lib.hid hR2.b; clear hR2 hK2)
    | (refine wpList_store_row rfl 25 _ _ rfl w.heap.size (zeroR 0).cs rfl rfl 25 _ (HX0.out _ HB2.out) (hinfo25 (zeroR 0)) rfl (rv_one _) ?_))
  refine bodyPost_ret (results_ctt (p := 4) (u := 5) (v := 6) (ty := 25) rfl _ _ w.heap.size 25 (zeroR 0).cs (0, 0) _ rfl (set_new (HX0.out _ HB2.out)) Try.underlying25 rfl (hinfo25 (zeroR 0))) rfl ?_
  exact ⟨zeroR 0, rfl, SameV.refl _, RRow.zero _, setRow_below (below_step HBB.out HB2.out) (Nat.le_refl _) _⟩

set_option maxHeartbeats 4000000 in
set_option maxRecDepth 10000 in
theorem open_more (s : ByteArray) (m : Nat) (hm : m ≤ s.size) (hs : s.size ≤ 1152921504606846976) (u : ByteArray) (hu : s.extract m s.size = u) (h6 : 6 ≤ u.size) (n o f : Int) (hk : numS u 0 0 2 = (n, o, f)) (h0 : 1 ≤ n) (h1 : 4096 < n) (w : World) : Calls Try.prog 19 #[.string s, .int .i64 m] w fun x w' => OpenOut w w' x (badG 4) 0 := by
  have hu25 := Try.underlying25
  have hz : u.size = s.size - m := by rw [← hu, ByteArray.size_extract]; omega
  obtain ⟨wb, hwb⟩ : ∃ wb, (w.alloc (.cells #[.int .i64 0, .int .i64 0, .int .i64 0, .int .i64 0, .int .i64 0, .string ⟨#[]⟩, .string ⟨#[]⟩, .string ⟨#[]⟩, .int .i64 0, .slice none 0 0, .slice none 0 0, .int .i64 0, .int .i64 0] 25)) = wb := ⟨_, rfl⟩
  have hXz : wb.heap[w.heap.size]? = some (.cells #[.int .i64 0, .int .i64 0, .int .i64 0, .int .i64 0, .int .i64 0, .string ⟨#[]⟩, .string ⟨#[]⟩, .string ⟨#[]⟩, .int .i64 0, .slice none 0 0, .slice none 0 0, .int .i64 0, .int .i64 0] 25 (0, 0)) := hwb ▸ heap_alloc_new w _
  have hBb : Below w.heap.size w wb := hwb ▸ below_alloc (Below.refl _ _) _
  have HX0 := Lib.hid (fun (wx : World) (h : Below wb.heap.size wb wx) => (h.block w.heap.size (by have := blk_lt hXz; omega)).trans hXz)
  have HS := Lib.hid (show RInv u 0 from ⟨Int.le_refl _, by omega, by omega⟩)
  have HBB := Lib.hid hBb
  have HWB := Lib.hid hwb
  have i1 : (0 : Int) ≤ (m : Int) := by omega
  have i2 : (m : Int) ≤ (s.size : Int) := by omega
  have d1 : decide ((m : Int) < 0) = false := by simp
  have d2 : decide ((s.size : Int) < (m : Int)) = false := by simp; omega
  have d3 : decide (s.size < m) = false := by simp; omega
  have e1 : decide ((u.size : Int) < 6) = false := by simp; omega
  have e2 : decide (u.size < 6) = false := by simp; omega
  have hw6 : IntKind.i64.wrap ((u.size : Int) - 6) = (u.size : Int) - 6 := (i64_w _).trans (w64p (by omega) (by omega))
  have HK := Lib.hid hk
  have g1 : decide (n < 1) = false := by simp; omega
  have g2 : decide (4096 < n) = true := by simpa using h1
  clear h0
  clear hXz hBb h6 hz hm hs hwb hk h1
  go_enter Try.func19, Try.ntmps19
  go_wp2_with (first
    | (go_at_call 29; (with_reducible refine (pack_Read.calls u u 0 0 (w.alloc (.cells #[.int .i64 0, .int .i64 0, .int .i64 0, .int .i64 0, .int .i64 0, .string ⟨#[]⟩, .string ⟨#[]⟩, .string ⟨#[]⟩, .int .i64 0, .slice none 0 0, .slice none 0 0, .int .i64 0, .int .i64 0] 25)) _ (Below.refl _ _) (by unfold pack_Read.f; rfl)).mono ?_); rintro e' w1 ⟨g, rfl, hI1, hB1, _⟩; rw [HWB.out] at hI1 hB1; have HR1 := Lib.hid (show RD wb w1 g u 0 0 from ⟨hI1, hB1, HS.out⟩); clear hI1 hB1)
    | (go_at_call 30; (with_reducible refine (rd_num HR1.out 2 HK.out).mono ?_); rintro e' w2 ⟨rfl, hR2, hK2⟩; have HB2 := Lib.hid hR2.b; clear hR2 hK2)
    | (refine wpList_store_row rfl 25 _ _ rfl w.heap.size (zeroR 0).cs rfl rfl 25 _ (HX0.out _ HB2.out) (hinfo25 (zeroR 0)) rfl (rv_one _) ?_))
  refine bodyPost_ret (results_ctt (p := 4) (u := 5) (v := 6) (ty := 25) rfl _ _ w.heap.size 25 (zeroR 0).cs (0, 0) _ rfl (set_new (HX0.out _ HB2.out)) Try.underlying25 rfl (hinfo25 (zeroR 0))) rfl ?_
  exact ⟨zeroR 0, rfl, SameV.refl _, RRow.zero _, setRow_below (below_step HBB.out HB2.out) (Nat.le_refl _) _⟩

set_option maxHeartbeats 4000000 in
set_option maxRecDepth 10000 in
theorem open_cut (s : ByteArray) (m : Nat) (hm : m ≤ s.size) (hs : s.size ≤ 1152921504606846976) (u : ByteArray) (hu : s.extract m s.size = u) (h6 : 6 ≤ u.size) (n o f : Int) (hk : numS u 0 0 2 = (n, o, f)) (h0 : 1 ≤ n) (h2 : n ≤ 4096) (h1 : (u.size : Int) - 6 < n) (w : World) : Calls Try.prog 19 #[.string s, .int .i64 m] w fun x w' => OpenOut w w' x (badG 2) 0 := by
  have hu25 := Try.underlying25
  have hz : u.size = s.size - m := by rw [← hu, ByteArray.size_extract]; omega
  obtain ⟨wb, hwb⟩ : ∃ wb, (w.alloc (.cells #[.int .i64 0, .int .i64 0, .int .i64 0, .int .i64 0, .int .i64 0, .string ⟨#[]⟩, .string ⟨#[]⟩, .string ⟨#[]⟩, .int .i64 0, .slice none 0 0, .slice none 0 0, .int .i64 0, .int .i64 0] 25)) = wb := ⟨_, rfl⟩
  have hXz : wb.heap[w.heap.size]? = some (.cells #[.int .i64 0, .int .i64 0, .int .i64 0, .int .i64 0, .int .i64 0, .string ⟨#[]⟩, .string ⟨#[]⟩, .string ⟨#[]⟩, .int .i64 0, .slice none 0 0, .slice none 0 0, .int .i64 0, .int .i64 0] 25 (0, 0)) := hwb ▸ heap_alloc_new w _
  have hBb : Below w.heap.size w wb := hwb ▸ below_alloc (Below.refl _ _) _
  have HX0 := Lib.hid (fun (wx : World) (h : Below wb.heap.size wb wx) => (h.block w.heap.size (by have := blk_lt hXz; omega)).trans hXz)
  have HS := Lib.hid (show RInv u 0 from ⟨Int.le_refl _, by omega, by omega⟩)
  have HBB := Lib.hid hBb
  have HWB := Lib.hid hwb
  have i1 : (0 : Int) ≤ (m : Int) := by omega
  have i2 : (m : Int) ≤ (s.size : Int) := by omega
  have d1 : decide ((m : Int) < 0) = false := by simp
  have d2 : decide ((s.size : Int) < (m : Int)) = false := by simp; omega
  have d3 : decide (s.size < m) = false := by simp; omega
  have e1 : decide ((u.size : Int) < 6) = false := by simp; omega
  have e2 : decide (u.size < 6) = false := by simp; omega
  have hw6 : IntKind.i64.wrap ((u.size : Int) - 6) = (u.size : Int) - 6 := (i64_w _).trans (w64p (by omega) (by omega))
  have HK := Lib.hid hk
  have g1 : decide (n < 1) = false := by simp; omega
  have g2 : decide (4096 < n) = false := by simp; omega
  have g3 : decide ((u.size : Int) - 6 < n) = true := by simpa using h1
  clear h0 h2
  clear hXz hBb h6 hz hm hs hwb hk h1
  go_enter Try.func19, Try.ntmps19
  go_wp2_with (first
    | (go_at_call 29; (with_reducible refine (pack_Read.calls u u 0 0 (w.alloc (.cells #[.int .i64 0, .int .i64 0, .int .i64 0, .int .i64 0, .int .i64 0, .string ⟨#[]⟩, .string ⟨#[]⟩, .string ⟨#[]⟩, .int .i64 0, .slice none 0 0, .slice none 0 0, .int .i64 0, .int .i64 0] 25)) _ (Below.refl _ _) (by unfold pack_Read.f; rfl)).mono ?_); rintro e' w1 ⟨g, rfl, hI1, hB1, _⟩; rw [HWB.out] at hI1 hB1; have HR1 := Lib.hid (show RD wb w1 g u 0 0 from ⟨hI1, hB1, HS.out⟩); clear hI1 hB1)
    | (go_at_call 30; (with_reducible refine (rd_num HR1.out 2 HK.out).mono ?_); rintro e' w2 ⟨rfl, hR2, hK2⟩; have HB2 := Lib.hid hR2.b; clear hR2 hK2)
    | (refine wpList_store_row rfl 25 _ _ rfl w.heap.size (zeroR 0).cs rfl rfl 25 _ (HX0.out _ HB2.out) (hinfo25 (zeroR 0)) rfl (rv_one _) ?_))
  refine bodyPost_ret (results_ctt (p := 4) (u := 5) (v := 6) (ty := 25) rfl _ _ w.heap.size 25 (zeroR 0).cs (0, 0) _ rfl (set_new (HX0.out _ HB2.out)) Try.underlying25 rfl (hinfo25 (zeroR 0))) rfl ?_
  exact ⟨zeroR 0, rfl, SameV.refl _, RRow.zero _, setRow_below (below_step HBB.out HB2.out) (Nat.le_refl _) _⟩

set_option maxHeartbeats 4000000 in
set_option maxRecDepth 10000 in
theorem open_sum (s : ByteArray) (m : Nat) (hm : m ≤ s.size) (hs : s.size ≤ 1152921504606846976) (u : ByteArray) (hu : s.extract m s.size = u) (h6 : 6 ≤ u.size) (p : Nat) (o f : Int) (hk : numS u 0 0 2 = ((p : Int), o, f)) (h0 : 1 ≤ p) (h2 : p ≤ 4096) (h1 : (p : Int) ≤ (u.size : Int) - 6) (v : ByteArray) (hv : u.extract 2 (6 + p) = v) (b : ByteArray) (z : Int) (hso : sum_Open.f v = some (b, z)) (hz0 : z ≠ 0) (w : World) : Calls Try.prog 19 #[.string s, .int .i64 m] w fun x w' => OpenOut w w' x (badG z) 0 := by
  have hu25 := Try.underlying25
  have hz : u.size = s.size - m := by rw [← hu, ByteArray.size_extract]; omega
  obtain ⟨wb, hwb⟩ : ∃ wb, (w.alloc (.cells #[.int .i64 0, .int .i64 0, .int .i64 0, .int .i64 0, .int .i64 0, .string ⟨#[]⟩, .string ⟨#[]⟩, .string ⟨#[]⟩, .int .i64 0, .slice none 0 0, .slice none 0 0, .int .i64 0, .int .i64 0] 25)) = wb := ⟨_, rfl⟩
  have hXz : wb.heap[w.heap.size]? = some (.cells #[.int .i64 0, .int .i64 0, .int .i64 0, .int .i64 0, .int .i64 0, .string ⟨#[]⟩, .string ⟨#[]⟩, .string ⟨#[]⟩, .int .i64 0, .slice none 0 0, .slice none 0 0, .int .i64 0, .int .i64 0] 25 (0, 0)) := hwb ▸ heap_alloc_new w _
  have hBb : Below w.heap.size w wb := hwb ▸ below_alloc (Below.refl _ _) _
  have HX0 := Lib.hid (fun (wx : World) (h : Below wb.heap.size wb wx) => (h.block w.heap.size (by have := blk_lt hXz; omega)).trans hXz)
  have HS := Lib.hid (show RInv u 0 from ⟨Int.le_refl _, by omega, by omega⟩)
  have HBB := Lib.hid hBb
  have HWB := Lib.hid hwb
  have i1 : (0 : Int) ≤ (m : Int) := by omega
  have i2 : (m : Int) ≤ (s.size : Int) := by omega
  have d1 : decide ((m : Int) < 0) = false := by simp
  have d2 : decide ((s.size : Int) < (m : Int)) = false := by simp; omega
  have d3 : decide (s.size < m) = false := by simp; omega
  have e1 : decide ((u.size : Int) < 6) = false := by simp; omega
  have e2 : decide (u.size < 6) = false := by simp; omega
  have hw6 : IntKind.i64.wrap ((u.size : Int) - 6) = (u.size : Int) - 6 := (i64_w _).trans (w64p (by omega) (by omega))
  have HK := Lib.hid hk
  have g1 : decide ((p : Int) < 1) = false := by simp; omega
  have g2 : decide (4096 < (p : Int)) = false := by simp; omega
  have g2n : decide (4096 < p) = false := by simp; omega
  have g3 : decide ((u.size : Int) - 6 < (p : Int)) = false := by simp; omega
  have hwp : IntKind.i64.wrap (6 + (p : Int)) = 6 + (p : Int) := (i64_w _).trans (w64p (by omega) (by omega))
  have j1 : (2 : Int) ≤ 6 + (p : Int) := by omega
  have j2 : 6 + (p : Int) ≤ (u.size : Int) := by omega
  have j3 : (0 : Int) ≤ 6 + (p : Int) := by omega
  have j4 : (6 + (p : Int)).toNat = 6 + p := by omega
  have HSO := Lib.hid hso
  have g4 : (z != 0) = true := by simpa using hz0
  clear hso hz0
  clear hXz hBb h6 hz hm hs hwb hk h1 h0 h2
  go_enter Try.func19, Try.ntmps19
  go_wp2_with (first
    | (go_at_call 29; (with_reducible refine (pack_Read.calls u u 0 0 (w.alloc (.cells #[.int .i64 0, .int .i64 0, .int .i64 0, .int .i64 0, .int .i64 0, .string ⟨#[]⟩, .string ⟨#[]⟩, .string ⟨#[]⟩, .int .i64 0, .slice none 0 0, .slice none 0 0, .int .i64 0, .int .i64 0] 25)) _ (Below.refl _ _) (by unfold pack_Read.f; rfl)).mono ?_); rintro e' w1 ⟨g, rfl, hI1, hB1, _⟩; rw [HWB.out] at hI1 hB1; have HR1 := Lib.hid (show RD wb w1 g u 0 0 from ⟨hI1, hB1, HS.out⟩); clear hI1 hB1)
    | (go_at_call 30; (with_reducible refine (rd_num HR1.out 2 HK.out).mono ?_); rintro e' w2 ⟨rfl, hR2, hK2⟩; have HB2 := Lib.hid hR2.b; clear hR2 hK2)
    | (go_at_call 31; (with_reducible refine (sum_Open.calls v b z _ HSO.out).mono ?_); rintro e' w3 ⟨rfl, hB3⟩; have HB3 := Lib.hid (below_step HB2.out hB3); clear hB3)
    | (refine wpList_store_row rfl 25 _ _ rfl w.heap.size (zeroR 0).cs rfl rfl 25 _ (HX0.out _ HB3.out) (hinfo25 (zeroR 0)) rfl (rv_one _) ?_))
  refine bodyPost_ret (results_ctt (p := 4) (u := 5) (v := 6) (ty := 25) rfl _ _ w.heap.size 25 (zeroR 0).cs (0, 0) _ rfl (set_new (HX0.out _ HB3.out)) Try.underlying25 rfl (hinfo25 (zeroR 0))) rfl ?_
  exact ⟨zeroR 0, rfl, SameV.refl _, RRow.zero _, setRow_below (below_step HBB.out HB3.out) (Nat.le_refl _) _⟩

set_option maxHeartbeats 4000000 in
set_option maxRecDepth 10000 in
theorem open_ofbad (s : ByteArray) (m : Nat) (hm : m ≤ s.size) (hs : s.size ≤ 1152921504606846976) (u : ByteArray) (hu : s.extract m s.size = u) (h6 : 6 ≤ u.size) (p : Nat) (o f : Int) (hk : numS u 0 0 2 = ((p : Int), o, f)) (h0 : 1 ≤ p) (h2 : p ≤ 4096) (h1 : (p : Int) ≤ (u.size : Int) - 6) (v : ByteArray) (hv : u.extract 2 (6 + p) = v) (b : ByteArray) (hso : sum_Open.f v = some (b, 0)) (hb : b.size ≤ 1152921504606846976) (G : Got) (hof : ofP b = G) (he : G.e ≠ 0) (w : World) : Calls Try.prog 19 #[.string s, .int .i64 m] w fun x w' => OpenOut w w' x (badG G.e) 0 := by
  have hu25 := Try.underlying25
  have hz : u.size = s.size - m := by rw [← hu, ByteArray.size_extract]; omega
  obtain ⟨wb, hwb⟩ : ∃ wb, (w.alloc (.cells #[.int .i64 0, .int .i64 0, .int .i64 0, .int .i64 0, .int .i64 0, .string ⟨#[]⟩, .string ⟨#[]⟩, .string ⟨#[]⟩, .int .i64 0, .slice none 0 0, .slice none 0 0, .int .i64 0, .int .i64 0] 25)) = wb := ⟨_, rfl⟩
  have hXz : wb.heap[w.heap.size]? = some (.cells #[.int .i64 0, .int .i64 0, .int .i64 0, .int .i64 0, .int .i64 0, .string ⟨#[]⟩, .string ⟨#[]⟩, .string ⟨#[]⟩, .int .i64 0, .slice none 0 0, .slice none 0 0, .int .i64 0, .int .i64 0] 25 (0, 0)) := hwb ▸ heap_alloc_new w _
  have hBb : Below w.heap.size w wb := hwb ▸ below_alloc (Below.refl _ _) _
  have HX0 := Lib.hid (fun (wx : World) (h : Below wb.heap.size wb wx) => (h.block w.heap.size (by have := blk_lt hXz; omega)).trans hXz)
  have HS := Lib.hid (show RInv u 0 from ⟨Int.le_refl _, by omega, by omega⟩)
  have HBB := Lib.hid hBb
  have HWB := Lib.hid hwb
  have i1 : (0 : Int) ≤ (m : Int) := by omega
  have i2 : (m : Int) ≤ (s.size : Int) := by omega
  have d1 : decide ((m : Int) < 0) = false := by simp
  have d2 : decide ((s.size : Int) < (m : Int)) = false := by simp; omega
  have d3 : decide (s.size < m) = false := by simp; omega
  have e1 : decide ((u.size : Int) < 6) = false := by simp; omega
  have e2 : decide (u.size < 6) = false := by simp; omega
  have hw6 : IntKind.i64.wrap ((u.size : Int) - 6) = (u.size : Int) - 6 := (i64_w _).trans (w64p (by omega) (by omega))
  have HK := Lib.hid hk
  have g1 : decide ((p : Int) < 1) = false := by simp; omega
  have g2 : decide (4096 < (p : Int)) = false := by simp; omega
  have g2n : decide (4096 < p) = false := by simp; omega
  have g3 : decide ((u.size : Int) - 6 < (p : Int)) = false := by simp; omega
  have hwp : IntKind.i64.wrap (6 + (p : Int)) = 6 + (p : Int) := (i64_w _).trans (w64p (by omega) (by omega))
  have j1 : (2 : Int) ≤ 6 + (p : Int) := by omega
  have j2 : 6 + (p : Int) ≤ (u.size : Int) := by omega
  have j3 : (0 : Int) ≤ 6 + (p : Int) := by omega
  have j4 : (6 + (p : Int)).toNat = 6 + p := by omega
  have HSO := Lib.hid hso
  have HOF := Lib.hid hof
  have HBS := Lib.hid hb
  have g4 : (G.e != 0) = true := by simpa using he
  clear he
  clear hso hof hb
  clear hXz hBb h6 hz hm hs hwb hk h1 h0 h2
  go_enter Try.func19, Try.ntmps19
  go_wp2_with (first
    | (go_at_call 29; (with_reducible refine (pack_Read.calls u u 0 0 (w.alloc (.cells #[.int .i64 0, .int .i64 0, .int .i64 0, .int .i64 0, .int .i64 0, .string ⟨#[]⟩, .string ⟨#[]⟩, .string ⟨#[]⟩, .int .i64 0, .slice none 0 0, .slice none 0 0, .int .i64 0, .int .i64 0] 25)) _ (Below.refl _ _) (by unfold pack_Read.f; rfl)).mono ?_); rintro e' w1 ⟨g, rfl, hI1, hB1, _⟩; rw [HWB.out] at hI1 hB1; have HR1 := Lib.hid (show RD wb w1 g u 0 0 from ⟨hI1, hB1, HS.out⟩); clear hI1 hB1)
    | (go_at_call 30; (with_reducible refine (rd_num HR1.out 2 HK.out).mono ?_); rintro e' w2 ⟨rfl, hR2, hK2⟩; have HB2 := Lib.hid hR2.b; clear hR2 hK2)
    | (go_at_call 31; (with_reducible refine (sum_Open.calls v b 0 _ HSO.out).mono ?_); rintro e' w3 ⟨rfl, hB3⟩; have HB3 := Lib.hid (below_step HB2.out hB3); clear hB3)
    | (go_at_call 32; (with_reducible refine (of_walk b HBS.out _).mono ?_); rintro e' w4 ⟨q, rfl, hsv, hrow, hB4⟩; rw [HOF.out] at hsv hrow ⊢; have HSV := Lib.hid hsv; have HRI := Lib.hid hrow.1; have HRT := Lib.hid hrow.2; have HB4 := Lib.hid (below_step HB3.out hB4); have HLE := Lib.hid hB4.size; have HB5 := Lib.hid (setRow_below (below_alloc (below_step HB3.out hB4) (.cells #[.int .i64 0, .int .i64 0, .int .i64 0, .int .i64 0, .int .i64 0, .string ⟨#[]⟩, .string ⟨#[]⟩, .string ⟨#[]⟩, .int .i64 0, .slice none 0 0, .slice none 0 0, .int .i64 0, .int .i64 0] 25)) (below_step HB3.out hB4).size q.cs); clear hsv hrow hB4)
    | (refine wpList_store_row rfl 25 _ _ rfl w4.heap.size q.cs rfl rfl 25 _ (heap_alloc_new w4 _) (hinfo25 q) rfl (rv_one _) ?_)
    | (refine wpList_store_row rfl 25 _ _ rfl w.heap.size (zeroR 0).cs rfl rfl 25 _ (HX0.out _ HB5.out) (hinfo25 (zeroR 0)) rfl (rv_one _) ?_))
  refine bodyPost_ret (results_ctt (p := 4) (u := 5) (v := 6) (ty := 25) rfl _ _ w.heap.size 25 (zeroR 0).cs (0, 0) _ rfl (set_new (HX0.out _ HB5.out)) Try.underlying25 rfl (hinfo25 (zeroR 0))) rfl ?_
  exact ⟨zeroR 0, rfl, SameV.refl _, RRow.zero _, setRow_below (below_step HBB.out HB5.out) (Nat.le_refl _) _⟩

set_option maxHeartbeats 4000000 in
set_option maxRecDepth 10000 in
theorem open_ofok (s : ByteArray) (m : Nat) (hm : m ≤ s.size) (hs : s.size ≤ 1152921504606846976) (u : ByteArray) (hu : s.extract m s.size = u) (h6 : 6 ≤ u.size) (p : Nat) (o f : Int) (hk : numS u 0 0 2 = ((p : Int), o, f)) (h0 : 1 ≤ p) (h2 : p ≤ 4096) (h1 : (p : Int) ≤ (u.size : Int) - 6) (v : ByteArray) (hv : u.extract 2 (6 + p) = v) (b : ByteArray) (hso : sum_Open.f v = some (b, 0)) (hb : b.size ≤ 1152921504606846976) (G : Got) (hof : ofP b = G) (he : G.e = 0) (w : World) : Calls Try.prog 19 #[.string s, .int .i64 m] w fun x w' => OpenOut w w' x G (6 + (p : Int)) := by
  have hu25 := Try.underlying25
  have hz : u.size = s.size - m := by rw [← hu, ByteArray.size_extract]; omega
  obtain ⟨wb, hwb⟩ : ∃ wb, (w.alloc (.cells #[.int .i64 0, .int .i64 0, .int .i64 0, .int .i64 0, .int .i64 0, .string ⟨#[]⟩, .string ⟨#[]⟩, .string ⟨#[]⟩, .int .i64 0, .slice none 0 0, .slice none 0 0, .int .i64 0, .int .i64 0] 25)) = wb := ⟨_, rfl⟩
  have hXz : wb.heap[w.heap.size]? = some (.cells #[.int .i64 0, .int .i64 0, .int .i64 0, .int .i64 0, .int .i64 0, .string ⟨#[]⟩, .string ⟨#[]⟩, .string ⟨#[]⟩, .int .i64 0, .slice none 0 0, .slice none 0 0, .int .i64 0, .int .i64 0] 25 (0, 0)) := hwb ▸ heap_alloc_new w _
  have hBb : Below w.heap.size w wb := hwb ▸ below_alloc (Below.refl _ _) _
  have HX0 := Lib.hid (fun (wx : World) (h : Below wb.heap.size wb wx) => (h.block w.heap.size (by have := blk_lt hXz; omega)).trans hXz)
  have HS := Lib.hid (show RInv u 0 from ⟨Int.le_refl _, by omega, by omega⟩)
  have HBB := Lib.hid hBb
  have HWB := Lib.hid hwb
  have i1 : (0 : Int) ≤ (m : Int) := by omega
  have i2 : (m : Int) ≤ (s.size : Int) := by omega
  have d1 : decide ((m : Int) < 0) = false := by simp
  have d2 : decide ((s.size : Int) < (m : Int)) = false := by simp; omega
  have d3 : decide (s.size < m) = false := by simp; omega
  have e1 : decide ((u.size : Int) < 6) = false := by simp; omega
  have e2 : decide (u.size < 6) = false := by simp; omega
  have hw6 : IntKind.i64.wrap ((u.size : Int) - 6) = (u.size : Int) - 6 := (i64_w _).trans (w64p (by omega) (by omega))
  have HK := Lib.hid hk
  have g1 : decide ((p : Int) < 1) = false := by simp; omega
  have g2 : decide (4096 < (p : Int)) = false := by simp; omega
  have g2n : decide (4096 < p) = false := by simp; omega
  have g3 : decide ((u.size : Int) - 6 < (p : Int)) = false := by simp; omega
  have hwp : IntKind.i64.wrap (6 + (p : Int)) = 6 + (p : Int) := (i64_w _).trans (w64p (by omega) (by omega))
  have j1 : (2 : Int) ≤ 6 + (p : Int) := by omega
  have j2 : 6 + (p : Int) ≤ (u.size : Int) := by omega
  have j3 : (0 : Int) ≤ 6 + (p : Int) := by omega
  have j4 : (6 + (p : Int)).toNat = 6 + p := by omega
  have HSO := Lib.hid hso
  have HOF := Lib.hid hof
  have HBS := Lib.hid hb
  have HE := Lib.hid he
  clear he
  clear hso hof hb
  clear hXz hBb h6 hz hm hs hwb hk h1 h0 h2
  go_enter Try.func19, Try.ntmps19
  go_wp2_with (first
    | (go_at_call 29; (with_reducible refine (pack_Read.calls u u 0 0 (w.alloc (.cells #[.int .i64 0, .int .i64 0, .int .i64 0, .int .i64 0, .int .i64 0, .string ⟨#[]⟩, .string ⟨#[]⟩, .string ⟨#[]⟩, .int .i64 0, .slice none 0 0, .slice none 0 0, .int .i64 0, .int .i64 0] 25)) _ (Below.refl _ _) (by unfold pack_Read.f; rfl)).mono ?_); rintro e' w1 ⟨g, rfl, hI1, hB1, _⟩; rw [HWB.out] at hI1 hB1; have HR1 := Lib.hid (show RD wb w1 g u 0 0 from ⟨hI1, hB1, HS.out⟩); clear hI1 hB1)
    | (go_at_call 30; (with_reducible refine (rd_num HR1.out 2 HK.out).mono ?_); rintro e' w2 ⟨rfl, hR2, hK2⟩; have HB2 := Lib.hid hR2.b; clear hR2 hK2)
    | (go_at_call 31; (with_reducible refine (sum_Open.calls v b 0 _ HSO.out).mono ?_); rintro e' w3 ⟨rfl, hB3⟩; have HB3 := Lib.hid (below_step HB2.out hB3); clear hB3)
    | (go_at_call 32; (with_reducible refine (of_walk b HBS.out _).mono ?_); rintro e' w4 ⟨q, rfl, hsv, hrow, hB4⟩; rw [HOF.out] at hsv hrow ⊢; rw [HE.out]; have HSV := Lib.hid hsv; have HRI := Lib.hid hrow.1; have HRT := Lib.hid hrow.2; have HB4 := Lib.hid (below_step HB3.out hB4); have HLE := Lib.hid hB4.size; have HB5 := Lib.hid (setRow_below (below_alloc (below_step HB3.out hB4) (.cells #[.int .i64 0, .int .i64 0, .int .i64 0, .int .i64 0, .int .i64 0, .string ⟨#[]⟩, .string ⟨#[]⟩, .string ⟨#[]⟩, .int .i64 0, .slice none 0 0, .slice none 0 0, .int .i64 0, .int .i64 0] 25)) (below_step HB3.out hB4).size q.cs); clear hsv hrow hB4)
    | (refine wpList_store_row rfl 25 _ _ rfl w4.heap.size q.cs rfl rfl 25 _ (heap_alloc_new w4 _) (hinfo25 q) rfl (rv_one _) ?_)
    | (refine wpList_load_row rfl 25 _ rfl w4.heap.size rfl 25 q.cs (0, 0) _ (set_new (heap_alloc_new w4 _)) Try.underlying25 rfl (hinfo25 q) ?_)
    | (refine wpList_store_row rfl 25 _ _ rfl w.heap.size q.cs rfl rfl 25 _ (HX0.out _ HB5.out) (hinfo25 q) rfl (rv_one _) ?_))
  refine bodyPost_ret (results_ctt (p := 4) (u := 5) (v := 6) (ty := 25) rfl _ _ w.heap.size 25 q.cs (0, 0) _ rfl (set_new (HX0.out _ HB5.out)) Try.underlying25 rfl (hinfo25 q)) rfl ?_
  refine ⟨q, by rw [HE.out]; rfl, HSV.out, RRow.of (b := w3.heap.size) (R36_row (R36_row (Kd.R_alloc HRI.out _) (heap_alloc_new w4 _)) (HX0.out _ HB5.out)) (R55_row (R55_row (Kd.R_alloc HRT.out _) (heap_alloc_new w4 _)) (HX0.out _ HB5.out)), setRow_below (below_step HBB.out HB5.out) (Nat.le_refl _) _⟩
end Go.Proofs.Ytdphikbkknkhiaa.PAll
