/- The law RecPages, walked by hand. -/
import Derived.Test.YtdphikbkknkhiaaRecLaw
import Derived.Test.YtdphikbkknkhiaaPAllx8
namespace Go.Proofs.Ytdphikbkknkhiaa.PAll
open Go.RowKit Go.Proofs.Ytdphikbkknkhiaa.Pure Go.Proofs.YtdphikbkknkhiaaW.PrintWords Go.Proofs.YtdphikbkknkhiaaW.PrintLast Go.Proofs.YtdphikbkknkhiaaW.PrintMore
set_option linter.unusedVariables false
set_option linter.unusedSimpArgs false

/-- The pages that a record changes. -/
def pagesP (kind page : Int) (li : List S36) : List Int := if kind = 1 ∨ kind = 2 then li.map (·.f0) else if 3 ≤ kind ∧ kind ≤ 6 then [page] else []
theorem pages_l0 (li : List S36) (hli : li.length ≤ 20) (d : Nat) : ∀ (k j : Nat), j + d = li.length → d + 1 ≤ k → rec_Pages.l0 k ((li.take j).map (·.f0)) li (li.length : Int) (j : Int) = some (li.map (·.f0)) := by
  induction d with
  | zero =>
    intro k j hj hk
    obtain ⟨m, rfl⟩ : ∃ m, k = m + 1 := ⟨k - 1, by omega⟩
    simp only [rec_Pages.l0]
    rw [if_neg (by omega), List.take_of_length_le (by omega)]
  | succ d ih =>
    intro k j hj hk
    obtain ⟨m, rfl⟩ : ∃ m, k = m + 1 := ⟨k - 1, by omega⟩
    have hlt : j < li.length := by omega
    simp only [rec_Pages.l0]
    rw [if_pos (by omega), if_pos (by omega), if_pos (by omega), if_pos (by rw [List.length_map, List.length_take]; omega), w64p (by omega) (by omega), rd36_get li j hlt]
    have e : (li.take j).map (·.f0) ++ [li[j].f0] = (li.take (j + 1)).map (·.f0) := by
      rw [List.take_succ_eq_append_getElem hlt, List.map_append]
      rfl
    rw [e]
    exact ih m (j + 1) (by omega) (by omega)
theorem pages_f (kind txn prev page act : Int) (key old new_ : ByteArray) (next : Int) (iA : Option Addr) (ic : Nat) (l1 : List S36) (tA : Option Addr) (tc : Nat) (l2 : List S55) (epoch node : Int) (hl : l1.length ≤ 20) : rec_Pages.f 50 kind txn prev page act key old new_ next l1 l2 epoch node = some (pagesP kind page l1) := by
  have h0 := pages_l0 l1 hl l1.length 49 0 (by omega) (by omega)
  unfold rec_Pages.f pagesP
  by_cases h1 : kind = 1
  · subst h1
    rw [if_pos rfl, if_pos (.inl rfl)]
    simp only [rec_Pages.j0]
    rw [if_pos (by rfl)]
    exact h0
  · rw [if_neg h1]
    by_cases h2 : kind = 2
    · subst h2
      rw [if_pos (.inr rfl)]
      simp only [rec_Pages.j0]
      rw [if_pos (by rfl)]
      exact h0
    · rw [if_neg (by omega)]
      simp only [rec_Pages.j0]
      rw [if_neg (by simpa using h2)]
      by_cases h : 3 ≤ kind ∧ kind ≤ 6
      · rw [if_pos h]
        rcases (by omega : kind = 3 ∨ kind = 4 ∨ kind = 5 ∨ kind = 6) with rfl | rfl | rfl | rfl
        · rw [if_pos rfl]; rfl
        · rw [if_neg (by omega), if_pos rfl]; rfl
        · rw [if_neg (by omega), if_neg (by omega), if_pos rfl]; rfl
        · rw [if_neg (by omega), if_neg (by omega), if_neg (by omega), if_pos rfl]; rfl
      · rw [if_neg h, if_neg (by omega), if_neg (by omega), if_neg (by omega), if_neg (by omega)]
theorem eqA41 (d : Nat) (w : World) (x0 y0 x1 y1 : ByteArray) :
    (Op.equalIn (d + 2) 41 (.agg #[.string x0, .string x1]) (.agg #[.string y0, .string y1])).run Try.prog w = .ok ((x0.toList == y0.toList) && (x1.toList == y1.toList)) w := by
  refine eqA_of Try.underlying41 (by kernel_rfl) ?_
  refine eqf_cons (by rfl) (by go_simp; rfl) (by go_simp; rfl) (by go_simp) ?_
  exact eqf_last (by rfl) (by go_simp; rfl) (by go_simp; rfl) (by go_simp)
theorem info3p : (Try.prog.info? 3).map (fun i => (i.zero, i.size, i.bytes)) = some (some (.int .i64 0), 1, 8) := info3
/-- The record's block, and the pages that are wanted. -/
structure PW (w wr : World) (C : Array Value) (v : Value) (xs : List Int) : Prop where
  b : Below w.heap.size w wr
  rec_ : wr.heap[w.heap.size]? = some (.cells C 25 (0, 0))
  row : Kd.R (Kd.int .i64) 3 wr w.heap.size (fun _ => True) v xs
theorem PW.below {w wr w' : World} {C : Array Value} {v : Value} {xs : List Int} (h : PW w wr C v xs) (hb : Below wr.heap.size wr w') : PW w w' C v xs := ⟨below_step h.b hb, blk_below h.rec_ hb, Kd.R_below h.row hb⟩
theorem PW.app {w wr w' : World} {C : Array Value} {v v' : Value} {xs xs' : List Int} (h : PW w wr C v xs) (hb : Below w.heap.size w w') (hg : wr.grownBy w' v.ownBlock) (hr : Kd.R (Kd.int .i64) 3 w' w.heap.size (fun _ => True) v' xs') : PW w w' C v' xs' :=
  ⟨hb, (hg.block w.heap.size (blk_lt h.rec_) (own_ne h.row.2.choose_spec.1 h.rec_ (by decide))).trans h.rec_, hr⟩
theorem row_at {w : World} {A : Option Addr} {c b : Nat} {xs : List Int} (h : Kd.R (Kd.int .i64) 3 w b (fun _ => True) (.slice A xs.length c) xs) (j : Nat) (hj : j < xs.length) : ∃ ad, A = some ad ∧ w.cell? (ad.add j) = some (.int .i64 (rd xs j)) := by
  obtain ⟨_, _, hC⟩ := Kd.R_reads' h
  have := Kd.at_int hC (j : Int) (by omega) (by omega)
  rw [Int.toNat_natCast] at this
  exact this

set_option maxHeartbeats 8000000 in
set_option maxRecDepth 10000 in
theorem pages_1 (txn prev page act : Int) (key old new_ : ByteArray) (next : Int) (iA : Option Addr) (ic : Nat) (l1 : List S36) (tA : Option Addr) (tc : Nat) (l2 : List S55) (epoch node : Int) (r : RV) (w : World) (hfew : ∀ w1 : World, Calls Try.prog 9 #[.agg r.cs] w1 fun e w' => e = .returned (.agg (RV.cs ⟨1, txn, prev, page, act, key, old, new_, next, ⟨iA, l1.length, ic⟩, ⟨tA, l2.length, tc⟩, epoch, node⟩)) ∧ Below w1.heap.size w1 w') (hI : Kd.C k36 w iA l1.length l1) (hic : l1.length ≤ ic) (hT : Kd.C k55 w tA l2.length l2) (htc : l2.length ≤ tc) (hl : l1.length ≤ 20) :
    Calls Try.prog 6 #[.agg r.cs] w fun e w' => e = .returned (.bool true) ∧ Below w.heap.size w w' := by
  have hu25 := Try.underlying25
  have hu22 := Try.underlying22
  have hu36 := Try.underlying36
  have hu38 := Try.underlying38
  have hu41 := Try.underlying41
  have heq := fun d w => eqA41 d w ⟨#[]⟩ ⟨#[]⟩ ⟨#[]⟩ ⟨#[]⟩
  have HF := Lib.hid hfew
  have HI := Lib.hid hI
  have HT := Lib.hid hT
  have HX := Lib.hid (heap_alloc_new w (.cells r.cs 25))
  have HPF := Lib.hid (pages_f 1 txn prev page act key old new_ next iA ic l1 tA tc l2 epoch node hl)
  have HPL := Lib.hid (show (pagesP 1 page l1).length ≤ 20 by show (l1.map (·.f0)).length ≤ 20; rw [List.length_map]; exact hl)
  have HBF := Lib.hid (show rec_Back.f 1 txn prev page act key old new_ next l1 l2 epoch node = some (0, ⟨#[]⟩, ⟨#[]⟩, false) by unfold rec_Back.f; rfl)
  have HL := Lib.hid hl
  have dl : (((pagesP 1 page l1).length : Int) != ((pagesP 1 page l1).length : Int)) = false := by simp
  have dl2 : ((pagesP 1 page l1).length != (pagesP 1 page l1).length) = false := by simp
  clear hfew hI hT hl
  go_enter Try.func6, Try.ntmps6
  go_wp2_with (first
    | (refine wpList_load_row rfl 25 _ rfl w.heap.size rfl 25 _ (0, 0) _ HX.out Try.underlying25 rfl (hinfo25 _) ?_)
      | (go_at_call 9; (with_reducible refine (HF.out _).mono ?_); rintro e' w1 ⟨rfl, hB1⟩; have HX1 := Lib.hid (blk_below HX.out hB1); have HB1 := Lib.hid (below_step (below_alloc (Below.refl _ _) _) hB1); obtain ⟨w2, hw2⟩ : ∃ w2, w1.setRow w.heap.size (RV.cs ⟨1, txn, prev, page, act, key, old, new_, next, ⟨iA, l1.length, ic⟩, ⟨tA, l2.length, tc⟩, epoch, node⟩) = w2 := ⟨_, rfl⟩; have hX2 : w2.heap[w.heap.size]? = some (.cells #[.int .i64 1, .int .i64 txn, .int .i64 prev, .int .i64 page, .int .i64 act, .string key, .string old, .string new_, .int .i64 next, .slice iA l1.length ic, .slice tA l2.length tc, .int .i64 epoch, .int .i64 node] 25 (0, 0)) := hw2 ▸ set_new HX1.out; have HPW := Lib.hid (show PW w w2 #[.int .i64 1, .int .i64 txn, .int .i64 prev, .int .i64 page, .int .i64 act, .string key, .string old, .string new_, .int .i64 next, .slice iA l1.length ic, .slice tA l2.length tc, .int .i64 epoch, .int .i64 node] (.slice none 0 0) [] from ⟨hw2 ▸ setRow_below HB1.out (Nat.le_refl w.heap.size) _, hX2, Kd.R_nil _ _ _ _ _⟩); have HW2 := Lib.hid hw2; have w2_c0 : w2.cell? ⟨w.heap.size, 0, none⟩ = some (.int .i64 1) := (blk_cell hX2 0).trans rfl; have w2_c3 : w2.cell? ⟨w.heap.size, 3, none⟩ = some (.int .i64 page) := (blk_cell hX2 3).trans rfl; have w2_c9 : w2.cell? ⟨w.heap.size, 9, none⟩ = some (.slice iA l1.length ic) := (blk_cell hX2 9).trans rfl; clear hB1 hX2 hw2)
      | (refine wpList_store_row rfl 25 _ _ rfl w.heap.size (RV.cs ⟨1, txn, prev, page, act, key, old, new_, next, ⟨iA, l1.length, ic⟩, ⟨tA, l2.length, tc⟩, epoch, node⟩) rfl rfl 25 _ HX1.out (hinfo25 _) rfl (rv_one _) ?_; rw [HW2.out]))
  go_loopw [3, 4] (fun v3 i wr => ∃ j : Nat, j ≤ l1.length ∧ i = .int .i64 j ∧ PW w wr #[.int .i64 1, .int .i64 txn, .int .i64 prev, .int .i64 page, .int .i64 act, .string key, .string old, .string new_, .int .i64 next, .slice iA l1.length ic, .slice tA l2.length tc, .int .i64 epoch, .int .i64 node] v3 ((l1.take j).map (·.f0))) (fun _ i _ => l1.length - (intOf i).toNat)
  case atStart => exact ⟨0, Nat.zero_le _, rfl, HPW.out⟩
  case round =>
    obtain ⟨j, hj, rfl, hW⟩ := hrel
    have hx := hW.rec_
    have wr_c0 : wr.cell? ⟨w.heap.size, 0, none⟩ = some (.int .i64 1) := (blk_cell hx 0).trans rfl; have wr_c1 : wr.cell? ⟨w.heap.size, 1, none⟩ = some (.int .i64 txn) := (blk_cell hx 1).trans rfl; have wr_c2 : wr.cell? ⟨w.heap.size, 2, none⟩ = some (.int .i64 prev) := (blk_cell hx 2).trans rfl; have wr_c3 : wr.cell? ⟨w.heap.size, 3, none⟩ = some (.int .i64 page) := (blk_cell hx 3).trans rfl; have wr_c4 : wr.cell? ⟨w.heap.size, 4, none⟩ = some (.int .i64 act) := (blk_cell hx 4).trans rfl; have wr_c5 : wr.cell? ⟨w.heap.size, 5, none⟩ = some (.string key) := (blk_cell hx 5).trans rfl; have wr_c6 : wr.cell? ⟨w.heap.size, 6, none⟩ = some (.string old) := (blk_cell hx 6).trans rfl; have wr_c7 : wr.cell? ⟨w.heap.size, 7, none⟩ = some (.string new_) := (blk_cell hx 7).trans rfl; have wr_c8 : wr.cell? ⟨w.heap.size, 8, none⟩ = some (.int .i64 next) := (blk_cell hx 8).trans rfl; have wr_c9 : wr.cell? ⟨w.heap.size, 9, none⟩ = some (.slice iA l1.length ic) := (blk_cell hx 9).trans rfl; have wr_c10 : wr.cell? ⟨w.heap.size, 10, none⟩ = some (.slice tA l2.length tc) := (blk_cell hx 10).trans rfl; have wr_c11 : wr.cell? ⟨w.heap.size, 11, none⟩ = some (.int .i64 epoch) := (blk_cell hx 11).trans rfl; have wr_c12 : wr.cell? ⟨w.heap.size, 12, none⟩ = some (.int .i64 node) := (blk_cell hx 12).trans rfl
    have HW := Lib.hid hW
    clear hW hx
    by_cases hlt : j < l1.length
    · have e1 : decide ((j : Int) < (l1.length : Int)) = true := by simp; omega
      have e2 : decide (j < l1.length) = true := by simpa using hlt
      obtain ⟨ad, rfl, hc0, _⟩ := at_T36 (Kd.C_below HI.out HW.out.b) (j : Int) (by omega) (by omega)
      rw [rd36_get l1 j hlt, Int.toNat_natCast] at hc0
      have hsn : (l1.take (j + 1)).map (·.f0) = (l1.take j).map (·.f0) ++ [l1[j].f0] := by rw [List.take_succ_eq_append_getElem hlt, List.map_append]; rfl
      generalize l1[j].f0 = N at hc0 hsn
      have HS := Lib.hid hsn
      have HJ := Lib.hid (show j + 1 ≤ l1.length from hlt)
      have hj20 : j < 20 := by have := HL.out; omega
      clear hsn hlt hj
      go_wp2_with (at_builtin; refine Kd.R_append (Kd.int .i64) (w0 := w) w.heap.size rfl (.tmp 27) (.tmp 34) 38 3 (.int .i64 0) 8 rfl Try.underlying38 info3 rfl (by decide) (by omega) u3 ((l1.take j).map (·.f0)) N [.int .i64 N] (fun _ => True) (fun _ => False) rfl rfl rfl (fun _ h => h.elim) (fun _ _ => trivial) HW.out.row HW.out.b HW.out.b.size (by rw [List.length_map, List.length_take]; have := HL.out; omega) ?_; intro v5 w5 hR5 hbel5 hgr5 hat5; have HP5 := Lib.hid (HW.out.app hbel5 hgr5 hR5); clear hR5 hbel5 hgr5 hat5)
      go_roundw
      case rel => exact ⟨j + 1, HJ.out, by go_num, by rw [HS.out]; exact HP5.out⟩
      case measure => have := HJ.out; simp [intOf]; omega
    · obtain rfl : j = l1.length := by omega
      have e1 : decide ((l1.length : Int) < (l1.length : Int)) = false := by simp
      have hW2 := HW.out
      rw [List.take_length] at hW2
      have e9 : l1.map (·.f0) = (pagesP 1 page l1) := by unfold pagesP; rfl
      rw [e9] at hW2
      obtain ⟨A3, c3, rfl⟩ := Kd.R_slice hW2.row
      have HP3 := Lib.hid hW2
      clear hW2 e9 HW hlt hj
      go_wp2_with (first
        | (refine wpList_load_row rfl 25 _ rfl w.heap.size rfl 25 #[.int .i64 1, .int .i64 txn, .int .i64 prev, .int .i64 page, .int .i64 act, .string key, .string old, .string new_, .int .i64 next, .slice iA l1.length ic, .slice tA l2.length tc, .int .i64 epoch, .int .i64 node] (0, 0) _ HP3.out.rec_ Try.underlying25 rfl (hinfo25 ⟨1, txn, prev, page, act, key, old, new_, next, ⟨iA, l1.length, ic⟩, ⟨tA, l2.length, tc⟩, epoch, node⟩) ?_)
        | (go_at_call 17; (with_reducible refine (rec_Pages.calls 50 1 txn prev page act key old new_ next iA ic l1 tA tc l2 epoch node (pagesP 1 page l1) _ (Kd.C_below HI.out HP3.out.b) hic (Kd.C_below HT.out HP3.out.b) htc HPF.out).mono ?_); rintro e' w4 ⟨v4, rfl, hR4, hB4⟩; obtain ⟨A4, c4, rfl⟩ := Kd.R_slice hR4; have HR4 := Lib.hid hR4; have HP4 := Lib.hid (HP3.out.below hB4); clear hR4 hB4))
      go_loopw [6] (fun i wr => ∃ j : Nat, j ≤ (pagesP 1 page l1).length ∧ i = .int .i64 j ∧ PW w wr #[.int .i64 1, .int .i64 txn, .int .i64 prev, .int .i64 page, .int .i64 act, .string key, .string old, .string new_, .int .i64 next, .slice iA l1.length ic, .slice tA l2.length tc, .int .i64 epoch, .int .i64 node] (.slice A3 (pagesP 1 page l1).length c3) (pagesP 1 page l1) ∧ Kd.R (Kd.int .i64) 3 wr w.heap.size (fun _ => True) (.slice A4 (pagesP 1 page l1).length c4) (pagesP 1 page l1)) (fun i _ => (pagesP 1 page l1).length - (intOf i).toNat)
      case atStart => exact ⟨0, Nat.zero_le _, rfl, HP4.out, Kd.R_lower HR4.out HP3.out.b.size⟩
      case round =>
        obtain ⟨j, hj, rfl, hW, hR⟩ := hrel
        have HW := Lib.hid hW
        have HR := Lib.hid hR
        clear hW hR
        by_cases hlt : j < (pagesP 1 page l1).length
        · have e1 : decide ((j : Int) < ((pagesP 1 page l1).length : Int)) = true := by simp; omega
          have e2 : decide (j < (pagesP 1 page l1).length) = true := by simpa using hlt
          have e3 : (0 : Int) ≤ (j : Int) := by omega
          have e4 : (j : Int) < ((pagesP 1 page l1).length : Int) := by omega
          obtain ⟨a4, ha4, hc4⟩ := row_at HR.out j hlt
          obtain ⟨a3, ha3, hc3⟩ := row_at HW.out.row j hlt
          subst ha4 ha3
          generalize rd (pagesP 1 page l1) j = N at hc3 hc4
          have HJ := Lib.hid (show j + 1 ≤ (pagesP 1 page l1).length from hlt)
          have hj20 : j < 20 := by have := HPL.out; omega
          have e5 : (N != N) = false := by simp
          have e6 := hc3
          clear hlt hj
          go_wp2
          go_region_held3 (fun w' => w'.cell? (a4.add j) = some (.int .i64 N) ∧ w'.cell? (a3.add j) = some (.int .i64 N)) (first | exact ⟨hc4, hc3⟩ | assumption) (fail)
          go_wp2
          go_roundw
          case rel => exact ⟨j + 1, HJ.out, by go_num, HW.out.below (below_drew (Below.refl _ _)), Kd.R_drew HR.out⟩
          case measure => have := HJ.out; simp [intOf]; omega
        · have e1 : decide ((j : Int) < ((pagesP 1 page l1).length : Int)) = false := by simp; omega
          have e2 : decide (j < (pagesP 1 page l1).length) = false := by simpa using hlt
          have HX5 := Lib.hid HW.out.rec_
          have HB5 := Lib.hid HW.out.b
          have wr_c0 : wr.cell? ⟨w.heap.size, 0, none⟩ = some (.int .i64 1) := (blk_cell HX5.out 0).trans rfl; have wr_c1 : wr.cell? ⟨w.heap.size, 1, none⟩ = some (.int .i64 txn) := (blk_cell HX5.out 1).trans rfl; have wr_c2 : wr.cell? ⟨w.heap.size, 2, none⟩ = some (.int .i64 prev) := (blk_cell HX5.out 2).trans rfl; have wr_c3 : wr.cell? ⟨w.heap.size, 3, none⟩ = some (.int .i64 page) := (blk_cell HX5.out 3).trans rfl; have wr_c4 : wr.cell? ⟨w.heap.size, 4, none⟩ = some (.int .i64 act) := (blk_cell HX5.out 4).trans rfl; have wr_c5 : wr.cell? ⟨w.heap.size, 5, none⟩ = some (.string key) := (blk_cell HX5.out 5).trans rfl; have wr_c6 : wr.cell? ⟨w.heap.size, 6, none⟩ = some (.string old) := (blk_cell HX5.out 6).trans rfl; have wr_c7 : wr.cell? ⟨w.heap.size, 7, none⟩ = some (.string new_) := (blk_cell HX5.out 7).trans rfl; have wr_c8 : wr.cell? ⟨w.heap.size, 8, none⟩ = some (.int .i64 next) := (blk_cell HX5.out 8).trans rfl; have wr_c9 : wr.cell? ⟨w.heap.size, 9, none⟩ = some (.slice iA l1.length ic) := (blk_cell HX5.out 9).trans rfl; have wr_c10 : wr.cell? ⟨w.heap.size, 10, none⟩ = some (.slice tA l2.length tc) := (blk_cell HX5.out 10).trans rfl; have wr_c11 : wr.cell? ⟨w.heap.size, 11, none⟩ = some (.int .i64 epoch) := (blk_cell HX5.out 11).trans rfl; have wr_c12 : wr.cell? ⟨w.heap.size, 12, none⟩ = some (.int .i64 node) := (blk_cell HX5.out 12).trans rfl
          clear HP4 HR4 HW HR
          go_wp2_with (first
            | (refine wpList_load_row rfl 25 _ rfl w.heap.size rfl 25 #[.int .i64 1, .int .i64 txn, .int .i64 prev, .int .i64 page, .int .i64 act, .string key, .string old, .string new_, .int .i64 next, .slice iA l1.length ic, .slice tA l2.length tc, .int .i64 epoch, .int .i64 node] (0, 0) _ HX5.out Try.underlying25 rfl (hinfo25 ⟨1, txn, prev, page, act, key, old, new_, next, ⟨iA, l1.length, ic⟩, ⟨tA, l2.length, tc⟩, epoch, node⟩) ?_)
            | (go_at_call 18; (with_reducible refine (rec_Back.calls 1 txn prev page act key old new_ next iA ic l1 tA tc l2 epoch node 0 ⟨#[]⟩ ⟨#[]⟩ false _ (Kd.C_below HI.out HB5.out) hic (Kd.C_below HT.out HB5.out) htc HBF.out).mono ?_); rintro e' w6 ⟨rfl, hB6⟩; have hx6 := blk_below HX5.out hB6; have hx7 := blk_alloc hx6 (.cells #[.string ⟨#[]⟩, .string ⟨#[]⟩] 41); have y_c0 : (w6.alloc (.cells #[.string ⟨#[]⟩, .string ⟨#[]⟩] 41)).cell? ⟨w.heap.size, 0, none⟩ = some (.int .i64 1) := (blk_cell hx7 0).trans rfl; have y_c5 : (w6.alloc (.cells #[.string ⟨#[]⟩, .string ⟨#[]⟩] 41)).cell? ⟨w.heap.size, 5, none⟩ = some (.string key) := (blk_cell hx7 5).trans rfl; have y_c6 : (w6.alloc (.cells #[.string ⟨#[]⟩, .string ⟨#[]⟩] 41)).cell? ⟨w.heap.size, 6, none⟩ = some (.string old) := (blk_cell hx7 6).trans rfl; have y_c7 : (w6.alloc (.cells #[.string ⟨#[]⟩, .string ⟨#[]⟩] 41)).cell? ⟨w.heap.size, 7, none⟩ = some (.string new_) := (blk_cell hx7 7).trans rfl; have HB6 := Lib.hid (below_step HB5.out hB6); clear hB6 hx6 hx7)
            | (go_at_call 12; (with_reducible refine (awake_calls _).mono ?_); rintro e' w7 ⟨rfl, hB7⟩; have HB7 := Lib.hid (below_step (below_alloc HB6.out _) hB7); clear hB7))
          go_ret
          exact ⟨rfl, HB7.out⟩

set_option maxHeartbeats 8000000 in
set_option maxRecDepth 10000 in
theorem pages_2 (txn prev page act : Int) (key old new_ : ByteArray) (next : Int) (iA : Option Addr) (ic : Nat) (l1 : List S36) (tA : Option Addr) (tc : Nat) (l2 : List S55) (epoch node : Int) (r : RV) (w : World) (hfew : ∀ w1 : World, Calls Try.prog 9 #[.agg r.cs] w1 fun e w' => e = .returned (.agg (RV.cs ⟨2, txn, prev, page, act, key, old, new_, next, ⟨iA, l1.length, ic⟩, ⟨tA, l2.length, tc⟩, epoch, node⟩)) ∧ Below w1.heap.size w1 w') (hI : Kd.C k36 w iA l1.length l1) (hic : l1.length ≤ ic) (hT : Kd.C k55 w tA l2.length l2) (htc : l2.length ≤ tc) (hl : l1.length ≤ 20) :
    Calls Try.prog 6 #[.agg r.cs] w fun e w' => e = .returned (.bool true) ∧ Below w.heap.size w w' := by
  have hu25 := Try.underlying25
  have hu22 := Try.underlying22
  have hu36 := Try.underlying36
  have hu38 := Try.underlying38
  have hu41 := Try.underlying41
  have heq := fun d w => eqA41 d w ⟨#[]⟩ ⟨#[]⟩ ⟨#[]⟩ ⟨#[]⟩
  have HF := Lib.hid hfew
  have HI := Lib.hid hI
  have HT := Lib.hid hT
  have HX := Lib.hid (heap_alloc_new w (.cells r.cs 25))
  have HPF := Lib.hid (pages_f 2 txn prev page act key old new_ next iA ic l1 tA tc l2 epoch node hl)
  have HPL := Lib.hid (show (pagesP 2 page l1).length ≤ 20 by show (l1.map (·.f0)).length ≤ 20; rw [List.length_map]; exact hl)
  have HBF := Lib.hid (show rec_Back.f 2 txn prev page act key old new_ next l1 l2 epoch node = some (0, ⟨#[]⟩, ⟨#[]⟩, false) by unfold rec_Back.f; rfl)
  have HL := Lib.hid hl
  have dl : (((pagesP 2 page l1).length : Int) != ((pagesP 2 page l1).length : Int)) = false := by simp
  have dl2 : ((pagesP 2 page l1).length != (pagesP 2 page l1).length) = false := by simp
  clear hfew hI hT hl
  go_enter Try.func6, Try.ntmps6
  go_wp2_with (first
    | (refine wpList_load_row rfl 25 _ rfl w.heap.size rfl 25 _ (0, 0) _ HX.out Try.underlying25 rfl (hinfo25 _) ?_)
      | (go_at_call 9; (with_reducible refine (HF.out _).mono ?_); rintro e' w1 ⟨rfl, hB1⟩; have HX1 := Lib.hid (blk_below HX.out hB1); have HB1 := Lib.hid (below_step (below_alloc (Below.refl _ _) _) hB1); obtain ⟨w2, hw2⟩ : ∃ w2, w1.setRow w.heap.size (RV.cs ⟨2, txn, prev, page, act, key, old, new_, next, ⟨iA, l1.length, ic⟩, ⟨tA, l2.length, tc⟩, epoch, node⟩) = w2 := ⟨_, rfl⟩; have hX2 : w2.heap[w.heap.size]? = some (.cells #[.int .i64 2, .int .i64 txn, .int .i64 prev, .int .i64 page, .int .i64 act, .string key, .string old, .string new_, .int .i64 next, .slice iA l1.length ic, .slice tA l2.length tc, .int .i64 epoch, .int .i64 node] 25 (0, 0)) := hw2 ▸ set_new HX1.out; have HPW := Lib.hid (show PW w w2 #[.int .i64 2, .int .i64 txn, .int .i64 prev, .int .i64 page, .int .i64 act, .string key, .string old, .string new_, .int .i64 next, .slice iA l1.length ic, .slice tA l2.length tc, .int .i64 epoch, .int .i64 node] (.slice none 0 0) [] from ⟨hw2 ▸ setRow_below HB1.out (Nat.le_refl w.heap.size) _, hX2, Kd.R_nil _ _ _ _ _⟩); have HW2 := Lib.hid hw2; have w2_c0 : w2.cell? ⟨w.heap.size, 0, none⟩ = some (.int .i64 2) := (blk_cell hX2 0).trans rfl; have w2_c3 : w2.cell? ⟨w.heap.size, 3, none⟩ = some (.int .i64 page) := (blk_cell hX2 3).trans rfl; have w2_c9 : w2.cell? ⟨w.heap.size, 9, none⟩ = some (.slice iA l1.length ic) := (blk_cell hX2 9).trans rfl; clear hB1 hX2 hw2)
      | (refine wpList_store_row rfl 25 _ _ rfl w.heap.size (RV.cs ⟨2, txn, prev, page, act, key, old, new_, next, ⟨iA, l1.length, ic⟩, ⟨tA, l2.length, tc⟩, epoch, node⟩) rfl rfl 25 _ HX1.out (hinfo25 _) rfl (rv_one _) ?_; rw [HW2.out]))
  go_loopw [3, 4] (fun v3 i wr => ∃ j : Nat, j ≤ l1.length ∧ i = .int .i64 j ∧ PW w wr #[.int .i64 2, .int .i64 txn, .int .i64 prev, .int .i64 page, .int .i64 act, .string key, .string old, .string new_, .int .i64 next, .slice iA l1.length ic, .slice tA l2.length tc, .int .i64 epoch, .int .i64 node] v3 ((l1.take j).map (·.f0))) (fun _ i _ => l1.length - (intOf i).toNat)
  case atStart => exact ⟨0, Nat.zero_le _, rfl, HPW.out⟩
  case round =>
    obtain ⟨j, hj, rfl, hW⟩ := hrel
    have hx := hW.rec_
    have wr_c0 : wr.cell? ⟨w.heap.size, 0, none⟩ = some (.int .i64 2) := (blk_cell hx 0).trans rfl; have wr_c1 : wr.cell? ⟨w.heap.size, 1, none⟩ = some (.int .i64 txn) := (blk_cell hx 1).trans rfl; have wr_c2 : wr.cell? ⟨w.heap.size, 2, none⟩ = some (.int .i64 prev) := (blk_cell hx 2).trans rfl; have wr_c3 : wr.cell? ⟨w.heap.size, 3, none⟩ = some (.int .i64 page) := (blk_cell hx 3).trans rfl; have wr_c4 : wr.cell? ⟨w.heap.size, 4, none⟩ = some (.int .i64 act) := (blk_cell hx 4).trans rfl; have wr_c5 : wr.cell? ⟨w.heap.size, 5, none⟩ = some (.string key) := (blk_cell hx 5).trans rfl; have wr_c6 : wr.cell? ⟨w.heap.size, 6, none⟩ = some (.string old) := (blk_cell hx 6).trans rfl; have wr_c7 : wr.cell? ⟨w.heap.size, 7, none⟩ = some (.string new_) := (blk_cell hx 7).trans rfl; have wr_c8 : wr.cell? ⟨w.heap.size, 8, none⟩ = some (.int .i64 next) := (blk_cell hx 8).trans rfl; have wr_c9 : wr.cell? ⟨w.heap.size, 9, none⟩ = some (.slice iA l1.length ic) := (blk_cell hx 9).trans rfl; have wr_c10 : wr.cell? ⟨w.heap.size, 10, none⟩ = some (.slice tA l2.length tc) := (blk_cell hx 10).trans rfl; have wr_c11 : wr.cell? ⟨w.heap.size, 11, none⟩ = some (.int .i64 epoch) := (blk_cell hx 11).trans rfl; have wr_c12 : wr.cell? ⟨w.heap.size, 12, none⟩ = some (.int .i64 node) := (blk_cell hx 12).trans rfl
    have HW := Lib.hid hW
    clear hW hx
    by_cases hlt : j < l1.length
    · have e1 : decide ((j : Int) < (l1.length : Int)) = true := by simp; omega
      have e2 : decide (j < l1.length) = true := by simpa using hlt
      obtain ⟨ad, rfl, hc0, _⟩ := at_T36 (Kd.C_below HI.out HW.out.b) (j : Int) (by omega) (by omega)
      rw [rd36_get l1 j hlt, Int.toNat_natCast] at hc0
      have hsn : (l1.take (j + 1)).map (·.f0) = (l1.take j).map (·.f0) ++ [l1[j].f0] := by rw [List.take_succ_eq_append_getElem hlt, List.map_append]; rfl
      generalize l1[j].f0 = N at hc0 hsn
      have HS := Lib.hid hsn
      have HJ := Lib.hid (show j + 1 ≤ l1.length from hlt)
      have hj20 : j < 20 := by have := HL.out; omega
      clear hsn hlt hj
      go_wp2_with (at_builtin; refine Kd.R_append (Kd.int .i64) (w0 := w) w.heap.size rfl (.tmp 27) (.tmp 34) 38 3 (.int .i64 0) 8 rfl Try.underlying38 info3 rfl (by decide) (by omega) u3 ((l1.take j).map (·.f0)) N [.int .i64 N] (fun _ => True) (fun _ => False) rfl rfl rfl (fun _ h => h.elim) (fun _ _ => trivial) HW.out.row HW.out.b HW.out.b.size (by rw [List.length_map, List.length_take]; have := HL.out; omega) ?_; intro v5 w5 hR5 hbel5 hgr5 hat5; have HP5 := Lib.hid (HW.out.app hbel5 hgr5 hR5); clear hR5 hbel5 hgr5 hat5)
      go_roundw
      case rel => exact ⟨j + 1, HJ.out, by go_num, by rw [HS.out]; exact HP5.out⟩
      case measure => have := HJ.out; simp [intOf]; omega
    · obtain rfl : j = l1.length := by omega
      have e1 : decide ((l1.length : Int) < (l1.length : Int)) = false := by simp
      have hW2 := HW.out
      rw [List.take_length] at hW2
      have e9 : l1.map (·.f0) = (pagesP 2 page l1) := by unfold pagesP; rfl
      rw [e9] at hW2
      obtain ⟨A3, c3, rfl⟩ := Kd.R_slice hW2.row
      have HP3 := Lib.hid hW2
      clear hW2 e9 HW hlt hj
      go_wp2_with (first
        | (refine wpList_load_row rfl 25 _ rfl w.heap.size rfl 25 #[.int .i64 2, .int .i64 txn, .int .i64 prev, .int .i64 page, .int .i64 act, .string key, .string old, .string new_, .int .i64 next, .slice iA l1.length ic, .slice tA l2.length tc, .int .i64 epoch, .int .i64 node] (0, 0) _ HP3.out.rec_ Try.underlying25 rfl (hinfo25 ⟨2, txn, prev, page, act, key, old, new_, next, ⟨iA, l1.length, ic⟩, ⟨tA, l2.length, tc⟩, epoch, node⟩) ?_)
        | (go_at_call 17; (with_reducible refine (rec_Pages.calls 50 2 txn prev page act key old new_ next iA ic l1 tA tc l2 epoch node (pagesP 2 page l1) _ (Kd.C_below HI.out HP3.out.b) hic (Kd.C_below HT.out HP3.out.b) htc HPF.out).mono ?_); rintro e' w4 ⟨v4, rfl, hR4, hB4⟩; obtain ⟨A4, c4, rfl⟩ := Kd.R_slice hR4; have HR4 := Lib.hid hR4; have HP4 := Lib.hid (HP3.out.below hB4); clear hR4 hB4))
      go_loopw [6] (fun i wr => ∃ j : Nat, j ≤ (pagesP 2 page l1).length ∧ i = .int .i64 j ∧ PW w wr #[.int .i64 2, .int .i64 txn, .int .i64 prev, .int .i64 page, .int .i64 act, .string key, .string old, .string new_, .int .i64 next, .slice iA l1.length ic, .slice tA l2.length tc, .int .i64 epoch, .int .i64 node] (.slice A3 (pagesP 2 page l1).length c3) (pagesP 2 page l1) ∧ Kd.R (Kd.int .i64) 3 wr w.heap.size (fun _ => True) (.slice A4 (pagesP 2 page l1).length c4) (pagesP 2 page l1)) (fun i _ => (pagesP 2 page l1).length - (intOf i).toNat)
      case atStart => exact ⟨0, Nat.zero_le _, rfl, HP4.out, Kd.R_lower HR4.out HP3.out.b.size⟩
      case round =>
        obtain ⟨j, hj, rfl, hW, hR⟩ := hrel
        have HW := Lib.hid hW
        have HR := Lib.hid hR
        clear hW hR
        by_cases hlt : j < (pagesP 2 page l1).length
        · have e1 : decide ((j : Int) < ((pagesP 2 page l1).length : Int)) = true := by simp; omega
          have e2 : decide (j < (pagesP 2 page l1).length) = true := by simpa using hlt
          have e3 : (0 : Int) ≤ (j : Int) := by omega
          have e4 : (j : Int) < ((pagesP 2 page l1).length : Int) := by omega
          obtain ⟨a4, ha4, hc4⟩ := row_at HR.out j hlt
          obtain ⟨a3, ha3, hc3⟩ := row_at HW.out.row j hlt
          subst ha4 ha3
          generalize rd (pagesP 2 page l1) j = N at hc3 hc4
          have HJ := Lib.hid (show j + 1 ≤ (pagesP 2 page l1).length from hlt)
          have hj20 : j < 20 := by have := HPL.out; omega
          have e5 : (N != N) = false := by simp
          have e6 := hc3
          clear hlt hj
          go_wp2
          go_region_held3 (fun w' => w'.cell? (a4.add j) = some (.int .i64 N) ∧ w'.cell? (a3.add j) = some (.int .i64 N)) (first | exact ⟨hc4, hc3⟩ | assumption) (fail)
          go_wp2
          go_roundw
          case rel => exact ⟨j + 1, HJ.out, by go_num, HW.out.below (below_drew (Below.refl _ _)), Kd.R_drew HR.out⟩
          case measure => have := HJ.out; simp [intOf]; omega
        · have e1 : decide ((j : Int) < ((pagesP 2 page l1).length : Int)) = false := by simp; omega
          have e2 : decide (j < (pagesP 2 page l1).length) = false := by simpa using hlt
          have HX5 := Lib.hid HW.out.rec_
          have HB5 := Lib.hid HW.out.b
          have wr_c0 : wr.cell? ⟨w.heap.size, 0, none⟩ = some (.int .i64 2) := (blk_cell HX5.out 0).trans rfl; have wr_c1 : wr.cell? ⟨w.heap.size, 1, none⟩ = some (.int .i64 txn) := (blk_cell HX5.out 1).trans rfl; have wr_c2 : wr.cell? ⟨w.heap.size, 2, none⟩ = some (.int .i64 prev) := (blk_cell HX5.out 2).trans rfl; have wr_c3 : wr.cell? ⟨w.heap.size, 3, none⟩ = some (.int .i64 page) := (blk_cell HX5.out 3).trans rfl; have wr_c4 : wr.cell? ⟨w.heap.size, 4, none⟩ = some (.int .i64 act) := (blk_cell HX5.out 4).trans rfl; have wr_c5 : wr.cell? ⟨w.heap.size, 5, none⟩ = some (.string key) := (blk_cell HX5.out 5).trans rfl; have wr_c6 : wr.cell? ⟨w.heap.size, 6, none⟩ = some (.string old) := (blk_cell HX5.out 6).trans rfl; have wr_c7 : wr.cell? ⟨w.heap.size, 7, none⟩ = some (.string new_) := (blk_cell HX5.out 7).trans rfl; have wr_c8 : wr.cell? ⟨w.heap.size, 8, none⟩ = some (.int .i64 next) := (blk_cell HX5.out 8).trans rfl; have wr_c9 : wr.cell? ⟨w.heap.size, 9, none⟩ = some (.slice iA l1.length ic) := (blk_cell HX5.out 9).trans rfl; have wr_c10 : wr.cell? ⟨w.heap.size, 10, none⟩ = some (.slice tA l2.length tc) := (blk_cell HX5.out 10).trans rfl; have wr_c11 : wr.cell? ⟨w.heap.size, 11, none⟩ = some (.int .i64 epoch) := (blk_cell HX5.out 11).trans rfl; have wr_c12 : wr.cell? ⟨w.heap.size, 12, none⟩ = some (.int .i64 node) := (blk_cell HX5.out 12).trans rfl
          clear HP4 HR4 HW HR
          go_wp2_with (first
            | (refine wpList_load_row rfl 25 _ rfl w.heap.size rfl 25 #[.int .i64 2, .int .i64 txn, .int .i64 prev, .int .i64 page, .int .i64 act, .string key, .string old, .string new_, .int .i64 next, .slice iA l1.length ic, .slice tA l2.length tc, .int .i64 epoch, .int .i64 node] (0, 0) _ HX5.out Try.underlying25 rfl (hinfo25 ⟨2, txn, prev, page, act, key, old, new_, next, ⟨iA, l1.length, ic⟩, ⟨tA, l2.length, tc⟩, epoch, node⟩) ?_)
            | (go_at_call 18; (with_reducible refine (rec_Back.calls 2 txn prev page act key old new_ next iA ic l1 tA tc l2 epoch node 0 ⟨#[]⟩ ⟨#[]⟩ false _ (Kd.C_below HI.out HB5.out) hic (Kd.C_below HT.out HB5.out) htc HBF.out).mono ?_); rintro e' w6 ⟨rfl, hB6⟩; have hx6 := blk_below HX5.out hB6; have hx7 := blk_alloc hx6 (.cells #[.string ⟨#[]⟩, .string ⟨#[]⟩] 41); have y_c0 : (w6.alloc (.cells #[.string ⟨#[]⟩, .string ⟨#[]⟩] 41)).cell? ⟨w.heap.size, 0, none⟩ = some (.int .i64 2) := (blk_cell hx7 0).trans rfl; have y_c5 : (w6.alloc (.cells #[.string ⟨#[]⟩, .string ⟨#[]⟩] 41)).cell? ⟨w.heap.size, 5, none⟩ = some (.string key) := (blk_cell hx7 5).trans rfl; have y_c6 : (w6.alloc (.cells #[.string ⟨#[]⟩, .string ⟨#[]⟩] 41)).cell? ⟨w.heap.size, 6, none⟩ = some (.string old) := (blk_cell hx7 6).trans rfl; have y_c7 : (w6.alloc (.cells #[.string ⟨#[]⟩, .string ⟨#[]⟩] 41)).cell? ⟨w.heap.size, 7, none⟩ = some (.string new_) := (blk_cell hx7 7).trans rfl; have HB6 := Lib.hid (below_step HB5.out hB6); clear hB6 hx6 hx7)
            | (go_at_call 12; (with_reducible refine (awake_calls _).mono ?_); rintro e' w7 ⟨rfl, hB7⟩; have HB7 := Lib.hid (below_step (below_alloc HB6.out _) hB7); clear hB7))
          go_ret
          exact ⟨rfl, HB7.out⟩

set_option maxHeartbeats 8000000 in
set_option maxRecDepth 10000 in
theorem pages_3 (txn prev page act : Int) (key old new_ : ByteArray) (next : Int) (iA : Option Addr) (ic : Nat) (l1 : List S36) (tA : Option Addr) (tc : Nat) (l2 : List S55) (epoch node : Int) (r : RV) (w : World) (hfew : ∀ w1 : World, Calls Try.prog 9 #[.agg r.cs] w1 fun e w' => e = .returned (.agg (RV.cs ⟨3, txn, prev, page, act, key, old, new_, next, ⟨iA, l1.length, ic⟩, ⟨tA, l2.length, tc⟩, epoch, node⟩)) ∧ Below w1.heap.size w1 w') (hI : Kd.C k36 w iA l1.length l1) (hic : l1.length ≤ ic) (hT : Kd.C k55 w tA l2.length l2) (htc : l2.length ≤ tc) (hl : l1.length ≤ 20) :
    Calls Try.prog 6 #[.agg r.cs] w fun e w' => e = .returned (.bool true) ∧ Below w.heap.size w w' := by
  have hu25 := Try.underlying25
  have hu22 := Try.underlying22
  have hu36 := Try.underlying36
  have hu38 := Try.underlying38
  have hu41 := Try.underlying41
  have heq := fun d w => eqA41 d w key key new_ new_
  have HF := Lib.hid hfew
  have HI := Lib.hid hI
  have HT := Lib.hid hT
  have HX := Lib.hid (heap_alloc_new w (.cells r.cs 25))
  have HPF := Lib.hid (pages_f 3 txn prev page act key old new_ next iA ic l1 tA tc l2 epoch node hl)
  have HPL := Lib.hid (show (pagesP 3 page l1).length ≤ 20 by show ([page] : List Int).length ≤ 20; simp)
  have HBF := Lib.hid (show rec_Back.f 3 txn prev page act key old new_ next l1 l2 epoch node = some (4, key, new_, true) by unfold rec_Back.f; rfl)
  have HL := Lib.hid hl
  have dl : (((pagesP 3 page l1).length : Int) != ((pagesP 3 page l1).length : Int)) = false := by simp
  have dl2 : ((pagesP 3 page l1).length != (pagesP 3 page l1).length) = false := by simp
  clear hfew hI hT hl
  go_enter Try.func6, Try.ntmps6
  go_wp2_with (first
    | (refine wpList_load_row rfl 25 _ rfl w.heap.size rfl 25 _ (0, 0) _ HX.out Try.underlying25 rfl (hinfo25 _) ?_)
    | (go_at_call 9; (with_reducible refine (HF.out _).mono ?_); rintro e' w1 ⟨rfl, hB1⟩; have HX1 := Lib.hid (blk_below HX.out hB1); have HB1 := Lib.hid (below_step (below_alloc (Below.refl _ _) _) hB1); obtain ⟨w2, hw2⟩ : ∃ w2, w1.setRow w.heap.size (RV.cs ⟨3, txn, prev, page, act, key, old, new_, next, ⟨iA, l1.length, ic⟩, ⟨tA, l2.length, tc⟩, epoch, node⟩) = w2 := ⟨_, rfl⟩; have hX2 : w2.heap[w.heap.size]? = some (.cells #[.int .i64 3, .int .i64 txn, .int .i64 prev, .int .i64 page, .int .i64 act, .string key, .string old, .string new_, .int .i64 next, .slice iA l1.length ic, .slice tA l2.length tc, .int .i64 epoch, .int .i64 node] 25 (0, 0)) := hw2 ▸ set_new HX1.out; have HPW := Lib.hid (show PW w w2 #[.int .i64 3, .int .i64 txn, .int .i64 prev, .int .i64 page, .int .i64 act, .string key, .string old, .string new_, .int .i64 next, .slice iA l1.length ic, .slice tA l2.length tc, .int .i64 epoch, .int .i64 node] (.slice none 0 0) [] from ⟨hw2 ▸ setRow_below HB1.out (Nat.le_refl w.heap.size) _, hX2, Kd.R_nil _ _ _ _ _⟩); have HW2 := Lib.hid hw2; have w2_c0 : w2.cell? ⟨w.heap.size, 0, none⟩ = some (.int .i64 3) := (blk_cell hX2 0).trans rfl; have w2_c3 : w2.cell? ⟨w.heap.size, 3, none⟩ = some (.int .i64 page) := (blk_cell hX2 3).trans rfl; have w2_c9 : w2.cell? ⟨w.heap.size, 9, none⟩ = some (.slice iA l1.length ic) := (blk_cell hX2 9).trans rfl; clear hB1 hX2 hw2)
    | (refine wpList_store_row rfl 25 _ _ rfl w.heap.size (RV.cs ⟨3, txn, prev, page, act, key, old, new_, next, ⟨iA, l1.length, ic⟩, ⟨tA, l2.length, tc⟩, epoch, node⟩) rfl rfl 25 _ HX1.out (hinfo25 _) rfl (rv_one _) ?_; rw [HW2.out])
    | (at_builtin; refine Kd.R_append (Kd.int .i64) (w0 := w) w.heap.size rfl (.tmp 44) (.tmp 47) 38 3 (.int .i64 0) 8 rfl Try.underlying38 info3 rfl (by decide) (by omega) (.slice none 0 0) [] page [.int .i64 page] (fun _ => True) (fun _ => False) rfl rfl rfl (fun _ h => h.elim) (fun _ _ => trivial) HPW.out.row HPW.out.b HPW.out.b.size (by decide) ?_; intro v3 w3 hR3 hbel3 hgr3 hat3; have hR9 : Kd.R (Kd.int .i64) 3 w3 w.heap.size (fun _ => True) v3 (pagesP 3 page l1) := hR3; obtain ⟨A3, c3, rfl⟩ := Kd.R_slice hR9; have HP3 := Lib.hid (HPW.out.app hbel3 hgr3 hR9); have hx3 := HP3.out.rec_; have w3_c0 : w3.cell? ⟨w.heap.size, 0, none⟩ = some (.int .i64 3) := (blk_cell hx3 0).trans rfl; have w3_c3 : w3.cell? ⟨w.heap.size, 3, none⟩ = some (.int .i64 page) := (blk_cell hx3 3).trans rfl; have w3_c9 : w3.cell? ⟨w.heap.size, 9, none⟩ = some (.slice iA l1.length ic) := (blk_cell hx3 9).trans rfl; clear hR3 hR9 hbel3 hgr3 hat3 hx3)
    | (refine wpList_load_row rfl 25 _ rfl w.heap.size rfl 25 #[.int .i64 3, .int .i64 txn, .int .i64 prev, .int .i64 page, .int .i64 act, .string key, .string old, .string new_, .int .i64 next, .slice iA l1.length ic, .slice tA l2.length tc, .int .i64 epoch, .int .i64 node] (0, 0) _ HP3.out.rec_ Try.underlying25 rfl (hinfo25 ⟨3, txn, prev, page, act, key, old, new_, next, ⟨iA, l1.length, ic⟩, ⟨tA, l2.length, tc⟩, epoch, node⟩) ?_)
    | (go_at_call 17; (with_reducible refine (rec_Pages.calls 50 3 txn prev page act key old new_ next iA ic l1 tA tc l2 epoch node (pagesP 3 page l1) _ (Kd.C_below HI.out HP3.out.b) hic (Kd.C_below HT.out HP3.out.b) htc HPF.out).mono ?_); rintro e' w4 ⟨v4, rfl, hR4, hB4⟩; obtain ⟨A4, c4, rfl⟩ := Kd.R_slice hR4; have HR4 := Lib.hid hR4; have HP4 := Lib.hid (HP3.out.below hB4); clear hR4 hB4))
  go_loopw [6] (fun i wr => ∃ j : Nat, j ≤ (pagesP 3 page l1).length ∧ i = .int .i64 j ∧ PW w wr #[.int .i64 3, .int .i64 txn, .int .i64 prev, .int .i64 page, .int .i64 act, .string key, .string old, .string new_, .int .i64 next, .slice iA l1.length ic, .slice tA l2.length tc, .int .i64 epoch, .int .i64 node] (.slice A3 (pagesP 3 page l1).length c3) (pagesP 3 page l1) ∧ Kd.R (Kd.int .i64) 3 wr w.heap.size (fun _ => True) (.slice A4 (pagesP 3 page l1).length c4) (pagesP 3 page l1)) (fun i _ => (pagesP 3 page l1).length - (intOf i).toNat)
  case atStart => exact ⟨0, Nat.zero_le _, rfl, HP4.out, Kd.R_lower HR4.out HP3.out.b.size⟩
  case round =>
    obtain ⟨j, hj, rfl, hW, hR⟩ := hrel
    have HW := Lib.hid hW
    have HR := Lib.hid hR
    clear hW hR
    by_cases hlt : j < (pagesP 3 page l1).length
    · have e1 : decide ((j : Int) < ((pagesP 3 page l1).length : Int)) = true := by simp; omega
      have e2 : decide (j < (pagesP 3 page l1).length) = true := by simpa using hlt
      have e3 : (0 : Int) ≤ (j : Int) := by omega
      have e4 : (j : Int) < ((pagesP 3 page l1).length : Int) := by omega
      obtain ⟨a4, ha4, hc4⟩ := row_at HR.out j hlt
      obtain ⟨a3, ha3, hc3⟩ := row_at HW.out.row j hlt
      subst ha4 ha3
      generalize rd (pagesP 3 page l1) j = N at hc3 hc4
      have HJ := Lib.hid (show j + 1 ≤ (pagesP 3 page l1).length from hlt)
      have hj20 : j < 20 := by have := HPL.out; omega
      have e5 : (N != N) = false := by simp
      have e6 := hc3
      clear hlt hj
      go_wp2
      go_region_held3 (fun w' => w'.cell? (a4.add j) = some (.int .i64 N) ∧ w'.cell? (a3.add j) = some (.int .i64 N)) (first | exact ⟨hc4, hc3⟩ | assumption) (fail)
      go_wp2
      go_roundw
      case rel => exact ⟨j + 1, HJ.out, by go_num, HW.out.below (below_drew (Below.refl _ _)), Kd.R_drew HR.out⟩
      case measure => have := HJ.out; simp [intOf]; omega
    · have e1 : decide ((j : Int) < ((pagesP 3 page l1).length : Int)) = false := by simp; omega
      have e2 : decide (j < (pagesP 3 page l1).length) = false := by simpa using hlt
      have HX5 := Lib.hid HW.out.rec_
      have HB5 := Lib.hid HW.out.b
      have wr_c0 : wr.cell? ⟨w.heap.size, 0, none⟩ = some (.int .i64 3) := (blk_cell HX5.out 0).trans rfl; have wr_c1 : wr.cell? ⟨w.heap.size, 1, none⟩ = some (.int .i64 txn) := (blk_cell HX5.out 1).trans rfl; have wr_c2 : wr.cell? ⟨w.heap.size, 2, none⟩ = some (.int .i64 prev) := (blk_cell HX5.out 2).trans rfl; have wr_c3 : wr.cell? ⟨w.heap.size, 3, none⟩ = some (.int .i64 page) := (blk_cell HX5.out 3).trans rfl; have wr_c4 : wr.cell? ⟨w.heap.size, 4, none⟩ = some (.int .i64 act) := (blk_cell HX5.out 4).trans rfl; have wr_c5 : wr.cell? ⟨w.heap.size, 5, none⟩ = some (.string key) := (blk_cell HX5.out 5).trans rfl; have wr_c6 : wr.cell? ⟨w.heap.size, 6, none⟩ = some (.string old) := (blk_cell HX5.out 6).trans rfl; have wr_c7 : wr.cell? ⟨w.heap.size, 7, none⟩ = some (.string new_) := (blk_cell HX5.out 7).trans rfl; have wr_c8 : wr.cell? ⟨w.heap.size, 8, none⟩ = some (.int .i64 next) := (blk_cell HX5.out 8).trans rfl; have wr_c9 : wr.cell? ⟨w.heap.size, 9, none⟩ = some (.slice iA l1.length ic) := (blk_cell HX5.out 9).trans rfl; have wr_c10 : wr.cell? ⟨w.heap.size, 10, none⟩ = some (.slice tA l2.length tc) := (blk_cell HX5.out 10).trans rfl; have wr_c11 : wr.cell? ⟨w.heap.size, 11, none⟩ = some (.int .i64 epoch) := (blk_cell HX5.out 11).trans rfl; have wr_c12 : wr.cell? ⟨w.heap.size, 12, none⟩ = some (.int .i64 node) := (blk_cell HX5.out 12).trans rfl
      clear HP4 HR4 HW HR
      go_wp2_with (first
        | (refine wpList_load_row rfl 25 _ rfl w.heap.size rfl 25 #[.int .i64 3, .int .i64 txn, .int .i64 prev, .int .i64 page, .int .i64 act, .string key, .string old, .string new_, .int .i64 next, .slice iA l1.length ic, .slice tA l2.length tc, .int .i64 epoch, .int .i64 node] (0, 0) _ HX5.out Try.underlying25 rfl (hinfo25 ⟨3, txn, prev, page, act, key, old, new_, next, ⟨iA, l1.length, ic⟩, ⟨tA, l2.length, tc⟩, epoch, node⟩) ?_)
        | (go_at_call 18; (with_reducible refine (rec_Back.calls 3 txn prev page act key old new_ next iA ic l1 tA tc l2 epoch node 4 key new_ true _ (Kd.C_below HI.out HB5.out) hic (Kd.C_below HT.out HB5.out) htc HBF.out).mono ?_); rintro e' w6 ⟨rfl, hB6⟩; have hx6 := blk_below HX5.out hB6; have hx7 := blk_alloc hx6 (.cells #[.string key, .string new_] 41); have y_c0 : (w6.alloc (.cells #[.string key, .string new_] 41)).cell? ⟨w.heap.size, 0, none⟩ = some (.int .i64 3) := (blk_cell hx7 0).trans rfl; have y_c5 : (w6.alloc (.cells #[.string key, .string new_] 41)).cell? ⟨w.heap.size, 5, none⟩ = some (.string key) := (blk_cell hx7 5).trans rfl; have y_c6 : (w6.alloc (.cells #[.string key, .string new_] 41)).cell? ⟨w.heap.size, 6, none⟩ = some (.string old) := (blk_cell hx7 6).trans rfl; have y_c7 : (w6.alloc (.cells #[.string key, .string new_] 41)).cell? ⟨w.heap.size, 7, none⟩ = some (.string new_) := (blk_cell hx7 7).trans rfl; have HB6 := Lib.hid (below_step HB5.out hB6); clear hB6 hx6 hx7)
        | (go_at_call 12; (with_reducible refine (awake_calls _).mono ?_); rintro e' w7 ⟨rfl, hB7⟩; have HB7 := Lib.hid (below_step (below_alloc HB6.out _) hB7); clear hB7))
      go_ret
      exact ⟨rfl, HB7.out⟩

set_option maxHeartbeats 8000000 in
set_option maxRecDepth 10000 in
theorem pages_4 (txn prev page act : Int) (key old new_ : ByteArray) (next : Int) (iA : Option Addr) (ic : Nat) (l1 : List S36) (tA : Option Addr) (tc : Nat) (l2 : List S55) (epoch node : Int) (r : RV) (w : World) (hfew : ∀ w1 : World, Calls Try.prog 9 #[.agg r.cs] w1 fun e w' => e = .returned (.agg (RV.cs ⟨4, txn, prev, page, act, key, old, new_, next, ⟨iA, l1.length, ic⟩, ⟨tA, l2.length, tc⟩, epoch, node⟩)) ∧ Below w1.heap.size w1 w') (hI : Kd.C k36 w iA l1.length l1) (hic : l1.length ≤ ic) (hT : Kd.C k55 w tA l2.length l2) (htc : l2.length ≤ tc) (hl : l1.length ≤ 20) :
    Calls Try.prog 6 #[.agg r.cs] w fun e w' => e = .returned (.bool true) ∧ Below w.heap.size w w' := by
  have hu25 := Try.underlying25
  have hu22 := Try.underlying22
  have hu36 := Try.underlying36
  have hu38 := Try.underlying38
  have hu41 := Try.underlying41
  have heq := fun d w => eqA41 d w key key old old
  have HF := Lib.hid hfew
  have HI := Lib.hid hI
  have HT := Lib.hid hT
  have HX := Lib.hid (heap_alloc_new w (.cells r.cs 25))
  have HPF := Lib.hid (pages_f 4 txn prev page act key old new_ next iA ic l1 tA tc l2 epoch node hl)
  have HPL := Lib.hid (show (pagesP 4 page l1).length ≤ 20 by show ([page] : List Int).length ≤ 20; simp)
  have HBF := Lib.hid (show rec_Back.f 4 txn prev page act key old new_ next l1 l2 epoch node = some (3, key, old, true) by unfold rec_Back.f; rfl)
  have HL := Lib.hid hl
  have dl : (((pagesP 4 page l1).length : Int) != ((pagesP 4 page l1).length : Int)) = false := by simp
  have dl2 : ((pagesP 4 page l1).length != (pagesP 4 page l1).length) = false := by simp
  clear hfew hI hT hl
  go_enter Try.func6, Try.ntmps6
  go_wp2_with (first
    | (refine wpList_load_row rfl 25 _ rfl w.heap.size rfl 25 _ (0, 0) _ HX.out Try.underlying25 rfl (hinfo25 _) ?_)
    | (go_at_call 9; (with_reducible refine (HF.out _).mono ?_); rintro e' w1 ⟨rfl, hB1⟩; have HX1 := Lib.hid (blk_below HX.out hB1); have HB1 := Lib.hid (below_step (below_alloc (Below.refl _ _) _) hB1); obtain ⟨w2, hw2⟩ : ∃ w2, w1.setRow w.heap.size (RV.cs ⟨4, txn, prev, page, act, key, old, new_, next, ⟨iA, l1.length, ic⟩, ⟨tA, l2.length, tc⟩, epoch, node⟩) = w2 := ⟨_, rfl⟩; have hX2 : w2.heap[w.heap.size]? = some (.cells #[.int .i64 4, .int .i64 txn, .int .i64 prev, .int .i64 page, .int .i64 act, .string key, .string old, .string new_, .int .i64 next, .slice iA l1.length ic, .slice tA l2.length tc, .int .i64 epoch, .int .i64 node] 25 (0, 0)) := hw2 ▸ set_new HX1.out; have HPW := Lib.hid (show PW w w2 #[.int .i64 4, .int .i64 txn, .int .i64 prev, .int .i64 page, .int .i64 act, .string key, .string old, .string new_, .int .i64 next, .slice iA l1.length ic, .slice tA l2.length tc, .int .i64 epoch, .int .i64 node] (.slice none 0 0) [] from ⟨hw2 ▸ setRow_below HB1.out (Nat.le_refl w.heap.size) _, hX2, Kd.R_nil _ _ _ _ _⟩); have HW2 := Lib.hid hw2; have w2_c0 : w2.cell? ⟨w.heap.size, 0, none⟩ = some (.int .i64 4) := (blk_cell hX2 0).trans rfl; have w2_c3 : w2.cell? ⟨w.heap.size, 3, none⟩ = some (.int .i64 page) := (blk_cell hX2 3).trans rfl; have w2_c9 : w2.cell? ⟨w.heap.size, 9, none⟩ = some (.slice iA l1.length ic) := (blk_cell hX2 9).trans rfl; clear hB1 hX2 hw2)
    | (refine wpList_store_row rfl 25 _ _ rfl w.heap.size (RV.cs ⟨4, txn, prev, page, act, key, old, new_, next, ⟨iA, l1.length, ic⟩, ⟨tA, l2.length, tc⟩, epoch, node⟩) rfl rfl 25 _ HX1.out (hinfo25 _) rfl (rv_one _) ?_; rw [HW2.out])
    | (at_builtin; refine Kd.R_append (Kd.int .i64) (w0 := w) w.heap.size rfl (.tmp 44) (.tmp 47) 38 3 (.int .i64 0) 8 rfl Try.underlying38 info3 rfl (by decide) (by omega) (.slice none 0 0) [] page [.int .i64 page] (fun _ => True) (fun _ => False) rfl rfl rfl (fun _ h => h.elim) (fun _ _ => trivial) HPW.out.row HPW.out.b HPW.out.b.size (by decide) ?_; intro v3 w3 hR3 hbel3 hgr3 hat3; have hR9 : Kd.R (Kd.int .i64) 3 w3 w.heap.size (fun _ => True) v3 (pagesP 4 page l1) := hR3; obtain ⟨A3, c3, rfl⟩ := Kd.R_slice hR9; have HP3 := Lib.hid (HPW.out.app hbel3 hgr3 hR9); have hx3 := HP3.out.rec_; have w3_c0 : w3.cell? ⟨w.heap.size, 0, none⟩ = some (.int .i64 4) := (blk_cell hx3 0).trans rfl; have w3_c3 : w3.cell? ⟨w.heap.size, 3, none⟩ = some (.int .i64 page) := (blk_cell hx3 3).trans rfl; have w3_c9 : w3.cell? ⟨w.heap.size, 9, none⟩ = some (.slice iA l1.length ic) := (blk_cell hx3 9).trans rfl; clear hR3 hR9 hbel3 hgr3 hat3 hx3)
    | (refine wpList_load_row rfl 25 _ rfl w.heap.size rfl 25 #[.int .i64 4, .int .i64 txn, .int .i64 prev, .int .i64 page, .int .i64 act, .string key, .string old, .string new_, .int .i64 next, .slice iA l1.length ic, .slice tA l2.length tc, .int .i64 epoch, .int .i64 node] (0, 0) _ HP3.out.rec_ Try.underlying25 rfl (hinfo25 ⟨4, txn, prev, page, act, key, old, new_, next, ⟨iA, l1.length, ic⟩, ⟨tA, l2.length, tc⟩, epoch, node⟩) ?_)
    | (go_at_call 17; (with_reducible refine (rec_Pages.calls 50 4 txn prev page act key old new_ next iA ic l1 tA tc l2 epoch node (pagesP 4 page l1) _ (Kd.C_below HI.out HP3.out.b) hic (Kd.C_below HT.out HP3.out.b) htc HPF.out).mono ?_); rintro e' w4 ⟨v4, rfl, hR4, hB4⟩; obtain ⟨A4, c4, rfl⟩ := Kd.R_slice hR4; have HR4 := Lib.hid hR4; have HP4 := Lib.hid (HP3.out.below hB4); clear hR4 hB4))
  go_loopw [6] (fun i wr => ∃ j : Nat, j ≤ (pagesP 4 page l1).length ∧ i = .int .i64 j ∧ PW w wr #[.int .i64 4, .int .i64 txn, .int .i64 prev, .int .i64 page, .int .i64 act, .string key, .string old, .string new_, .int .i64 next, .slice iA l1.length ic, .slice tA l2.length tc, .int .i64 epoch, .int .i64 node] (.slice A3 (pagesP 4 page l1).length c3) (pagesP 4 page l1) ∧ Kd.R (Kd.int .i64) 3 wr w.heap.size (fun _ => True) (.slice A4 (pagesP 4 page l1).length c4) (pagesP 4 page l1)) (fun i _ => (pagesP 4 page l1).length - (intOf i).toNat)
  case atStart => exact ⟨0, Nat.zero_le _, rfl, HP4.out, Kd.R_lower HR4.out HP3.out.b.size⟩
  case round =>
    obtain ⟨j, hj, rfl, hW, hR⟩ := hrel
    have HW := Lib.hid hW
    have HR := Lib.hid hR
    clear hW hR
    by_cases hlt : j < (pagesP 4 page l1).length
    · have e1 : decide ((j : Int) < ((pagesP 4 page l1).length : Int)) = true := by simp; omega
      have e2 : decide (j < (pagesP 4 page l1).length) = true := by simpa using hlt
      have e3 : (0 : Int) ≤ (j : Int) := by omega
      have e4 : (j : Int) < ((pagesP 4 page l1).length : Int) := by omega
      obtain ⟨a4, ha4, hc4⟩ := row_at HR.out j hlt
      obtain ⟨a3, ha3, hc3⟩ := row_at HW.out.row j hlt
      subst ha4 ha3
      generalize rd (pagesP 4 page l1) j = N at hc3 hc4
      have HJ := Lib.hid (show j + 1 ≤ (pagesP 4 page l1).length from hlt)
      have hj20 : j < 20 := by have := HPL.out; omega
      have e5 : (N != N) = false := by simp
      have e6 := hc3
      clear hlt hj
      go_wp2
      go_region_held3 (fun w' => w'.cell? (a4.add j) = some (.int .i64 N) ∧ w'.cell? (a3.add j) = some (.int .i64 N)) (first | exact ⟨hc4, hc3⟩ | assumption) (fail)
      go_wp2
      go_roundw
      case rel => exact ⟨j + 1, HJ.out, by go_num, HW.out.below (below_drew (Below.refl _ _)), Kd.R_drew HR.out⟩
      case measure => have := HJ.out; simp [intOf]; omega
    · have e1 : decide ((j : Int) < ((pagesP 4 page l1).length : Int)) = false := by simp; omega
      have e2 : decide (j < (pagesP 4 page l1).length) = false := by simpa using hlt
      have HX5 := Lib.hid HW.out.rec_
      have HB5 := Lib.hid HW.out.b
      have wr_c0 : wr.cell? ⟨w.heap.size, 0, none⟩ = some (.int .i64 4) := (blk_cell HX5.out 0).trans rfl; have wr_c1 : wr.cell? ⟨w.heap.size, 1, none⟩ = some (.int .i64 txn) := (blk_cell HX5.out 1).trans rfl; have wr_c2 : wr.cell? ⟨w.heap.size, 2, none⟩ = some (.int .i64 prev) := (blk_cell HX5.out 2).trans rfl; have wr_c3 : wr.cell? ⟨w.heap.size, 3, none⟩ = some (.int .i64 page) := (blk_cell HX5.out 3).trans rfl; have wr_c4 : wr.cell? ⟨w.heap.size, 4, none⟩ = some (.int .i64 act) := (blk_cell HX5.out 4).trans rfl; have wr_c5 : wr.cell? ⟨w.heap.size, 5, none⟩ = some (.string key) := (blk_cell HX5.out 5).trans rfl; have wr_c6 : wr.cell? ⟨w.heap.size, 6, none⟩ = some (.string old) := (blk_cell HX5.out 6).trans rfl; have wr_c7 : wr.cell? ⟨w.heap.size, 7, none⟩ = some (.string new_) := (blk_cell HX5.out 7).trans rfl; have wr_c8 : wr.cell? ⟨w.heap.size, 8, none⟩ = some (.int .i64 next) := (blk_cell HX5.out 8).trans rfl; have wr_c9 : wr.cell? ⟨w.heap.size, 9, none⟩ = some (.slice iA l1.length ic) := (blk_cell HX5.out 9).trans rfl; have wr_c10 : wr.cell? ⟨w.heap.size, 10, none⟩ = some (.slice tA l2.length tc) := (blk_cell HX5.out 10).trans rfl; have wr_c11 : wr.cell? ⟨w.heap.size, 11, none⟩ = some (.int .i64 epoch) := (blk_cell HX5.out 11).trans rfl; have wr_c12 : wr.cell? ⟨w.heap.size, 12, none⟩ = some (.int .i64 node) := (blk_cell HX5.out 12).trans rfl
      clear HP4 HR4 HW HR
      go_wp2_with (first
        | (refine wpList_load_row rfl 25 _ rfl w.heap.size rfl 25 #[.int .i64 4, .int .i64 txn, .int .i64 prev, .int .i64 page, .int .i64 act, .string key, .string old, .string new_, .int .i64 next, .slice iA l1.length ic, .slice tA l2.length tc, .int .i64 epoch, .int .i64 node] (0, 0) _ HX5.out Try.underlying25 rfl (hinfo25 ⟨4, txn, prev, page, act, key, old, new_, next, ⟨iA, l1.length, ic⟩, ⟨tA, l2.length, tc⟩, epoch, node⟩) ?_)
        | (go_at_call 18; (with_reducible refine (rec_Back.calls 4 txn prev page act key old new_ next iA ic l1 tA tc l2 epoch node 3 key old true _ (Kd.C_below HI.out HB5.out) hic (Kd.C_below HT.out HB5.out) htc HBF.out).mono ?_); rintro e' w6 ⟨rfl, hB6⟩; have hx6 := blk_below HX5.out hB6; have hx7 := blk_alloc hx6 (.cells #[.string key, .string old] 41); have y_c0 : (w6.alloc (.cells #[.string key, .string old] 41)).cell? ⟨w.heap.size, 0, none⟩ = some (.int .i64 4) := (blk_cell hx7 0).trans rfl; have y_c5 : (w6.alloc (.cells #[.string key, .string old] 41)).cell? ⟨w.heap.size, 5, none⟩ = some (.string key) := (blk_cell hx7 5).trans rfl; have y_c6 : (w6.alloc (.cells #[.string key, .string old] 41)).cell? ⟨w.heap.size, 6, none⟩ = some (.string old) := (blk_cell hx7 6).trans rfl; have y_c7 : (w6.alloc (.cells #[.string key, .string old] 41)).cell? ⟨w.heap.size, 7, none⟩ = some (.string new_) := (blk_cell hx7 7).trans rfl; have HB6 := Lib.hid (below_step HB5.out hB6); clear hB6 hx6 hx7)
        | (go_at_call 12; (with_reducible refine (awake_calls _).mono ?_); rintro e' w7 ⟨rfl, hB7⟩; have HB7 := Lib.hid (below_step (below_alloc HB6.out _) hB7); clear hB7))
      go_ret
      exact ⟨rfl, HB7.out⟩

set_option maxHeartbeats 8000000 in
set_option maxRecDepth 10000 in
theorem pages_5 (txn prev page act : Int) (key old new_ : ByteArray) (next : Int) (iA : Option Addr) (ic : Nat) (l1 : List S36) (tA : Option Addr) (tc : Nat) (l2 : List S55) (epoch node : Int) (r : RV) (w : World) (hfew : ∀ w1 : World, Calls Try.prog 9 #[.agg r.cs] w1 fun e w' => e = .returned (.agg (RV.cs ⟨5, txn, prev, page, act, key, old, new_, next, ⟨iA, l1.length, ic⟩, ⟨tA, l2.length, tc⟩, epoch, node⟩)) ∧ Below w1.heap.size w1 w') (hI : Kd.C k36 w iA l1.length l1) (hic : l1.length ≤ ic) (hT : Kd.C k55 w tA l2.length l2) (htc : l2.length ≤ tc) (hl : l1.length ≤ 20) :
    Calls Try.prog 6 #[.agg r.cs] w fun e w' => e = .returned (.bool true) ∧ Below w.heap.size w w' := by
  have hu25 := Try.underlying25
  have hu22 := Try.underlying22
  have hu36 := Try.underlying36
  have hu38 := Try.underlying38
  have hu41 := Try.underlying41
  have heq := fun d w => eqA41 d w key key old old
  have HF := Lib.hid hfew
  have HI := Lib.hid hI
  have HT := Lib.hid hT
  have HX := Lib.hid (heap_alloc_new w (.cells r.cs 25))
  have HPF := Lib.hid (pages_f 5 txn prev page act key old new_ next iA ic l1 tA tc l2 epoch node hl)
  have HPL := Lib.hid (show (pagesP 5 page l1).length ≤ 20 by show ([page] : List Int).length ≤ 20; simp)
  have HBF := Lib.hid (show rec_Back.f 5 txn prev page act key old new_ next l1 l2 epoch node = some (5, key, old, true) by unfold rec_Back.f; rfl)
  have HL := Lib.hid hl
  have dl : (((pagesP 5 page l1).length : Int) != ((pagesP 5 page l1).length : Int)) = false := by simp
  have dl2 : ((pagesP 5 page l1).length != (pagesP 5 page l1).length) = false := by simp
  clear hfew hI hT hl
  go_enter Try.func6, Try.ntmps6
  go_wp2_with (first
    | (refine wpList_load_row rfl 25 _ rfl w.heap.size rfl 25 _ (0, 0) _ HX.out Try.underlying25 rfl (hinfo25 _) ?_)
    | (go_at_call 9; (with_reducible refine (HF.out _).mono ?_); rintro e' w1 ⟨rfl, hB1⟩; have HX1 := Lib.hid (blk_below HX.out hB1); have HB1 := Lib.hid (below_step (below_alloc (Below.refl _ _) _) hB1); obtain ⟨w2, hw2⟩ : ∃ w2, w1.setRow w.heap.size (RV.cs ⟨5, txn, prev, page, act, key, old, new_, next, ⟨iA, l1.length, ic⟩, ⟨tA, l2.length, tc⟩, epoch, node⟩) = w2 := ⟨_, rfl⟩; have hX2 : w2.heap[w.heap.size]? = some (.cells #[.int .i64 5, .int .i64 txn, .int .i64 prev, .int .i64 page, .int .i64 act, .string key, .string old, .string new_, .int .i64 next, .slice iA l1.length ic, .slice tA l2.length tc, .int .i64 epoch, .int .i64 node] 25 (0, 0)) := hw2 ▸ set_new HX1.out; have HPW := Lib.hid (show PW w w2 #[.int .i64 5, .int .i64 txn, .int .i64 prev, .int .i64 page, .int .i64 act, .string key, .string old, .string new_, .int .i64 next, .slice iA l1.length ic, .slice tA l2.length tc, .int .i64 epoch, .int .i64 node] (.slice none 0 0) [] from ⟨hw2 ▸ setRow_below HB1.out (Nat.le_refl w.heap.size) _, hX2, Kd.R_nil _ _ _ _ _⟩); have HW2 := Lib.hid hw2; have w2_c0 : w2.cell? ⟨w.heap.size, 0, none⟩ = some (.int .i64 5) := (blk_cell hX2 0).trans rfl; have w2_c3 : w2.cell? ⟨w.heap.size, 3, none⟩ = some (.int .i64 page) := (blk_cell hX2 3).trans rfl; have w2_c9 : w2.cell? ⟨w.heap.size, 9, none⟩ = some (.slice iA l1.length ic) := (blk_cell hX2 9).trans rfl; clear hB1 hX2 hw2)
    | (refine wpList_store_row rfl 25 _ _ rfl w.heap.size (RV.cs ⟨5, txn, prev, page, act, key, old, new_, next, ⟨iA, l1.length, ic⟩, ⟨tA, l2.length, tc⟩, epoch, node⟩) rfl rfl 25 _ HX1.out (hinfo25 _) rfl (rv_one _) ?_; rw [HW2.out])
    | (at_builtin; refine Kd.R_append (Kd.int .i64) (w0 := w) w.heap.size rfl (.tmp 44) (.tmp 47) 38 3 (.int .i64 0) 8 rfl Try.underlying38 info3 rfl (by decide) (by omega) (.slice none 0 0) [] page [.int .i64 page] (fun _ => True) (fun _ => False) rfl rfl rfl (fun _ h => h.elim) (fun _ _ => trivial) HPW.out.row HPW.out.b HPW.out.b.size (by decide) ?_; intro v3 w3 hR3 hbel3 hgr3 hat3; have hR9 : Kd.R (Kd.int .i64) 3 w3 w.heap.size (fun _ => True) v3 (pagesP 5 page l1) := hR3; obtain ⟨A3, c3, rfl⟩ := Kd.R_slice hR9; have HP3 := Lib.hid (HPW.out.app hbel3 hgr3 hR9); have hx3 := HP3.out.rec_; have w3_c0 : w3.cell? ⟨w.heap.size, 0, none⟩ = some (.int .i64 5) := (blk_cell hx3 0).trans rfl; have w3_c3 : w3.cell? ⟨w.heap.size, 3, none⟩ = some (.int .i64 page) := (blk_cell hx3 3).trans rfl; have w3_c9 : w3.cell? ⟨w.heap.size, 9, none⟩ = some (.slice iA l1.length ic) := (blk_cell hx3 9).trans rfl; clear hR3 hR9 hbel3 hgr3 hat3 hx3)
    | (refine wpList_load_row rfl 25 _ rfl w.heap.size rfl 25 #[.int .i64 5, .int .i64 txn, .int .i64 prev, .int .i64 page, .int .i64 act, .string key, .string old, .string new_, .int .i64 next, .slice iA l1.length ic, .slice tA l2.length tc, .int .i64 epoch, .int .i64 node] (0, 0) _ HP3.out.rec_ Try.underlying25 rfl (hinfo25 ⟨5, txn, prev, page, act, key, old, new_, next, ⟨iA, l1.length, ic⟩, ⟨tA, l2.length, tc⟩, epoch, node⟩) ?_)
    | (go_at_call 17; (with_reducible refine (rec_Pages.calls 50 5 txn prev page act key old new_ next iA ic l1 tA tc l2 epoch node (pagesP 5 page l1) _ (Kd.C_below HI.out HP3.out.b) hic (Kd.C_below HT.out HP3.out.b) htc HPF.out).mono ?_); rintro e' w4 ⟨v4, rfl, hR4, hB4⟩; obtain ⟨A4, c4, rfl⟩ := Kd.R_slice hR4; have HR4 := Lib.hid hR4; have HP4 := Lib.hid (HP3.out.below hB4); clear hR4 hB4))
  go_loopw [6] (fun i wr => ∃ j : Nat, j ≤ (pagesP 5 page l1).length ∧ i = .int .i64 j ∧ PW w wr #[.int .i64 5, .int .i64 txn, .int .i64 prev, .int .i64 page, .int .i64 act, .string key, .string old, .string new_, .int .i64 next, .slice iA l1.length ic, .slice tA l2.length tc, .int .i64 epoch, .int .i64 node] (.slice A3 (pagesP 5 page l1).length c3) (pagesP 5 page l1) ∧ Kd.R (Kd.int .i64) 3 wr w.heap.size (fun _ => True) (.slice A4 (pagesP 5 page l1).length c4) (pagesP 5 page l1)) (fun i _ => (pagesP 5 page l1).length - (intOf i).toNat)
  case atStart => exact ⟨0, Nat.zero_le _, rfl, HP4.out, Kd.R_lower HR4.out HP3.out.b.size⟩
  case round =>
    obtain ⟨j, hj, rfl, hW, hR⟩ := hrel
    have HW := Lib.hid hW
    have HR := Lib.hid hR
    clear hW hR
    by_cases hlt : j < (pagesP 5 page l1).length
    · have e1 : decide ((j : Int) < ((pagesP 5 page l1).length : Int)) = true := by simp; omega
      have e2 : decide (j < (pagesP 5 page l1).length) = true := by simpa using hlt
      have e3 : (0 : Int) ≤ (j : Int) := by omega
      have e4 : (j : Int) < ((pagesP 5 page l1).length : Int) := by omega
      obtain ⟨a4, ha4, hc4⟩ := row_at HR.out j hlt
      obtain ⟨a3, ha3, hc3⟩ := row_at HW.out.row j hlt
      subst ha4 ha3
      generalize rd (pagesP 5 page l1) j = N at hc3 hc4
      have HJ := Lib.hid (show j + 1 ≤ (pagesP 5 page l1).length from hlt)
      have hj20 : j < 20 := by have := HPL.out; omega
      have e5 : (N != N) = false := by simp
      have e6 := hc3
      clear hlt hj
      go_wp2
      go_region_held3 (fun w' => w'.cell? (a4.add j) = some (.int .i64 N) ∧ w'.cell? (a3.add j) = some (.int .i64 N)) (first | exact ⟨hc4, hc3⟩ | assumption) (fail)
      go_wp2
      go_roundw
      case rel => exact ⟨j + 1, HJ.out, by go_num, HW.out.below (below_drew (Below.refl _ _)), Kd.R_drew HR.out⟩
      case measure => have := HJ.out; simp [intOf]; omega
    · have e1 : decide ((j : Int) < ((pagesP 5 page l1).length : Int)) = false := by simp; omega
      have e2 : decide (j < (pagesP 5 page l1).length) = false := by simpa using hlt
      have HX5 := Lib.hid HW.out.rec_
      have HB5 := Lib.hid HW.out.b
      have wr_c0 : wr.cell? ⟨w.heap.size, 0, none⟩ = some (.int .i64 5) := (blk_cell HX5.out 0).trans rfl; have wr_c1 : wr.cell? ⟨w.heap.size, 1, none⟩ = some (.int .i64 txn) := (blk_cell HX5.out 1).trans rfl; have wr_c2 : wr.cell? ⟨w.heap.size, 2, none⟩ = some (.int .i64 prev) := (blk_cell HX5.out 2).trans rfl; have wr_c3 : wr.cell? ⟨w.heap.size, 3, none⟩ = some (.int .i64 page) := (blk_cell HX5.out 3).trans rfl; have wr_c4 : wr.cell? ⟨w.heap.size, 4, none⟩ = some (.int .i64 act) := (blk_cell HX5.out 4).trans rfl; have wr_c5 : wr.cell? ⟨w.heap.size, 5, none⟩ = some (.string key) := (blk_cell HX5.out 5).trans rfl; have wr_c6 : wr.cell? ⟨w.heap.size, 6, none⟩ = some (.string old) := (blk_cell HX5.out 6).trans rfl; have wr_c7 : wr.cell? ⟨w.heap.size, 7, none⟩ = some (.string new_) := (blk_cell HX5.out 7).trans rfl; have wr_c8 : wr.cell? ⟨w.heap.size, 8, none⟩ = some (.int .i64 next) := (blk_cell HX5.out 8).trans rfl; have wr_c9 : wr.cell? ⟨w.heap.size, 9, none⟩ = some (.slice iA l1.length ic) := (blk_cell HX5.out 9).trans rfl; have wr_c10 : wr.cell? ⟨w.heap.size, 10, none⟩ = some (.slice tA l2.length tc) := (blk_cell HX5.out 10).trans rfl; have wr_c11 : wr.cell? ⟨w.heap.size, 11, none⟩ = some (.int .i64 epoch) := (blk_cell HX5.out 11).trans rfl; have wr_c12 : wr.cell? ⟨w.heap.size, 12, none⟩ = some (.int .i64 node) := (blk_cell HX5.out 12).trans rfl
      clear HP4 HR4 HW HR
      go_wp2_with (first
        | (refine wpList_load_row rfl 25 _ rfl w.heap.size rfl 25 #[.int .i64 5, .int .i64 txn, .int .i64 prev, .int .i64 page, .int .i64 act, .string key, .string old, .string new_, .int .i64 next, .slice iA l1.length ic, .slice tA l2.length tc, .int .i64 epoch, .int .i64 node] (0, 0) _ HX5.out Try.underlying25 rfl (hinfo25 ⟨5, txn, prev, page, act, key, old, new_, next, ⟨iA, l1.length, ic⟩, ⟨tA, l2.length, tc⟩, epoch, node⟩) ?_)
        | (go_at_call 18; (with_reducible refine (rec_Back.calls 5 txn prev page act key old new_ next iA ic l1 tA tc l2 epoch node 5 key old true _ (Kd.C_below HI.out HB5.out) hic (Kd.C_below HT.out HB5.out) htc HBF.out).mono ?_); rintro e' w6 ⟨rfl, hB6⟩; have hx6 := blk_below HX5.out hB6; have hx7 := blk_alloc hx6 (.cells #[.string key, .string old] 41); have y_c0 : (w6.alloc (.cells #[.string key, .string old] 41)).cell? ⟨w.heap.size, 0, none⟩ = some (.int .i64 5) := (blk_cell hx7 0).trans rfl; have y_c5 : (w6.alloc (.cells #[.string key, .string old] 41)).cell? ⟨w.heap.size, 5, none⟩ = some (.string key) := (blk_cell hx7 5).trans rfl; have y_c6 : (w6.alloc (.cells #[.string key, .string old] 41)).cell? ⟨w.heap.size, 6, none⟩ = some (.string old) := (blk_cell hx7 6).trans rfl; have y_c7 : (w6.alloc (.cells #[.string key, .string old] 41)).cell? ⟨w.heap.size, 7, none⟩ = some (.string new_) := (blk_cell hx7 7).trans rfl; have HB6 := Lib.hid (below_step HB5.out hB6); clear hB6 hx6 hx7)
        | (go_at_call 12; (with_reducible refine (awake_calls _).mono ?_); rintro e' w7 ⟨rfl, hB7⟩; have HB7 := Lib.hid (below_step (below_alloc HB6.out _) hB7); clear hB7))
      go_ret
      exact ⟨rfl, HB7.out⟩

set_option maxHeartbeats 8000000 in
set_option maxRecDepth 10000 in
theorem pages_6 (txn prev page act : Int) (key old new_ : ByteArray) (next : Int) (iA : Option Addr) (ic : Nat) (l1 : List S36) (tA : Option Addr) (tc : Nat) (l2 : List S55) (epoch node : Int) (r : RV) (w : World) (hfew : ∀ w1 : World, Calls Try.prog 9 #[.agg r.cs] w1 fun e w' => e = .returned (.agg (RV.cs ⟨6, txn, prev, page, act, key, old, new_, next, ⟨iA, l1.length, ic⟩, ⟨tA, l2.length, tc⟩, epoch, node⟩)) ∧ Below w1.heap.size w1 w') (hI : Kd.C k36 w iA l1.length l1) (hic : l1.length ≤ ic) (hT : Kd.C k55 w tA l2.length l2) (htc : l2.length ≤ tc) (hl : l1.length ≤ 20) :
    Calls Try.prog 6 #[.agg r.cs] w fun e w' => e = .returned (.bool true) ∧ Below w.heap.size w w' := by
  have hu25 := Try.underlying25
  have hu22 := Try.underlying22
  have hu36 := Try.underlying36
  have hu38 := Try.underlying38
  have hu41 := Try.underlying41
  have heq := fun d w => eqA41 d w ⟨#[]⟩ ⟨#[]⟩ ⟨#[]⟩ ⟨#[]⟩
  have HF := Lib.hid hfew
  have HI := Lib.hid hI
  have HT := Lib.hid hT
  have HX := Lib.hid (heap_alloc_new w (.cells r.cs 25))
  have HPF := Lib.hid (pages_f 6 txn prev page act key old new_ next iA ic l1 tA tc l2 epoch node hl)
  have HPL := Lib.hid (show (pagesP 6 page l1).length ≤ 20 by show ([page] : List Int).length ≤ 20; simp)
  have HBF := Lib.hid (show rec_Back.f 6 txn prev page act key old new_ next l1 l2 epoch node = some (0, ⟨#[]⟩, ⟨#[]⟩, false) by unfold rec_Back.f; rfl)
  have HL := Lib.hid hl
  have dl : (((pagesP 6 page l1).length : Int) != ((pagesP 6 page l1).length : Int)) = false := by simp
  have dl2 : ((pagesP 6 page l1).length != (pagesP 6 page l1).length) = false := by simp
  clear hfew hI hT hl
  go_enter Try.func6, Try.ntmps6
  go_wp2_with (first
    | (refine wpList_load_row rfl 25 _ rfl w.heap.size rfl 25 _ (0, 0) _ HX.out Try.underlying25 rfl (hinfo25 _) ?_)
    | (go_at_call 9; (with_reducible refine (HF.out _).mono ?_); rintro e' w1 ⟨rfl, hB1⟩; have HX1 := Lib.hid (blk_below HX.out hB1); have HB1 := Lib.hid (below_step (below_alloc (Below.refl _ _) _) hB1); obtain ⟨w2, hw2⟩ : ∃ w2, w1.setRow w.heap.size (RV.cs ⟨6, txn, prev, page, act, key, old, new_, next, ⟨iA, l1.length, ic⟩, ⟨tA, l2.length, tc⟩, epoch, node⟩) = w2 := ⟨_, rfl⟩; have hX2 : w2.heap[w.heap.size]? = some (.cells #[.int .i64 6, .int .i64 txn, .int .i64 prev, .int .i64 page, .int .i64 act, .string key, .string old, .string new_, .int .i64 next, .slice iA l1.length ic, .slice tA l2.length tc, .int .i64 epoch, .int .i64 node] 25 (0, 0)) := hw2 ▸ set_new HX1.out; have HPW := Lib.hid (show PW w w2 #[.int .i64 6, .int .i64 txn, .int .i64 prev, .int .i64 page, .int .i64 act, .string key, .string old, .string new_, .int .i64 next, .slice iA l1.length ic, .slice tA l2.length tc, .int .i64 epoch, .int .i64 node] (.slice none 0 0) [] from ⟨hw2 ▸ setRow_below HB1.out (Nat.le_refl w.heap.size) _, hX2, Kd.R_nil _ _ _ _ _⟩); have HW2 := Lib.hid hw2; have w2_c0 : w2.cell? ⟨w.heap.size, 0, none⟩ = some (.int .i64 6) := (blk_cell hX2 0).trans rfl; have w2_c3 : w2.cell? ⟨w.heap.size, 3, none⟩ = some (.int .i64 page) := (blk_cell hX2 3).trans rfl; have w2_c9 : w2.cell? ⟨w.heap.size, 9, none⟩ = some (.slice iA l1.length ic) := (blk_cell hX2 9).trans rfl; clear hB1 hX2 hw2)
    | (refine wpList_store_row rfl 25 _ _ rfl w.heap.size (RV.cs ⟨6, txn, prev, page, act, key, old, new_, next, ⟨iA, l1.length, ic⟩, ⟨tA, l2.length, tc⟩, epoch, node⟩) rfl rfl 25 _ HX1.out (hinfo25 _) rfl (rv_one _) ?_; rw [HW2.out])
    | (at_builtin; refine Kd.R_append (Kd.int .i64) (w0 := w) w.heap.size rfl (.tmp 44) (.tmp 47) 38 3 (.int .i64 0) 8 rfl Try.underlying38 info3 rfl (by decide) (by omega) (.slice none 0 0) [] page [.int .i64 page] (fun _ => True) (fun _ => False) rfl rfl rfl (fun _ h => h.elim) (fun _ _ => trivial) HPW.out.row HPW.out.b HPW.out.b.size (by decide) ?_; intro v3 w3 hR3 hbel3 hgr3 hat3; have hR9 : Kd.R (Kd.int .i64) 3 w3 w.heap.size (fun _ => True) v3 (pagesP 6 page l1) := hR3; obtain ⟨A3, c3, rfl⟩ := Kd.R_slice hR9; have HP3 := Lib.hid (HPW.out.app hbel3 hgr3 hR9); have hx3 := HP3.out.rec_; have w3_c0 : w3.cell? ⟨w.heap.size, 0, none⟩ = some (.int .i64 6) := (blk_cell hx3 0).trans rfl; have w3_c3 : w3.cell? ⟨w.heap.size, 3, none⟩ = some (.int .i64 page) := (blk_cell hx3 3).trans rfl; have w3_c9 : w3.cell? ⟨w.heap.size, 9, none⟩ = some (.slice iA l1.length ic) := (blk_cell hx3 9).trans rfl; clear hR3 hR9 hbel3 hgr3 hat3 hx3)
    | (refine wpList_load_row rfl 25 _ rfl w.heap.size rfl 25 #[.int .i64 6, .int .i64 txn, .int .i64 prev, .int .i64 page, .int .i64 act, .string key, .string old, .string new_, .int .i64 next, .slice iA l1.length ic, .slice tA l2.length tc, .int .i64 epoch, .int .i64 node] (0, 0) _ HP3.out.rec_ Try.underlying25 rfl (hinfo25 ⟨6, txn, prev, page, act, key, old, new_, next, ⟨iA, l1.length, ic⟩, ⟨tA, l2.length, tc⟩, epoch, node⟩) ?_)
    | (go_at_call 17; (with_reducible refine (rec_Pages.calls 50 6 txn prev page act key old new_ next iA ic l1 tA tc l2 epoch node (pagesP 6 page l1) _ (Kd.C_below HI.out HP3.out.b) hic (Kd.C_below HT.out HP3.out.b) htc HPF.out).mono ?_); rintro e' w4 ⟨v4, rfl, hR4, hB4⟩; obtain ⟨A4, c4, rfl⟩ := Kd.R_slice hR4; have HR4 := Lib.hid hR4; have HP4 := Lib.hid (HP3.out.below hB4); clear hR4 hB4))
  go_loopw [6] (fun i wr => ∃ j : Nat, j ≤ (pagesP 6 page l1).length ∧ i = .int .i64 j ∧ PW w wr #[.int .i64 6, .int .i64 txn, .int .i64 prev, .int .i64 page, .int .i64 act, .string key, .string old, .string new_, .int .i64 next, .slice iA l1.length ic, .slice tA l2.length tc, .int .i64 epoch, .int .i64 node] (.slice A3 (pagesP 6 page l1).length c3) (pagesP 6 page l1) ∧ Kd.R (Kd.int .i64) 3 wr w.heap.size (fun _ => True) (.slice A4 (pagesP 6 page l1).length c4) (pagesP 6 page l1)) (fun i _ => (pagesP 6 page l1).length - (intOf i).toNat)
  case atStart => exact ⟨0, Nat.zero_le _, rfl, HP4.out, Kd.R_lower HR4.out HP3.out.b.size⟩
  case round =>
    obtain ⟨j, hj, rfl, hW, hR⟩ := hrel
    have HW := Lib.hid hW
    have HR := Lib.hid hR
    clear hW hR
    by_cases hlt : j < (pagesP 6 page l1).length
    · have e1 : decide ((j : Int) < ((pagesP 6 page l1).length : Int)) = true := by simp; omega
      have e2 : decide (j < (pagesP 6 page l1).length) = true := by simpa using hlt
      have e3 : (0 : Int) ≤ (j : Int) := by omega
      have e4 : (j : Int) < ((pagesP 6 page l1).length : Int) := by omega
      obtain ⟨a4, ha4, hc4⟩ := row_at HR.out j hlt
      obtain ⟨a3, ha3, hc3⟩ := row_at HW.out.row j hlt
      subst ha4 ha3
      generalize rd (pagesP 6 page l1) j = N at hc3 hc4
      have HJ := Lib.hid (show j + 1 ≤ (pagesP 6 page l1).length from hlt)
      have hj20 : j < 20 := by have := HPL.out; omega
      have e5 : (N != N) = false := by simp
      have e6 := hc3
      clear hlt hj
      go_wp2
      go_region_held3 (fun w' => w'.cell? (a4.add j) = some (.int .i64 N) ∧ w'.cell? (a3.add j) = some (.int .i64 N)) (first | exact ⟨hc4, hc3⟩ | assumption) (fail)
      go_wp2
      go_roundw
      case rel => exact ⟨j + 1, HJ.out, by go_num, HW.out.below (below_drew (Below.refl _ _)), Kd.R_drew HR.out⟩
      case measure => have := HJ.out; simp [intOf]; omega
    · have e1 : decide ((j : Int) < ((pagesP 6 page l1).length : Int)) = false := by simp; omega
      have e2 : decide (j < (pagesP 6 page l1).length) = false := by simpa using hlt
      have HX5 := Lib.hid HW.out.rec_
      have HB5 := Lib.hid HW.out.b
      have wr_c0 : wr.cell? ⟨w.heap.size, 0, none⟩ = some (.int .i64 6) := (blk_cell HX5.out 0).trans rfl; have wr_c1 : wr.cell? ⟨w.heap.size, 1, none⟩ = some (.int .i64 txn) := (blk_cell HX5.out 1).trans rfl; have wr_c2 : wr.cell? ⟨w.heap.size, 2, none⟩ = some (.int .i64 prev) := (blk_cell HX5.out 2).trans rfl; have wr_c3 : wr.cell? ⟨w.heap.size, 3, none⟩ = some (.int .i64 page) := (blk_cell HX5.out 3).trans rfl; have wr_c4 : wr.cell? ⟨w.heap.size, 4, none⟩ = some (.int .i64 act) := (blk_cell HX5.out 4).trans rfl; have wr_c5 : wr.cell? ⟨w.heap.size, 5, none⟩ = some (.string key) := (blk_cell HX5.out 5).trans rfl; have wr_c6 : wr.cell? ⟨w.heap.size, 6, none⟩ = some (.string old) := (blk_cell HX5.out 6).trans rfl; have wr_c7 : wr.cell? ⟨w.heap.size, 7, none⟩ = some (.string new_) := (blk_cell HX5.out 7).trans rfl; have wr_c8 : wr.cell? ⟨w.heap.size, 8, none⟩ = some (.int .i64 next) := (blk_cell HX5.out 8).trans rfl; have wr_c9 : wr.cell? ⟨w.heap.size, 9, none⟩ = some (.slice iA l1.length ic) := (blk_cell HX5.out 9).trans rfl; have wr_c10 : wr.cell? ⟨w.heap.size, 10, none⟩ = some (.slice tA l2.length tc) := (blk_cell HX5.out 10).trans rfl; have wr_c11 : wr.cell? ⟨w.heap.size, 11, none⟩ = some (.int .i64 epoch) := (blk_cell HX5.out 11).trans rfl; have wr_c12 : wr.cell? ⟨w.heap.size, 12, none⟩ = some (.int .i64 node) := (blk_cell HX5.out 12).trans rfl
      clear HP4 HR4 HW HR
      go_wp2_with (first
        | (refine wpList_load_row rfl 25 _ rfl w.heap.size rfl 25 #[.int .i64 6, .int .i64 txn, .int .i64 prev, .int .i64 page, .int .i64 act, .string key, .string old, .string new_, .int .i64 next, .slice iA l1.length ic, .slice tA l2.length tc, .int .i64 epoch, .int .i64 node] (0, 0) _ HX5.out Try.underlying25 rfl (hinfo25 ⟨6, txn, prev, page, act, key, old, new_, next, ⟨iA, l1.length, ic⟩, ⟨tA, l2.length, tc⟩, epoch, node⟩) ?_)
        | (go_at_call 18; (with_reducible refine (rec_Back.calls 6 txn prev page act key old new_ next iA ic l1 tA tc l2 epoch node 0 ⟨#[]⟩ ⟨#[]⟩ false _ (Kd.C_below HI.out HB5.out) hic (Kd.C_below HT.out HB5.out) htc HBF.out).mono ?_); rintro e' w6 ⟨rfl, hB6⟩; have hx6 := blk_below HX5.out hB6; have hx7 := blk_alloc hx6 (.cells #[.string ⟨#[]⟩, .string ⟨#[]⟩] 41); have y_c0 : (w6.alloc (.cells #[.string ⟨#[]⟩, .string ⟨#[]⟩] 41)).cell? ⟨w.heap.size, 0, none⟩ = some (.int .i64 6) := (blk_cell hx7 0).trans rfl; have y_c5 : (w6.alloc (.cells #[.string ⟨#[]⟩, .string ⟨#[]⟩] 41)).cell? ⟨w.heap.size, 5, none⟩ = some (.string key) := (blk_cell hx7 5).trans rfl; have y_c6 : (w6.alloc (.cells #[.string ⟨#[]⟩, .string ⟨#[]⟩] 41)).cell? ⟨w.heap.size, 6, none⟩ = some (.string old) := (blk_cell hx7 6).trans rfl; have y_c7 : (w6.alloc (.cells #[.string ⟨#[]⟩, .string ⟨#[]⟩] 41)).cell? ⟨w.heap.size, 7, none⟩ = some (.string new_) := (blk_cell hx7 7).trans rfl; have HB6 := Lib.hid (below_step HB5.out hB6); clear hB6 hx6 hx7)
        | (go_at_call 12; (with_reducible refine (awake_calls _).mono ?_); rintro e' w7 ⟨rfl, hB7⟩; have HB7 := Lib.hid (below_step (below_alloc HB6.out _) hB7); clear hB7))
      go_ret
      exact ⟨rfl, HB7.out⟩

set_option maxHeartbeats 8000000 in
set_option maxRecDepth 10000 in
theorem pages_lo (kind txn prev page act : Int) (key old new_ : ByteArray) (next : Int) (iA : Option Addr) (ic : Nat) (l1 : List S36) (tA : Option Addr) (tc : Nat) (l2 : List S55) (epoch node : Int) (r : RV) (w : World) (hfew : ∀ w1 : World, Calls Try.prog 9 #[.agg r.cs] w1 fun e w' => e = .returned (.agg (RV.cs ⟨kind, txn, prev, page, act, key, old, new_, next, ⟨iA, l1.length, ic⟩, ⟨tA, l2.length, tc⟩, epoch, node⟩)) ∧ Below w1.heap.size w1 w') (hI : Kd.C k36 w iA l1.length l1) (hic : l1.length ≤ ic) (hT : Kd.C k55 w tA l2.length l2) (htc : l2.length ≤ tc) (hl : l1.length ≤ 20) (hk : kind ≤ 0) :
    Calls Try.prog 6 #[.agg r.cs] w fun e w' => e = .returned (.bool true) ∧ Below w.heap.size w w' := by
  have hu25 := Try.underlying25
  have hu22 := Try.underlying22
  have hu36 := Try.underlying36
  have hu38 := Try.underlying38
  have hu41 := Try.underlying41
  have heq := fun d w => eqA41 d w ⟨#[]⟩ ⟨#[]⟩ ⟨#[]⟩ ⟨#[]⟩
  have d0 : (kind == 1) = false := by simp; omega
  have d1 : (kind == 2) = false := by simp; omega
  have d2 : (kind == 3) = false := by simp; omega
  have d3 : (kind == 4) = false := by simp; omega
  have d4 : (kind == 5) = false := by simp; omega
  have d5 : decide (3 ≤ kind) = false := by simp; omega
  have HF := Lib.hid hfew
  have HI := Lib.hid hI
  have HT := Lib.hid hT
  have HX := Lib.hid (heap_alloc_new w (.cells r.cs 25))
  have HPF := Lib.hid (show _ = some ([] : List Int) from (pages_f kind txn prev page act key old new_ next iA ic l1 tA tc l2 epoch node hl).trans (by unfold pagesP; rw [if_neg (by omega), if_neg (by omega)]))
  have HPL := Lib.hid (show ([] : List Int).length ≤ 20 by show (0 : Nat) ≤ 20; omega)
  have HBF := Lib.hid (show rec_Back.f kind txn prev page act key old new_ next l1 l2 epoch node = some (0, ⟨#[]⟩, ⟨#[]⟩, false) by unfold rec_Back.f; rw [if_neg (by omega), if_neg (by omega), if_neg (by omega)])
  have HL := Lib.hid hl
  have dl : ((([] : List Int).length : Int) != (([] : List Int).length : Int)) = false := by simp
  have dl2 : (([] : List Int).length != ([] : List Int).length) = false := by simp
  clear hfew hI hT hl hk
  go_enter Try.func6, Try.ntmps6
  go_wp2_with (first
    | (refine wpList_load_row rfl 25 _ rfl w.heap.size rfl 25 _ (0, 0) _ HX.out Try.underlying25 rfl (hinfo25 _) ?_)
    | (go_at_call 9; (with_reducible refine (HF.out _).mono ?_); rintro e' w1 ⟨rfl, hB1⟩; have HX1 := Lib.hid (blk_below HX.out hB1); have HB1 := Lib.hid (below_step (below_alloc (Below.refl _ _) _) hB1); obtain ⟨w2, hw2⟩ : ∃ w2, w1.setRow w.heap.size (RV.cs ⟨kind, txn, prev, page, act, key, old, new_, next, ⟨iA, l1.length, ic⟩, ⟨tA, l2.length, tc⟩, epoch, node⟩) = w2 := ⟨_, rfl⟩; have hX2 : w2.heap[w.heap.size]? = some (.cells #[.int .i64 kind, .int .i64 txn, .int .i64 prev, .int .i64 page, .int .i64 act, .string key, .string old, .string new_, .int .i64 next, .slice iA l1.length ic, .slice tA l2.length tc, .int .i64 epoch, .int .i64 node] 25 (0, 0)) := hw2 ▸ set_new HX1.out; have HPW := Lib.hid (show PW w w2 #[.int .i64 kind, .int .i64 txn, .int .i64 prev, .int .i64 page, .int .i64 act, .string key, .string old, .string new_, .int .i64 next, .slice iA l1.length ic, .slice tA l2.length tc, .int .i64 epoch, .int .i64 node] (.slice none 0 0) [] from ⟨hw2 ▸ setRow_below HB1.out (Nat.le_refl w.heap.size) _, hX2, Kd.R_nil _ _ _ _ _⟩); have HW2 := Lib.hid hw2; have w2_c0 : w2.cell? ⟨w.heap.size, 0, none⟩ = some (.int .i64 kind) := (blk_cell hX2 0).trans rfl; have w2_c3 : w2.cell? ⟨w.heap.size, 3, none⟩ = some (.int .i64 page) := (blk_cell hX2 3).trans rfl; have w2_c9 : w2.cell? ⟨w.heap.size, 9, none⟩ = some (.slice iA l1.length ic) := (blk_cell hX2 9).trans rfl; clear hB1 hX2 hw2)
    | (refine wpList_store_row rfl 25 _ _ rfl w.heap.size (RV.cs ⟨kind, txn, prev, page, act, key, old, new_, next, ⟨iA, l1.length, ic⟩, ⟨tA, l2.length, tc⟩, epoch, node⟩) rfl rfl 25 _ HX1.out (hinfo25 _) rfl (rv_one _) ?_; rw [HW2.out])
    | (refine wpList_load_row rfl 25 _ rfl w.heap.size rfl 25 #[.int .i64 kind, .int .i64 txn, .int .i64 prev, .int .i64 page, .int .i64 act, .string key, .string old, .string new_, .int .i64 next, .slice iA l1.length ic, .slice tA l2.length tc, .int .i64 epoch, .int .i64 node] (0, 0) _ HPW.out.rec_ Try.underlying25 rfl (hinfo25 ⟨kind, txn, prev, page, act, key, old, new_, next, ⟨iA, l1.length, ic⟩, ⟨tA, l2.length, tc⟩, epoch, node⟩) ?_)
    | (go_at_call 17; (with_reducible refine (rec_Pages.calls 50 kind txn prev page act key old new_ next iA ic l1 tA tc l2 epoch node [] _ (Kd.C_below HI.out HPW.out.b) hic (Kd.C_below HT.out HPW.out.b) htc HPF.out).mono ?_); rintro e' w4 ⟨v4, rfl, hR4, hB4⟩; obtain ⟨A4, c4, h4⟩ := Kd.R_slice hR4; obtain rfl : v4 = .slice A4 0 c4 := h4; have HP4 := Lib.hid (HPW.out.below hB4); clear hR4 hB4))
  refine wp_loop_rounds 1 ?_
  rw [rounds_succ]
  have HX5 := Lib.hid HP4.out.rec_
  have HB5 := Lib.hid HP4.out.b
  have w4_c0 : w4.cell? ⟨w.heap.size, 0, none⟩ = some (.int .i64 kind) := (blk_cell HX5.out 0).trans rfl; have w4_c1 : w4.cell? ⟨w.heap.size, 1, none⟩ = some (.int .i64 txn) := (blk_cell HX5.out 1).trans rfl; have w4_c2 : w4.cell? ⟨w.heap.size, 2, none⟩ = some (.int .i64 prev) := (blk_cell HX5.out 2).trans rfl; have w4_c3 : w4.cell? ⟨w.heap.size, 3, none⟩ = some (.int .i64 page) := (blk_cell HX5.out 3).trans rfl; have w4_c4 : w4.cell? ⟨w.heap.size, 4, none⟩ = some (.int .i64 act) := (blk_cell HX5.out 4).trans rfl; have w4_c5 : w4.cell? ⟨w.heap.size, 5, none⟩ = some (.string key) := (blk_cell HX5.out 5).trans rfl; have w4_c6 : w4.cell? ⟨w.heap.size, 6, none⟩ = some (.string old) := (blk_cell HX5.out 6).trans rfl; have w4_c7 : w4.cell? ⟨w.heap.size, 7, none⟩ = some (.string new_) := (blk_cell HX5.out 7).trans rfl; have w4_c8 : w4.cell? ⟨w.heap.size, 8, none⟩ = some (.int .i64 next) := (blk_cell HX5.out 8).trans rfl; have w4_c9 : w4.cell? ⟨w.heap.size, 9, none⟩ = some (.slice iA l1.length ic) := (blk_cell HX5.out 9).trans rfl; have w4_c10 : w4.cell? ⟨w.heap.size, 10, none⟩ = some (.slice tA l2.length tc) := (blk_cell HX5.out 10).trans rfl; have w4_c11 : w4.cell? ⟨w.heap.size, 11, none⟩ = some (.int .i64 epoch) := (blk_cell HX5.out 11).trans rfl; have w4_c12 : w4.cell? ⟨w.heap.size, 12, none⟩ = some (.int .i64 node) := (blk_cell HX5.out 12).trans rfl
  go_wp2_with (first
    | (refine wpList_load_row rfl 25 _ rfl w.heap.size rfl 25 #[.int .i64 kind, .int .i64 txn, .int .i64 prev, .int .i64 page, .int .i64 act, .string key, .string old, .string new_, .int .i64 next, .slice iA l1.length ic, .slice tA l2.length tc, .int .i64 epoch, .int .i64 node] (0, 0) _ HX5.out Try.underlying25 rfl (hinfo25 ⟨kind, txn, prev, page, act, key, old, new_, next, ⟨iA, l1.length, ic⟩, ⟨tA, l2.length, tc⟩, epoch, node⟩) ?_)
    | (go_at_call 18; (with_reducible refine (rec_Back.calls kind txn prev page act key old new_ next iA ic l1 tA tc l2 epoch node 0 ⟨#[]⟩ ⟨#[]⟩ false _ (Kd.C_below HI.out HB5.out) hic (Kd.C_below HT.out HB5.out) htc HBF.out).mono ?_); rintro e' w6 ⟨rfl, hB6⟩; have hx6 := blk_below HX5.out hB6; have hx7 := blk_alloc hx6 (.cells #[.string ⟨#[]⟩, .string ⟨#[]⟩] 41); have y_c0 : (w6.alloc (.cells #[.string ⟨#[]⟩, .string ⟨#[]⟩] 41)).cell? ⟨w.heap.size, 0, none⟩ = some (.int .i64 kind) := (blk_cell hx7 0).trans rfl; have y_c5 : (w6.alloc (.cells #[.string ⟨#[]⟩, .string ⟨#[]⟩] 41)).cell? ⟨w.heap.size, 5, none⟩ = some (.string key) := (blk_cell hx7 5).trans rfl; have y_c6 : (w6.alloc (.cells #[.string ⟨#[]⟩, .string ⟨#[]⟩] 41)).cell? ⟨w.heap.size, 6, none⟩ = some (.string old) := (blk_cell hx7 6).trans rfl; have y_c7 : (w6.alloc (.cells #[.string ⟨#[]⟩, .string ⟨#[]⟩] 41)).cell? ⟨w.heap.size, 7, none⟩ = some (.string new_) := (blk_cell hx7 7).trans rfl; have HB6 := Lib.hid (below_step HB5.out hB6); clear hB6 hx6 hx7)
    | (go_at_call 12; (with_reducible refine (awake_calls _).mono ?_); rintro e' w7 ⟨rfl, hB7⟩; have HB7 := Lib.hid (below_step (below_alloc HB6.out _) hB7); clear hB7))
  go_ret
  exact ⟨rfl, HB7.out⟩

set_option maxHeartbeats 8000000 in
set_option maxRecDepth 10000 in
theorem pages_hi (kind txn prev page act : Int) (key old new_ : ByteArray) (next : Int) (iA : Option Addr) (ic : Nat) (l1 : List S36) (tA : Option Addr) (tc : Nat) (l2 : List S55) (epoch node : Int) (r : RV) (w : World) (hfew : ∀ w1 : World, Calls Try.prog 9 #[.agg r.cs] w1 fun e w' => e = .returned (.agg (RV.cs ⟨kind, txn, prev, page, act, key, old, new_, next, ⟨iA, l1.length, ic⟩, ⟨tA, l2.length, tc⟩, epoch, node⟩)) ∧ Below w1.heap.size w1 w') (hI : Kd.C k36 w iA l1.length l1) (hic : l1.length ≤ ic) (hT : Kd.C k55 w tA l2.length l2) (htc : l2.length ≤ tc) (hl : l1.length ≤ 20) (hk : 7 ≤ kind) :
    Calls Try.prog 6 #[.agg r.cs] w fun e w' => e = .returned (.bool true) ∧ Below w.heap.size w w' := by
  have hu25 := Try.underlying25
  have hu22 := Try.underlying22
  have hu36 := Try.underlying36
  have hu38 := Try.underlying38
  have hu41 := Try.underlying41
  have heq := fun d w => eqA41 d w ⟨#[]⟩ ⟨#[]⟩ ⟨#[]⟩ ⟨#[]⟩
  have d0 : (kind == 1) = false := by simp; omega
  have d1 : (kind == 2) = false := by simp; omega
  have d2 : (kind == 3) = false := by simp; omega
  have d3 : (kind == 4) = false := by simp; omega
  have d4 : (kind == 5) = false := by simp; omega
  have d5 : decide (3 ≤ kind) = true := by simp; omega
  have d6 : decide (kind ≤ 6) = false := by simp; omega
  have HF := Lib.hid hfew
  have HI := Lib.hid hI
  have HT := Lib.hid hT
  have HX := Lib.hid (heap_alloc_new w (.cells r.cs 25))
  have HPF := Lib.hid (show _ = some ([] : List Int) from (pages_f kind txn prev page act key old new_ next iA ic l1 tA tc l2 epoch node hl).trans (by unfold pagesP; rw [if_neg (by omega), if_neg (by omega)]))
  have HPL := Lib.hid (show ([] : List Int).length ≤ 20 by show (0 : Nat) ≤ 20; omega)
  have HBF := Lib.hid (show rec_Back.f kind txn prev page act key old new_ next l1 l2 epoch node = some (0, ⟨#[]⟩, ⟨#[]⟩, false) by unfold rec_Back.f; rw [if_neg (by omega), if_neg (by omega), if_neg (by omega)])
  have HL := Lib.hid hl
  have dl : ((([] : List Int).length : Int) != (([] : List Int).length : Int)) = false := by simp
  have dl2 : (([] : List Int).length != ([] : List Int).length) = false := by simp
  clear hfew hI hT hl hk
  go_enter Try.func6, Try.ntmps6
  go_wp2_with (first
    | (refine wpList_load_row rfl 25 _ rfl w.heap.size rfl 25 _ (0, 0) _ HX.out Try.underlying25 rfl (hinfo25 _) ?_)
    | (go_at_call 9; (with_reducible refine (HF.out _).mono ?_); rintro e' w1 ⟨rfl, hB1⟩; have HX1 := Lib.hid (blk_below HX.out hB1); have HB1 := Lib.hid (below_step (below_alloc (Below.refl _ _) _) hB1); obtain ⟨w2, hw2⟩ : ∃ w2, w1.setRow w.heap.size (RV.cs ⟨kind, txn, prev, page, act, key, old, new_, next, ⟨iA, l1.length, ic⟩, ⟨tA, l2.length, tc⟩, epoch, node⟩) = w2 := ⟨_, rfl⟩; have hX2 : w2.heap[w.heap.size]? = some (.cells #[.int .i64 kind, .int .i64 txn, .int .i64 prev, .int .i64 page, .int .i64 act, .string key, .string old, .string new_, .int .i64 next, .slice iA l1.length ic, .slice tA l2.length tc, .int .i64 epoch, .int .i64 node] 25 (0, 0)) := hw2 ▸ set_new HX1.out; have HPW := Lib.hid (show PW w w2 #[.int .i64 kind, .int .i64 txn, .int .i64 prev, .int .i64 page, .int .i64 act, .string key, .string old, .string new_, .int .i64 next, .slice iA l1.length ic, .slice tA l2.length tc, .int .i64 epoch, .int .i64 node] (.slice none 0 0) [] from ⟨hw2 ▸ setRow_below HB1.out (Nat.le_refl w.heap.size) _, hX2, Kd.R_nil _ _ _ _ _⟩); have HW2 := Lib.hid hw2; have w2_c0 : w2.cell? ⟨w.heap.size, 0, none⟩ = some (.int .i64 kind) := (blk_cell hX2 0).trans rfl; have w2_c3 : w2.cell? ⟨w.heap.size, 3, none⟩ = some (.int .i64 page) := (blk_cell hX2 3).trans rfl; have w2_c9 : w2.cell? ⟨w.heap.size, 9, none⟩ = some (.slice iA l1.length ic) := (blk_cell hX2 9).trans rfl; clear hB1 hX2 hw2)
    | (refine wpList_store_row rfl 25 _ _ rfl w.heap.size (RV.cs ⟨kind, txn, prev, page, act, key, old, new_, next, ⟨iA, l1.length, ic⟩, ⟨tA, l2.length, tc⟩, epoch, node⟩) rfl rfl 25 _ HX1.out (hinfo25 _) rfl (rv_one _) ?_; rw [HW2.out])
    | (refine wpList_load_row rfl 25 _ rfl w.heap.size rfl 25 #[.int .i64 kind, .int .i64 txn, .int .i64 prev, .int .i64 page, .int .i64 act, .string key, .string old, .string new_, .int .i64 next, .slice iA l1.length ic, .slice tA l2.length tc, .int .i64 epoch, .int .i64 node] (0, 0) _ HPW.out.rec_ Try.underlying25 rfl (hinfo25 ⟨kind, txn, prev, page, act, key, old, new_, next, ⟨iA, l1.length, ic⟩, ⟨tA, l2.length, tc⟩, epoch, node⟩) ?_)
    | (go_at_call 17; (with_reducible refine (rec_Pages.calls 50 kind txn prev page act key old new_ next iA ic l1 tA tc l2 epoch node [] _ (Kd.C_below HI.out HPW.out.b) hic (Kd.C_below HT.out HPW.out.b) htc HPF.out).mono ?_); rintro e' w4 ⟨v4, rfl, hR4, hB4⟩; obtain ⟨A4, c4, h4⟩ := Kd.R_slice hR4; obtain rfl : v4 = .slice A4 0 c4 := h4; have HP4 := Lib.hid (HPW.out.below hB4); clear hR4 hB4))
  refine wp_loop_rounds 1 ?_
  rw [rounds_succ]
  have HX5 := Lib.hid HP4.out.rec_
  have HB5 := Lib.hid HP4.out.b
  have w4_c0 : w4.cell? ⟨w.heap.size, 0, none⟩ = some (.int .i64 kind) := (blk_cell HX5.out 0).trans rfl; have w4_c1 : w4.cell? ⟨w.heap.size, 1, none⟩ = some (.int .i64 txn) := (blk_cell HX5.out 1).trans rfl; have w4_c2 : w4.cell? ⟨w.heap.size, 2, none⟩ = some (.int .i64 prev) := (blk_cell HX5.out 2).trans rfl; have w4_c3 : w4.cell? ⟨w.heap.size, 3, none⟩ = some (.int .i64 page) := (blk_cell HX5.out 3).trans rfl; have w4_c4 : w4.cell? ⟨w.heap.size, 4, none⟩ = some (.int .i64 act) := (blk_cell HX5.out 4).trans rfl; have w4_c5 : w4.cell? ⟨w.heap.size, 5, none⟩ = some (.string key) := (blk_cell HX5.out 5).trans rfl; have w4_c6 : w4.cell? ⟨w.heap.size, 6, none⟩ = some (.string old) := (blk_cell HX5.out 6).trans rfl; have w4_c7 : w4.cell? ⟨w.heap.size, 7, none⟩ = some (.string new_) := (blk_cell HX5.out 7).trans rfl; have w4_c8 : w4.cell? ⟨w.heap.size, 8, none⟩ = some (.int .i64 next) := (blk_cell HX5.out 8).trans rfl; have w4_c9 : w4.cell? ⟨w.heap.size, 9, none⟩ = some (.slice iA l1.length ic) := (blk_cell HX5.out 9).trans rfl; have w4_c10 : w4.cell? ⟨w.heap.size, 10, none⟩ = some (.slice tA l2.length tc) := (blk_cell HX5.out 10).trans rfl; have w4_c11 : w4.cell? ⟨w.heap.size, 11, none⟩ = some (.int .i64 epoch) := (blk_cell HX5.out 11).trans rfl; have w4_c12 : w4.cell? ⟨w.heap.size, 12, none⟩ = some (.int .i64 node) := (blk_cell HX5.out 12).trans rfl
  go_wp2_with (first
    | (refine wpList_load_row rfl 25 _ rfl w.heap.size rfl 25 #[.int .i64 kind, .int .i64 txn, .int .i64 prev, .int .i64 page, .int .i64 act, .string key, .string old, .string new_, .int .i64 next, .slice iA l1.length ic, .slice tA l2.length tc, .int .i64 epoch, .int .i64 node] (0, 0) _ HX5.out Try.underlying25 rfl (hinfo25 ⟨kind, txn, prev, page, act, key, old, new_, next, ⟨iA, l1.length, ic⟩, ⟨tA, l2.length, tc⟩, epoch, node⟩) ?_)
    | (go_at_call 18; (with_reducible refine (rec_Back.calls kind txn prev page act key old new_ next iA ic l1 tA tc l2 epoch node 0 ⟨#[]⟩ ⟨#[]⟩ false _ (Kd.C_below HI.out HB5.out) hic (Kd.C_below HT.out HB5.out) htc HBF.out).mono ?_); rintro e' w6 ⟨rfl, hB6⟩; have hx6 := blk_below HX5.out hB6; have hx7 := blk_alloc hx6 (.cells #[.string ⟨#[]⟩, .string ⟨#[]⟩] 41); have y_c0 : (w6.alloc (.cells #[.string ⟨#[]⟩, .string ⟨#[]⟩] 41)).cell? ⟨w.heap.size, 0, none⟩ = some (.int .i64 kind) := (blk_cell hx7 0).trans rfl; have y_c5 : (w6.alloc (.cells #[.string ⟨#[]⟩, .string ⟨#[]⟩] 41)).cell? ⟨w.heap.size, 5, none⟩ = some (.string key) := (blk_cell hx7 5).trans rfl; have y_c6 : (w6.alloc (.cells #[.string ⟨#[]⟩, .string ⟨#[]⟩] 41)).cell? ⟨w.heap.size, 6, none⟩ = some (.string old) := (blk_cell hx7 6).trans rfl; have y_c7 : (w6.alloc (.cells #[.string ⟨#[]⟩, .string ⟨#[]⟩] 41)).cell? ⟨w.heap.size, 7, none⟩ = some (.string new_) := (blk_cell hx7 7).trans rfl; have HB6 := Lib.hid (below_step HB5.out hB6); clear hB6 hx6 hx7)
    | (go_at_call 12; (with_reducible refine (awake_calls _).mono ?_); rintro e' w7 ⟨rfl, hB7⟩; have HB7 := Lib.hid (below_step (below_alloc HB6.out _) hB7); clear hB7))
  go_ret
  exact ⟨rfl, HB7.out⟩

theorem RecPages.walk (r : RV) (li : List S36) (lt : List S55) (w : World) (h : RRow w r li lt) (hi : SlOk r.images) (ht : SlOk r.table) :
    Calls Try.prog 6 #[.agg r.cs] w fun e w' => e = .returned (.bool true) ∧ Below w.heap.size w w' := by
  have hrow := h.few
  have hfew := fun w1 => few_calls r hi ht w1
  have hl : (li.take 20).length ≤ 20 := by rw [List.length_take]; omega
  generalize li.take 20 = l1 at *
  generalize lt.take 300 = l2 at *
  generalize fewR r = q at *
  obtain ⟨kind, txn, prev, page, act, key, old, new_, next, ⟨iA, in_, ic⟩, ⟨tA, tn, tc⟩, epoch, node⟩ := q
  obtain ⟨a1, a2, a3, a4, a5, a6⟩ := hrow
  simp only at a1 a2 a3 a4 a5 a6
  subst a2 a5
  by_cases k1 : kind ≤ 0
  · exact pages_lo kind txn prev page act key old new_ next iA ic l1 tA tc l2 epoch node r w hfew a1 a3 a4 a6 hl k1
  by_cases k7 : 7 ≤ kind
  · exact pages_hi kind txn prev page act key old new_ next iA ic l1 tA tc l2 epoch node r w hfew a1 a3 a4 a6 hl k7
  rcases (by omega : kind = 1 ∨ kind = 2 ∨ kind = 3 ∨ kind = 4 ∨ kind = 5 ∨ kind = 6) with rfl | rfl | rfl | rfl | rfl | rfl
  · exact pages_1 txn prev page act key old new_ next iA ic l1 tA tc l2 epoch node r w hfew a1 a3 a4 a6 hl
  · exact pages_2 txn prev page act key old new_ next iA ic l1 tA tc l2 epoch node r w hfew a1 a3 a4 a6 hl
  · exact pages_3 txn prev page act key old new_ next iA ic l1 tA tc l2 epoch node r w hfew a1 a3 a4 a6 hl
  · exact pages_4 txn prev page act key old new_ next iA ic l1 tA tc l2 epoch node r w hfew a1 a3 a4 a6 hl
  · exact pages_5 txn prev page act key old new_ next iA ic l1 tA tc l2 epoch node r w hfew a1 a3 a4 a6 hl
  · exact pages_6 txn prev page act key old new_ next iA ic l1 tA tc l2 epoch node r w hfew a1 a3 a4 a6 hl
end Go.Proofs.Ytdphikbkknkhiaa.PAll
