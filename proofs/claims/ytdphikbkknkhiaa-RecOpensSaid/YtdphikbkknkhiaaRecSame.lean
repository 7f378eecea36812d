/- The document's Same, walked by hand: two records of the same values and rows are one. -/
import Derived.Test.YtdphikbkknkhiaaRecFrame
import Derived.Laws.StructEq
import Derived.Deep.RegionHeld3
namespace Go.Proofs.Ytdphikbkknkhiaa.PAll
open Go.RowKit Go.Proofs.Ytdphikbkknkhiaa.Pure Go.Proofs.YtdphikbkknkhiaaW.PrintWords Go.Proofs.YtdphikbkknkhiaaW.PrintLast Go.Proofs.YtdphikbkknkhiaaW.PrintMore
set_option linter.unusedVariables false
set_option linter.unusedSimpArgs false

theorem set_new {w : World} {g : Nat} {cs cs' : Array Value} (h : w.heap[g]? = some (.cells cs 25 (0, 0))) : (w.setRow g cs').heap[g]? = some (.cells cs' 25 (0, 0)) := by
  simp [World.setRow, Array.getElem?_modify, h]
/-- The same values, but for where the rows lie. -/
structure SameV (a b : RV) : Prop where
  kind : a.kind = b.kind
  txn : a.txn = b.txn
  prev : a.prev = b.prev
  page : a.page = b.page
  act : a.act = b.act
  key : a.key = b.key
  old : a.old = b.old
  new_ : a.new = b.new
  next : a.next = b.next
  epoch : a.epoch = b.epoch
  node : a.node = b.node
theorem SameV.refl (a : RV) : SameV a a := ⟨rfl, rfl, rfl, rfl, rfl, rfl, rfl, rfl, rfl, rfl, rfl⟩

set_option maxHeartbeats 8000000 in
set_option maxRecDepth 10000 in
theorem same_walk (kind txn prev page act : Int) (key old new_ : ByteArray) (next : Int) (iA iA2 : Option Addr) (ic ic2 : Nat) (li : List S36) (tA tA2 : Option Addr) (tc tc2 : Nat) (lt : List S55) (epoch node : Int) (w : World) (hli : li.length ≤ 300) (hlt : lt.length ≤ 300)
    (hI : Kd.C k36 w iA li.length li) (hI2 : Kd.C k36 w iA2 li.length li) (hT : Kd.C k55 w tA lt.length lt) (hT2 : Kd.C k55 w tA2 lt.length lt) :
    Calls Try.prog 14 #[.agg #[.int .i64 kind, .int .i64 txn, .int .i64 prev, .int .i64 page, .int .i64 act, .string key, .string old, .string new_, .int .i64 next, .slice iA li.length ic, .slice tA lt.length tc, .int .i64 epoch, .int .i64 node], .agg #[.int .i64 kind, .int .i64 txn, .int .i64 prev, .int .i64 page, .int .i64 act, .string key, .string old, .string new_, .int .i64 next, .slice iA2 li.length ic2, .slice tA2 lt.length tc2, .int .i64 epoch, .int .i64 node]] w fun e w' => e = .returned (.bool true) ∧ Below w.heap.size w w' := by
  have hu25 := Try.underlying25
  have hu22 := Try.underlying22
  have hu23 := Try.underlying23
  have hu36 := Try.underlying36
  have hu55 := Try.underlying55
  obtain ⟨W, hW⟩ : ∃ W, W = (w.alloc (.cells #[.int .i64 kind, .int .i64 txn, .int .i64 prev, .int .i64 page, .int .i64 act, .string key, .string old, .string new_, .int .i64 next, .slice iA li.length ic, .slice tA lt.length tc, .int .i64 epoch, .int .i64 node] 25)).alloc (.cells #[.int .i64 kind, .int .i64 txn, .int .i64 prev, .int .i64 page, .int .i64 act, .string key, .string old, .string new_, .int .i64 next, .slice iA2 li.length ic2, .slice tA2 lt.length tc2, .int .i64 epoch, .int .i64 node] 25) := ⟨_, rfl⟩
  have hWb : Below w.heap.size w W := hW ▸ below_alloc (below_alloc (Below.refl _ _) _) _
  have hx : W.heap[w.heap.size]? = some (.cells #[.int .i64 kind, .int .i64 txn, .int .i64 prev, .int .i64 page, .int .i64 act, .string key, .string old, .string new_, .int .i64 next, .slice iA li.length ic, .slice tA lt.length tc, .int .i64 epoch, .int .i64 node] 25 (0, 0)) := hW ▸ blk_alloc (heap_alloc_new w _) _
  have hy : W.heap[w.heap.size + 1]? = some (.cells #[.int .i64 kind, .int .i64 txn, .int .i64 prev, .int .i64 page, .int .i64 act, .string key, .string old, .string new_, .int .i64 next, .slice iA2 li.length ic2, .slice tA2 lt.length tc2, .int .i64 epoch, .int .i64 node] 25 (0, 0)) := by
    have q := heap_alloc_new (w.alloc (.cells #[.int .i64 kind, .int .i64 txn, .int .i64 prev, .int .i64 page, .int .i64 act, .string key, .string old, .string new_, .int .i64 next, .slice iA li.length ic, .slice tA lt.length tc, .int .i64 epoch, .int .i64 node] 25)) (.cells #[.int .i64 kind, .int .i64 txn, .int .i64 prev, .int .i64 page, .int .i64 act, .string key, .string old, .string new_, .int .i64 next, .slice iA2 li.length ic2, .slice tA2 lt.length tc2, .int .i64 epoch, .int .i64 node] 25)
    rw [show (w.alloc (.cells #[.int .i64 kind, .int .i64 txn, .int .i64 prev, .int .i64 page, .int .i64 act, .string key, .string old, .string new_, .int .i64 next, .slice iA li.length ic, .slice tA lt.length tc, .int .i64 epoch, .int .i64 node] 25)).heap.size = w.heap.size + 1 by simp] at q
    rw [hW]
    exact q
  have HWB := Lib.hid hWb
  have HX := Lib.hid hx
  have HY := Lib.hid hy
  have HI := Lib.hid hI
  have HI2 := Lib.hid hI2
  have HT := Lib.hid hT
  have HT2 := Lib.hid hT2
  have HLI := Lib.hid hli
  have HLT := Lib.hid hlt
  have z1 : ((li.length : Int) != (li.length : Int)) = false := by simp
  have z2 : ((lt.length : Int) != (lt.length : Int)) = false := by simp
  clear hWb hx hy hI hI2 hT hT2 hli hlt
  go_enter Try.func14, Try.ntmps14
  go_wp2
  rw [← hW]
  go_loopw [5] (fun i wr => ∃ j : Nat, j ≤ li.length ∧ i = .int .i64 j ∧ Below W.heap.size W wr) (fun i _ => li.length - (intOf i).toNat)
  case atStart => exact ⟨0, Nat.zero_le _, rfl, Below.refl _ _⟩
  case round =>
    obtain ⟨j, hj, rfl, hB⟩ := hrel
    have HB := Lib.hid hB
    have x9 : wr.cell? ⟨w.heap.size, 9, none⟩ = some (.slice iA li.length ic) := (blk_cell (blk_below HX.out hB) 9).trans rfl
    have y9 : wr.cell? ⟨w.heap.size + 1, 9, none⟩ = some (.slice iA2 li.length ic2) := (blk_cell (blk_below HY.out hB) 9).trans rfl
    by_cases hlt1 : j < li.length
    · have e1 : decide ((j : Int) < (li.length : Int)) = true := by simp; omega
      have e2 : decide (j < li.length) = true := by simpa using hlt1
      obtain ⟨ad, rfl, hc0, hc1⟩ := at_T36 HI.out (j : Int) (by omega) (by omega)
      obtain ⟨ad2, rfl, hd0, hd1⟩ := at_T36 HI2.out (j : Int) (by omega) (by omega)
      rw [rd36_get li j hlt1] at hc0 hc1 hd0 hd1
      have hb2 := below_step HWB.out hB
      replace hc0 := cell_below hb2 hc0
      replace hc1 := cell_below hb2 hc1
      replace hd0 := cell_below hb2 hd0
      replace hd1 := cell_below hb2 hd1
      rw [Int.toNat_natCast] at hc0 hc1 hd0 hd1
      generalize li[j] = X at *
      obtain ⟨N, T⟩ := X
      simp only at hc0 hc1 hd0 hd1
      have f0 : (0 : Int) ≤ (j : Int) := by omega
      have f1 : (j : Int) < (li.length : Int) := by omega
      have HJ := Lib.hid (show j + 1 ≤ li.length from hlt1)
      have hj3 : j < 300 := by have := HLI.out; omega
      clear hlt1 hj hB hb2
      go_wp2
      go_region_held3 (fun w' => w'.cell? ⟨w.heap.size, 9, none⟩ = some (.slice (some ad) li.length ic) ∧ w'.cell? ⟨w.heap.size + 1, 9, none⟩ = some (.slice (some ad2) li.length ic2) ∧ w'.cell? (ad.add (j * 2)) = some (.int .i64 N) ∧ w'.cell? ⟨(ad.add (j * 2)).block, (ad.add (j * 2)).off + 1, none⟩ = some (.string T) ∧ w'.cell? (ad2.add (j * 2)) = some (.int .i64 N) ∧ w'.cell? ⟨(ad2.add (j * 2)).block, (ad2.add (j * 2)).off + 1, none⟩ = some (.string T)) (first | assumption | exact ⟨x9, y9, hc0, hc1, hd0, hd1⟩) (fail)
      all_goals (
        go_wp2
        go_roundw
        case rel => exact ⟨j + 1, HJ.out, by go_num, below_drew HB.out⟩
        case measure => have := HJ.out; simp [intOf]; omega)
    · obtain rfl : j = li.length := by omega
      have e1 : decide ((li.length : Int) < (li.length : Int)) = false := by simp
      clear hlt1 hj hB x9 y9
      have x9 : wr.cell? ⟨w.heap.size, 9, none⟩ = some (.slice iA li.length ic) := (blk_cell (blk_below HX.out HB.out) 9).trans rfl
      go_wp2
      clear x9 e1
      go_loopw [6] (fun i wr => ∃ j : Nat, j ≤ lt.length ∧ i = .int .i64 j ∧ Below W.heap.size W wr) (fun i _ => lt.length - (intOf i).toNat)
      case atStart => exact ⟨0, Nat.zero_le _, rfl, HB.out⟩
      case round =>
        obtain ⟨j, hj, rfl, hB⟩ := hrel
        have HB2 := Lib.hid hB
        have x10 := (blk_cell (blk_below HX.out hB) 10).trans (show _ = some (.slice tA lt.length tc) from rfl)
        have y10 := (blk_cell (blk_below HY.out hB) 10).trans (show _ = some (.slice tA2 lt.length tc2) from rfl)
        by_cases hlt1 : j < lt.length
        · have e1 : decide ((j : Int) < (lt.length : Int)) = true := by simp; omega
          have e2 : decide (j < lt.length) = true := by simpa using hlt1
          obtain ⟨ad, rfl, hc0, hc1⟩ := at_T55 HT.out (j : Int) (by omega) (by omega)
          obtain ⟨ad2, rfl, hd0, hd1⟩ := at_T55 HT2.out (j : Int) (by omega) (by omega)
          rw [rd55_get lt j hlt1] at hc0 hc1 hd0 hd1
          have hb2 := below_step HWB.out hB
          replace hc0 := cell_below hb2 hc0
          replace hc1 := cell_below hb2 hc1
          replace hd0 := cell_below hb2 hd0
          replace hd1 := cell_below hb2 hd1
          rw [Int.toNat_natCast] at hc0 hc1 hd0 hd1
          generalize lt[j] = X at *
          obtain ⟨N, T⟩ := X
          simp only at hc0 hc1 hd0 hd1
          have f0 : (0 : Int) ≤ (j : Int) := by omega
          have f1 : (j : Int) < (lt.length : Int) := by omega
          have HJ := Lib.hid (show j + 1 ≤ lt.length from hlt1)
          have hj3 : j < 300 := by have := HLT.out; omega
          clear hlt1 hj hB hb2
          go_wp2
          go_region_held3 (fun w' => w'.cell? ⟨w.heap.size, 10, none⟩ = some (.slice (some ad) lt.length tc) ∧ w'.cell? ⟨w.heap.size + 1, 10, none⟩ = some (.slice (some ad2) lt.length tc2) ∧ w'.cell? (ad.add (j * 2)) = some (.int .i64 N) ∧ w'.cell? ⟨(ad.add (j * 2)).block, (ad.add (j * 2)).off + 1, none⟩ = some (.int .i64 T) ∧ w'.cell? (ad2.add (j * 2)) = some (.int .i64 N) ∧ w'.cell? ⟨(ad2.add (j * 2)).block, (ad2.add (j * 2)).off + 1, none⟩ = some (.int .i64 T)) (first | assumption | exact ⟨x10, y10, hc0, hc1, hd0, hd1⟩) (fail)
          all_goals (
            go_wp2
            go_roundw
            case rel => exact ⟨j + 1, HJ.out, by go_num, below_drew HB2.out⟩
            case measure => have := HJ.out; simp [intOf]; omega)
        · obtain rfl : j = lt.length := by omega
          have e1 : decide ((lt.length : Int) < (lt.length : Int)) = false := by simp
          clear hlt1 hj hB y10
          go_wp2
          go_ret
          exact ⟨rfl, below_step HWB.out HB2.out⟩
theorem same_calls (a b : RV) (li : List S36) (lt : List S55) (w : World) (ha : RRow w a li lt) (hb : RRow w b li lt) (hv : SameV a b) (hli : li.length ≤ 300) (hlt : lt.length ≤ 300) :
    Calls Try.prog 14 #[.agg a.cs, .agg b.cs] w fun e w' => e = .returned (.bool true) ∧ Below w.heap.size w w' := by
  obtain ⟨kind, txn, prev, page, act, key, old, new_, next, ⟨iA, in_, ic⟩, ⟨tA, tn, tc⟩, epoch, node⟩ := a
  obtain ⟨kind2, txn2, prev2, page2, act2, key2, old2, new2, next2, ⟨iA2, in2, ic2⟩, ⟨tA2, tn2, tc2⟩, epoch2, node2⟩ := b
  obtain ⟨h1, h2, h3, h4, h5, h6, h7, h8, h9, h10, h11⟩ := hv
  simp only at h1 h2 h3 h4 h5 h6 h7 h8 h9 h10 h11
  subst h1 h2 h3 h4 h5 h6 h7 h8 h9 h10 h11
  obtain ⟨a1, a2, a3, a4, a5, a6⟩ := ha
  obtain ⟨b1, b2, b3, b4, b5, b6⟩ := hb
  simp only at a1 a2 a3 a4 a5 a6 b1 b2 b3 b4 b5 b6
  subst a2 a5 b2 b5
  exact same_walk kind txn prev page act key old new_ next iA iA2 ic ic2 li tA tA2 tc tc2 lt epoch node w hli hlt a1 b1 a4 b4
end Go.Proofs.Ytdphikbkknkhiaa.PAll
