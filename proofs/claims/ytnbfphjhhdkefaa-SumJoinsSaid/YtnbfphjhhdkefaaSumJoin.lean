/- The contracts of sum.byte8, times, square and Join, walked by hand: Join is the map of noughts, one addition. -/
import Derived.Test.YtnbfphjhhdkefaaSumJoinPre
import Derived.Test.YtnbfphjhhdkefaaSumRun
import Derived.Lib.Hide
import Derived.LoopTactic
import Derived.Laws.BitsAllLaws
import Derived.Laws.Rows
import Derived.Laws.Tables
import Derived.Deep.WholeRow
import Derived.Deep.MidRow
import Derived.Deep.RegionHeld3
namespace Go.Proofs.Ytnbfphjhhdkefaa.PAll
open Go.RowKit Go.Proofs.YtnbfphjhhdkefaaW.PrintWords Go.Proofs.YtnbfphjhhdkefaaW.PrintLast Go.Proofs.YtnbfphjhhdkefaaW.PrintMore
open Go.Proofs.Ytnbfphjhhdkefaa.Crc
set_option linter.unusedVariables false
set_option linter.unusedSimpArgs false

/-- A matrix as far as it is made: the columns below k of the map 'm bits of noughts'. -/
def cols (m k : Nat) : List Value := (List.range 32).map fun j => .int .u32 ((if j < k then Ln m (2 ^ j) else 0 : Nat) : Int)
theorem cols_length (m k : Nat) : (cols m k).length = 32 := by simp [cols]
theorem cols_set (m k : Nat) (hk : k < 32) : (cols m k).set k (.int .u32 ((Ln m (2 ^ k) : Nat) : Int)) = cols m (k + 1) := by
  apply List.ext_getElem
  · simp [cols]
  · intro i h1 h2
    simp only [cols, List.getElem_set, List.getElem_map, List.getElem_range]
    by_cases h : k = i
    · subst h; simp
    · rw [if_neg h]
      by_cases hi : i < k
      · rw [if_pos hi, if_pos (by omega)]
      · rw [if_neg hi, if_neg (by omega)]
theorem cols_at (m k j : Nat) (h : j < 32) : (cols m k)[j]? = some (.int .u32 ((if j < k then Ln m (2 ^ j) else 0 : Nat) : Int)) := by
  simp [cols, h]
theorem cols0 (m : Nat) : (cols m 0).toArray = #[Value.int IntKind.u32 0, Value.int IntKind.u32 0, Value.int IntKind.u32 0, Value.int IntKind.u32 0, Value.int IntKind.u32 0, Value.int IntKind.u32 0, Value.int IntKind.u32 0, Value.int IntKind.u32 0, Value.int IntKind.u32 0, Value.int IntKind.u32 0, Value.int IntKind.u32 0, Value.int IntKind.u32 0, Value.int IntKind.u32 0, Value.int IntKind.u32 0, Value.int IntKind.u32 0, Value.int IntKind.u32 0, Value.int IntKind.u32 0, Value.int IntKind.u32 0, Value.int IntKind.u32 0, Value.int IntKind.u32 0, Value.int IntKind.u32 0, Value.int IntKind.u32 0, Value.int IntKind.u32 0, Value.int IntKind.u32 0, Value.int IntKind.u32 0, Value.int IntKind.u32 0, Value.int IntKind.u32 0, Value.int IntKind.u32 0, Value.int IntKind.u32 0, Value.int IntKind.u32 0, Value.int IntKind.u32 0, Value.int IntKind.u32 0] := by simp [cols, List.range_succ]
theorem cols_one (m k : Nat) : (cols m k).toArray.all (·.oneCell') = true := by simp [cols, Value.oneCell']
/-- The whole matrix. -/
def mat (m : Nat) : Array Value := (cols m 32).toArray
theorem mat_at (m j : Nat) (h : j < 32) : (mat m)[j]? = some (.int .u32 ((Ln m (2 ^ j) : Nat) : Int)) := by
  unfold mat
  rw [List.getElem?_toArray, cols_at m 32 j h, if_pos h]
theorem mat_size (m : Nat) : (mat m).size = 32 := by simp [mat, cols]
theorem mat_one (m : Nat) : (mat m).all (·.oneCell') = true := cols_one m 32
theorem hinfo40 : (Try.prog.info? 40).map (·.size) = some 32 := by kernel_rfl
theorem hu40 : Try.prog.underlying 40 = some (TypeDesc.array 32 37) := Try.underlying40

/-- What a loop that fills a matrix keeps: the result's block r, the variable's v. -/
structure MatRel (w : World) (m r v k : Nat) (wr : World) : Prop where
  res : wr.heap[r]? = some (.cells (cols m 0).toArray 40 (0, 0))
  tab : wr.heap[v]? = some (.cells (cols m k).toArray 40 (0, 0))
  bel : Below w.heap.size w wr
theorem MatRel.step {w wr : World} {m r v k : Nat} (h : MatRel w m r v k wr) (hk : k < 32) (hrv : r ≠ v) (hv : w.heap.size ≤ v) :
    MatRel w m r v (k + 1) (wr.setCell ⟨v, k, none⟩ (.int .u32 ((Ln m (2 ^ k) : Nat) : Int))) := by
  refine ⟨?_, ?_, ?_⟩
  · rw [heap_setCell_other _ _ _ _ (by simpa using hrv)]; exact h.res
  · have := heap_setCell_same wr v k (cols m k).toArray 40 (.int .u32 ((Ln m (2 ^ k) : Nat) : Int)) h.tab
    rw [this, List.setIfInBounds_toArray, cols_set m k hk]
  · exact h.bel.setCell hv _
theorem MatRel.below {w wr w2 : World} {m r v k : Nat} (h : MatRel w m r v k wr) (hb : Below wr.heap.size wr w2) : MatRel w m r v k w2 :=
  ⟨(hb.block r (Array.getElem?_eq_some_iff.1 h.res).1).trans h.res, (hb.block v (Array.getElem?_eq_some_iff.1 h.tab).1).trans h.tab, below_then h.bel h.bel.size hb⟩
theorem MatRel.drewN {w wr : World} {m r v k : Nat} (h : MatRel w m r v k wr) (n : Nat) : MatRel w m r v k (wr.drewN n) := ⟨h.res, h.tab, pw_below_drewN h.bel n⟩

set_option maxHeartbeats 1000000 in
theorem byte8_calls (w : World) : Calls Try.prog 20 #[] w fun e w' => e = .returned (.agg (mat 8)) ∧ Below w.heap.size w w' := by
  have hu := Try.underlying40
  go_enter Try.func20, Try.ntmps20
  go_wp2
  go_loopw [3] (fun i wr => ∃ k : Nat, k ≤ 32 ∧ i = .int .i64 k ∧ MatRel w 8 w.heap.size (w.heap.size + 1) k wr) (fun i _ => 32 - (intOf i).toNat)
  case atStart =>
    refine ⟨0, Nat.zero_le _, rfl, ?_, ?_, ?_⟩
    · rw [cols0]; exact heap_alloc2_old _ _ _
    · rw [cols0]; exact heap_alloc2_new _ _ _
    · exact ((Below.refl _ _).alloc (Nat.le_refl _) _).alloc (by simp) _
  case round =>
    obtain ⟨k, hk, rfl, hR⟩ := hrel
    have HR := Lib.hid hR
    by_cases hlt : k < 32
    · have hc := cell_of_row wr (w.heap.size + 1) k _ 40 (0, 0) hR.tab
      rw [List.getElem?_toArray, cols_at 8 k k hlt, if_neg (by omega)] at hc
      have hf := frozen_of_row wr (w.heap.size + 1) k _ 40 hR.tab
      clear hR
      have hp : 2 ^ k < 4294967296 := Nat.lt_of_lt_of_le (Nat.pow_lt_pow_right (by omega) hlt : 2 ^ k < 2 ^ 32) (by decide)
      obtain ⟨p, hpe⟩ : ∃ p, p = 2 ^ k := ⟨_, rfl⟩
      have hpw : (2 : Int) ^ k = (p : Int) := by rw [hpe]; simp
      rw [← hpe] at hp
      have hpow : (2 : Int) ^ k % 4294967296 = (p : Int) := by rw [hpw]; omega
      clear hpw
      have HP := Lib.hid hpe
      clear hpe
      have hp4 := Ln_lt 4 hp
      go_wp2_with fail
      refine (sum_half.calls 5 _ _ _ (half_of p hp)).mono ?_
      rintro e' w2 ⟨rfl, ⟨n, rfl⟩⟩
      go_wp2_with fail
      refine (sum_half.calls 5 _ _ _ (half_of (Ln 4 p) hp4)).mono ?_
      rintro e' w2 ⟨rfl, ⟨n2, rfl⟩⟩
      go_wp2
      go_roundw
      case rel => exact ⟨k + 1, by omega, by go_num, by rw [two_nibs, HP.out]; exact (MatRel.drewN HR.out _).step hlt (by omega) (by omega)⟩
      case measure => simp [intOf]; omega
    · have hk32 : k = 32 := by omega
      subst hk32
      clear hR
      go_wp2_with (first
        | (refine wpList_load_row rfl 40 _ rfl (w.heap.size + 1) rfl 40 (mat 8) (0, 0) _ HR.out.tab hu40 rfl (by rw [hinfo40, mat_size]) ?_)
        | (refine wpList_store_row rfl 40 _ _ rfl w.heap.size (mat 8) rfl rfl 40 _ HR.out.res (by rw [hinfo40, mat_size]) (by simp [cols, mat_size]) (mat_one 8) ?_))
      refine bodyPost_ret (results_cell_row (p := 0) (ty := 40) rfl _ _ w.heap.size 40 (mat 8) (0, 0) _ rfl ?_ hu40 rfl (by rw [hinfo40, mat_size])) rfl ⟨rfl, ?_⟩
      · have h0 := HR.out.res
        simp [World.setRow, Array.getElem?_modify, h0]
      · exact setRow_below HR.out.bel (Nat.le_refl _) _

theorem and1_64 (a : Nat) (ha : a ≤ 9223372036854775807) : Go.bits .and .i64 (a : Int) 1 = ((a % 2 : Nat) : Int) := by
  show IntKind.i64.wrap ((BitVec.ofInt 64 (a : Int) &&& BitVec.ofInt 64 1).toNat : Int) = _
  rw [BitVec.toNat_and, BitVec.ofInt_natCast, BitVec.toNat_ofNat, Nat.mod_eq_of_lt (by omega), show (BitVec.ofInt 64 1).toNat = 1 from by decide, Nat.and_one_is_mod, IntKind.wrap_i64]
  omega
theorem times_bit (c i : Nat) (hc : c < 4294967296) (hi : i < 32) : Go.bits .and .u32 ((c : Int) / 2 ^ i) 1 = ((c / 2 ^ i % 2 : Nat) : Int) := by
  have h : ((c : Int) / 2 ^ i) = ((c / 2 ^ i : Nat) : Int) := by simp
  rw [h]
  exact and1 _ (Nat.lt_of_le_of_lt (Nat.div_le_self _ _) hc)
theorem timesN_small (m c i : Nat) (hi : i ≤ 32) : timesN (fun j => Ln m (2 ^ j)) c i < 4294967296 := by
  rw [timesN_Ln]
  apply Ln_lt
  have h1 : c % 2 ^ i < 2 ^ i := Nat.mod_lt _ (Nat.two_pow_pos i)
  have h2 : 2 ^ i ≤ 2 ^ 32 := Nat.pow_le_pow_right (by omega) hi
  exact Nat.lt_of_lt_of_le h1 h2
set_option maxHeartbeats 1000000 in
theorem times_calls (m c : Nat) (w : World) (hc : c < 4294967296) : Calls Try.prog 21 #[.agg (mat m), .int .u32 (c : Int)] w fun e w' => e = .returned (.int .u32 ((Ln m c : Nat) : Int)) ∧ Below w.heap.size w w' := by
  have hu := Try.underlying40
  have hsz := mat_size m
  go_enter Try.func21, Try.ntmps21
  go_wp2
  have hT : ∀ j, j < 32 → (w.alloc (.cells (mat m) 40)).cell? ⟨w.heap.size, j, none⟩ = some (.int .u32 ((Ln m (2 ^ j) : Nat) : Int)) := fun j hj => by
    rw [cell_of_row _ w.heap.size j (mat m) 40 (0, 0) (heap_alloc_new w _)]
    exact mat_at m j hj
  have HT := Lib.hid hT
  clear hT
  go_loop [5, 7] (fun x i => ∃ k : Nat, k ≤ 32 ∧ i = .int .i64 k ∧ x = .int .u32 ((timesN (fun j => Ln m (2 ^ j)) c k : Nat) : Int)) (fun _ i => 32 - (intOf i).toNat)
  case atStart => exact ⟨0, Nat.zero_le _, rfl, rfl⟩
  case round =>
    obtain ⟨k, hk, rfl, rfl⟩ := hrel
    by_cases hlt : k < 32
    · have hb := times_bit c k hc hlt
      have hp : 2 ^ k < 4294967296 := Nat.lt_of_lt_of_le (Nat.pow_lt_pow_right (by omega) hlt : 2 ^ k < 2 ^ 32) (by decide)
      have htl := timesN_small m c k (by omega)
      have hvl := Ln_lt m hp
      have hcell := HT.out k hlt
      have hst : timesN (fun j => Ln m (2 ^ j)) c (k + 1) = if c / 2 ^ k % 2 = 1 then timesN (fun j => Ln m (2 ^ j)) c k ^^^ Ln m (2 ^ k) else timesN (fun j => Ln m (2 ^ j)) c k := rfl
      obtain ⟨t, ht⟩ : ∃ t, t = timesN (fun j => Ln m (2 ^ j)) c k := ⟨_, rfl⟩
      obtain ⟨v, hv⟩ : ∃ v, v = Ln m (2 ^ k) := ⟨_, rfl⟩
      rw [← ht] at htl hst
      rw [← hv] at hvl hcell hst
      rw [← ht]
      clear ht hv hp
      by_cases hbit : c / 2 ^ k % 2 = 1
      · rw [if_pos hbit] at hst
        rw [hbit] at hb
        have hb' : Go.bits .and .u32 ((c : Int) / 2 ^ k) 1 = 1 := hb
        have hx := xor32 t v htl hvl
        have HS := Lib.hid hst
        clear hst hb hbit
        go_wp2
        go_round
        case rel => exact ⟨k + 1, by omega, by go_num, by rw [HS.out]⟩
        case measure => simp [intOf]; omega
      · rw [if_neg hbit] at hst
        rw [show c / 2 ^ k % 2 = 0 from by omega] at hb
        have hb' : Go.bits .and .u32 ((c : Int) / 2 ^ k) 1 = 0 := hb
        have HS := Lib.hid hst
        clear hst hb hbit
        go_wp2
        go_round
        case rel => exact ⟨k + 1, by omega, by go_num, by rw [HS.out]⟩
        case measure => simp [intOf]; omega
    · have hk32 : k = 32 := by omega
      subst hk32
      go_wp2
      go_ret
      exact ⟨ret_u32 (timesN_32 m c hc), below_alloc (Below.refl _ _) _⟩

theorem times_calls' (m v : Nat) (w : World) (hv : v < 4294967296) : Calls Try.prog 21 #[.agg (cols m 32).toArray, .int .u32 (v : Int)] w fun e w' => e = .returned (.int .u32 ((Ln m v : Nat) : Int)) ∧ Below w.heap.size w w' := times_calls m v w hv
theorem rangeAt_below {w w' : World} {b o : Nat} {cs : List Value} (h : w.rangeAt b o cs) (hb : Below w.heap.size w w') (hlt : b < w.heap.size) : w'.rangeAt b o cs :=
  fun j v hv => (hb.cell (p := ⟨b, o + j, none⟩) hlt).trans (h j v hv)
theorem keepS {w : World} {b b2 k j : Nat} {cs : List Value} {x : Value} (h1 : w.rangeAt b 0 cs) (h2 : w.cell? ⟨b, k, none⟩ = some x) (hne : b ≠ b2) (u : Value) :
    (w.setCell ⟨b2, j, none⟩ u).rangeAt b 0 cs ∧ (w.setCell ⟨b2, j, none⟩ u).cell? ⟨b, k, none⟩ = some x :=
  ⟨fun i v hv => (World.cell?_setCell_other _ _ _ _ (by intro e; injection e with e1 e2; exact hne e1.symm)).trans (h1 i v hv), (World.cell?_setCell_other _ _ _ _ (by intro e; injection e with e1 e2; exact hne e1.symm)).trans h2⟩
theorem below_heap {B : Nat} {w w' : World} (h : Below B w w') {g : Nat} (hg : g < B) {o : Obj} (ho : w.heap[g]? = some o) : w'.heap[g]? = some o := (h.block g hg).trans ho
/-- The same for two maps one behind the other. -/
theorem Ln_twice (m k : Nat) : Ln m (Ln m (2 ^ k)) = Ln (m + m) (2 ^ k) := by rw [← Ln_add]

set_option maxRecDepth 100000 in
set_option maxHeartbeats 400000 in
theorem square_calls (m : Nat) (w : World) : Calls Try.prog 22 #[.agg (mat m)] w fun e w' => e = .returned (.agg (mat (m + m))) ∧ Below w.heap.size w w' := by
  have hu := Try.underlying40
  have hsz := mat_size m
  go_enter Try.func22, Try.ntmps22
  go_wp2
  go_loopw [5] (fun i wr => ∃ k : Nat, k ≤ 32 ∧ i = .int .i64 k ∧ wr.heap[w.heap.size]? = some (.cells (mat m) 40 (0, 0)) ∧ MatRel w (m + m) (w.heap.size + 1) (w.heap.size + 1 + 1) k wr) (fun i _ => 32 - (intOf i).toNat)
  case atStart =>
    have hb1 := (Below.refl w.heap.size w).alloc (Nat.le_refl _) (.cells (mat m) 40)
    have hb2 := hb1.alloc (by simp) (.cells (cols (m + m) 0).toArray 40)
    have hb3 := hb2.alloc (by simp; omega) (.cells (cols (m + m) 0).toArray 40)
    rw [← cols0 (m + m)]
    refine ⟨0, Nat.zero_le _, rfl, ?_, ?_, ?_, hb3⟩
    · rw [Below.heap_alloc _ _ w.heap.size (by simp; omega), Below.heap_alloc _ _ w.heap.size (by simp)]; exact heap_alloc_new _ _
    · rw [Below.heap_alloc _ _ (w.heap.size + 1) (by simp)]
      have := heap_alloc_new (w.alloc (.cells (mat m) 40)) (.cells (cols (m + m) 0).toArray 40)
      simpa using this
    · have := heap_alloc_new ((w.alloc (.cells (mat m) 40)).alloc (.cells (cols (m + m) 0).toArray 40)) (.cells (cols (m + m) 0).toArray 40)
      simpa using this
  case round =>
    obtain ⟨k, hk, rfl, hM, hR⟩ := hrel
    have HR := Lib.hid hR
    have HM := Lib.hid hM
    by_cases hlt : k < 32
    · have hp : 2 ^ k < 4294967296 := Nat.lt_of_lt_of_le (Nat.pow_lt_pow_right (by omega) hlt : 2 ^ k < 2 ^ 32) (by decide)
      have hvl := Ln_lt m hp
      have hc := cell_of_row wr (w.heap.size + 1 + 1) k _ 40 (0, 0) hR.tab
      rw [List.getElem?_toArray, cols_at (m + m) k k hlt, if_neg (by omega)] at hc
      have hf := frozen_of_row wr (w.heap.size + 1 + 1) k _ 40 hR.tab
      have hcm := cell_of_row wr w.heap.size k _ 40 (0, 0) hM
      rw [mat_at m k hlt] at hcm
      have hrg : wr.rangeAt w.heap.size 0 (cols m 32) := by
        have := World.rangeAt_of_block hM 0 32
        have e : ((mat m).extract 0 (0 + 32)).toList = cols m 32 := by
          rw [Array.toList_extract]
          show List.extract (cols m 32) 0 32 = cols m 32
          simp [List.extract_eq_take_drop, cols_length]
          rw [List.take_of_length_le (by rw [cols_length]; omega)]
        rwa [e] at this
      have hi40 : (Try.prog.info? 40).map (·.size) = some (cols m 32).length := by rw [hinfo40, cols_length]
      have hlen := cols_length m 32
      have hone : ∀ v ∈ cols m 32, v.oneCell' = true := by intro v hv; simp [cols] at hv; obtain ⟨j, _, rfl⟩ := hv; rfl
      have hk0 : (0 : Int) ≤ (k : Int) := by omega
      have hk32 : (k : Int) < 32 := by omega
      have h2 := Ln_twice m k
      obtain ⟨v, hv⟩ : ∃ v, v = Ln m (2 ^ k) := ⟨_, rfl⟩
      rw [← hv] at hvl hcm h2
      have H2 := Lib.hid h2
      have hsz0 : w.heap.size < wr.heap.size := (Array.getElem?_eq_some_iff.1 hM).1
      have hsz2 : w.heap.size + 1 + 1 < wr.heap.size := (Array.getElem?_eq_some_iff.1 hR.tab).1
      clear hM hR hv h2 hp
      go_wp2
      go_region_held3 (fun w' => w'.rangeAt w.heap.size 0 (cols m 32) ∧ w'.cell? ⟨w.heap.size, k, none⟩ = some (.int .u32 (v : Int)))
        (first | go_keep_ranges | exact keepS ‹_› ‹_› (by omega) _) (first | (go_at_call 21; (with_reducible refine (times_calls' m v _ hvl).mono ?_); rintro e' w2 ⟨rfl, hb2⟩; have HB2 := Lib.hid hb2; have hc2 := (hb2.cell (p := ⟨w.heap.size + 1 + 1, k, none⟩) hsz2).trans hc; have hf2 := (hb2.frozen (p := ⟨w.heap.size + 1 + 1, k, none⟩) hsz2).trans hf; have hcm2 := (hb2.cell (p := ⟨w.heap.size, k, none⟩) hsz0).trans hcm; have hrg2 : w2.rangeAt w.heap.size 0 (cols m 32) := rangeAt_below (w := wr.drew) hrg hb2 hsz0; clear hb2))
      clear hc2 hf2 hcm2 hrg2
      go_wp2
      go_roundw
      case rel =>
        have hR2 := MatRel.below (wr := wr.drew) (w2 := w2) ⟨HR.out.res, HR.out.tab, below_drew HR.out.bel⟩ HB2.out
        refine ⟨k + 1, by omega, by go_num, ?_, ?_⟩
        · rw [Below.heap_setCell _ _ _ _ (by simp; omega)]
          exact below_heap HB2.out hsz0 HM.out
        · rw [H2.out]
          exact hR2.step hlt (by omega) (by omega)
      case measure => simp [intOf]; omega
    · have hk32 : k = 32 := by omega
      subst hk32
      clear hR hM
      go_wp2_with (first
        | (refine wpList_load_row rfl 40 _ rfl (w.heap.size + 1 + 1) rfl 40 (mat (m + m)) (0, 0) _ HR.out.tab hu40 rfl (by rw [hinfo40, mat_size]) ?_)
        | (refine wpList_store_row rfl 40 _ _ rfl (w.heap.size + 1) (mat (m + m)) rfl rfl 40 _ HR.out.res (by rw [hinfo40, mat_size]) (by simp [cols, mat_size]) (mat_one (m + m)) ?_))
      refine bodyPost_ret (results_cell_row (p := 2) (ty := 40) rfl _ _ (w.heap.size + 1) 40 (mat (m + m)) (0, 0) _ rfl ?_ hu40 rfl (by rw [hinfo40, mat_size])) rfl ⟨rfl, ?_⟩
      · have h0 := HR.out.res
        simp [World.setRow, Array.getElem?_modify, h0]
      · exact setRow_below HR.out.bel (by omega) _

theorem half_int (q : Nat) : Value.int .i64 ((q : Int) / 2) = Value.int .i64 ((q / 2 : Nat) : Int) := by congr 1
theorem join_odd {q e c X : Nat} (ho : q % 2 = 1) (h : Ln (e * q) c = X) : Ln ((e + e) * (q / 2)) (Ln e c) = X := by
  rw [← Ln_add, ← h]
  congr 1
  obtain ⟨p, hp⟩ : ∃ p, p = q / 2 := ⟨_, rfl⟩
  rw [← hp, show q = 2 * p + 1 from by omega, Nat.add_mul, Nat.mul_add, Nat.mul_left_comm, Nat.mul_one]
  omega
theorem join_even {q e c X : Nat} (ho : ¬ q % 2 = 1) (h : Ln (e * q) c = X) : Ln ((e + e) * (q / 2)) c = X := by
  rw [← h]
  congr 1
  obtain ⟨p, hp⟩ : ∃ p, p = q / 2 := ⟨_, rfl⟩
  rw [← hp, show q = 2 * p from by omega, Nat.add_mul, Nat.mul_left_comm]
  omega
theorem setRow_same {w : World} {g : Nat} {c c' : Array Value} {t : TypeId} {fr : Nat × Nat} (h : w.heap[g]? = some (.cells c t fr)) (hc : (0, 0) = fr) : (w.setRow g c').heap[g]? = some (.cells c' t fr) := by
  simp [World.setRow, Array.getElem?_modify, h]
/-- What Join answers. -/
def sum_Join.f (a b n : Int) : Option (Int × Int) :=
  if n ≤ 9223372036854775807 then
    if a < 0 ∨ 4294967295 < a ∨ b < 0 ∨ 4294967295 < b ∨ n < 0 then some (0, 1)
    else some (((Ln (8 * n.toNat) a.toNat ^^^ b.toNat : Nat) : Int), 0)
  else none

set_option maxRecDepth 100000 in
set_option maxHeartbeats 2000000 in
theorem join_ok (a b n : Nat) (w : World) (ha : a < 4294967296) (hb : b < 4294967296) (hn : n ≤ 9223372036854775807) :
    Calls Try.prog 15 #[.int .i64 (a : Int), .int .i64 (b : Int), .int .i64 (n : Int)] w fun e w' => e = .returned (.tuple #[.int .i64 ((Ln (8 * n) a ^^^ b : Nat) : Int), .int .i64 0]) ∧ Below w.heap.size w w' := by
  have hu := Try.underlying40
  have d1 : decide ((a : Int) < 0) = false := by first | (simp; done) | (simp; omega)
  have d2 : decide ((4294967295 : Int) < (a : Int)) = false := by first | (simp; done) | (simp; omega)
  have d3 : decide ((b : Int) < 0) = false := by first | (simp; done) | (simp; omega)
  have d4 : decide ((4294967295 : Int) < (b : Int)) = false := by first | (simp; done) | (simp; omega)
  have d5 : decide ((n : Int) < 0) = false := by first | (simp; done) | (simp; omega)
  go_enter Try.func15, Try.ntmps15
  go_wp2_with (first
    | (go_at_call 20; (with_reducible refine (byte8_calls _).mono ?_); rintro e' w1 ⟨rfl, hB1⟩; have HB1 := Lib.hid hB1; clear hB1)
    | (refine wpList_store_row rfl 40 _ _ rfl w1.heap.size (mat 8) rfl rfl 40 _ (heap_alloc_new w1 _) (by rw [hinfo40, mat_size]) (by simp [mat_size]) (mat_one 8) ?_; rw [World.setRow_alloc_new]))
  go_loopw [2, 9] (fun x o wr => ∃ q e c : Nat, q ≤ n ∧ x = .int .i64 (q : Int) ∧ o = .int .u32 (c : Int) ∧ c < 4294967296 ∧ Hid (Ln (e * q) c = Ln (8 * n) a) ∧ wr.heap[w1.heap.size]? = some (.cells (mat e) 40 (0, 0)) ∧ Below w.heap.size w wr) (fun x _ _ => (intOf x).toNat)
  case atStart => exact ⟨n, 8, a, Nat.le_refl _, rfl, by go_num, ha, rfl, heap_alloc_new w1 _, below_alloc HB1.out _⟩
  case round =>
    obtain ⟨q, e, c, hq, rfl, rfl, hc, HI, hM, hB⟩ := hrel
    have HM := Lib.hid hM
    have HB := Lib.hid hB
    have hg : w1.heap.size < wr.heap.size := (Array.getElem?_eq_some_iff.1 hM).1
    have hgw : w.heap.size ≤ w1.heap.size := HB1.out.size
    clear hM hB
    by_cases h0 : 0 < q
    · have hand := and1_64 q (by omega)
      by_cases ho : q % 2 = 1
      · rw [ho] at hand
        have hand1 : Go.bits .and .i64 (q : Int) 1 = 1 := hand
        clear hand
        go_wp2_with (first
          | (refine wpList_load_row rfl 40 _ rfl w1.heap.size rfl 40 (mat e) (0, 0) _ HM.out hu40 rfl (by rw [hinfo40, mat_size]) ?_)
          | (go_at_call 21; (with_reducible refine (times_calls e c _ hc).mono ?_); rintro e' w2 ⟨rfl, hB2⟩; have hM2 := below_heap hB2 hg HM.out; have HM2 := Lib.hid hM2; have hg2 := (Array.getElem?_eq_some_iff.1 hM2).1; have HB2 := Lib.hid (below_step HB.out hB2); clear hB2 hM2)
          | (refine wpList_load_row rfl 40 _ rfl w1.heap.size rfl 40 (mat e) (0, 0) _ HM2.out hu40 rfl (by rw [hinfo40, mat_size]) ?_)
          | (go_at_call 22; (with_reducible refine (square_calls e _).mono ?_); rintro e' w3 ⟨rfl, hB3⟩; have HM3 := Lib.hid (below_heap hB3 hg2 HM2.out); have HB3 := Lib.hid (below_step HB2.out hB3); clear hB3)
          | (refine wpList_store_row rfl 40 _ _ rfl w1.heap.size (mat (e + e)) rfl rfl 40 _ HM3.out (by rw [hinfo40, mat_size]) (by rw [mat_size, mat_size]) (mat_one (e + e)) ?_))
        go_roundw
        case rel => exact ⟨q / 2, e + e, Ln e c, by omega, half_int q, rfl, Ln_lt e hc, join_odd ho HI.out, setRow_same HM3.out rfl, setRow_below HB3.out hgw _⟩
        case measure => simp [intOf]; omega
      · rw [show q % 2 = 0 from by omega] at hand
        have hand1 : Go.bits .and .i64 (q : Int) 1 = 0 := hand
        clear hand
        go_wp2_with (first
          | (refine wpList_load_row rfl 40 _ rfl w1.heap.size rfl 40 (mat e) (0, 0) _ HM.out hu40 rfl (by rw [hinfo40, mat_size]) ?_)
          | (go_at_call 22; (with_reducible refine (square_calls e _).mono ?_); rintro e' w3 ⟨rfl, hB3⟩; have HM3 := Lib.hid (below_heap hB3 hg HM.out); have HB3 := Lib.hid (below_step HB.out hB3); clear hB3)
          | (refine wpList_store_row rfl 40 _ _ rfl w1.heap.size (mat (e + e)) rfl rfl 40 _ HM3.out (by rw [hinfo40, mat_size]) (by rw [mat_size, mat_size]) (mat_one (e + e)) ?_))
        go_roundw
        case rel => exact ⟨q / 2, e + e, c, by omega, half_int q, rfl, hc, join_even ho HI.out, setRow_same HM3.out rfl, setRow_below HB3.out hgw _⟩
        case measure => simp [intOf]; omega
    · have hq0 : q = 0 := by omega
      subst hq0
      have hx := xor32 c b hc hb
      have hxl := xor_lt32 hc hb
      have hI := HI.out
      rw [Nat.mul_zero, Ln_0] at hI
      have HI2 := Lib.hid hI
      clear hI
      go_wp2
      go_ret2
      exact ⟨by rw [← HI2.out]; rfl, HB.out⟩

theorem join_bad (a b n : Int) (w : World) (h : a < 0 ∨ 4294967295 < a ∨ b < 0 ∨ 4294967295 < b ∨ n < 0) :
    Calls Try.prog 15 #[.int .i64 a, .int .i64 b, .int .i64 n] w fun e w' => e = .returned (.tuple #[.int .i64 0, .int .i64 1]) ∧ Below w.heap.size w w' := by
  by_cases h1 : a < 0
  · have d1 : decide (a < 0) = true := by simpa using h1
    go_enter Try.func15, Try.ntmps15
    go_wp2
    go_ret2
    exact ⟨rfl, Below.refl _ _⟩
  · have d1 : decide (a < 0) = false := by simpa using h1
    by_cases h2 : 4294967295 < a
    · have d2 : decide (4294967295 < a) = true := by simpa using h2
      go_enter Try.func15, Try.ntmps15
      go_wp2
      go_ret2
      exact ⟨rfl, Below.refl _ _⟩
    · have d2 : decide (4294967295 < a) = false := by simpa using h2
      by_cases h3 : b < 0
      · have d3 : decide (b < 0) = true := by simpa using h3
        go_enter Try.func15, Try.ntmps15
        go_wp2
        go_ret2
        exact ⟨rfl, Below.refl _ _⟩
      · have d3 : decide (b < 0) = false := by simpa using h3
        by_cases h4 : 4294967295 < b
        · have d4 : decide (4294967295 < b) = true := by simpa using h4
          go_enter Try.func15, Try.ntmps15
          go_wp2
          go_ret2
          exact ⟨rfl, Below.refl _ _⟩
        · have d4 : decide (4294967295 < b) = false := by simpa using h4
          have d5 : decide (n < 0) = true := by simp; omega
          go_enter Try.func15, Try.ntmps15
          go_wp2
          go_ret2
          exact ⟨rfl, Below.refl _ _⟩
theorem sum_Join.calls (a0 a1 a2 : Int) (r1 r2 : Int) (w : World) (h : sum_Join.f a0 a1 a2 = some (r1, r2)) :
    Calls Try.prog 15 #[.int .i64 a0, .int .i64 a1, .int .i64 a2] w fun e w' => e = .returned (.tuple #[.int .i64 r1, .int .i64 r2]) ∧ Below w.heap.size w w' := by
  unfold sum_Join.f at h
  by_cases hn : a2 ≤ 9223372036854775807
  · rw [if_pos hn] at h
    by_cases hc : a0 < 0 ∨ 4294967295 < a0 ∨ a1 < 0 ∨ 4294967295 < a1 ∨ a2 < 0
    · rw [if_pos hc] at h
      simp only [Option.some.injEq, Prod.mk.injEq] at h
      obtain ⟨rfl, rfl⟩ := h
      exact join_bad a0 a1 a2 w hc
    · rw [if_neg hc] at h
      simp only [Option.some.injEq, Prod.mk.injEq] at h
      obtain ⟨rfl, rfl⟩ := h
      obtain ⟨a, rfl⟩ := Int.eq_ofNat_of_zero_le (show 0 ≤ a0 by omega)
      obtain ⟨b, rfl⟩ := Int.eq_ofNat_of_zero_le (show 0 ≤ a1 by omega)
      obtain ⟨n, rfl⟩ := Int.eq_ofNat_of_zero_le (show 0 ≤ a2 by omega)
      simp only [Int.toNat_natCast]
      exact join_ok a b n w (by omega) (by omega) (by omega)
  · rw [if_neg hn] at h
    exact absurd h (by simp)

end Go.Proofs.Ytnbfphjhhdkefaa.PAll
