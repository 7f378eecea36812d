/- The contract of sum.run, walked by hand: half by its printed contract, the table of nibbles, the register over a text. -/
import Derived.Test.YtdphikbkknkhiaaSumRunPre
import Derived.Test.YtdphikbkknkhiaaCrc
import Derived.Lib.Hide
import Derived.LoopTactic
import Derived.Laws.BitsAllLaws
import Derived.Laws.Rows
import Derived.Laws.Tables
import Derived.Deep.WholeRow
namespace Go.Proofs.Ytdphikbkknkhiaa.PAll
open Go.RowKit Go.Proofs.YtdphikbkknkhiaaW.PrintWords Go.Proofs.YtdphikbkknkhiaaW.PrintLast Go.Proofs.YtdphikbkknkhiaaW.PrintMore
open Go.Proofs.Ytdphikbkknkhiaa.Crc
set_option linter.unusedVariables false
set_option linter.unusedSimpArgs false

theorem xor32 (a b : Nat) (ha : a < 4294967296) (hb : b < 4294967296) : Go.bits .xor .u32 (a : Int) (b : Int) = ((a ^^^ b : Nat) : Int) := u32_xor_nat a b ha hb
theorem and1 (a : Nat) (ha : a < 4294967296) : Go.bits .and .u32 (a : Int) 1 = ((a % 2 : Nat) : Int) := by
  have h := u32_and_nat a 1 ha (by omega)
  rw [Nat.and_one_is_mod] at h
  exact h
theorem and15 (a : Nat) (ha : a < 4294967296) : Go.bits .and .u32 (a : Int) 15 = ((a % 16 : Nat) : Int) := by
  have h := u32_and_nat a 15 ha (by omega)
  have e : a &&& 15 = a % 16 := Nat.and_two_pow_sub_one_eq_mod a 4
  rw [e] at h
  exact h
theorem half_step (k : Nat) (c : Nat) (i : Int) (hc : c < 4294967296) (h0 : 0 ≤ i) (h1 : i < 4) : sum_half.l0 (k + 1) (c : Int) i = sum_half.l0 k ((L1 c : Nat) : Int) (i + 1) := by
  have hw : wrap64 (i + 1) = i + 1 := by unfold wrap64; omega
  simp only [sum_half.l0]
  rw [if_pos h1, and1 c hc, hw]
  unfold L1
  have hd : ((c : Int) / 2) = ((c / 2 : Nat) : Int) := by omega
  by_cases h : c % 2 = 1
  · rw [if_pos (by omega), if_pos h, hd]
    rw [show (2197175160 : Int) = ((poly : Nat) : Int) from rfl, xor32 _ _ (by omega) (by decide)]
  · rw [if_neg (by omega), if_neg h, hd]
theorem half_of (c : Nat) (hc : c < 4294967296) : sum_half.f 5 (c : Int) = some ((Ln 4 c : Nat) : Int) := by
  unfold sum_half.f
  rw [half_step 4 c 0 hc (by omega) (by omega), half_step 3 _ _ (L1_lt hc) (by omega) (by omega), half_step 2 _ _ (L1_lt (L1_lt hc)) (by omega) (by omega), half_step 1 _ _ (L1_lt (L1_lt (L1_lt hc))) (by omega) (by omega)]
  simp only [sum_half.l0]
  rw [if_neg (by omega), show (4 : Nat) = 0 + 1 + 1 + 1 + 1 from rfl, Ln_succ, Ln_succ, Ln_succ, Ln_succ, Ln_0]

/-- The table as far as it is made: nibbles below k. -/
def nibs (k : Nat) : List Value := (List.range 16).map fun j => .int .u32 ((if j < k then Ln 4 j else 0 : Nat) : Int)
theorem nibs_length (k : Nat) : (nibs k).length = 16 := by simp [nibs]
theorem nibs_set (k : Nat) (hk : k < 16) : (nibs k).set k (.int .u32 ((Ln 4 k : Nat) : Int)) = nibs (k + 1) := by
  apply List.ext_getElem
  · simp [nibs]
  · intro i h1 h2
    simp only [nibs, List.getElem_set, List.getElem_map, List.getElem_range]
    by_cases h : k = i
    · subst h; simp
    · rw [if_neg h]
      by_cases hi : i < k
      · rw [if_pos hi, if_pos (by omega)]
      · rw [if_neg hi, if_neg (by omega)]
theorem nibs_at (k j : Nat) (h : j < 16) : (nibs k)[j]? = some (.int .u32 ((if j < k then Ln 4 j else 0 : Nat) : Int)) := by
  simp [nibs, h]
/-- The whole table. -/
def tab : Array Value := (nibs 16).toArray


theorem nibs0 : (nibs 0).toArray = #[Value.int IntKind.u32 0, Value.int IntKind.u32 0, Value.int IntKind.u32 0, Value.int IntKind.u32 0, Value.int IntKind.u32 0, Value.int IntKind.u32 0, Value.int IntKind.u32 0, Value.int IntKind.u32 0, Value.int IntKind.u32 0, Value.int IntKind.u32 0, Value.int IntKind.u32 0, Value.int IntKind.u32 0, Value.int IntKind.u32 0, Value.int IntKind.u32 0, Value.int IntKind.u32 0, Value.int IntKind.u32 0] := by simp [nibs, List.range_succ]
theorem nibs_one (k : Nat) : (nibs k).toArray.all (·.oneCell') = true := by simp [nibs, Value.oneCell']
theorem hinfo48 : (Try.prog.info? 91).map (·.size) = some 16 := by kernel_rfl
theorem hu48 : Try.prog.underlying 91 = some (TypeDesc.array 16 78) := Try.underlying91

/-- What the loop of table keeps. -/
structure TabRel (w : World) (k : Nat) (wr : World) : Prop where
  res : wr.heap[w.heap.size]? = some (.cells (nibs 0).toArray 91 (0, 0))
  tab : wr.heap[w.heap.size + 1]? = some (.cells (nibs k).toArray 91 (0, 0))
  bel : Below w.heap.size w wr
theorem TabRel.step {w wr : World} {k n : Nat} (h : TabRel w k wr) (hk : k < 16) : TabRel w (k + 1) ((wr.drewN n).setCell ⟨w.heap.size + 1, k, none⟩ (.int .u32 ((Ln 4 k : Nat) : Int))) := by
  have hd : (wr.drewN n).heap = wr.heap := World.heap_drewN _ _
  refine ⟨?_, ?_, ?_⟩
  · rw [heap_setCell_other _ _ _ _ (by simp), hd]; exact h.res
  · have := heap_setCell_same (wr.drewN n) (w.heap.size + 1) k (nibs k).toArray 91 (.int .u32 ((Ln 4 k : Nat) : Int)) (by rw [hd]; exact h.tab)
    rw [this, List.setIfInBounds_toArray, nibs_set k hk]
  · exact (pw_below_drewN h.bel n).setCell (by simp) _

theorem setRow_below {B : Nat} {w wr : World} (h : Below B w wr) {g : Nat} (hg : B ≤ g) (cs : Array Value) : Below B w (wr.setRow g cs) := by
  refine ⟨h.os, h.tape, h.output, by simpa using h.size, fun i hi => ?_⟩
  rw [← h.block i hi]
  simp only [World.setRow, Array.getElem?_modify]
  rw [if_neg (by omega)]

set_option maxHeartbeats 1000000 in
theorem table_calls (w : World) : Calls Try.prog 56 #[] w fun e w' => e = .returned (.agg tab) ∧ Below w.heap.size w w' := by
  have hu := Try.underlying91
  go_enter Try.func56, Try.ntmps56
  go_wp2
  go_loopw [3] (fun i wr => ∃ k : Nat, k ≤ 16 ∧ i = .int .i64 k ∧ TabRel w k wr) (fun i _ => 16 - (intOf i).toNat)
  case atStart =>
    refine ⟨0, Nat.zero_le _, rfl, ?_, ?_, ?_⟩
    · rw [nibs0]; exact heap_alloc2_old _ _ _
    · rw [nibs0]; exact heap_alloc2_new _ _ _
    · exact ((Below.refl _ _).alloc (Nat.le_refl _) _).alloc (by simp) _
  case round =>
    obtain ⟨k, hk, rfl, hR⟩ := hrel
    have HR := Lib.hid hR
    by_cases hlt : k < 16
    · have hc := cell_of_row wr (w.heap.size + 1) k _ 91 (0, 0) hR.tab
      rw [List.getElem?_toArray, nibs_at k k hlt, if_neg (by omega)] at hc
      have hf := frozen_of_row wr (w.heap.size + 1) k _ 91 hR.tab
      clear hR
      go_wp2_with (go_at_call 61; (with_reducible refine (sum_half.calls 5 _ _ _ (half_of k (by omega))).mono ?_); rintro e' w2 ⟨rfl, ⟨n, rfl⟩⟩)
      go_roundw
      case rel => exact ⟨k + 1, by omega, by go_num, HR.out.step hlt⟩
      case measure => simp [intOf]; omega
    · have hk16 : k = 16 := by omega
      subst hk16
      clear hR
      go_wp2_with (first
        | (refine wpList_load_row rfl 91 _ rfl (w.heap.size + 1) rfl 91 _ (0, 0) _ HR.out.tab hu48 rfl (by rw [hinfo48]; simp [nibs]) ?_)
        | (refine wpList_store_row rfl 91 _ _ rfl w.heap.size (nibs 16).toArray rfl rfl 91 _ HR.out.res (by rw [hinfo48]; simp [nibs]) (by simp [nibs]) (nibs_one 16) ?_))
      refine bodyPost_ret (results_cell_row (p := 0) (ty := 91) rfl _ _ w.heap.size 91 (nibs 16).toArray (0, 0) _ rfl ?_ hu48 rfl (by rw [hinfo48]; simp [nibs])) rfl ⟨rfl, ?_⟩
      · have h0 := HR.out.res
        simp [World.setRow, Array.getElem?_modify, h0]
      · exact setRow_below HR.out.bel (Nat.le_refl _) _

/-- What run answers. -/
def sum_run.f (c : Int) (s : ByteArray) : Option Int :=
  if 0 ≤ c ∧ c < 4294967296 ∧ s.size ≤ 9223372036854775807 then some ((regN c.toNat s.data.toList : Nat) : Int) else none

theorem tab_at (j : Nat) (h : j < 16) : tab[j]? = some (.int .u32 ((Ln 4 j : Nat) : Int)) := by
  unfold tab
  rw [List.getElem?_toArray, nibs_at 16 j h, if_pos h]
theorem nib_xor (x : Nat) (hx : x < 4294967296) : Go.bits .xor .u32 ((x : Int) / 16) ((Ln 4 (x % 16) : Nat) : Int) = ((Ln 4 x : Nat) : Int) := by
  rw [show ((x : Int) / 16) = ((x / 16 : Nat) : Int) from by omega, xor32 _ _ (by omega) (Ln_lt 4 (by omega)), ← Ln_nibble]
theorem ret_u32 {a b : Nat} (h : a = b) : Ending.returned (.int .u32 (a : Int)) = .returned (.int .u32 (b : Int)) := by rw [h]
theorem two_nibs (x : Nat) : Ln 4 (Ln 4 x) = Ln 8 x := by rw [← Ln_add]

set_option maxHeartbeats 1000000 in
theorem run_calls (c : Nat) (s : ByteArray) (w : World) (hc : c < 4294967296) (hs : s.size ≤ 9223372036854775807) :
    Calls Try.prog 43 #[.int .u32 (c : Int), .string s] w fun e w' => e = .returned (.int .u32 ((regN c s.data.toList : Nat) : Int)) ∧ Below w.heap.size w w' := by
  have hu := Try.underlying91
  go_enter Try.func43, Try.ntmps43
  go_wp2_with (first
    | (go_at_call 56; (with_reducible refine (table_calls _).mono ?_); rintro e' w1 ⟨rfl, hB1⟩; have HB1 := Lib.hid hB1; clear hB1)
    | (refine wpList_store_row rfl 91 _ _ rfl w1.heap.size tab rfl rfl 91 _ (heap_alloc_new w1 _) (by rw [hinfo48]; simp [tab, nibs]) (by simp [tab, nibs]) (nibs_one 16) ?_; rw [World.setRow_alloc_new]))
  have hT : ∀ j, j < 16 → (w1.alloc (.cells tab 91)).cell? ⟨w1.heap.size, j, none⟩ = some (.int .u32 ((Ln 4 j : Nat) : Int)) := fun j hj => by
    rw [cell_of_row _ w1.heap.size j tab 91 (0, 0) (heap_alloc_new w1 _)]
    exact tab_at j hj
  have HT := Lib.hid hT
  clear hT
  go_loop [0, 10] (fun x i => ∃ k : Nat, k ≤ s.size ∧ i = .int .i64 k ∧ x = .int .u32 ((regN c (s.data.toList.take k) : Nat) : Int)) (fun _ i => s.size - (intOf i).toNat)
  case atStart => exact ⟨0, Nat.zero_le _, rfl, rfl⟩
  case round =>
    obtain ⟨k, hk, rfl, rfl⟩ := hrel
    by_cases hlt : k < s.size
    · have hts : s.data.toList.take (k + 1) = s.data.toList.take k ++ [(s[k]'hlt)] := by
        rw [List.take_succ_eq_append_getElem (by simpa using hlt)]; rfl
      have hcl := regN_lt (s.data.toList.take k) hc
      have hsn := regN_snoc c (s.data.toList.take k) (s[k]'hlt)
      rw [← hts] at hsn
      have hb : (s[k]'hlt).toNat < 256 := (s[k]'hlt).toNat_lt
      clear hts
      obtain ⟨r, hr⟩ : ∃ r, r = regN c (s.data.toList.take k) := ⟨_, rfl⟩
      rw [← hr] at hcl hsn
      rw [← hr]
      clear hr
      have hx1 := xor32 r (s[k]'hlt).toNat hcl (by omega)
      have hx1l : r ^^^ (s[k]'hlt).toNat < 4294967296 := xor_lt32 hcl (by omega)
      obtain ⟨x, hx⟩ : ∃ x, x = r ^^^ (s[k]'hlt).toNat := ⟨_, rfl⟩
      rw [← hx] at hx1 hx1l hsn
      clear hx
      have ha1 := and15 x hx1l
      have hn1 := nib_xor x hx1l
      have hc1 := HT.out (x % 16) (by omega)
      have hyl := Ln_lt 4 hx1l
      rw [show Ln 8 x = Ln 4 (Ln 4 x) from (two_nibs x).symm] at hsn
      obtain ⟨y, hy⟩ : ∃ y, y = Ln 4 x := ⟨_, rfl⟩
      rw [← hy] at hn1 hyl hsn
      clear hy
      have ha2 := and15 y hyl
      have hn2 := nib_xor y hyl
      have hc2 := HT.out (y % 16) (by omega)
      have HS := Lib.hid hsn
      clear hsn
      go_wp2
      go_round
      case rel => exact ⟨k + 1, by omega, by go_num, by rw [HS.out]⟩
      case measure => simp [intOf]; omega
    · go_wp2
      go_ret
      exact ⟨ret_u32 (by rw [List.take_of_length_le (by simp; omega)]), below_alloc HB1.out _⟩

theorem sum_run.calls (a0 : Int) (a1 : ByteArray) (r : Int) (w : World) (h : sum_run.f a0 a1 = some r) :
    Calls Try.prog 43 #[.int .u32 a0, .string a1] w fun e w' => e = .returned (.int .u32 r) ∧ Below w.heap.size w w' := by
  unfold sum_run.f at h
  by_cases hc : 0 ≤ a0 ∧ a0 < 4294967296 ∧ a1.size ≤ 9223372036854775807
  · rw [if_pos hc] at h
    obtain ⟨h0, h1, h2⟩ := hc
    obtain ⟨c, rfl⟩ := Int.eq_ofNat_of_zero_le h0
    rw [Int.toNat_natCast] at h
    obtain rfl := Option.some.inj h
    exact run_calls c a1 w (by omega) h2
  · rw [if_neg hc] at h
    exact absurd h (by simp)

end Go.Proofs.Ytdphikbkknkhiaa.PAll
