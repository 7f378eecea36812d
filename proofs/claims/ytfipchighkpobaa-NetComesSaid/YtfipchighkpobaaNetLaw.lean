/- The document's net, and its list without one. -/
import Derived.Test.YtfipchighkpobaaNetMore
namespace Go.Proofs.Ytfipchighkpobaa.PAll
open Go.RowKit Go.Proofs.YtfipchighkpobaaW.PrintWords Go.Proofs.YtfipchighkpobaaW.PrintLast Go.Proofs.YtfipchighkpobaaW.PrintMore
set_option linter.unusedVariables false
set_option linter.unusedSimpArgs false

/-- The document's net at block p. -/
structure PT (B : Nat) (w : World) (p : Nat) (A : Option Addr) (c : Nat) (way : List ByteArray) (lost sent : Int) : Prop where
  rec_ : w.heap[p]? = some (.cells #[.slice A way.length c, .int .i64 sent, .int .i64 lost] 38 (0, 0))
  row : SR w B A c way
  ge : B ≤ p
theorem PT.ne {B : Nat} {w : World} {p : Nat} {A : Option Addr} {c : Nat} {way : List ByteArray} {lost sent : Int} (h : PT B w p A c way lost sent) : ablk A ≠ some p := by
  intro e
  obtain ⟨_, _, cs, h2⟩ := h.row.ge e
  rw [h.rec_] at h2
  simp at h2
theorem PT.hold {B : Nat} {w w' : World} {p : Nat} {A : Option Addr} {c : Nat} {way : List ByteArray} {lost sent : Int} {S : Nat → Prop} (h : PT B w p A c way lost sent) (ho : Only w w' S) (h1 : ¬ S p) (h2 : ∀ r, ablk A = some r → ¬ S r) : PT B w' p A c way lost sent :=
  ⟨ho.hold h.rec_ h1, h.row.hold ho h2, h.ge⟩
theorem PT.set {B : Nat} {w : World} {p : Nat} {A : Option Addr} {c : Nat} {way : List ByteArray} {lost sent : Int} (h : PT B w p A c way lost sent) (i : Nat) (v : Value) (lost' sent' : Int)
    (he : (#[.slice A way.length c, .int .i64 sent, .int .i64 lost] : Array Value).setIfInBounds i v = #[.slice A way.length c, .int .i64 sent', .int .i64 lost']) : PT B (w.setCell ⟨p, i, none⟩ v) p A c way lost' sent' :=
  ⟨blk_put h.rec_ i _ he, h.row.hold (Only.set w p i v) (fun r hr e => h.ne (e ▸ hr)), h.ge⟩
theorem PT.c0 {B : Nat} {w : World} {p : Nat} {A : Option Addr} {c : Nat} {way : List ByteArray} {lost sent : Int} (h : PT B w p A c way lost sent) : w.cell? ⟨p, 0, none⟩ = some (.slice A way.length c) := (blk_cell h.rec_ 0).trans rfl
theorem PT.c1 {B : Nat} {w : World} {p : Nat} {A : Option Addr} {c : Nat} {way : List ByteArray} {lost sent : Int} (h : PT B w p A c way lost sent) : w.cell? ⟨p, 1, none⟩ = some (.int .i64 sent) := (blk_cell h.rec_ 1).trans rfl
theorem PT.c2 {B : Nat} {w : World} {p : Nat} {A : Option Addr} {c : Nat} {way : List ByteArray} {lost sent : Int} (h : PT B w p A c way lost sent) : w.cell? ⟨p, 2, none⟩ = some (.int .i64 lost) := (blk_cell h.rec_ 2).trans rfl
/-- A row that was made, and its store into the document's net. -/
theorem pt_app {B : Nat} {w w3 : World} {p : Nat} {A A' : Option Addr} {c c' : Nat} {way ys : List ByteArray} {lost sent : Int} (hN : PT B w p A c way lost sent) (hrow : SR w3 B A' c' ys) (ho : Only w w3 (fun k => ablk A = some k)) (hf : ∀ r, ablk A' = some r → ablk A = some r ∨ w.heap.size ≤ r) (v : Value) (hv : v = .slice A' ys.length c') :
    PT B (w3.setCell ⟨p, 0, none⟩ v) p A' c' ys lost sent ∧ Moved w (w3.setCell ⟨p, 0, none⟩ v) p A A' := by
  subst hv
  have hlt := blk_lt hN.rec_
  have hr := ho.hold hN.rec_ (fun e => hN.ne e)
  have hne : ablk A' ≠ some p := by
    intro e
    rcases hf p e with h | h
    · exact hN.ne h
    · omega
  exact ⟨⟨blk_put hr 0 _ rfl, hrow.hold (Only.set w3 p 0 _) (fun r hr e => hne (e ▸ hr)), hN.ge⟩, (ho.mono (fun k h => .inr h)).trans (Only.set w3 p 0 _) (fun k _ h => .inl h), hf⟩

set_option maxHeartbeats 1000000 in
theorem there_in {B : Nat} {w : World} {p : Nat} {A : Option Addr} {c : Nat} {way : List ByteArray} {lost sent : Int} (h : PT B w p A c way lost sent) (i : Nat) (hi : i < way.length) :
    Calls Try.prog 22 #[.pointer (some ⟨p, 0, none⟩), .int .i64 i] w fun e w' => e = .returned (.bool true) ∧ w' = w := by
  have hu38 := Try.underlying38
  have hu25 := Try.underlying25
  have h0 := h.c0
  have d1 : decide ((0 : Int) ≤ (i : Int)) = true := by simp
  have d2 : decide ((i : Int) < (way.length : Int)) = true := by simp; omega
  have d3 : decide (i < way.length) = true := by simpa using hi
  clear h
  go_enter Try.func22, Try.ntmps22
  go_wp2
  go_ret
  exact ⟨rfl, rfl⟩
set_option maxHeartbeats 1000000 in
theorem there_out {B : Nat} {w : World} {p : Nat} {A : Option Addr} {c : Nat} {way : List ByteArray} {lost sent : Int} (h : PT B w p A c way lost sent) (i : Int) (hi : ¬ (0 ≤ i ∧ i < way.length)) :
    Calls Try.prog 22 #[.pointer (some ⟨p, 0, none⟩), .int .i64 i] w fun e w' => e = .returned (.bool false) ∧ w' = w := by
  have hu38 := Try.underlying38
  have hu25 := Try.underlying25
  have h0 := h.c0
  clear h
  by_cases hn : 0 ≤ i
  · have d1 : decide ((0 : Int) ≤ i) = true := by simpa using hn
    have d2 : decide (i < (way.length : Int)) = false := by simp; omega
    clear hi hn
    go_enter Try.func22, Try.ntmps22
    go_wp2
    go_ret
    exact ⟨rfl, rfl⟩
  · have d1 : decide ((0 : Int) ≤ i) = false := by simpa using hn
    clear hi hn
    go_enter Try.func22, Try.ntmps22
    go_wp2
    go_ret
    exact ⟨rfl, rfl⟩

theorem cutAt_len (xs : List ByteArray) (i : Nat) (hi : i < xs.length) : (cutAt xs i).length = xs.length - 1 := by unfold cutAt; simp; omega
theorem cutAt_ge (xs : List ByteArray) (i : Nat) (hi : xs.length ≤ i) : cutAt xs i = xs := by unfold cutAt; rw [List.take_of_length_le hi, List.drop_of_length_le (by omega), List.append_nil]
theorem cutAt_zero (xs : List ByteArray) (i : Nat) : cutAt (xs.take 0) i = [] := by unfold cutAt; simp
theorem cutAt_eq (xs : List ByteArray) (i : Nat) (hi : i < xs.length) : cutAt (xs.take (i + 1)) i = cutAt (xs.take i) i := by
  rw [cutAt_ge (xs.take i) i (by simp; omega)]
  unfold cutAt
  rw [List.take_take, List.drop_of_length_le (by simp; omega), List.append_nil, Nat.min_eq_left (by omega)]
theorem cutAt_ne (xs : List ByteArray) (i j : Nat) (hj : j < xs.length) (hne : j ≠ i) : cutAt (xs.take (j + 1)) i = cutAt (xs.take j) i ++ [xs[j]] := by
  rw [List.take_succ_eq_append_getElem hj]
  unfold cutAt
  have ht : (xs.take j).length = j := by simp; omega
  rcases Nat.lt_or_gt_of_ne hne with h | h
  · rw [List.take_of_length_le (l := xs.take j ++ [xs[j]]) (by simp; omega), List.drop_of_length_le (l := xs.take j ++ [xs[j]]) (by simp; omega), List.append_nil, List.take_of_length_le (l := xs.take j) (by omega), List.drop_of_length_le (l := xs.take j) (by omega), List.append_nil]
  · rw [List.take_append_of_le_length (by omega), List.drop_append_of_le_length (by omega), List.append_assoc]

/-- A row that was made since w. -/
def Made (w w' : World) (B : Nat) (A : Option Addr) (c : Nat) (ys : List ByteArray) : Prop := SR w' B A c ys ∧ Only w w' (fun _ => False) ∧ ∀ r, ablk A = some r → w.heap.size ≤ r
theorem Made.nil (w : World) (B : Nat) : Made w w B none 0 [] := ⟨sr_nil _ _, Only.refl _ _, fun r h => by simp [ablk] at h⟩
theorem made_app {w w1 w2 w3 : World} {B : Nat} {A A' : Option Addr} {c c' : Nat} {ys zs : List ByteArray} (h : Made w w1 B A c ys) (h1 : Only w1 w2 (fun _ => False)) (h2 : App w2 w3 B A A' c' zs) : Made w w3 B A' c' zs := by
  have hs := h.2.1.size
  have hs1 := h1.size
  refine ⟨h2.1, (h.2.1.trans h1 (fun _ _ h => h)).trans h2.2.1 (fun k hk e => ?_), fun r hr => ?_⟩
  · have := h.2.2 k e; omega
  · rcases h2.2.2 r hr with e | e
    · exact h.2.2 r e
    · omega
theorem Only.bound1 {w w' : World} {B : Nat} {S : Nat → Prop} (h : Only w w' S) (hB : B ≤ w.heap.size) (o : Obj) : B ≤ (w'.alloc o).heap.size := Nat.le_trans hB (Nat.le_trans h.size (Only.alloc w' o).size)
theorem len_1000 {a n : Nat} (h : a ≤ n) (h2 : n ≤ 128) : a + 1 ≤ 1000 := by omega
theorem cutAt_le (xs : List ByteArray) (i : Nat) : (cutAt xs i).length ≤ xs.length := by
  rcases Nat.lt_or_ge i xs.length with h | h
  · rw [cutAt_len xs i h]; omega
  · rw [cutAt_ge xs i h]; exact Nat.le_refl _

set_option maxHeartbeats 2000000 in
theorem without_ok {B : Nat} {w : World} {A : Option Addr} {c : Nat} {xs : List ByteArray} (h : SR w B A c xs) (hB : B ≤ w.heap.size) (i : Nat) (hl : xs.length ≤ 128) :
    Calls Try.prog 23 #[.slice A xs.length c, .int .i64 i] w fun e w' => ∃ A' c', e = .returned (.slice A' (cutAt xs i).length c') ∧ Made w w' B A' c' (cutAt xs i) := by
  have hu25 := Try.underlying25
  have HH := Lib.hid h
  have HB := Lib.hid hB
  have HL := Lib.hid hl
  clear h hB hl
  go_enter Try.func23, Try.ntmps23
  go_wp2
  go_loopw [5, 6] (fun v k wr => ∃ (j : Nat) (A' : Option Addr) (c' : Nat), j ≤ xs.length ∧ k = .int .i64 j ∧ v = .slice A' (cutAt (xs.take j) i).length c' ∧ Made w wr B A' c' (cutAt (xs.take j) i)) (fun _ k _ => xs.length - (intOf k).toNat)
  case atStart => exact ⟨0, none, 0, Nat.zero_le _, rfl, by rw [cutAt_zero]; rfl, by rw [cutAt_zero]; exact Made.nil w B⟩
  case round =>
    obtain ⟨j, A', c', hj, rfl, rfl, hM⟩ := hrel
    have HM := Lib.hid hM
    by_cases hlt : j < xs.length
    · have e1 : decide ((j : Int) < (xs.length : Int)) = true := by simp; omega
      have e2 : decide (j < xs.length) = true := by simpa using hlt
      have hj1 : j < 128 := by have := HL.out; omega
      by_cases hji : j = i
      · subst hji
        have HJ := Lib.hid hlt
        clear hM hlt hj
        go_wp2
        go_roundw
        case rel => exact ⟨j + 1, A', c', HJ.out, by go_num, by rw [cutAt_eq xs j HJ.out], by rw [cutAt_eq xs j HJ.out]; exact HM.out⟩
        case measure => have := HJ.out; simp [intOf]; omega
      · have d1 : ((j : Int) != (i : Int)) = true := by simp; omega
        have hsr := HH.out.hold hM.2.1 (fun _ _ h => h)
        obtain ⟨r, rfl, _, hcr, _⟩ := hsr.get j hlt
        have hcr' : wr.cell? (Addr.add ⟨r, 0, none⟩ j) = some (.string xs[j]) := by rw [Addr.add_lit, Nat.zero_add]; exact hcr
        have hcut := cutAt_ne xs i j hlt hji
        generalize xs[j] = x at *
        have HC := Lib.hid hcut
        have f0 : (0 : Int) ≤ (j : Int) := by omega
        have f1 : (j : Int) < (xs.length : Int) := by omega
        have HJ := Lib.hid hlt
        have HI := Lib.hid hji
        have hle := len_1000 (Nat.le_trans (cutAt_le (xs.take j) i) (by rw [List.length_take]; exact Nat.min_le_right _ _)) HL.out
        have HLe := Lib.hid hle
        clear hM hlt hj hcut hsr hle hji
        go_wp2_with (at_builtin; refine wpList_sr_append (B := B) (A := A') (c := c') (xs := cutAt (xs.take j) i) rfl (.tmp 16) (.tmp 21) rfl rfl (HM.out.1.hold (Only.alloc _ _) (fun _ _ h => h)) (HM.out.2.1.bound1 HB.out _) (some ⟨wr.heap.size, 0, none⟩) 1 1 [x] rfl (fun h => by cases h) (src_one wr x) HLe.out rfl rfl ?_; intro A2 c2 w2 hA2; have hM2 := made_app HM.out (Only.alloc wr _) hA2; have HM2 := Lib.hid hM2; clear hA2 hM2)
        go_roundw
        case rel => exact ⟨j + 1, A2, c2, HJ.out, by go_num, by rw [HC.out, List.length_append]; rfl, by rw [HC.out]; exact HM2.out⟩
        case measure => have := HJ.out; simp [intOf]; omega
    · obtain rfl : j = xs.length := by omega
      have e1 : decide ((xs.length : Int) < (xs.length : Int)) = false := by simp
      rw [List.take_length] at *
      clear hM hlt hj
      go_wp2
      go_ret
      exact ⟨A', c', rfl, HM.out⟩
end Go.Proofs.Ytfipchighkpobaa.PAll
