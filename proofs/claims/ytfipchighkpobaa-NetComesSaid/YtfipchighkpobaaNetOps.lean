/- The net's methods, at any net: what each answers and what it leaves. -/
import Derived.Test.YtfipchighkpobaaNetRow
namespace Go.Proofs.Ytfipchighkpobaa.PAll
open Go.RowKit Go.Proofs.YtfipchighkpobaaW.PrintWords Go.Proofs.YtfipchighkpobaaW.PrintLast Go.Proofs.YtfipchighkpobaaW.PrintMore
set_option linter.unusedVariables false
set_option linter.unusedSimpArgs false

/-- A net at block g. -/
structure NT (B : Nat) (w : World) (g : Nat) (A : Option Addr) (c : Nat) (way : List ByteArray) (lost sent : Int) : Prop where
  rec_ : w.heap[g]? = some (.cells #[.slice A way.length c, .int .i64 lost, .int .i64 sent] 49 (0, 0))
  row : SR w B A c way
  ge : B ≤ g

/-- Only the net's own block and its row's may be changed; a row that is another one is new. -/
def Moved (w w' : World) (g : Nat) (A A' : Option Addr) : Prop := Only w w' (fun k => k = g ∨ ablk A = some k) ∧ ∀ r, ablk A' = some r → ablk A = some r ∨ w.heap.size ≤ r

theorem NT.ne {B : Nat} {w : World} {g : Nat} {A : Option Addr} {c : Nat} {way : List ByteArray} {lost sent : Int} (h : NT B w g A c way lost sent) : ablk A ≠ some g := by
  intro e
  obtain ⟨_, _, cs, h2⟩ := h.row.ge e
  rw [h.rec_] at h2
  simp at h2
theorem NT.hold {B : Nat} {w w' : World} {g : Nat} {A : Option Addr} {c : Nat} {way : List ByteArray} {lost sent : Int} {S : Nat → Prop} (h : NT B w g A c way lost sent) (ho : Only w w' S) (h1 : ¬ S g) (h2 : ∀ r, ablk A = some r → ¬ S r) : NT B w' g A c way lost sent :=
  ⟨ho.hold h.rec_ h1, h.row.hold ho h2, h.ge⟩
theorem NT.set {B : Nat} {w : World} {g : Nat} {A : Option Addr} {c : Nat} {way : List ByteArray} {lost sent : Int} (h : NT B w g A c way lost sent) (i : Nat) (v : Value) (lost' sent' : Int)
    (he : (#[.slice A way.length c, .int .i64 lost, .int .i64 sent] : Array Value).setIfInBounds i v = #[.slice A way.length c, .int .i64 lost', .int .i64 sent']) : NT B (w.setCell ⟨g, i, none⟩ v) g A c way lost' sent' :=
  ⟨blk_put h.rec_ i _ he, h.row.hold (Only.set w g i v) (fun r hr e => h.ne (e ▸ hr)), h.ge⟩
theorem NT.bound {B : Nat} {w : World} {g : Nat} {A : Option Addr} {c : Nat} {way : List ByteArray} {lost sent : Int} (h : NT B w g A c way lost sent) : B ≤ w.heap.size := Nat.le_of_lt (Nat.lt_of_le_of_lt h.ge (blk_lt h.rec_))
theorem NT.bound1 {B : Nat} {w : World} {g : Nat} {A : Option Addr} {c : Nat} {way : List ByteArray} {lost sent : Int} (h : NT B w g A c way lost sent) (o : Obj) : B ≤ (w.alloc o).heap.size := Nat.le_trans h.bound (Only.alloc w o).size
theorem NT.cell {B : Nat} {w : World} {g : Nat} {A : Option Addr} {c : Nat} {way : List ByteArray} {lost sent : Int} (h : NT B w g A c way lost sent) : w.cell? ⟨g, 0, none⟩ = some (.slice A way.length c) := (blk_cell h.rec_ 0).trans rfl
theorem full_len {n : Nat} (h : n < 128) : n + 1 ≤ 1000 := by omega
theorem Moved.refl (w : World) (g : Nat) (A : Option Addr) : Moved w w g A A := ⟨Only.refl _ _, fun r hr => .inl hr⟩
theorem Moved.set (w : World) (g i : Nat) (v : Value) (A : Option Addr) : Moved w (w.setCell ⟨g, i, none⟩ v) g A A := ⟨(Only.set w g i v).mono (fun k hk => .inl hk), fun r hr => .inl hr⟩
theorem Moved.trans {a b c : World} {g : Nat} {A A' A'' : Option Addr} (h1 : Moved a b g A A') (h2 : Moved b c g A' A'') : Moved a c g A A'' := by
  refine ⟨h1.1.trans h2.1 ?_, ?_⟩
  · rintro k hk (rfl | h)
    · exact .inl rfl
    · rcases h1.2 k h with h | h
      · exact .inr h
      · omega
  · intro r hr
    rcases h2.2 r hr with h | h
    · exact h1.2 r h
    · have := h1.1.size
      right
      omega

/-- The net is moved on. -/
def NetTo (B : Nat) (w w' : World) (g : Nat) (A : Option Addr) (way : List ByteArray) (lost sent : Int) : Prop := ∃ A' c', NT B w' g A' c' way lost sent ∧ Moved w w' g A A'

/-- An append, and its store into the net. -/
theorem nt_app {B : Nat} {w w2 w3 : World} {g : Nat} {A A' : Option Addr} {c c' : Nat} {way ys : List ByteArray} {lost sent : Int} (hN : NT B w g A c way lost sent) (hA : App w2 w3 B A A' c' ys) (h1 : Only w w2 (fun _ => False)) (v : Value) (hv : v = .slice A' ys.length c') :
    NT B (w3.setCell ⟨g, 0, none⟩ v) g A' c' ys lost sent ∧ Moved w (w3.setCell ⟨g, 0, none⟩ v) g A A' := by
  subst hv
  have hlt := blk_lt hN.rec_
  have hr : w3.heap[g]? = some (.cells #[.slice A way.length c, .int .i64 lost, .int .i64 sent] 49 (0, 0)) := hA.2.1.hold (h1.hold hN.rec_ (fun h => h)) (fun e => hN.ne e)
  have hne : ablk A' ≠ some g := by
    intro e
    rcases hA.2.2 g e with h | h
    · exact hN.ne h
    · have := h1.size; omega
  refine ⟨⟨blk_put hr 0 _ rfl, hA.1.hold (Only.set w3 g 0 _) (fun r hr e => hne (e ▸ hr)), hN.ge⟩, ?_, fun r hr => (hA.2.2 r hr).imp id (fun h => Nat.le_trans h1.size h)⟩
  exact ((h1.mono (fun _ h => h.elim)).trans hA.2.1 (fun k _ h => .inr h)).trans (Only.set w3 g 0 _) (fun k _ h => .inl h)

theorem src_one (W : World) (s : ByteArray) : ∀ ad, some (⟨W.heap.size, 0, none⟩ : Addr) = some ad → ∀ (j : Nat) u, ([s].map Value.string)[j]? = some u → (W.alloc (.cells #[.string s] 9)).cell? (ad.add j) = some u := by
  rintro ad h j u hu
  cases h
  rw [Addr.add_lit, Nat.zero_add]
  exact (blk_cell (heap_alloc_new W _) j).trans (by simpa using hu)

set_option maxHeartbeats 1000000 in
theorem room_in {B : Nat} {w : World} {g : Nat} {A : Option Addr} {c : Nat} {way : List ByteArray} {lost sent : Int} (h : NT B w g A c way lost sent) (hl : way.length < 128) :
    Calls Try.prog 20 #[.pointer (some ⟨g, 0, none⟩)] w fun e w' => e = .returned (.bool true) ∧ w' = w := by
  have hu49 := Try.underlying49
  have hu25 := Try.underlying25
  have h0 : w.cell? ⟨g, 0, none⟩ = some (.slice A way.length c) := (blk_cell h.rec_ 0).trans rfl
  have d1 : decide ((way.length : Int) < 128) = true := by simp; omega
  have d2 : decide (way.length < 128) = true := by simpa using hl
  clear hl h
  go_enter Try.func20, Try.ntmps20
  go_wp2
  go_ret
  exact ⟨rfl, rfl⟩
set_option maxHeartbeats 1000000 in
theorem room_out {B : Nat} {w : World} {g : Nat} {A : Option Addr} {c : Nat} {way : List ByteArray} {lost sent : Int} (h : NT B w g A c way lost sent) (hl : ¬ way.length < 128) :
    Calls Try.prog 20 #[.pointer (some ⟨g, 0, none⟩)] w fun e w' => e = .returned (.bool false) ∧ NT B w' g A c way (wrap64 (lost + 1)) sent ∧ Moved w w' g A A := by
  have hu49 := Try.underlying49
  have hu25 := Try.underlying25
  have h0 : w.cell? ⟨g, 0, none⟩ = some (.slice A way.length c) := (blk_cell h.rec_ 0).trans rfl
  have h1 : w.cell? ⟨g, 1, none⟩ = some (.int .i64 lost) := (blk_cell h.rec_ 1).trans rfl
  have hf1 := blk_frozen h.rec_ 1
  have d1 : decide ((way.length : Int) < 128) = false := by simp; omega
  have d2 : decide (way.length < 128) = false := by simpa using hl
  have hw : IntKind.i64.wrap (lost + 1) = wrap64 (lost + 1) := i64_w _
  have HH := Lib.hid h
  clear hl h
  go_enter Try.func20, Try.ntmps20
  go_wp2
  go_ret
  exact ⟨rfl, HH.out.set 1 _ _ _ rfl, Moved.set w g 1 _ A⟩

set_option maxHeartbeats 2000000 in
theorem send_in {B : Nat} {w : World} {g : Nat} {A : Option Addr} {c : Nat} {way : List ByteArray} {lost sent : Int} (h : NT B w g A c way lost sent) (hl : way.length < 128) (s : ByteArray) :
    Calls Try.prog 8 #[.pointer (some ⟨g, 0, none⟩), .string s] w fun e w' => e = .returned (.bool true) ∧ NetTo B w w' g A (way ++ [s]) lost (wrap64 (sent + 1)) := by
  have hu49 := Try.underlying49
  have hu25 := Try.underlying25
  have h0 : w.cell? ⟨g, 0, none⟩ = some (.slice A way.length c) := (blk_cell h.rec_ 0).trans rfl
  have h2 : w.cell? ⟨g, 2, none⟩ = some (.int .i64 sent) := (blk_cell h.rec_ 2).trans rfl
  have hf0 := blk_frozen h.rec_ 0
  have hf2 := blk_frozen h.rec_ 2
  have hn : NT B (w.setCell ⟨g, 2, none⟩ (.int .i64 (wrap64 (sent + 1)))) g A c way lost (wrap64 (sent + 1)) := h.set 2 _ _ _ rfl
  have hn0 : (w.setCell ⟨g, 2, none⟩ (.int .i64 (wrap64 (sent + 1)))).cell? ⟨g, 0, none⟩ = some (.slice A way.length c) := (blk_cell hn.rec_ 0).trans rfl
  have hw : IntKind.i64.wrap (sent + 1) = wrap64 (sent + 1) := i64_w _
  have HM := Lib.hid (Moved.set w g 2 (.int .i64 (wrap64 (sent + 1))) A)
  have HN := Lib.hid hn
  have HL := Lib.hid hl
  clear hl h hn
  go_enter Try.func8, Try.ntmps8
  go_wp2_with (first
    | (go_at_call 20; (with_reducible refine (room_in HN.out HL.out).mono ?_); rintro e' w1 ⟨rfl, hw1⟩; have hn1 : NT B w1 g A c way lost (wrap64 (sent + 1)) := hw1 ▸ HN.out; have HM1 := Lib.hid (show Moved w w1 g A A from hw1 ▸ HM.out); have h10 : w1.cell? ⟨g, 0, none⟩ = some (.slice A way.length c) := (blk_cell hn1.rec_ 0).trans rfl; have HN1 := Lib.hid hn1; clear hw1 hn1)
    | (at_builtin; refine wpList_sr_append (B := B) (A := A) (c := c) (xs := way) rfl (.tmp 21) (.tmp 23) rfl rfl (HN1.out.row.hold (Only.alloc _ _) (fun _ _ h => h)) (HN1.out.bound1 _) (some ⟨w1.heap.size, 0, none⟩) 1 1 [s] rfl (fun h => by cases h) (src_one w1 s) (full_len HL.out) rfl rfl ?_; intro A2 c2 w2 hA2; have hr2 := (nt_app HN1.out hA2 (Only.alloc _ _) _ rfl); have hb2 := hA2.2.1.hold (blk_alloc HN1.out.rec_ _) (fun e => HN1.out.ne e); have hc9 : w2.cell? ⟨g, 0, none⟩ = some (.slice A way.length c) := (blk_cell hb2 0).trans rfl; have hf9 := blk_frozen hb2 0; have HR2 := Lib.hid hr2; clear hr2 hb2 hA2))
  go_ret
  rw [List.length_append] at HR2
  exact ⟨rfl, A2, c2, HR2.out.1, HM1.out.trans HR2.out.2⟩
set_option maxHeartbeats 2000000 in
theorem send_out {B : Nat} {w : World} {g : Nat} {A : Option Addr} {c : Nat} {way : List ByteArray} {lost sent : Int} (h : NT B w g A c way lost sent) (hl : ¬ way.length < 128) (s : ByteArray) :
    Calls Try.prog 8 #[.pointer (some ⟨g, 0, none⟩), .string s] w fun e w' => e = .returned (.bool false) ∧ NetTo B w w' g A way (wrap64 (lost + 1)) (wrap64 (sent + 1)) := by
  have hu49 := Try.underlying49
  have hu25 := Try.underlying25
  have h2 : w.cell? ⟨g, 2, none⟩ = some (.int .i64 sent) := (blk_cell h.rec_ 2).trans rfl
  have hf2 := blk_frozen h.rec_ 2
  have hn : NT B (w.setCell ⟨g, 2, none⟩ (.int .i64 (wrap64 (sent + 1)))) g A c way lost (wrap64 (sent + 1)) := h.set 2 _ _ _ rfl
  have hw : IntKind.i64.wrap (sent + 1) = wrap64 (sent + 1) := i64_w _
  have HM := Lib.hid (Moved.set w g 2 (.int .i64 (wrap64 (sent + 1))) A)
  have HN := Lib.hid hn
  have HL := Lib.hid hl
  clear hl h hn
  go_enter Try.func8, Try.ntmps8
  go_wp2_with (go_at_call 20; (with_reducible refine (room_out HN.out HL.out).mono ?_); rintro e' w1 ⟨rfl, hn1⟩; have HN1 := Lib.hid hn1; clear hn1)
  go_ret
  exact ⟨rfl, A, c, HN1.out.1, HM.out.trans HN1.out.2⟩

set_option maxHeartbeats 1000000 in
theorem at_in {B : Nat} {w : World} {g : Nat} {A : Option Addr} {c : Nat} {way : List ByteArray} {lost sent : Int} (h : NT B w g A c way lost sent) (i : Nat) (hi : i < way.length) (x : ByteArray) (hx : way[i] = x) :
    Calls Try.prog 16 #[.pointer (some ⟨g, 0, none⟩), .int .i64 i] w fun e w' => e = .returned (.tuple #[.string x, .int .i64 0]) ∧ w' = w := by
  have hu49 := Try.underlying49
  have hu25 := Try.underlying25
  obtain ⟨r, rfl, _, hx', _⟩ := h.row.get i hi
  rw [hx] at hx'
  have hcx : w.cell? (Addr.add ⟨r, 0, none⟩ i) = some (.string x) := by rw [Addr.add_lit, Nat.zero_add]; exact hx'
  have h0 := h.cell
  have d1 : decide ((i : Int) < 0) = false := by simp
  have d2 : decide ((way.length : Int) ≤ (i : Int)) = false := by simp; omega
  have d3 : decide (way.length ≤ i) = false := by simp; omega
  have e3 : (0 : Int) ≤ (i : Int) := by omega
  have e4 : (i : Int) < (way.length : Int) := by omega
  clear h hx
  go_enter Try.func16, Try.ntmps16
  go_wp2
  go_ret2
  exact ⟨rfl, rfl⟩
set_option maxHeartbeats 1000000 in
theorem at_out {B : Nat} {w : World} {g : Nat} {A : Option Addr} {c : Nat} {way : List ByteArray} {lost sent : Int} (h : NT B w g A c way lost sent) (i : Int) (hi : ¬ (0 ≤ i ∧ i < way.length)) :
    Calls Try.prog 16 #[.pointer (some ⟨g, 0, none⟩), .int .i64 i] w fun e w' => e = .returned (.tuple #[.string ⟨#[]⟩, .int .i64 8]) ∧ w' = w := by
  have hu49 := Try.underlying49
  have hu25 := Try.underlying25
  have h0 := h.cell
  clear h
  by_cases hn : i < 0
  · have d1 : decide (i < 0) = true := by simpa using hn
    clear hi
    go_enter Try.func16, Try.ntmps16
    go_wp2
    go_ret2
    exact ⟨rfl, rfl⟩
  · have d1 : decide (i < 0) = false := by simpa using hn
    have d2 : decide ((way.length : Int) ≤ i) = true := by simp; omega
    clear hi hn
    go_enter Try.func16, Try.ntmps16
    go_wp2
    go_ret2
    exact ⟨rfl, rfl⟩
set_option maxHeartbeats 1000000 in
theorem counts_ok {B : Nat} {w : World} {g : Nat} {A : Option Addr} {c : Nat} {way : List ByteArray} {lost sent : Int} (h : NT B w g A c way lost sent) :
    Calls Try.prog 17 #[.pointer (some ⟨g, 0, none⟩)] w fun e w' => e = .returned (.tuple #[.int .i64 sent, .int .i64 lost]) ∧ Only w w' (fun _ => False) := by
  have hu49 := Try.underlying49
  have h1 : w.cell? ⟨g, 1, none⟩ = some (.int .i64 lost) := (blk_cell h.rec_ 1).trans rfl
  have h2 : w.cell? ⟨g, 2, none⟩ = some (.int .i64 sent) := (blk_cell h.rec_ 2).trans rfl
  clear h
  go_enter Try.func17, Try.ntmps17
  go_wp2
  go_region_held3 (fun w' => w'.cell? ⟨g, 1, none⟩ = some (.int .i64 lost) ∧ w'.cell? ⟨g, 2, none⟩ = some (.int .i64 sent)) (first | assumption | exact ⟨h1, h2⟩) (fail)
  all_goals (go_wp2; go_ret2; exact ⟨rfl, Only.drew w⟩)
theorem len_ok' {B : Nat} {w : World} {g : Nat} {A : Option Addr} {c : Nat} {way : List ByteArray} {lost sent : Int} (h : NT B w g A c way lost sent) :
    Calls Try.prog 18 #[.pointer (some ⟨g, 0, none⟩)] w fun e w' => e = .returned (.int .i64 way.length) ∧ w' = w := len_ok (w0 := w) h.rec_

set_option maxHeartbeats 1000000 in
theorem copy_out {B : Nat} {w : World} {g : Nat} {A : Option Addr} {c : Nat} {way : List ByteArray} {lost sent : Int} (h : NT B w g A c way lost sent) (i : Int) (hi : ¬ (0 ≤ i ∧ i < way.length)) :
    Calls Try.prog 10 #[.pointer (some ⟨g, 0, none⟩), .int .i64 i] w fun e w' => e = .returned (.int .i64 8) ∧ w' = w := by
  have HA := Lib.hid (at_out h i hi)
  clear h hi
  go_enter Try.func10, Try.ntmps10
  go_wp2_with (go_at_call 16; (with_reducible refine HA.out.mono ?_); rintro e' w1 ⟨rfl, rfl⟩)
  go_ret
  exact ⟨rfl, rfl⟩
set_option maxHeartbeats 1000000 in
theorem copy_full {B : Nat} {w : World} {g : Nat} {A : Option Addr} {c : Nat} {way : List ByteArray} {lost sent : Int} (h : NT B w g A c way lost sent) (i : Nat) (hi : i < way.length) (hl : ¬ way.length < 128) :
    Calls Try.prog 10 #[.pointer (some ⟨g, 0, none⟩), .int .i64 i] w fun e w' => e = .returned (.int .i64 7) ∧ NetTo B w w' g A way (wrap64 (lost + 1)) sent := by
  generalize hx : way[i] = x
  have HA := Lib.hid (at_in h i hi x hx)
  have HR := Lib.hid (room_out h hl)
  clear h hx hl
  go_enter Try.func10, Try.ntmps10
  go_wp2_with (first | (go_at_call 16; (with_reducible refine HA.out.mono ?_); rintro e' w1 ⟨rfl, rfl⟩) | (go_at_call 20; (with_reducible refine HR.out.mono ?_); rintro e' w1 ⟨rfl, hn1⟩; have HN1 := Lib.hid hn1; clear hn1))
  go_ret
  exact ⟨rfl, A, c, HN1.out.1, HN1.out.2⟩
set_option maxHeartbeats 2000000 in
theorem copy_in {B : Nat} {w : World} {g : Nat} {A : Option Addr} {c : Nat} {way : List ByteArray} {lost sent : Int} (h : NT B w g A c way lost sent) (i : Nat) (hi : i < way.length) (hl : way.length < 128) (x : ByteArray) (hx : way[i] = x) :
    Calls Try.prog 10 #[.pointer (some ⟨g, 0, none⟩), .int .i64 i] w fun e w' => e = .returned (.int .i64 0) ∧ NetTo B w w' g A (way ++ [x]) lost sent := by
  have hu49 := Try.underlying49
  have hu25 := Try.underlying25
  have h0 := h.cell
  have hf0 := blk_frozen h.rec_ 0
  have HA := Lib.hid (at_in h i hi x hx)
  have HR := Lib.hid (room_in h hl)
  have HL := Lib.hid hl
  have HN1 := Lib.hid h
  clear h hx hl hi
  go_enter Try.func10, Try.ntmps10
  go_wp2_with (first
    | (go_at_call 16; (with_reducible refine HA.out.mono ?_); rintro e' w1 ⟨rfl, hw1⟩; cases hw1)
    | (go_at_call 20; (with_reducible refine HR.out.mono ?_); rintro e' w1 ⟨rfl, hw1⟩; cases hw1)
    | (at_builtin; refine wpList_sr_append (B := B) (A := A) (c := c) (xs := way) rfl (.tmp 25) (.tmp 27) rfl rfl (HN1.out.row.hold (Only.alloc _ _) (fun _ _ h => h)) (HN1.out.bound1 _) (some ⟨w.heap.size, 0, none⟩) 1 1 [x] rfl (fun h => by cases h) (src_one w x) (full_len HL.out) rfl rfl ?_; intro A2 c2 w2 hA2; have hr2 := (nt_app HN1.out hA2 (Only.alloc _ _) _ rfl); have hb2 := hA2.2.1.hold (blk_alloc HN1.out.rec_ _) (fun e => HN1.out.ne e); have hc9 : w2.cell? ⟨g, 0, none⟩ = some (.slice A way.length c) := (blk_cell hb2 0).trans rfl; have hf9 := blk_frozen hb2 0; have HR2 := Lib.hid hr2; clear hr2 hb2 hA2))
  go_ret
  rw [List.length_append] at HR2
  exact ⟨rfl, A2, c2, HR2.out.1, HR2.out.2⟩

set_option maxHeartbeats 1000000 in
theorem all_ok {B : Nat} {w : World} {g : Nat} {A : Option Addr} {c : Nat} {way : List ByteArray} {lost sent : Int} (h : NT B w g A c way lost sent) (hl : way.length ≤ 128) :
    Calls Try.prog 19 #[.pointer (some ⟨g, 0, none⟩)] w fun e w' => ∃ A' c', e = .returned (.slice A' way.length c') ∧ App w w' B none A' c' way := by
  have hu49 := Try.underlying49
  have hu25 := Try.underlying25
  have h0 := h.cell
  have HN := Lib.hid h
  have HS := Lib.hid (show ∀ ad, A = some ad → ∀ (j : Nat) u, (way.map Value.string)[j]? = some u → w.cell? (ad.add j) = some u from ?_)
  rotate_left
  · rintro ad rfl j u hu
    have hj : j < way.length := by
      rcases Nat.lt_or_ge j way.length with hlt | hge
      · exact hlt
      · rw [List.getElem?_eq_none (by simpa using hge)] at hu; cases hu
    obtain ⟨r, hr, _, hx, _⟩ := h.row.get j hj
    cases hr
    rw [Addr.add_lit, Nat.zero_add, hx, ← hu, List.getElem?_map, List.getElem?_eq_getElem hj]
    rfl
  have HZ := Lib.hid (show A = none → way.length = 0 from ?_)
  rotate_left
  · intro e
    rcases Nat.eq_zero_or_pos way.length with h1 | h1
    · exact h1
    · obtain ⟨r, hr, _⟩ := h.row.get 0 h1
      rw [e] at hr; cases hr
  have HL := Lib.hid (show ([] : List ByteArray).length + way.length ≤ 1000 by simp; omega)
  clear h hl
  go_enter Try.func19, Try.ntmps19
  go_wp2_with (at_builtin; refine wpList_sr_append (B := B) (A := none) (c := 0) (xs := []) rfl (.const (.slice none 0 0)) (.tmp 8) rfl rfl (sr_nil _ _) HN.out.bound A way.length c way rfl HZ.out HS.out HL.out rfl rfl ?_; intro A2 c2 w2 hA2; have HA2 := Lib.hid hA2; clear hA2)
  go_ret
  exact ⟨A2, c2, rfl, HA2.out⟩
end Go.Proofs.Ytfipchighkpobaa.PAll
