/- The law NetComes, walked by hand. -/
import Derived.Test.YtfipchighkpobaaNetPlays
namespace Go.Proofs.Ytfipchighkpobaa.PAll
open Go.RowKit Go.Proofs.YtfipchighkpobaaW.PrintWords Go.Proofs.YtfipchighkpobaaW.PrintLast Go.Proofs.YtfipchighkpobaaW.PrintMore
set_option linter.unusedVariables false
set_option linter.unusedSimpArgs false

/-- A net of which all that is on its way is among T; beside it a row of texts. -/
def CS (B : Nat) (w0 w : World) (g : Nat) (As : Option Addr) (cs : Nat) (sents T : List ByteArray) : Prop :=
  Below B w0 w ∧ ∃ A c way lost sent, way.length ≤ 128 ∧ NT B w g A c way lost sent ∧ SR w B As cs sents ∧ (∀ r, ablk A = some r → ablk As ≠ some r) ∧ ∀ x ∈ way, x ∈ T

theorem CS.bound {B : Nat} {w0 w : World} {g : Nat} {As : Option Addr} {cs : Nat} {sents T : List ByteArray} (h : CS B w0 w g As cs sents T) : B ≤ w.heap.size := by
  obtain ⟨_, _, _, _, _, _, _, h, _⟩ := h
  exact h.bound
theorem CS.row {B : Nat} {w0 w : World} {g : Nat} {As : Option Addr} {cs : Nat} {sents T : List ByteArray} (h : CS B w0 w g As cs sents T) : SR w B As cs sents := by
  obtain ⟨_, _, _, _, _, _, _, _, h, _⟩ := h
  exact h
theorem CS.only {B : Nat} {w0 w w' : World} {g : Nat} {As : Option Addr} {cs : Nat} {sents T : List ByteArray} (h : CS B w0 w g As cs sents T) (ho : Only w w' (fun _ => False)) : CS B w0 w' g As cs sents T := by
  obtain ⟨hb, A, c, way, lost, sent, hl, hn, hr, hs, ht⟩ := h
  exact ⟨hb.trans (ho.below (fun _ e => e.elim) hn.bound), A, c, way, lost, sent, hl, hn.hold ho (fun h => h) (fun _ _ h => h), hr.hold ho (fun _ _ h => h), hs, ht⟩
/-- The net is moved on. -/
theorem CS.to {B : Nat} {w0 w w' : World} {g : Nat} {A As : Option Addr} {c cs : Nat} {sents T way way' : List ByteArray} {lost sent lost' sent' : Int} (hb : Below B w0 w) (hn : NT B w g A c way lost sent) (hr : SR w B As cs sents) (hs : ∀ r, ablk A = some r → ablk As ≠ some r)
    (hto : NetTo B w w' g A way' lost' sent') (hl : way'.length ≤ 128) (ht : ∀ x ∈ way', x ∈ T) : CS B w0 w' g As cs sents T := by
  obtain ⟨A1, c1, hn1, hm⟩ := hto
  refine ⟨hb.trans (hm.below hn.ge (fun r e => (hn.row.ge e).1) hn.bound), A1, c1, way', lost', sent', hl, hn1, hr.hold hm.1 ?_, ?_, ht⟩
  · rintro r e (rfl | h)
    · exact row_ne hr hn.rec_ (fun cs e => by simp at e) e
    · exact hs r h e
  · intro r e e2
    rcases hm.2 r e with h | h
    · exact hs r h e2
    · have := (hr.ge e2).2.1; omega

theorem mem_cutAt {way : List ByteArray} {i : Nat} {x : ByteArray} (h : x ∈ cutAt way i) : x ∈ way := by
  unfold cutAt at h
  rcases List.mem_append.1 h with h | h
  · exact List.mem_of_mem_take h
  · exact List.mem_of_mem_drop h
theorem mem_swapped {way : List ByteArray} {i k : Nat} (hi : i < way.length) (hk : k < way.length) {x : ByteArray} (h : x ∈ swapped way way[i] way[k] i k) : x ∈ way := by
  unfold swapped at h
  rcases List.mem_or_eq_of_mem_set h with h | rfl
  · rcases List.mem_or_eq_of_mem_set h with h | rfl
    · exact h
    · exact List.getElem_mem hk
  · exact List.getElem_mem hi

theorem comes_send {B : Nat} {w0 w : World} {g : Nat} {As : Option Addr} {cs : Nat} {sents : List ByteArray} (h : CS B w0 w g As cs sents sents) (s : ByteArray) : Calls Try.prog 8 #[.pointer (some ⟨g, 0, none⟩), .string s] w fun e w' => ∃ b, e = .returned (.bool b) ∧ CS B w0 w' g As cs sents (sents ++ [s]) ∧ ∀ o a b c d, OB w o a b c d → OB w' o a b c d := by
  obtain ⟨hb, A, c, way, lost, sent, hl, hn, hr, hs, ht⟩ := h
  by_cases hl' : way.length < 128
  · exact (send_in hn hl' s).mono fun e w' ⟨he, hto⟩ => ⟨true, he, CS.to hb hn hr hs hto (by simp; omega) (fun x hx => by rcases List.mem_append.1 hx with h | h; exact List.mem_append_left _ (ht x h); exact List.mem_append_right _ h), fun o a b c d ho => by obtain ⟨A1, c1, _, hm⟩ := hto; exact ho.net hn hm⟩
  · exact (send_out hn hl' s).mono fun e w' ⟨he, hto⟩ => ⟨false, he, CS.to hb hn hr hs hto hl (fun x hx => List.mem_append_left _ (ht x hx)), fun o a b c d ho => by obtain ⟨A1, c1, _, hm⟩ := hto; exact ho.net hn hm⟩
theorem comes_drop {B : Nat} {w0 w : World} {g : Nat} {As : Option Addr} {cs : Nat} {sents : List ByteArray} (h : CS B w0 w g As cs sents sents) (I : Int) : Calls Try.prog 9 #[.pointer (some ⟨g, 0, none⟩), .int .i64 I] w fun e w' => ∃ r, e = .returned (.int .i64 r) ∧ CS B w0 w' g As cs sents sents := by
  have h' := h
  obtain ⟨hb, A, c, way, lost, sent, hl, hn, hr, hs, ht⟩ := h
  by_cases hi : 0 ≤ I ∧ I < way.length
  · obtain ⟨i, rfl, hi'⟩ := in_nat hi
    exact (drop_in hn i hi' hl).mono fun e w' ⟨he, hto⟩ => ⟨0, he, CS.to hb hn hr hs hto (Nat.le_trans (cutAt_le way i) hl) (fun x hx => ht x (mem_cutAt hx))⟩
  · exact (drop_out hn I hi).mono fun e w' ⟨he, hw⟩ => ⟨8, he, hw ▸ h'⟩
theorem comes_copy {B : Nat} {w0 w : World} {g : Nat} {As : Option Addr} {cs : Nat} {sents : List ByteArray} (h : CS B w0 w g As cs sents sents) (I : Int) : Calls Try.prog 10 #[.pointer (some ⟨g, 0, none⟩), .int .i64 I] w fun e w' => ∃ r, e = .returned (.int .i64 r) ∧ CS B w0 w' g As cs sents sents := by
  have h' := h
  obtain ⟨hb, A, c, way, lost, sent, hl, hn, hr, hs, ht⟩ := h
  by_cases hi : 0 ≤ I ∧ I < way.length
  · obtain ⟨i, rfl, hi'⟩ := in_nat hi
    by_cases hl' : way.length < 128
    · exact (copy_in hn i hi' hl' _ rfl).mono fun e w' ⟨he, hto⟩ => ⟨0, he, CS.to hb hn hr hs hto (by simp; omega) (fun x hx => by
        rcases List.mem_append.1 hx with h | h
        · exact ht x h
        · rw [List.mem_singleton] at h
          subst h
          exact ht _ (List.getElem_mem hi'))⟩
    · exact (copy_full hn i hi' hl').mono fun e w' ⟨he, hto⟩ => ⟨7, he, CS.to hb hn hr hs hto hl ht⟩
  · exact (copy_out hn I hi).mono fun e w' ⟨he, hw⟩ => ⟨8, he, hw ▸ h'⟩
theorem comes_swap {B : Nat} {w0 w : World} {g : Nat} {As : Option Addr} {cs : Nat} {sents : List ByteArray} (h : CS B w0 w g As cs sents sents) (I K : Int) : Calls Try.prog 11 #[.pointer (some ⟨g, 0, none⟩), .int .i64 I, .int .i64 K] w fun e w' => ∃ r, e = .returned (.int .i64 r) ∧ CS B w0 w' g As cs sents sents := by
  have h' := h
  obtain ⟨hb, A, c, way, lost, sent, hl, hn, hr, hs, ht⟩ := h
  by_cases hi : 0 ≤ I ∧ I < way.length
  · obtain ⟨i, rfl, hi'⟩ := in_nat hi
    by_cases hk : 0 ≤ K ∧ K < way.length
    · obtain ⟨k, rfl, hk'⟩ := in_nat hk
      exact (swap_in hn i hi' k hk' hl _ _ rfl rfl).mono fun e w' ⟨he, hto⟩ => ⟨0, he, CS.to hb hn hr hs hto (by rw [swapped_len]; exact hl) (fun x hx => ht x (mem_swapped hi' hk' hx))⟩
    · exact (swap_out2 hn i hi' K hk).mono fun e w' ⟨he, hw⟩ => ⟨8, he, hw ▸ h'⟩
  · exact (swap_out1 hn I K hi).mono fun e w' ⟨he, hw⟩ => ⟨8, he, hw ▸ h'⟩
theorem comes_take {B : Nat} {w0 w : World} {g : Nat} {As : Option Addr} {cs : Nat} {sents : List ByteArray} (h : CS B w0 w g As cs sents sents) (I : Int) : Calls Try.prog 12 #[.pointer (some ⟨g, 0, none⟩), .int .i64 I] w fun e w' => ∃ s r, e = .returned (.tuple #[.string s, .int .i64 r]) ∧ (r = 8 ∨ (r = 0 ∧ s ∈ sents)) ∧ CS B w0 w' g As cs sents sents := by
  have h' := h
  obtain ⟨hb, A, c, way, lost, sent, hl, hn, hr, hs, ht⟩ := h
  by_cases hi : 0 ≤ I ∧ I < way.length
  · obtain ⟨i, rfl, hi'⟩ := in_nat hi
    exact (take_in hn i hi' hl _ rfl).mono fun e w' ⟨he, hto⟩ => ⟨_, 0, he, .inr ⟨rfl, ht _ (List.getElem_mem hi')⟩, CS.to hb hn hr hs hto (Nat.le_trans (cutAt_le way i) hl) (fun x hx => ht x (mem_cutAt hx))⟩
  · exact (take_out hn I hi).mono fun e w' ⟨he, hw⟩ => ⟨_, 8, he, .inl rfl, hw ▸ h'⟩
/-- The row is made longer. -/
theorem CS.app {B : Nat} {w0 w w2 w3 : World} {g : Nat} {As A2 : Option Addr} {cs c2 : Nat} {sents T : List ByteArray} (h : CS B w0 w g As cs sents T) (h1 : Only w w2 (fun _ => False)) (hA : App w2 w3 B As A2 c2 T) : CS B w0 w3 g A2 c2 T T := by
  obtain ⟨hb, A, c, way, lost, sent, hl, hn, hr, hs, ht⟩ := h
  have ho : Only w w3 (fun k => ablk As = some k) := (h1.mono (fun _ h => h.elim)).trans hA.2.1 (fun _ _ h => h)
  have hsz := h1.size
  refine ⟨hb.trans (ho.below (fun k e => (hr.ge e).1) hn.bound), A, c, way, lost, sent, hl, hn.hold ho (fun e => row_ne hr hn.rec_ (fun cs e => by simp at e) e) (fun r e e2 => hs r e e2), hA.1, ?_, ht⟩
  intro r e e2
  rcases hA.2.2 r e2 with h | h
  · exact hs r e h
  · have := (hn.row.ge e).2.1; omega
theorem CS.start (w w1 : World) (h : NW w w1 w.heap.size none 0 [] 0 0) : CS w.heap.size w w1 w.heap.size none 0 [] [] :=
  ⟨h.b, none, 0, [], 0, 0, by decide, ⟨h.rec_, sr_nil _ _, Nat.le_refl _⟩, sr_nil _ _, fun r e => by simp [ablk] at e, fun x hx => hx⟩

theorem text_ne {x y : ByteArray} (h : ¬ x = y) : (x == y) = false := by
  rw [Bool.eq_false_iff]
  intro hb
  apply h
  cases x with
  | mk a =>
    cases y with
    | mk b =>
      have e : a = b := by simpa using (show (a == b) = true from hb)
      rw [e]
set_option maxRecDepth 10000 in
set_option maxHeartbeats 8000000 in
theorem NetComes.walk (A : Option Addr) (len cap : Nat) (w : World) (hr : ScriptRow w A len cap) :
    Calls Try.prog 3 #[.slice A len cap] w fun e w' => e = .returned (.bool true) ∧ Below w.heap.size w w' := by
  have hu27 := Try.underlying27
  have hu25 := Try.underlying25
  have hu22 := Try.underlying22
  have HR := Lib.hid (show ∀ k, k < len → ∃ (x : Addr) (n0 : Int) (n1 : Int) (n2 : Int) (n3 : ByteArray), A = some x ∧ w.cell? (x.add (k * 4)) = some (.int .i64 n0) ∧ w.cell? ⟨(x.add (k * 4)).block, (x.add (k * 4)).off + 1, none⟩ = some (.int .i64 n1) ∧
    w.cell? ⟨(x.add (k * 4)).block, (x.add (k * 4)).off + 2, none⟩ = some (.int .i64 n2) ∧ w.cell? ⟨(x.add (k * 4)).block, (x.add (k * 4)).off + 3, none⟩ = some (.string n3) from fun k hk => by
      rcases hr with ⟨_, h0, _⟩ | ⟨x, rfl, _, _, h⟩
      · omega
      · obtain ⟨n0, n1, n2, n3, h⟩ := h k hk
        exact ⟨x, n0, n1, n2, n3, rfl, h⟩)
  clear hr
  go_enter Try.func3, Try.ntmps3
  go_wp2_with (go_at_call 7; (with_reducible refine (new_calls w).mono ?_); rintro e' w1 ⟨rfl, h1⟩; have H1 := Lib.hid (CS.start w w1 h1); clear h1)
  go_loopw [4, 5] (fun v i wr => ∃ (j : Nat) (As : Option Addr) (cs : Nat) (sents : List ByteArray), j ≤ 60 ∧ sents.length ≤ j ∧ i = .int .i64 j ∧ v = .slice As sents.length cs ∧ CS w.heap.size w wr w.heap.size As cs sents sents) (fun _ i _ => 60 - (intOf i).toNat)
  case atStart => exact ⟨0, none, 0, [], Nat.zero_le _, Nat.le_refl _, rfl, rfl, H1.out⟩
  case round =>
    obtain ⟨j, As, cs, sents, hj, hsl, rfl, rfl, hW⟩ := hrel
    have HW := Lib.hid hW
    by_cases hlt : j < len
    · have e1 : decide ((j : Int) < (len : Int)) = true := by simp; omega
      have e2 : decide (j < len) = true := by simpa using hlt
      by_cases h60 : j < 60
      · have e3 : decide ((j : Int) < 60) = true := by simp; omega
        have e4 : decide (j < 60) = true := by simpa using h60
        obtain ⟨x, n0, n1, n2, n3, rfl, c0, c1, c2, c3⟩ := HR.out j hlt
        have x0 := below_cell hW.1 (World.block_lt_of_cell? w _ c0) c0
        have x1 := below_cell hW.1 (World.block_lt_of_cell? w _ c1) c1
        have x2 := below_cell hW.1 (World.block_lt_of_cell? w _ c2) c2
        have x3 := below_cell hW.1 (World.block_lt_of_cell? w _ c3) c3
        have f0 : (0 : Int) ≤ (j : Int) := by omega
        have f1 : (j : Int) < (len : Int) := by omega
        have HJ := Lib.hid (show j + 1 ≤ 60 from h60)
        have HSL := Lib.hid hsl
        clear hW c0 c1 c2 c3 hj hlt hsl
        have ob := OB.new wr n0 n1 n2 n3
        have HO := Lib.hid (HW.out.only (Only.alloc wr (.cells #[.int .i64 n0, .int .i64 n1, .int .i64 n2, .string n3] 27)))
        have o1 := ob.c1
        have o2 := ob.c2
        have o3 := ob.c3
        have HOB := Lib.hid ob
        clear ob
        by_cases k0 : n0 = 0
        · subst k0
          go_wp2_with (first
            | (go_at_call 8; (with_reducible refine (comes_send HO.out n3).mono ?_); rintro e' w2 ⟨b2, rfl, h2, hk2⟩; have H2 := Lib.hid h2; have q3 := (hk2 _ _ _ _ _ HOB.out).c3; clear h2 hk2)
            | (at_builtin; refine wpList_sr_append (B := w.heap.size) (A := As) (c := cs) (xs := sents) rfl (.tmp 60) (.tmp 63) rfl rfl (H2.out.row.hold (Only.alloc _ _) (fun _ _ h => h)) (Nat.le_trans H2.out.bound (Only.alloc _ _).size) (some ⟨w2.heap.size, 0, none⟩) 1 1 [n3] rfl (fun h => by cases h) (src_one w2 n3) (len_1000 HSL.out (Nat.le_trans (Nat.le_of_lt HJ.out) (by decide))) rfl rfl ?_; intro A3 c3 w3 hA3; have h3 := H2.out.app (Only.alloc _ _) hA3; have H3 := Lib.hid h3; clear h3 hA3))
          go_roundw
          case rel => exact ⟨j + 1, A3, c3, sents ++ [n3], HJ.out, by rw [List.length_append]; have := HSL.out; simp; omega, by go_num, by rw [List.length_append]; rfl, H3.out⟩
          case measure => have := HJ.out; simp [intOf]; omega
        have z0 : decide (n0 = 0) = false := by simpa using k0
        have y0 : (n0 == 0) = false := by simpa using k0
        by_cases k2 : n0 = 2
        · subst k2
          go_wp2_with (go_at_call 9; (with_reducible refine (comes_drop HO.out n1).mono ?_); rintro e' w2 ⟨r2, rfl, h2⟩; have H2 := Lib.hid h2; clear h2)
          go_roundw
          case rel => exact ⟨j + 1, As, cs, sents, HJ.out, Nat.le_succ_of_le HSL.out, by go_num, rfl, H2.out⟩
          case measure => have := HJ.out; simp [intOf]; omega
        have z2 : decide (n0 = 2) = false := by simpa using k2
        have y2 : (n0 == 2) = false := by simpa using k2
        by_cases k3 : n0 = 3
        · subst k3
          go_wp2_with (go_at_call 10; (with_reducible refine (comes_copy HO.out n1).mono ?_); rintro e' w2 ⟨r2, rfl, h2⟩; have H2 := Lib.hid h2; clear h2)
          go_roundw
          case rel => exact ⟨j + 1, As, cs, sents, HJ.out, Nat.le_succ_of_le HSL.out, by go_num, rfl, H2.out⟩
          case measure => have := HJ.out; simp [intOf]; omega
        have z3 : decide (n0 = 3) = false := by simpa using k3
        have y3 : (n0 == 3) = false := by simpa using k3
        by_cases k4 : n0 = 4
        · subst k4
          go_wp2_with (go_at_call 11; (with_reducible refine (comes_swap HO.out n1 n2).mono ?_); rintro e' w2 ⟨r2, rfl, h2⟩; have H2 := Lib.hid h2; clear h2)
          go_roundw
          case rel => exact ⟨j + 1, As, cs, sents, HJ.out, Nat.le_succ_of_le HSL.out, by go_num, rfl, H2.out⟩
          case measure => have := HJ.out; simp [intOf]; omega
        have z4 : decide (n0 = 4) = false := by simpa using k4
        have y4 : (n0 == 4) = false := by simpa using k4
        go_wp2_with (go_at_call 12; (with_reducible refine (comes_take HO.out n1).mono ?_); rintro e' w2 ⟨s2, r2, rfl, hq2, h2⟩; have H2 := Lib.hid h2; have HQ2 := Lib.hid hq2; clear h2 hq2)
        go_loopw [9, 10] (fun b i wr2 => ∃ (m : Nat) (bb : Bool), m ≤ sents.length ∧ i = .int .i64 m ∧ b = .bool bb ∧ wr2 = w2 ∧ (bb = true ∨ (r2 = 0 ∧ s2 ∉ sents.take m))) (fun _ i _ => sents.length - (intOf i).toNat)
        case atStart =>
          refine ⟨0, _, Nat.zero_le _, rfl, rfl, rfl, ?_⟩
          rcases HQ2.out with rfl | ⟨rfl, _⟩
          · exact .inl rfl
          · exact .inr ⟨rfl, by simp⟩
        case round =>
          obtain ⟨m, bb, hm, rfl, rfl, rfl, hbb⟩ := hrel
          by_cases hml : m < sents.length
          · have g1 : decide ((m : Int) < (sents.length : Int)) = true := by simp; omega
            have g2 : decide (m < sents.length) = true := by simpa using hml
            have hm60 : m < 60 := by have := HSL.out; have := HJ.out; omega
            have HM := Lib.hid (show m + 1 ≤ sents.length from hml)
            cases bb with
            | true =>
              clear hbb hm hml
              go_wp2
              go_roundw
              case rel => exact ⟨m + 1, true, HM.out, by go_num, rfl, by first | rfl | trivial, .inl rfl⟩
              case measure => have := HM.out; simp [intOf]; omega
            | false =>
              have hbb' : r2 = 0 ∧ s2 ∉ sents.take m := by
                rcases hbb with h | h
                · cases h
                · exact h
              obtain ⟨y, htk, r, hA, hr⟩ : ∃ y, sents.take (m + 1) = sents.take m ++ [y] ∧ ∃ r, As = some ⟨r, 0, none⟩ ∧ wr.cell? ⟨r, m, none⟩ = some (.string y) := by
                obtain ⟨r, hA, _, hr, _⟩ := H2.out.row.get m hml
                exact ⟨_, List.take_succ_eq_append_getElem hml, r, hA, hr⟩
              subst hA
              have hr' := hr
              rw [show (⟨r, m, none⟩ : Addr) = Addr.add ⟨r, 0, none⟩ m by rw [Addr.add_lit, Nat.zero_add]] at hr'
              have g3 : (0 : Int) ≤ (m : Int) := by omega
              have g4 : (m : Int) < (sents.length : Int) := by omega
              by_cases hx : y = s2
              · subst hx
                clear hbb hm hml hbb'
                go_wp2
                go_roundw
                case rel => exact ⟨m + 1, _, HM.out, by go_num, rfl, by first | rfl | trivial, .inl rfl⟩
                case measure => have := HM.out; simp [intOf]; omega
              · have g5 : (y == s2) = false := text_ne hx
                have g6 : decide (y = s2) = false := decide_eq_false hx
                have hnot : s2 ∉ sents.take (m + 1) := by
                  rw [htk]
                  intro hmem
                  rcases List.mem_append.1 hmem with h | h
                  · exact hbb'.2 h
                  · exact hx (List.mem_singleton.1 h).symm
                have HNOT := Lib.hid (And.intro hbb'.1 hnot)
                clear hbb hm hml hx hbb' hnot htk
                go_wp2
                go_roundw
                case rel => exact ⟨m + 1, _, HM.out, by go_num, rfl, by first | rfl | trivial, .inr HNOT.out⟩
                case measure => have := HM.out; simp [intOf]; omega
          · obtain rfl : m = sents.length := by omega
            have g1 : decide ((sents.length : Int) < (sents.length : Int)) = false := by simp
            have hb : bb = true := by
              rcases hbb with h | ⟨h0, h1⟩
              · exact h
              · rw [List.take_length] at h1
                rcases HQ2.out with h2 | ⟨_, h2⟩
                · omega
                · exact absurd h2 h1
            subst hb
            clear hbb hm hml
            go_wp2
            go_roundw
            case rel => exact ⟨j + 1, As, cs, sents, HJ.out, Nat.le_succ_of_le HSL.out, by go_num, rfl, H2.out⟩
            case measure => have := HJ.out; simp [intOf]; omega
      · have e3 : decide ((j : Int) < 60) = false := by simp; omega
        have e4 : decide (j < 60) = false := by simpa using h60
        clear hlt hj hW
        go_wp2_with (go_at_call 13; (with_reducible refine (awake_calls _).mono ?_); rintro e' w9 ⟨rfl, hB9⟩; have HB9 := Lib.hid (hB9.mono HW.out.bound); clear hB9)
        go_ret
        exact ⟨rfl, HW.out.1.trans HB9.out⟩
    · have e1 : decide ((j : Int) < (len : Int)) = false := by simp; omega
      have e2 : decide (j < len) = false := by simpa using hlt
      clear hlt hj hW
      go_wp2_with (go_at_call 13; (with_reducible refine (awake_calls _).mono ?_); rintro e' w9 ⟨rfl, hB9⟩; have HB9 := Lib.hid (hB9.mono HW.out.bound); clear hB9)
      go_ret
      exact ⟨rfl, HW.out.1.trans HB9.out⟩
end Go.Proofs.Ytfipchighkpobaa.PAll
