/- The law PackBack, walked by hand: what was laid is read again. -/
import Derived.Test.YtgaeccdkaheemaaWrites
import Derived.Test.YtgaeccdkaheemaaBackPlain
namespace Go.Proofs.Ytgaeccdkaheemaa.PAll
open Go.RowKit Go.Proofs.YtgaeccdkaheemaaW.PrintWords Go.Proofs.YtgaeccdkaheemaaW.PrintLast Go.Proofs.YtgaeccdkaheemaaW.PrintMore
open Go.Proofs.Ytgaeccdkaheemaa.Pure
set_option linter.unusedVariables false
set_option linter.unusedSimpArgs false

/-- An item's cells. -/
def itc (x : It) : List Value := [.int .i64 x.1, .int .i64 x.2.1, .string x.2.2]
def its : List It → List Value
  | [] => []
  | x :: l => itc x ++ its l
theorem its_snoc (l : List It) (x : It) : its (l ++ [x]) = its l ++ itc x := by
  induction l with
  | nil => rfl
  | cons y l ih => show itc y ++ its (l ++ [x]) = _; rw [ih]; simp [its]
theorem its_at (l : List It) : ∀ (j : Nat) (hj : j < l.length), (its l)[j * 3]? = some (.int .i64 l[j].1) ∧ (its l)[j * 3 + 1]? = some (.int .i64 l[j].2.1) ∧ (its l)[j * 3 + 2]? = some (.string l[j].2.2) := by
  induction l with
  | nil => intro j hj; exact absurd hj (Nat.not_lt_zero _)
  | cons y l ih =>
    intro j hj
    cases j with
    | zero => exact ⟨rfl, rfl, rfl⟩
    | succ j =>
      obtain ⟨h0, h1, h2⟩ := ih j (by simpa using hj)
      have e : ∀ i, (its (y :: l))[i + 3]? = (its l)[i]? := fun i => rfl
      refine ⟨?_, ?_, ?_⟩
      · rw [show (j + 1) * 3 = j * 3 + 3 by omega, e]; exact h0
      · rw [show (j + 1) * 3 + 1 = j * 3 + 1 + 3 by omega, e]; exact h1
      · rw [show (j + 1) * 3 + 2 = j * 3 + 2 + 3 by omega, e]; exact h2
theorem info34 : (Try.prog.info? 34).map (fun i => (i.zero, i.size, i.bytes)) = some (some (.agg #[.int .i64 0, .int .i64 0, .string ⟨#[]⟩]), 3, 32) := by kernel_rfl

theorem itc_one (x : It) : ∀ u ∈ itc x, u.oneCell' = true := by
  intro u hu
  simp only [itc, List.mem_cons, List.not_mem_nil, or_false] at hu
  rcases hu with rfl | rfl | rfl <;> rfl
theorem nextW0 (s : ByteArray) (r : ByteArray × Int) : nextW s 0 r = r := rfl
/-- A writer, and the items that were kept. -/
structure Mid (w0 w : World) (g : Nat) (r : ByteArray × Int) (v : Value) (L : List It) : Prop where
  wri : Wri w0 w g r
  own : w.ownsRow w0.heap.size 34 3 v L.length (its L)
section
variable {w0 w w' : World} {g : Nat} {r r' : ByteArray × Int} {v : Value} {L : List It}
theorem own_below {w0 w w' : World} {v : Value} {L : List It} (h : w.ownsRow w0.heap.size 34 3 v L.length (its L)) (hb : Below w.heap.size w w') : w'.ownsRow w0.heap.size 34 3 v L.length (its L) :=
  h.kept (row := none) (grown_of_below hb none) (by cases hv : v.ownBlock with | none => exact .inl rfl | some b => exact .inr (by simp))
theorem Mid.below (h : Mid w0 w g r v L) (hb : Below w.heap.size w w') : Mid w0 w' g r v L := ⟨h.wri.below hb, own_below h.own hb⟩
theorem Mid.ne (h : Mid w0 w g r v L) : some g ≠ v.ownBlock := own_ne h.own h.wri.i.1 (by decide)
theorem Mid.keep (h : Mid w0 w g r v L) (hw : Wri w0 w' g r') (hk : KeepBut w w' g none) : Mid w0 w' g r' v L :=
  ⟨hw, hk.own h.own (Ne.symm h.ne) (by cases hv : v.ownBlock with | none => exact .inl rfl | some b => exact .inr (by simp))⟩
theorem mid_num {s : ByteArray} {e : Int} (h : Mid w0 w g (s, e) v L) (n wd : Int) {r : ByteArray × Int} (hp : pack_Put.f 10 s n wd = some r) (hl : Laid s r) :
    Calls Try.prog 15 #[.pointer (some ⟨g, 0, none⟩), .int .i64 n, .int .i64 wd] w fun e' w' => e' = .returned (.tuple #[]) ∧ Mid w0 w' g (nextW s e r) v L ∧ KeepBut w w' g none :=
  (pack_Writer_Num.calls g s e n wd _ _ w0 w h.wri.i h.wri.b (wnum_f s e n wd r hp hl)).mono fun _ _ ⟨he, hI, hB, hK⟩ => ⟨he, h.keep ⟨hI, hB⟩ hK, hK⟩
theorem mid_text {s : ByteArray} {e : Int} (h : Mid w0 w g (s, e) v L) (t : ByteArray) {r : ByteArray × Int} (hp : pack_Text.f 10 s t = some r) (hl : Laid s r) :
    Calls Try.prog 14 #[.pointer (some ⟨g, 0, none⟩), .string t] w fun e' w' => e' = .returned (.tuple #[]) ∧ Mid w0 w' g (nextW s e r) v L ∧ KeepBut w w' g none :=
  (pack_Writer_Text.calls g s e t _ _ w0 w h.wri.i h.wri.b (wtext_f s e t r hp hl)).mono fun _ _ ⟨he, hI, hB, hK⟩ => ⟨he, h.keep ⟨hI, hB⟩ hK, hK⟩
theorem mid_all {s : ByteArray} {e : Int} (h : Mid w0 w g (s, e) v L) :
    Calls Try.prog 16 #[.pointer (some ⟨g, 0, none⟩)] w fun e' w' => e' = .returned (.tuple #[.string s, .int .i64 e]) ∧ Mid w0 w' g (s, e) v L :=
  (pack_Writer_All.calls g s e _ _ _ _ w0 w h.wri.i h.wri.b (by rfl)).mono fun _ _ ⟨he, hI, hB, hK⟩ => ⟨he, h.keep ⟨hI, hB⟩ hK⟩
/-- A reader, and the items that were kept. -/
structure Rdg (w0 w : World) (g : Nat) (s : ByteArray) (at_ : Int) (v : Value) (L : List It) : Prop where
  r : IsS58 w0 w g s at_ 0
  own : w.ownsRow w0.heap.size 34 3 v L.length (its L)
  b : Below w0.heap.size w0 w
theorem Rdg.drew {s : ByteArray} {at_ : Int} (h : Rdg w0 w g s at_ v L) : Rdg w0 w.drew g s at_ v L := ⟨h.r.drew, h.own, below_drew h.b⟩
theorem Rdg.keep {s : ByteArray} {at_ at2 : Int} (h : Rdg w0 w g s at_ v L) (hr : IsS58 w0 w' g s at2 0) (hb : Below w0.heap.size w0 w') (hk : KeepBut w w' g none) : Rdg w0 w' g s at2 v L :=
  ⟨hr, hk.own h.own (Ne.symm (own_ne h.own h.r.1 (by decide))) (by cases hv : v.ownBlock with | none => exact .inl rfl | some b => exact .inr (by simp)), hb⟩
theorem rdg_new {s : ByteArray} (h : Mid w0 w g r v L) : Calls Try.prog 17 #[.string s] w fun e w' => ∃ g_ : Nat, e = .returned (.pointer (some ⟨g_, 0, none⟩)) ∧ Rdg w0 w' g_ s 0 v L :=
  (pack_Read.calls s s 0 0 w0 w h.wri.b (by rfl)).mono fun _ _ ⟨g_, he, hI, hB, hB2⟩ => ⟨g_, he, hI, own_below h.own hB2, hB⟩
theorem rdg_text {s t : ByteArray} {at_ at2 n : Int} (h : Rdg w0 w g s at_ v L) (hR : RInv s at_) (ht : textS s at_ 0 n = (t, at2, 0)) :
    Calls Try.prog 22 #[.pointer (some ⟨g, 0, none⟩), .int .i64 n] w fun e w' => e = .returned (.string t) ∧ Rdg w0 w' g s at2 v L := by
  have e := text_is hR 10 (by omega) 0 n
  rw [ht] at e
  exact (pack_Reader_Text.calls 10 g s at_ 0 n _ _ _ _ w0 w h.r h.b e).mono fun _ _ ⟨he, hI, hB, hK⟩ => ⟨he, h.keep hI hB hK⟩
theorem rdg_num {s : ByteArray} {at_ at2 n z : Int} (h : Rdg w0 w g s at_ v L) (hR : RInv s at_) (ht : numS s at_ 0 n = (z, at2, 0)) :
    Calls Try.prog 20 #[.pointer (some ⟨g, 0, none⟩), .int .i64 n] w fun e w' => e = .returned (.int .i64 z) ∧ Rdg w0 w' g s at2 v L := by
  have e := num_is hR 0 n
  rw [ht] at e
  exact (pack_Reader_Num.calls g s at_ 0 n _ _ _ _ w0 w h.r h.b e).mono fun _ _ ⟨he, hI, hB, hK⟩ => ⟨he, h.keep hI hB hK⟩
theorem rdg_left {s : ByteArray} (h : Rdg w0 w g s (s.size : Int) v L) (hR : RInv s (s.size : Int)) :
    Calls Try.prog 26 #[.pointer (some ⟨g, 0, none⟩)] w fun e w' => e = .returned (.int .i64 0) ∧ Rdg w0 w' g s (s.size : Int) v L := by
  have e := left_is hR 0
  rw [if_pos rfl, Int.sub_self] at e
  exact (pack_Reader_Left.calls g s _ 0 _ _ _ _ w0 w h.r h.b e).mono fun _ _ ⟨he, hI, hB, hK⟩ => ⟨he, h.keep hI hB hK⟩
theorem rdg_end {s : ByteArray} (h : Rdg w0 w g s (s.size : Int) v L) (hR : RInv s (s.size : Int)) :
    Calls Try.prog 24 #[.pointer (some ⟨g, 0, none⟩)] w fun e w' => e = .returned (.int .i64 0) ∧ Rdg w0 w' g s (s.size : Int) v L := by
  have e := end_is hR 0
  have e0 : endS s (s.size : Int) 0 = 0 := by unfold endS; rw [if_neg (by omega)]
  rw [e0] at e
  exact (pack_Reader_End.calls g s _ 0 _ _ _ _ w0 w h.r h.b e).mono fun _ _ ⟨he, hI, hB, hK⟩ => ⟨he, h.keep hI hB hK⟩
/-- What the first loop keeps. -/
structure First (w0 w : World) (g : Nat) (v : Value) (L : List It) : Prop where
  mid : Mid w0 w g (encL L, 0) v L
  good : ∀ x ∈ L, GoodI x
theorem First.grown (h : First w0 w g v L) {x : It} (hx : GoodI x) {wB w1 : World} {v1 : Value} (hm : Mid w0 wB g (encL L ++ encI x, 0) v L) (hown : w1.ownsRow w0.heap.size 34 3 v1 (L.length + 1) (its L ++ itc x)) (hbel : Below w0.heap.size w0 w1) (hg : wB.grownBy w1 v.ownBlock) :
    First w0 w1 g v1 (L ++ [x]) := by
  refine ⟨⟨⟨?_, hbel⟩, ?_⟩, fun y hy => ?_⟩
  · rw [encL_snoc]; exact hm.wri.i.grown hg hm.ne
  · rw [its_snoc, List.length_append]; exact hown
  · rcases List.mem_append.1 hy with hy | hy
    · exact h.good y hy
    · rw [List.mem_singleton.1 hy]; exact hx
end

set_option maxHeartbeats 4000000 in
set_option maxRecDepth 4000 in
theorem back_walk (a : Addr) (len cap : Nat) (f : Nat → Int × Int × ByteArray) (w : World) (hcap : len ≤ cap) (hmax : cap ≤ maxLen)
    (hc0 : ∀ k, k < len → w.cell? (a.add (k * 3)) = some (.int .i64 (f k).1)) (hc1 : ∀ k, k < len → w.cell? ⟨(a.add (k * 3)).block, (a.add (k * 3)).off + 1, none⟩ = some (.int .i64 (f k).2.1)) (hc2 : ∀ k, k < len → w.cell? ⟨(a.add (k * 3)).block, (a.add (k * 3)).off + 2, none⟩ = some (.string (f k).2.2)) :
    Calls Try.prog 8 #[.slice (some a) len cap] w fun e w' => e = .returned (.bool true) ∧ Below w.heap.size w w' := by
  have HC0 := Lib.hid hc0
  have HC1 := Lib.hid hc1
  have HC2 := Lib.hid hc2
  clear hc0 hc1 hc2
  have hu32 := Try.underlying32
  have hu34 := Try.underlying34
  have hW0 : First w (w.alloc (.cells #[.string ⟨#[]⟩, .int .i64 0] 32)) w.heap.size (.slice none 0 0) [] := ⟨⟨⟨IsS32.new _ _ _ _ (Below.refl _ _), below_alloc (Below.refl _ _) _⟩, rfl, .inl ⟨rfl, rfl⟩⟩, fun x hx => by cases hx⟩
  have HW0 := Lib.hid hW0
  clear hW0
  go_enter Try.func8, Try.ntmps8
  go_wp2
  go_loopw [4, 5] (fun v4 i wr => ∃ (k : Nat) (L : List It), k ≤ len ∧ k ≤ 60 ∧ i = .int .i64 k ∧ L.length ≤ k ∧ First w wr w.heap.size v4 L) (fun _ i _ => 60 - (intOf i).toNat)
  case atStart => exact ⟨0, [], Nat.zero_le _, Nat.zero_le _, rfl, Nat.zero_le _, HW0.out⟩
  case round =>
    obtain ⟨k, L, hk, hk6, rfl, hLk, hB⟩ := hrel
    have HB := Lib.hid hB
    have hLsz := encL_size L hB.good
    have HLS := Lib.hid (show (encL L).size ≤ 1152921504606846976 by omega)
    have HLK := Lib.hid hLk
    clear hB hLsz hLk
    by_cases hlt : k < len ∧ k < 60
    · obtain ⟨h1, h2⟩ := hlt
      have hw0 := HC0.out k h1
      have hw1 := HC1.out k h1
      have hw2 := HC2.out k h1
      generalize (f k).1 = N at hw0
      generalize (f k).2.1 = D at hw1
      generalize (f k).2.2 = T at hw2
      have HW0 := Lib.hid hw0
      have HW1 := Lib.hid hw1
      have HW2 := Lib.hid hw2
      clear hw0 hw1 hw2
      have hk0 := cell_below HB.out.mid.wri.b HW0.out
      have hk1 := cell_below HB.out.mid.wri.b HW1.out
      have hk2 := cell_below HB.out.mid.wri.b HW2.out
      have hA : Mid w (wr.alloc (.cells #[.int .i64 N, .int .i64 D, .string T] 34)) w.heap.size (encL L, 0) u4 L := HB.out.mid.below (below_alloc (Below.refl _ _) _)
      have HA := Lib.hid hA
      have HX := Lib.hid (heap_alloc_new wr (.cells #[.int .i64 N, .int .i64 D, .string T] 34))
      clear hA
      obtain ⟨⟨q1, q2⟩, hr1, hr2, hcase⟩ := put_same 10 ⟨#[]⟩ N D (by rw [empty_size]; omega) (by omega)
      have HR2 := Lib.hid hr2
      have HCASE := Lib.hid hcase
      clear hr2 hr1 hcase
      by_cases hD : D = 0
      · have hD1 : (D == 0) = true := by simpa using hD
        by_cases hT : T.size ≤ 65535
        · have hT1 : decide ((T.size : Int) ≤ 65535) = true := by simp; omega
          have HG := Lib.hid (show GoodI (N, D, T) from .inl ⟨hD, hT⟩)
          have HE := Lib.hid (show encI (N, D, T) = ⟨(nb 2 T.size).toArray⟩ ++ T by unfold encI; rw [if_pos hD])
          obtain ⟨r, ht1, _, htc⟩ := text_plain (encL L) T HLS.out
          have hr : r = (encL L ++ encI (N, D, T), 0) := by
            rcases htc with ⟨c, _⟩ | ⟨_, rfl⟩
            · omega
            · rw [HE.out, app_assoc]
          subst hr
          have HT1 := Lib.hid ht1
          have HT2 := Lib.hid (show Laid (encL L) (encL L ++ encI (N, D, T), 0) from ⟨fun c => absurd rfl c, by show (encL L ++ encI (N, D, T)).size ≤ _; rw [ByteArray.size_append]; have := encI_size _ HG.out; omega⟩)
          clear hT hD ht1 htc
          go_wp2_with (first
            | (go_at_call 10; (with_reducible refine (law_put ⟨#[]⟩ N D HR2.out _).mono ?_); rintro e' w2 ⟨rfl, hB2⟩; have HM2 := Lib.hid (HA.out.below hB2); have hx2 := (hB2.block _ (by simp)).trans HX.out; have HX2 := Lib.hid hx2; have hx20 := (blk_cell hx2 0).trans rfl; have hx21 := (blk_cell hx2 1).trans rfl; have hx22 := (blk_cell hx2 2).trans rfl; clear hx2 hB2)
            | (go_at_call 14; (with_reducible refine (mid_text HM2.out T HT1.out HT2.out).mono ?_); rintro e' w3 ⟨rfl, hB3, hK3⟩; have HM3 := Lib.hid hB3; have hx3 := hK3.blk HX2.out (by have := IsS32.ne_blk HM2.out.wri.i HX2.out (by decide); omega) (by simp); have hx30 := (blk_cell hx3 0).trans rfl; have hx31 := (blk_cell hx3 1).trans rfl; have hx32 := (blk_cell hx3 2).trans rfl; clear hx3 hB3 hK3)
            | (at_builtin; refine print_append_cells (w0 := w) w.heap.size rfl (.tmp 50) (.tmp 52) 29 34 _ 3 32 rfl Try.underlying29 info34 rfl (by omega) (by omega) u4 L.length (its L) (itc (N, D, T)) rfl rfl rfl (itc_one _) HM3.out.own HM3.out.wri.b HM3.out.wri.b.size (by have := HLK.out; omega) ?_; intro v1 wN hown hbel hgr hat; have HF := Lib.hid (HB.out.grown HG.out (show Mid w w3 w.heap.size (encL L ++ encI (N, D, T), 0) u4 L from HM3.out) hown hbel hgr); clear hown hbel hgr hat))
          go_roundw
          case rel => exact ⟨k + 1, L ++ [(N, D, T)], by omega, by omega, by go_num, by have := HLK.out; rw [List.length_append]; show L.length + 1 ≤ _; omega, HF.out⟩
          case measure => simp [intOf]; omega
        · have hT1 : decide ((T.size : Int) ≤ 65535) = false := by simp; omega
          have hD3 : (D != 0) = false := by simpa using hD
          have hT2 : decide (T.size ≤ 65535) = false := by simpa using hT
          clear hT hD
          go_wp2_with (first
            | (go_at_call 10; (with_reducible refine (law_put ⟨#[]⟩ N D HR2.out _).mono ?_); rintro e' w2 ⟨rfl, hB2⟩; have HM2 := Lib.hid (HA.out.below hB2); have hx2 := (hB2.block _ (by simp)).trans HX.out; have HX2 := Lib.hid hx2; have hx20 := (blk_cell hx2 0).trans rfl; have hx21 := (blk_cell hx2 1).trans rfl; have hx22 := (blk_cell hx2 2).trans rfl; clear hx2 hB2))
          go_roundw
          case rel => exact ⟨k + 1, L, by omega, by omega, by go_num, by have := HLK.out; omega, ⟨HM2.out, HB.out.good⟩⟩
          case measure => simp [intOf]; omega
      · have hD1 : (D == 0) = false := by simpa using hD
        have hD2 : (D != 0) = true := by simpa using hD
        by_cases hq : q2 = 0
        · have hg : GoodI (N, D, T) := by
            rcases HCASE.out with ⟨_, c⟩ | ⟨_, _, c⟩ | ⟨c1, c2, c3, _⟩
            · injection c with _ c; omega
            · injection c with _ c; omega
            · exact .inr ⟨c1.1, c1.2, c2, c3⟩
          have HG := Lib.hid hg
          have HE := Lib.hid (show encI (N, D, T) = ⟨(nb D.toNat N.toNat).toArray⟩ by unfold encI; rw [if_neg hD])
          obtain ⟨r, ht1, _, htc⟩ := put_same 10 (encL L) N D (by have := HLS.out; omega) (by omega)
          have hr : r = (encL L ++ encI (N, D, T), 0) := by
            rw [HE.out]
            rcases hg with ⟨c, _⟩ | ⟨c1, c2, c3, c4⟩
            · exact absurd c hD
            · rcases htc with ⟨c, _⟩ | ⟨_, c, _⟩ | ⟨_, _, _, c⟩
              · have c1' : 1 ≤ D := c1
                have c2' : D ≤ 6 := c2
                omega
              · have c3' : 0 ≤ N := c3
                have c4' : N < ((256 ^ D.toNat : Nat) : Int) := c4
                omega
              · exact c
          subst hr
          subst hq
          have HT1 := Lib.hid ht1
          have HT2 := Lib.hid (show Laid (encL L) (encL L ++ encI (N, D, T), 0) from ⟨fun c => absurd rfl c, by show (encL L ++ encI (N, D, T)).size ≤ _; rw [ByteArray.size_append]; have := encI_size _ HG.out; omega⟩)
          clear hg hD ht1 htc
          go_wp2_with (first
            | (go_at_call 10; (with_reducible refine (law_put ⟨#[]⟩ N D HR2.out _).mono ?_); rintro e' w2 ⟨rfl, hB2⟩; have HM2 := Lib.hid (HA.out.below hB2); have hx2 := (hB2.block _ (by simp)).trans HX.out; have HX2 := Lib.hid hx2; have hx20 := (blk_cell hx2 0).trans rfl; have hx21 := (blk_cell hx2 1).trans rfl; have hx22 := (blk_cell hx2 2).trans rfl; clear hx2 hB2)
            | (go_at_call 15; (with_reducible refine (mid_num HM2.out N D HT1.out HT2.out).mono ?_); rintro e' w3 ⟨rfl, hB3, hK3⟩; have HM3 := Lib.hid hB3; have hx3 := hK3.blk HX2.out (by have := IsS32.ne_blk HM2.out.wri.i HX2.out (by decide); omega) (by simp); have hx30 := (blk_cell hx3 0).trans rfl; have hx31 := (blk_cell hx3 1).trans rfl; have hx32 := (blk_cell hx3 2).trans rfl; clear hx3 hB3 hK3)
            | (at_builtin; refine print_append_cells (w0 := w) w.heap.size rfl (.tmp 67) (.tmp 69) 29 34 _ 3 32 rfl Try.underlying29 info34 rfl (by omega) (by omega) u4 L.length (its L) (itc (N, D, T)) rfl rfl rfl (itc_one _) HM3.out.own HM3.out.wri.b HM3.out.wri.b.size (by have := HLK.out; omega) ?_; intro v1 wN hown hbel hgr hat; have HF := Lib.hid (HB.out.grown HG.out (show Mid w w3 w.heap.size (encL L ++ encI (N, D, T), 0) u4 L from HM3.out) hown hbel hgr); clear hown hbel hgr hat))
          go_roundw
          case rel => exact ⟨k + 1, L ++ [(N, D, T)], by omega, by omega, by go_num, by have := HLK.out; rw [List.length_append]; show L.length + 1 ≤ _; omega, HF.out⟩
          case measure => simp [intOf]; omega
        · have hq1 : (q2 == 0) = false := by simpa using hq
          clear hD
          go_wp2_with (first
            | (go_at_call 10; (with_reducible refine (law_put ⟨#[]⟩ N D HR2.out _).mono ?_); rintro e' w2 ⟨rfl, hB2⟩; have HM2 := Lib.hid (HA.out.below hB2); have hx2 := (hB2.block _ (by simp)).trans HX.out; have HX2 := Lib.hid hx2; have hx20 := (blk_cell hx2 0).trans rfl; have hx21 := (blk_cell hx2 1).trans rfl; have hx22 := (blk_cell hx2 2).trans rfl; clear hx2 hB2))
          go_roundw
          case rel => exact ⟨k + 1, L, by omega, by omega, by go_num, by have := HLK.out; omega, ⟨HM2.out, HB.out.good⟩⟩
          case measure => simp [intOf]; omega
    · have hform : ∃ A c, u4 = .slice A L.length c ∧ (∀ j (hj : j < L.length), ∃ g, A = some ⟨g, 0, none⟩) := by
        rcases HB.out.mid.own.2 with ⟨hv, hn⟩ | ⟨g, c, cur, hv, _⟩
        · exact ⟨none, 0, by rw [hv, hn], fun j hj => by omega⟩
        · exact ⟨_, c, hv, fun _ _ => ⟨g, rfl⟩⟩
      obtain ⟨A, c, rfl, hA⟩ := hform
      have HAF := Lib.hid hA
      clear hA
      by_cases hl : k < len
      · have h6 : ¬ k < 60 := fun c => hlt ⟨hl, c⟩
        clear hlt
        go_wp2_with (first
          | (go_at_call 16; (with_reducible refine (mid_all HB.out.mid).mono ?_); rintro e' w2 ⟨rfl, hB2⟩; have HB2 := Lib.hid hB2; clear hB2)
          | (go_at_call 17; (with_reducible refine (rdg_new HB2.out).mono ?_); rintro e' w3 ⟨gr, rfl, hB3⟩; have HB3 := Lib.hid hB3; clear hB3))
        go_loopw [12] (fun i wr => ∃ j : Nat, j ≤ L.length ∧ i = .int .i64 j ∧ Rdg w wr gr (encL L) ((encL (L.take j)).size : Int) (.slice A L.length c) L) (fun i _ => L.length - (intOf i).toNat)
        case atStart => exact ⟨0, Nat.zero_le _, rfl, HB3.out⟩
        case round =>
          obtain ⟨j, hj, rfl, hR⟩ := hrel
          have HR := Lib.hid hR
          clear hR
          by_cases hlj : j < L.length
          · obtain ⟨g', rfl⟩ := HAF.out j hlj
            have HI := Lib.hid (take_inv L j HB.out.good (by have := HLK.out; omega))
            have hat := its_at L j hlj
            have hib := item_back L j hlj (HB.out.good _ (List.getElem_mem _))
            generalize L[j] = x at hat hib
            obtain ⟨N, D, T⟩ := x
            obtain ⟨hat0, hat1, hat2⟩ := hat
            have hp0 : wr.cell? ⟨g', j * 3, none⟩ = some (.int .i64 N) := (HR.out.own.cellAt (j * 3) (by omega)).trans hat0
            have hp1 : wr.cell? ⟨g', j * 3 + 1, none⟩ = some (.int .i64 D) := (HR.out.own.cellAt (j * 3 + 1) (by omega)).trans hat1
            have hp2 : wr.cell? ⟨g', j * 3 + 2, none⟩ = some (.string T) := (HR.out.own.cellAt (j * 3 + 2) (by omega)).trans hat2
            have HIB := Lib.hid hib
            have HAT0 := Lib.hid hat0
            have HAT1 := Lib.hid hat1
            have HAT2 := Lib.hid hat2
            have HRd := Lib.hid HR.out.drew
            clear hib hat0 hat1 hat2
            have hj60 : j < 60 := by have := HLK.out; omega
            rcases HIB.out with ⟨hd, ht⟩ | ⟨hd, ht⟩
            · have hd1 : (D == 0) = true := by simpa using hd
              have HT := Lib.hid ht
              clear ht hd HIB
              go_wp2
              go_region_held3 (fun w' => w'.cell? ⟨g', j * 3 + 2, none⟩ = some (.string T)) (first | exact hp2 | assumption)
                ((go_at_call 22; (with_reducible refine (rdg_text HRd.out HI.out HT.out).mono ?_); rintro e' w2 ⟨rfl, hB2⟩; have HR2 := Lib.hid hB2; have hq2 : w2.cell? ⟨g', j * 3 + 2, none⟩ = some (.string T) := (HR2.out.own.cellAt (j * 3 + 2) (by omega)).trans HAT2.out; clear hB2))
              go_wp2
              go_roundw
              case rel => exact ⟨j + 1, hlj, by go_num, HR2.out⟩
              case measure => simp [intOf]; omega
            · have hd1 : (D == 0) = false := by simpa using hd
              have HT := Lib.hid ht
              clear ht hd HIB
              go_wp2
              go_region_held3 (fun w' => w'.cell? ⟨g', j * 3, none⟩ = some (.int .i64 N) ∧ w'.cell? ⟨g', j * 3 + 1, none⟩ = some (.int .i64 D)) (first | exact ⟨hp0, hp1⟩ | exact ⟨hq0, hq1⟩)
                ((go_at_call 20; (with_reducible refine (rdg_num HRd.out HI.out HT.out).mono ?_); rintro e' w2 ⟨rfl, hB2⟩; have HR2 := Lib.hid hB2; have hq0 : w2.cell? ⟨g', j * 3, none⟩ = some (.int .i64 N) := (HR2.out.own.cellAt (j * 3) (by omega)).trans HAT0.out; have hq1 : w2.cell? ⟨g', j * 3 + 1, none⟩ = some (.int .i64 D) := (HR2.out.own.cellAt (j * 3 + 1) (by omega)).trans HAT1.out; clear hB2))
              go_wp2
              go_roundw
              case rel => exact ⟨j + 1, hlj, by go_num, HR2.out⟩
              case measure => simp [intOf]; omega
          · have hjl : j = L.length := by omega
            have HR9 := HR.out
            rw [hjl, List.take_length] at HR9
            have HRL := Lib.hid HR9
            have HIL := Lib.hid (by have := take_inv L L.length HB.out.good (by have := HLK.out; omega); rw [List.take_length] at this; exact this)
            clear HR9 hjl
            go_wp2_with (first
              | (go_at_call 26; (with_reducible refine (rdg_left HRL.out HIL.out).mono ?_); rintro e' w4 ⟨rfl, hB4⟩; have HR4 := Lib.hid hB4; clear hB4)
              | (go_at_call 24; (with_reducible refine (rdg_end HR4.out HIL.out).mono ?_); rintro e' w5 ⟨rfl, hB5⟩; have HR5 := Lib.hid hB5; clear hB5)
              | (go_at_call 11; (with_reducible refine (awake_any _).mono ?_); rintro e' w6 ⟨rfl, hB6⟩; have HB6 := Lib.hid hB6; clear hB6))
            go_ret
            exact ⟨rfl, below_step HR5.out.b HB6.out⟩
      · clear hlt
        go_wp2_with (first
          | (go_at_call 16; (with_reducible refine (mid_all HB.out.mid).mono ?_); rintro e' w2 ⟨rfl, hB2⟩; have HB2 := Lib.hid hB2; clear hB2)
          | (go_at_call 17; (with_reducible refine (rdg_new HB2.out).mono ?_); rintro e' w3 ⟨gr, rfl, hB3⟩; have HB3 := Lib.hid hB3; clear hB3))
        go_loopw [12] (fun i wr => ∃ j : Nat, j ≤ L.length ∧ i = .int .i64 j ∧ Rdg w wr gr (encL L) ((encL (L.take j)).size : Int) (.slice A L.length c) L) (fun i _ => L.length - (intOf i).toNat)
        case atStart => exact ⟨0, Nat.zero_le _, rfl, HB3.out⟩
        case round =>
          obtain ⟨j, hj, rfl, hR⟩ := hrel
          have HR := Lib.hid hR
          clear hR
          by_cases hlj : j < L.length
          · obtain ⟨g', rfl⟩ := HAF.out j hlj
            have HI := Lib.hid (take_inv L j HB.out.good (by have := HLK.out; omega))
            have hat := its_at L j hlj
            have hib := item_back L j hlj (HB.out.good _ (List.getElem_mem _))
            generalize L[j] = x at hat hib
            obtain ⟨N, D, T⟩ := x
            obtain ⟨hat0, hat1, hat2⟩ := hat
            have hp0 : wr.cell? ⟨g', j * 3, none⟩ = some (.int .i64 N) := (HR.out.own.cellAt (j * 3) (by omega)).trans hat0
            have hp1 : wr.cell? ⟨g', j * 3 + 1, none⟩ = some (.int .i64 D) := (HR.out.own.cellAt (j * 3 + 1) (by omega)).trans hat1
            have hp2 : wr.cell? ⟨g', j * 3 + 2, none⟩ = some (.string T) := (HR.out.own.cellAt (j * 3 + 2) (by omega)).trans hat2
            have HIB := Lib.hid hib
            have HAT0 := Lib.hid hat0
            have HAT1 := Lib.hid hat1
            have HAT2 := Lib.hid hat2
            have HRd := Lib.hid HR.out.drew
            clear hib hat0 hat1 hat2
            have hj60 : j < 60 := by have := HLK.out; omega
            rcases HIB.out with ⟨hd, ht⟩ | ⟨hd, ht⟩
            · have hd1 : (D == 0) = true := by simpa using hd
              have HT := Lib.hid ht
              clear ht hd HIB
              go_wp2
              go_region_held3 (fun w' => w'.cell? ⟨g', j * 3 + 2, none⟩ = some (.string T)) (first | exact hp2 | assumption)
                ((go_at_call 22; (with_reducible refine (rdg_text HRd.out HI.out HT.out).mono ?_); rintro e' w2 ⟨rfl, hB2⟩; have HR2 := Lib.hid hB2; have hq2 : w2.cell? ⟨g', j * 3 + 2, none⟩ = some (.string T) := (HR2.out.own.cellAt (j * 3 + 2) (by omega)).trans HAT2.out; clear hB2))
              go_wp2
              go_roundw
              case rel => exact ⟨j + 1, hlj, by go_num, HR2.out⟩
              case measure => simp [intOf]; omega
            · have hd1 : (D == 0) = false := by simpa using hd
              have HT := Lib.hid ht
              clear ht hd HIB
              go_wp2
              go_region_held3 (fun w' => w'.cell? ⟨g', j * 3, none⟩ = some (.int .i64 N) ∧ w'.cell? ⟨g', j * 3 + 1, none⟩ = some (.int .i64 D)) (first | exact ⟨hp0, hp1⟩ | exact ⟨hq0, hq1⟩)
                ((go_at_call 20; (with_reducible refine (rdg_num HRd.out HI.out HT.out).mono ?_); rintro e' w2 ⟨rfl, hB2⟩; have HR2 := Lib.hid hB2; have hq0 : w2.cell? ⟨g', j * 3, none⟩ = some (.int .i64 N) := (HR2.out.own.cellAt (j * 3) (by omega)).trans HAT0.out; have hq1 : w2.cell? ⟨g', j * 3 + 1, none⟩ = some (.int .i64 D) := (HR2.out.own.cellAt (j * 3 + 1) (by omega)).trans HAT1.out; clear hB2))
              go_wp2
              go_roundw
              case rel => exact ⟨j + 1, hlj, by go_num, HR2.out⟩
              case measure => simp [intOf]; omega
          · have hjl : j = L.length := by omega
            have HR9 := HR.out
            rw [hjl, List.take_length] at HR9
            have HRL := Lib.hid HR9
            have HIL := Lib.hid (by have := take_inv L L.length HB.out.good (by have := HLK.out; omega); rw [List.take_length] at this; exact this)
            clear HR9 hjl
            go_wp2_with (first
              | (go_at_call 26; (with_reducible refine (rdg_left HRL.out HIL.out).mono ?_); rintro e' w4 ⟨rfl, hB4⟩; have HR4 := Lib.hid hB4; clear hB4)
              | (go_at_call 24; (with_reducible refine (rdg_end HR4.out HIL.out).mono ?_); rintro e' w5 ⟨rfl, hB5⟩; have HR5 := Lib.hid hB5; clear hB5)
              | (go_at_call 11; (with_reducible refine (awake_any _).mono ?_); rintro e' w6 ⟨rfl, hB6⟩; have HB6 := Lib.hid hB6; clear hB6))
            go_ret
            exact ⟨rfl, below_step HR5.out.b HB6.out⟩

set_option maxHeartbeats 4000000 in
theorem back_nil (w : World) : Calls Try.prog 8 #[.slice none 0 0] w fun e w' => e = .returned (.bool true) ∧ Below w.heap.size w w' := by
  have hu32 := Try.underlying32
  have hW0 : Mid w (w.alloc (.cells #[.string ⟨#[]⟩, .int .i64 0] 32)) w.heap.size (⟨#[]⟩, 0) (.slice none 0 0) [] := ⟨⟨IsS32.new _ _ _ _ (Below.refl _ _), below_alloc (Below.refl _ _) _⟩, rfl, .inl ⟨rfl, rfl⟩⟩
  have HW0 := Lib.hid hW0
  have HIL := Lib.hid (show RInv ⟨#[]⟩ (((⟨#[]⟩ : ByteArray).size : Nat) : Int) from take_inv [] 0 (fun x hx => by cases hx) (by decide))
  clear hW0
  go_enter Try.func8, Try.ntmps8
  go_wp2
  refine wp_loop_rounds 1 ?_
  rw [rounds_succ]
  go_wp2_with (first
    | (go_at_call 16; (with_reducible refine (mid_all HW0.out).mono ?_); rintro e' w2 ⟨rfl, hB2⟩; have HB2 := Lib.hid hB2; clear hB2)
    | (go_at_call 17; (with_reducible refine (rdg_new HB2.out).mono ?_); rintro e' w3 ⟨gr, rfl, hB3⟩; have HB3 := Lib.hid (show Rdg w w3 gr ⟨#[]⟩ (((⟨#[]⟩ : ByteArray).size : Nat) : Int) (.slice none 0 0) [] from hB3); clear hB3))
  refine wp_loop_rounds 1 ?_
  rw [rounds_succ]
  go_wp2_with (first
    | (go_at_call 26; (with_reducible refine (rdg_left HB3.out HIL.out).mono ?_); rintro e' w4 ⟨rfl, hB4⟩; have HR4 := Lib.hid hB4; clear hB4)
    | (go_at_call 24; (with_reducible refine (rdg_end HR4.out HIL.out).mono ?_); rintro e' w5 ⟨rfl, hB5⟩; have HR5 := Lib.hid hB5; clear hB5)
    | (go_at_call 11; (with_reducible refine (awake_any _).mono ?_); rintro e' w6 ⟨rfl, hB6⟩; have HB6 := Lib.hid hB6; clear hB6))
  go_ret
  exact ⟨rfl, below_step HR5.out.b HB6.out⟩

/-- The law: any items. -/
theorem PackBack.walk (A : Option Addr) (len cap : Nat) (w : World) (hr : ItemRow w A len cap) :
    Calls Try.prog 8 #[.slice A len cap] w fun e w' => e = .returned (.bool true) ∧ Below w.heap.size w w' := by
  rcases hr.open_ with ⟨rfl, rfl, rfl⟩ | ⟨a, f, rfl, hl, hm, h0, h1, h2⟩
  · exact back_nil w
  · exact back_walk a len cap f w hl hm h0 h1 h2
end Go.Proofs.Ytgaeccdkaheemaa.PAll
