/- Plain: which message bytes are. No memory in sight. -/
import Derived.Test.YtkdnebejplollaaMsgPlain
import Derived.Test.YtkdnebejplollaaPAllx8
namespace Go.Proofs.Ytkdnebejplollaa.Pure
open Go.RowKit Go.Proofs.Ytkdnebejplollaa.PAll Go.Proofs.Ytkdnebejplollaa.Crc Go.Proofs.YtkdnebejplollaaW.PrintWords Go.Proofs.YtkdnebejplollaaW.PrintLast
set_option linter.unusedVariables false
set_option linter.unusedSimpArgs false

theorem num_some {s : ByteArray} {at_ : Int} (h : RInv s at_) (e w : Int) : ∃ n t e', pack_Reader_Num.f s at_ e w = some (n, s, t, e') ∧ RInv s t := ⟨_, _, _, num_is h e w, numS_inv h e w⟩
theorem text_some {s : ByteArray} {at_ : Int} (h : RInv s at_) (k : Nat) (hk : 1 ≤ k) (e w : Int) : ∃ n t e', pack_Reader_Text.f k s at_ e w = some (n, s, t, e') ∧ RInv s t := ⟨_, _, _, text_is h k hk e w, textS_inv h e w⟩
theorem inv_zero (s : ByteArray) (hs : s.size ≤ 1152921504606846976) : RInv s 0 := ⟨Int.le_refl _, by omega, hs⟩
theorem open_some (s : ByteArray) (hs : s.size ≤ 1152921504606846976) : ∃ b e, sum_Open.f s = some (b, e) ∧ b.size ≤ s.size := by
  have hE : ByteArray.size ⟨#[]⟩ = 0 := rfl
  rw [open_plain s hs]
  split
  · exact ⟨_, _, rfl, by rw [hE]; omega⟩
  · split
    · exact ⟨_, _, rfl, by rw [ByteArray.size_extract]; omega⟩
    · exact ⟨_, _, rfl, by rw [hE]; omega⟩
theorem of_err (k : Nat) (s b : ByteArray) (e : Int) (h : sum_Open.f s = some (b, e)) (he : e ≠ 0) : msg_Of.f k s = some (0, 0, 0, 0, 0, 0, 0, 0, 0, ⟨#[]⟩, e) := by
  unfold msg_Of.f
  rw [h, Option.bind_some, if_neg he]
theorem of_some (k : Nat) (hk : 10 ≤ k) (s b : ByteArray) (hs : b.size ≤ 1152921504606846976) (h : sum_Open.f s = some (b, 0)) : ∃ m0 m1 m2 m3 m4 m5 m6 m7 m8 m9 f, msg_Of.f k s = some (m0, m1, m2, m3, m4, m5, m6, m7, m8, m9, f) := by
  have i0 := inv_zero b hs
  unfold msg_Of.f
  rw [h, Option.bind_some, if_pos rfl]
  dsimp only
  unfold pack_Read.f
  rw [Option.bind_some]
  dsimp only
  obtain ⟨n0, t0, e0, h0, i1⟩ := num_some i0 0 1
  rw [h0, Option.bind_some]
  dsimp only
  obtain ⟨n1, t1, e1, h1, i2⟩ := num_some i1 e0 1
  rw [h1, Option.bind_some]
  dsimp only
  obtain ⟨n2, t2, e2, h2, i3⟩ := num_some i2 e1 1
  rw [h2, Option.bind_some]
  dsimp only
  obtain ⟨n3, t3, e3, h3, i4⟩ := num_some i3 e2 1
  rw [h3, Option.bind_some]
  dsimp only
  obtain ⟨n4, t4, e4, h4, i5⟩ := num_some i4 e3 4
  rw [h4, Option.bind_some]
  dsimp only
  obtain ⟨n5, t5, e5, h5, i6⟩ := num_some i5 e4 4
  rw [h5, Option.bind_some]
  dsimp only
  obtain ⟨n6, t6, e6, h6, i7⟩ := num_some i6 e5 6
  rw [h6, Option.bind_some]
  dsimp only
  obtain ⟨n7, t7, e7, h7, i8⟩ := num_some i7 e6 6
  rw [h7, Option.bind_some]
  dsimp only
  obtain ⟨n8, t8, e8, h8, i9⟩ := num_some i8 e7 6
  rw [h8, Option.bind_some]
  dsimp only
  obtain ⟨n9, t9, e9, h9, i10⟩ := text_some i9 k (by omega) e8 5120
  rw [h9, Option.bind_some]
  dsimp only
  rw [end_is i10 e9, Option.bind_some]
  dsimp only
  split
  · rw [right_impl k (by omega), Option.bind_some]
    split
    · exact ⟨_, _, _, _, _, _, _, _, _, _, _, rfl⟩
    · exact ⟨_, _, _, _, _, _, _, _, _, _, _, rfl⟩
  · exact ⟨_, _, _, _, _, _, _, _, _, _, _, rfl⟩
/-- Where the items are read. -/
def pos (L : List It) (j : Nat) : Int := ((encL (L.take j)).size : Int)
theorem num_at (L : List It) (hg : ∀ x ∈ L, GoodI x) (hl : L.length ≤ 60) (j : Nat) (x : It) (hx : L[j]? = some x) (hw : x.2.1 ≠ 0) : pack_Reader_Num.f (encL L) (pos L j) 0 x.2.1 = some (x.1, encL L, pos L (j + 1), 0) := by
  obtain ⟨hj, rfl⟩ := List.getElem?_eq_some_iff.1 hx
  have e := num_is (take_inv L j hg hl) 0 L[j].2.1
  rcases item_back L 5120 j hj (hg _ (List.getElem_mem _)) (fun c => absurd c hw) with ⟨c, _⟩ | ⟨_, h⟩
  · exact absurd c hw
  · rw [h] at e
    exact e
theorem text_at (L : List It) (hg : ∀ x ∈ L, GoodI x) (hl : L.length ≤ 60) (k : Nat) (hk : 1 ≤ k) (j : Nat) (x : It) (hx : L[j]? = some x) (hw : x.2.1 = 0) (hm : (x.2.2.size : Int) ≤ 5120) : pack_Reader_Text.f k (encL L) (pos L j) 0 5120 = some (x.2.2, encL L, pos L (j + 1), 0) := by
  obtain ⟨hj, rfl⟩ := List.getElem?_eq_some_iff.1 hx
  have e := text_is (take_inv L j hg hl) k hk 0 5120
  rcases item_back L 5120 j hj (hg _ (List.getElem_mem _)) (fun _ => hm) with ⟨_, h⟩ | ⟨c, _⟩
  · rw [h] at e
    exact e
  · exact absurd hw c
theorem good_items (a0 a1 a2 a3 a4 a5 a6 a7 a8 : Int) (a9 : ByteArray) (hr : rightI a0 a1 a2 a9 = 0) (hf : fits a3 a4 a5 a6 a7 a8) : ∀ x ∈ itemsM a0 a1 a2 a3 a4 a5 a6 a7 a8 a9, GoodI x := by
  have hn : ∀ (w : Nat) (l : List Int), 1 ≤ w → w ≤ 6 → (∀ n ∈ l, fit n w) → ∀ x ∈ nums_ w l, GoodI x := fun w l h1 h6 h x hx => by
    obtain ⟨n, hn, rfl⟩ := List.mem_map.1 hx
    exact .inr ⟨by show (1 : Int) ≤ (w : Int); omega, by show (w : Int) ≤ 6; omega, (h n hn).1, by show n < ((256 ^ ((w : Int)).toNat : Nat) : Int); rw [Int.toNat_natCast]; exact (h n hn).2⟩
  intro x hx
  unfold itemsM at hx
  rcases List.mem_append.1 hx with hx | hx
  · exact hn 1 _ (by omega) (by omega) ((first_fit a0 a1 a2 a8 a9 hr).2 hf.1) x hx
  · rcases List.mem_append.1 hx with hx | hx
    · exact hn 4 _ (by omega) (by omega) hf.2.1 x hx
    · rcases List.mem_append.1 hx with hx | hx
      · exact hn 6 _ (by omega) (by omega) hf.2.2 x hx
      · rw [List.mem_singleton.1 hx]
        have := right_text a0 a1 a2 a9 hr
        exact .inl ⟨rfl, by show a9.size ≤ 65535; omega⟩
theorem of_back (k : Nat) (hk : 10 ≤ k) (a0 a1 a2 a3 a4 a5 a6 a7 a8 : Int) (a9 : ByteArray) (hr : rightI a0 a1 a2 a9 = 0) (hf : fits a3 a4 a5 a6 a7 a8) :
    msg_Of.f k (sealed (encL (itemsM a0 a1 a2 a3 a4 a5 a6 a7 a8 a9))) = some (a0, a1, a2, a3, a4, a5, a6, a7, a8, a9, 0) := by
  have hg := good_items a0 a1 a2 a3 a4 a5 a6 a7 a8 a9 hr hf
  have hlen : (itemsM a0 a1 a2 a3 a4 a5 a6 a7 a8 a9).length = 10 := rfl
  have h9 := right_text a0 a1 a2 a9 hr
  have hsz := body_size a0 a1 a2 a3 a4 a5 a6 a7 a8 a9
  obtain ⟨L, hL⟩ : ∃ L, L = itemsM a0 a1 a2 a3 a4 a5 a6 a7 a8 a9 := ⟨_, rfl⟩
  have H : ∀ (j : Nat) (x : It), (itemsM a0 a1 a2 a3 a4 a5 a6 a7 a8 a9)[j]? = some x → L[j]? = some x := fun j x h => by rw [hL]; exact h
  rw [← hL] at hg hlen hsz ⊢
  have g0 := num_at L hg (by omega) 0 (a0, ((1 : Nat) : Int), E0) (H 0 _ rfl) (by show ¬ (((1 : Nat) : Int) = 0); decide)
  have g1 := num_at L hg (by omega) 1 (a1, ((1 : Nat) : Int), E0) (H 1 _ rfl) (by show ¬ (((1 : Nat) : Int) = 0); decide)
  have g2 := num_at L hg (by omega) 2 (a2, ((1 : Nat) : Int), E0) (H 2 _ rfl) (by show ¬ (((1 : Nat) : Int) = 0); decide)
  have g3 := num_at L hg (by omega) 3 (a8, ((1 : Nat) : Int), E0) (H 3 _ rfl) (by show ¬ (((1 : Nat) : Int) = 0); decide)
  have g4 := num_at L hg (by omega) 4 (a3, ((4 : Nat) : Int), E0) (H 4 _ rfl) (by show ¬ (((4 : Nat) : Int) = 0); decide)
  have g5 := num_at L hg (by omega) 5 (a4, ((4 : Nat) : Int), E0) (H 5 _ rfl) (by show ¬ (((4 : Nat) : Int) = 0); decide)
  have g6 := num_at L hg (by omega) 6 (a5, ((6 : Nat) : Int), E0) (H 6 _ rfl) (by show ¬ (((6 : Nat) : Int) = 0); decide)
  have g7 := num_at L hg (by omega) 7 (a6, ((6 : Nat) : Int), E0) (H 7 _ rfl) (by show ¬ (((6 : Nat) : Int) = 0); decide)
  have g8 := num_at L hg (by omega) 8 (a7, ((6 : Nat) : Int), E0) (H 8 _ rfl) (by show ¬ (((6 : Nat) : Int) = 0); decide)
  have g9 := text_at L hg (by omega) k (by omega) 9 (0, 0, a9) (H 9 _ rfl) rfl (by show (a9.size : Int) ≤ 5120; omega)
  have hp0 : pos L 0 = 0 := rfl
  have hp10 : pos L 10 = ((encL L).size : Int) := by unfold pos; rw [List.take_of_length_le (by omega)]
  have hend : pack_Reader_End.f (encL L) (pos L 10) 0 = some (0, encL L, pos L 10, 0) := by
    have i := take_inv L 10 hg (by omega)
    have e := end_is i 0
    have e0 : endS (encL L) ((encL (L.take 10)).size : Int) 0 = 0 := by
      unfold endS
      rw [List.take_of_length_le (by omega), if_neg (by omega)]
    rw [e0] at e
    exact e
  rw [hp0] at g0
  have hopen := open_sealed (encL L) (by omega)
  unfold msg_Of.f
  rw [hopen, Option.bind_some, if_pos rfl]
  dsimp only
  unfold pack_Read.f
  rw [Option.bind_some]
  dsimp only
  rw [show pack_Reader_Num.f (encL L) 0 0 1 = _ from g0, Option.bind_some]
  dsimp only
  rw [show pack_Reader_Num.f (encL L) (pos L 1) 0 1 = _ from g1, Option.bind_some]
  dsimp only
  rw [show pack_Reader_Num.f (encL L) (pos L 2) 0 1 = _ from g2, Option.bind_some]
  dsimp only
  rw [show pack_Reader_Num.f (encL L) (pos L 3) 0 1 = _ from g3, Option.bind_some]
  dsimp only
  rw [show pack_Reader_Num.f (encL L) (pos L 4) 0 4 = _ from g4, Option.bind_some]
  dsimp only
  rw [show pack_Reader_Num.f (encL L) (pos L 5) 0 4 = _ from g5, Option.bind_some]
  dsimp only
  rw [show pack_Reader_Num.f (encL L) (pos L 6) 0 6 = _ from g6, Option.bind_some]
  dsimp only
  rw [show pack_Reader_Num.f (encL L) (pos L 7) 0 6 = _ from g7, Option.bind_some]
  dsimp only
  rw [show pack_Reader_Num.f (encL L) (pos L 8) 0 6 = _ from g8, Option.bind_some]
  dsimp only
  rw [show pack_Reader_Text.f k (encL L) (pos L 9) 0 5120 = _ from g9, Option.bind_some]
  dsimp only
  rw [hend, Option.bind_some]
  dsimp only
  rw [if_pos rfl, right_impl k (by omega), Option.bind_some, hr, if_pos rfl]
end Go.Proofs.Ytkdnebejplollaa.Pure
