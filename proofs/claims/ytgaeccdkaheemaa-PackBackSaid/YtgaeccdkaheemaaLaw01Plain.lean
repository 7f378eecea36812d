/- Plain: the law's own number, put and text lay what pack.Put and pack.Text lay. No memory in sight. -/
import Derived.Test.YtgaeccdkaheemaaPackPlain
import Derived.Test.YtgaeccdkaheemaaPAllx2
import Derived.Lib.Strings
namespace Go.Proofs.Ytgaeccdkaheemaa.Pure
open Go.RowKit Go.Proofs.Ytgaeccdkaheemaa.PAll Go.Proofs.YtgaeccdkaheemaaW.PrintWords Go.Proofs.YtgaeccdkaheemaaW.PrintLast Go.Proofs.YtgaeccdkaheemaaW.PrintMore
set_option linter.unusedVariables false
set_option linter.unusedSimpArgs false

theorem ba_ext {a b : ByteArray} (h : a.data.toList = b.data.toList) : a = b := by
  cases a with | mk a => cases b with | mk b => simp only at h; rw [Array.toList_inj.1 h]
theorem limit_from (d : Nat) : ∀ (k : Nat) (w : Nat) (i : Nat), w ≤ 6 → i + d = w → gharrylaw01_limit.l0 (k + d + 1) (w : Int) ((256 ^ i : Nat) : Int) (i : Int) = some ((256 ^ w : Nat) : Int) := by
  induction d with
  | zero =>
    intro k w i h6 hi
    simp only [gharrylaw01_limit.l0]
    rw [if_neg (by omega), show i = w by omega]
  | succ d ih =>
    intro k w i h6 hi
    rw [show k + (d + 1) + 1 = (k + d + 1) + 1 from by omega]
    simp only [gharrylaw01_limit.l0]
    have hp : 256 ^ i ≤ 1099511627776 := Nat.le_trans (Nat.pow_le_pow_right (by omega) (by omega) : 256 ^ i ≤ 256 ^ 5) (by decide)
    have := ih k w (i + 1) h6 (by omega)
    rw [Nat.pow_succ] at this
    obtain ⟨p, hpe⟩ : ∃ p, p = 256 ^ i := ⟨_, rfl⟩
    rw [← hpe] at this hp
    rw [← hpe, if_pos (by omega), w64p (n := (i : Int) + 1) (by omega) (by omega), w64p (n := 256 * (p : Int)) (by omega) (by omega)]
    rw [show 256 * (p : Int) = ((p * 256 : Nat) : Int) from by omega]
    exact this
theorem law_limit (k w : Nat) (h6 : w ≤ 6) (hk : 7 ≤ k) : gharrylaw01_limit.f k (w : Int) = some ((256 ^ w : Nat) : Int) := by
  obtain ⟨m, rfl⟩ : ∃ m, k = m + w + 1 := ⟨k - w - 1, by omega⟩
  have := limit_from w m w 0 h6 (by omega)
  simpa [gharrylaw01_limit.f] using this
theorem str_one (n : Nat) : strOfNums [Int.tmod (n : Int) 256 % 256] = (⟨#[UInt8.ofNat (n % 256)]⟩ : ByteArray) := by
  unfold strOfNums
  rw [Int.tmod_eq_emod_of_nonneg (by omega)]
  simp only [List.map_cons, List.map_nil]
  rw [show ((n : Int) % 256 % 256).toNat = n % 256 from by omega]
theorem number_from (d : Nat) : ∀ (k n w i : Nat) (s : ByteArray), w ≤ 6 → i + d = w → s.size ≤ i → n < 281474976710656 →
    gharrylaw01_number.l0 (k + d + 1) (n : Int) (w : Int) s (i : Int) = some ((⟨(nb d n).toArray⟩ : ByteArray) ++ s) := by
  induction d with
  | zero =>
    intro k n w i s h6 hi hs hn
    simp only [gharrylaw01_number.l0]
    rw [if_neg (by omega)]
    congr 1
  | succ d ih =>
    intro k n w i s h6 hi hs hn
    rw [show k + (d + 1) + 1 = (k + d + 1) + 1 from by omega]
    simp only [gharrylaw01_number.l0]
    have hb : (⟨#[UInt8.ofNat (n % 256)]⟩ : ByteArray).size = 1 := rfl
    rw [if_pos (by omega), Option.bind_some, str_one, if_pos (by omega), w64p (n := (i : Int) + 1) (by omega) (by omega)]
    rw [show Int.tdiv (n : Int) 256 = ((n / 256 : Nat) : Int) from by rw [Int.tdiv_eq_ediv_of_nonneg (by omega)]; rfl, w64p (n := ((n / 256 : Nat) : Int)) (by omega) (by omega)]
    have := ih k (n / 256) w (i + 1) (⟨#[UInt8.ofNat (n % 256)]⟩ ++ s) h6 (by omega) (by rw [ByteArray.size_append]; omega) (by omega)
    refine this.trans ?_
    congr 1
    apply ba_ext
    simp only [ByteArray.data_append, nb]
    simp
theorem law_number (k n w : Nat) (h6 : w ≤ 6) (hn : n < 281474976710656) (hk : 7 ≤ k) : gharrylaw01_number.f k (n : Int) (w : Int) = some ⟨(nb w n).toArray⟩ := by
  obtain ⟨m, rfl⟩ : ∃ m, k = m + w + 1 := ⟨k - w - 1, by omega⟩
  have := number_from w m n w 0 ⟨#[]⟩ h6 (by omega) (by decide) hn
  refine this.trans ?_
  congr 1
  apply ba_ext
  simp only [ByteArray.data_append]
  simp
theorem pow_le6 (w : Nat) (h6 : w ≤ 6) : 256 ^ w ≤ 281474976710656 := Nat.le_trans (Nat.pow_le_pow_right (by omega) h6 : 256 ^ w ≤ 256 ^ 6) (by decide)

/-- Put and the law's put answer alike. -/
theorem put_same (k : Nat) (s : ByteArray) (n w : Int) (hs : s.size ≤ 4611686018427387904) (hk : 10 ≤ k) : ∃ r, pack_Put.f k s n w = some r ∧ gharrylaw01_put.f k s n w = some r ∧
    ((w < 1 ∨ 6 < w) ∧ r = (⟨#[]⟩, 1) ∨ (1 ≤ w ∧ w ≤ 6) ∧ (n < 0 ∨ ((256 ^ w.toNat : Nat) : Int) ≤ n) ∧ r = (⟨#[]⟩, 6) ∨
      (1 ≤ w ∧ w ≤ 6) ∧ 0 ≤ n ∧ n < ((256 ^ w.toNat : Nat) : Int) ∧ r = (s ++ ⟨(nb w.toNat n.toNat).toArray⟩, 0)) := by
  obtain ⟨m, rfl⟩ : ∃ m, k = m + 1 := ⟨k - 1, by omega⟩
  by_cases hw : w < 1 ∨ 6 < w
  · refine ⟨(⟨#[]⟩, 1), put_arg _ s n w hw (by omega), ?_, .inl ⟨hw, rfl⟩⟩
    unfold gharrylaw01_put.f
    by_cases h1 : w < 1
    · rw [if_pos h1]; simp [gharrylaw01_put.j0]
    · have hd : decide (w > 6) = true := by simp; omega
      rw [if_neg h1, hd]; simp [gharrylaw01_put.j0]
  · obtain ⟨w, rfl⟩ := Int.eq_ofNat_of_zero_le (show 0 ≤ w by omega)
    have hd : decide ((w : Int) > 6) = false := by simp; omega
    have hp := pow_le6 w (by omega)
    rw [Int.toNat_natCast]
    by_cases hn : n < 0 ∨ ((256 ^ w : Nat) : Int) ≤ n
    · refine ⟨(⟨#[]⟩, 6), put_range _ s n w (by omega) (by omega) hn (by omega), ?_, .inr (.inl ⟨by omega, hn, rfl⟩)⟩
      unfold gharrylaw01_put.f
      rw [if_neg (by omega), hd]
      simp only [gharrylaw01_put.j0]
      rw [if_neg (by simp)]
      by_cases h0 : n < 0
      · rw [if_pos h0]
      · rw [if_neg h0, law_limit m w (by omega) (by omega), Option.bind_some, if_pos (by omega)]
    · obtain ⟨n, rfl⟩ := Int.eq_ofNat_of_zero_le (show 0 ≤ n by omega)
      have hn' : n < 256 ^ w := by omega
      refine ⟨_, put_ok _ s n w (by omega) (by omega) hn' hs (by omega), ?_, .inr (.inr ⟨by omega, by omega, by omega, rfl⟩)⟩
      unfold gharrylaw01_put.f
      rw [if_neg (by omega), hd]
      simp only [gharrylaw01_put.j0]
      have hsz : (⟨(nb w n).toArray⟩ : ByteArray).size = w := by show (nb w n).toArray.size = w; simp [nb_length]
      rw [if_neg (by simp), if_neg (by omega), law_limit m w (by omega) (by omega), Option.bind_some, if_neg (by omega), law_number m n w (by omega) (by omega) (by omega), Option.bind_some, if_pos (by omega)]
/-- Text and the law's text answer alike. -/
theorem text_same (k : Nat) (s t : ByteArray) (hs : s.size ≤ 1152921504606846976) (ht : t.size ≤ 1152921504606846976) (hk : 10 ≤ k) : ∃ r, pack_Text.f k s t = some r ∧ gharrylaw01_text.f k s t = some r ∧
    (65535 < t.size ∧ r = (⟨#[]⟩, 3) ∨ t.size ≤ 65535 ∧ r = ((s ++ ⟨(nb 2 t.size).toArray⟩) ++ t, 0)) := by
  have hl2 := limit_plain 2 (by omega) (by omega)
  rw [show ((2 : Nat) : Int) = 2 from rfl, show ((256 ^ 2 : Nat) : Int) = 65536 from rfl] at hl2
  by_cases h : t.size ≤ 65535
  · have hsz : (⟨(nb 2 t.size).toArray⟩ : ByteArray).size = 2 := by show (nb 2 t.size).toArray.size = 2; simp [nb_length]
    have hz : (s ++ (⟨(nb 2 t.size).toArray⟩ : ByteArray)).size = s.size + 2 := by rw [ByteArray.size_append, hsz]
    refine ⟨_, ?_, ?_, .inr ⟨h, rfl⟩⟩
    · unfold pack_Text.f
      rw [hl2, Option.bind_some, if_neg (by omega), show (2 : Int) = ((2 : Nat) : Int) from rfl, put_ok k s t.size 2 (by omega) (by omega) (by omega) (by omega) (by omega), Option.bind_some, if_pos (by rw [hz]; omega)]
    · unfold gharrylaw01_text.f
      rw [if_neg (by omega), show (2 : Int) = ((2 : Nat) : Int) from rfl, law_number k t.size 2 (by omega) (by omega) (by omega), Option.bind_some, if_pos (by omega), if_pos (by rw [hz]; omega)]
  · refine ⟨(⟨#[]⟩, 3), ?_, ?_, .inl ⟨by omega, rfl⟩⟩
    · unfold pack_Text.f
      rw [hl2, Option.bind_some, if_pos (by omega)]
    · unfold gharrylaw01_text.f
      rw [if_pos (by omega)]
theorem law_awake (k : Nat) (hk : 10 ≤ k) : gharrylaw01_awake.f k = some true := by
  unfold gharrylaw01_awake.f
  have h1 := put_ok k ⟨#[]⟩ 258 2 (by omega) (by omega) (by decide) (by decide) (by omega)
  rw [show ((258 : Nat) : Int) = 258 from rfl, show ((2 : Nat) : Int) = 2 from rfl] at h1
  obtain ⟨r, h2, _, h3⟩ := text_same k ⟨#[]⟩ ⟨#[97, 98]⟩ (by decide) (by decide) hk
  rcases h3 with ⟨h3, _⟩ | ⟨_, rfl⟩
  · exact absurd h3 (by decide)
  · rw [h1, Option.bind_some, h2, Option.bind_some]
    rw [if_pos rfl, if_pos (by rw [Lib.toList_data]; decide +kernel), if_pos rfl]
    rw [Lib.toList_data]
    decide +kernel

end Go.Proofs.Ytgaeccdkaheemaa.Pure
