/- Plain: what pack.Put and pack.Text lay, as bytes; what Num reads back. No memory in sight. -/
import Derived.Test.YtdphikbkknkhiaaPAllx3
import Derived.Test.YtdphikbkknkhiaaPAllx3
import Derived.Test.YtdphikbkknkhiaaPackNum
namespace Go.Proofs.Ytdphikbkknkhiaa.Pure
open Go.RowKit Go.Proofs.Ytdphikbkknkhiaa.PAll Go.Proofs.YtdphikbkknkhiaaW.PrintWords Go.Proofs.YtdphikbkknkhiaaW.PrintLast Go.Proofs.YtdphikbkknkhiaaW.PrintMore
set_option linter.unusedVariables false
set_option linter.unusedSimpArgs false

/-- A number as so many bytes, the highest first. -/
def nb : Nat → Nat → List UInt8
  | 0, _ => []
  | w + 1, n => nb w (n / 256) ++ [UInt8.ofNat (n % 256)]
theorem nb_length (w : Nat) : ∀ n, (nb w n).length = w := by
  induction w with
  | zero => intro n; rfl
  | succ w ih => intro n; simp [nb, ih]
theorem be_nb (w : Nat) : ∀ n, n < 256 ^ w → be (nb w n) = (n : Int) := by
  induction w with
  | zero => intro n h; simp at h; subst h; rfl
  | succ w ih =>
    intro n h
    rw [Nat.pow_succ] at h
    have hd : n / 256 < 256 ^ w := by omega
    simp only [nb]
    rw [be_snoc, ih _ hd]
    have : (UInt8.ofNat (n % 256)).toNat = n % 256 := by rw [UInt8.toNat_ofNat']; omega
    rw [this]
    omega
theorem nb_be (l : List UInt8) : ∀ w, l.length = w → nb w (be l).toNat = l := by
  intro w
  induction w generalizing l with
  | zero => intro h; rw [List.length_eq_zero_iff.1 h]; rfl
  | succ w ih =>
    intro h
    obtain ⟨l', c, rfl⟩ : ∃ l' c, l = l' ++ [c] := by
      have hne : l ≠ [] := by intro e; subst e; simp at h
      exact ⟨l.dropLast, l.getLast hne, (List.dropLast_concat_getLast hne).symm⟩
    simp only [List.length_append, List.length_singleton] at h
    have hb := (be_bound l').1
    have hc : c.toNat < 256 := c.toNat_lt
    simp only [nb]
    rw [be_snoc]
    have h1 : (be l' * 256 + (c.toNat : Int)).toNat / 256 = (be l').toNat := by omega
    have h2 : (be l' * 256 + (c.toNat : Int)).toNat % 256 = c.toNat := by omega
    rw [h1, h2, ih l' (by omega)]
    simp
def digI (w : Nat) (n : Int) (i : Nat) : Int := (n / 2 ^ (8 * (w - 1 - i))) % 256
theorem digs_nb (w : Nat) : ∀ n : Nat, ((List.range w).map (digI w n)).map (fun x => UInt8.ofNat x.toNat) = nb w n := by
  induction w with
  | zero => intro n; rfl
  | succ w ih =>
    intro n
    rw [List.range_succ, List.map_append, List.map_append]
    simp only [nb]
    rw [← ih (n / 256)]
    congr 1
    · rw [List.map_map, List.map_map]
      apply List.map_congr_left
      intro i hi
      have hi' : i < w := List.mem_range.1 hi
      simp only [Function.comp]
      congr 2
      unfold digI
      congr 1
      rw [show w + 1 - 1 - i = (w - 1 - i) + 1 from by omega, Nat.mul_add, Nat.mul_one, Int.pow_add, Int.mul_comm]
      rw [show ((n / 256 : Nat) : Int) = (n : Int) / 256 from by omega]
      rw [show (2 : Int) ^ 8 = 256 from rfl, Int.ediv_ediv_of_nonneg (by omega)]
    · simp only [List.map_cons, List.map_nil]
      unfold digI
      rw [show 8 * (w + 1 - 1 - w) = 0 from by omega]
      congr 2
      omega

theorem w64p {n : Int} (h0 : -9223372036854775808 ≤ n) (h1 : n ≤ 9223372036854775807) : wrap64 n = n := by unfold wrap64; omega
theorem limit_plain (w : Nat) (h1 : 1 ≤ w) (h6 : w ≤ 6) : pack_limit.f (w : Int) = some ((256 ^ w : Nat) : Int) := by
  unfold pack_limit.f
  rcases (by omega : w = 1 ∨ w = 2 ∨ w = 3 ∨ w = 4 ∨ w = 5 ∨ w = 6) with rfl | rfl | rfl | rfl | rfl | rfl <;> decide +kernel
theorem dig_step (w i : Nat) (n : Int) (h6 : w ≤ 6) (hi : i < w) : shr .i64 n (wrap64 (8 * (wrap64 ((wrap64 ((w : Int) - 1)) - (i : Int))))) % 256 = digI w n i := by
  rw [w64p (n := (w : Int) - 1) (by omega) (by omega), w64p (n := (w : Int) - 1 - i) (by omega) (by omega), w64p (n := 8 * ((w : Int) - 1 - i)) (by omega) (by omega)]
  unfold shr digI
  have e : (8 * ((w : Int) - 1 - i)).toNat = 8 * (w - 1 - i) := by omega
  rw [e, Nat.min_eq_left (by show _ ≤ 64; omega)]
theorem put_loop (d : Nat) : ∀ (k : Nat) (s : ByteArray) (n : Int) (w i : Nat) (x : List Int), w ≤ 6 → x.length = w → i + d = w → (∀ j, j < i → x[j]? = some (digI w n j)) → s.size ≤ 4611686018427387904 →
    pack_Put.l0 (k + d + 1) s n (w : Int) x (w : Int) (i : Int) = some (s ++ strOfNums ((List.range w).map (digI w n)), 0) := by
  induction d with
  | zero =>
    intro k s n w i x h6 hl hi hx hs
    have hxe : x = (List.range w).map (digI w n) := by
      apply List.ext_getElem?
      intro j
      by_cases hj : j < w
      · rw [hx j (by omega)]; simp [hj]
      · rw [List.getElem?_eq_none (by omega), List.getElem?_eq_none (by simp; omega)]
    simp only [pack_Put.l0]
    rw [if_neg (by omega), hxe, if_pos (by rw [strOfNums_size]; simp; omega)]
  | succ d ih =>
    intro k s n w i x h6 hl hi hx hs
    rw [show k + (d + 1) + 1 = (k + d + 1) + 1 from by omega]
    simp only [pack_Put.l0]
    have hsh : 0 ≤ wrap64 (8 * (wrap64 ((wrap64 ((w : Int) - 1)) - (i : Int)))) := by
      rw [w64p (n := (w : Int) - 1) (by omega) (by omega), w64p (n := (w : Int) - 1 - i) (by omega) (by omega), w64p (n := 8 * ((w : Int) - 1 - i)) (by omega) (by omega)]
      omega
    rw [if_pos (by omega), if_pos hsh, if_pos (by omega), if_pos (by omega), dig_step w i n h6 (by omega), w64p (n := (i : Int) + 1) (by omega) (by omega)]
    have := ih k s n w (i + 1) (x.set i (digI w n i)) h6 (by simp [hl]) (by omega) (fun j hj => by
      rw [List.getElem?_set]
      by_cases e : i = j
      · subst e; rw [if_pos rfl, if_pos (by omega)]
      · rw [if_neg e]; exact hx j (by omega)) hs
    exact this
theorem put_ok (k : Nat) (s : ByteArray) (n w : Nat) (h1 : 1 ≤ w) (h6 : w ≤ 6) (hn : n < 256 ^ w) (hs : s.size ≤ 4611686018427387904) (hk : 8 ≤ k) :
    pack_Put.f k s (n : Int) (w : Int) = some (s ++ ⟨(nb w n).toArray⟩, 0) := by
  unfold pack_Put.f
  have hd : decide ((w : Int) > 6) = false := by simp; omega
  rw [if_neg (by omega), hd]
  obtain ⟨m, rfl⟩ : ∃ m, k = (m + w + 1) + 1 := ⟨k - w - 2, by omega⟩
  simp only [pack_Put.j0]
  rw [if_neg (by simp), if_neg (by omega), limit_plain w h1 h6]
  simp only [Option.bind_some]
  rw [if_neg (by omega), if_pos (by omega), if_pos (by omega)]
  have hr : ((List.replicate ((w : Int)).toNat (0 : Int)).length : Int) = (w : Int) := by simp
  rw [hr, show ((w : Int)).toNat = w from by simp]
  have := put_loop w m s (n : Int) w 0 (List.replicate w 0) h6 (by simp) (by omega) (fun j hj => absurd hj (by omega)) hs
  rw [show ((0 : Nat) : Int) = 0 from rfl] at this
  rw [this, ← digs_nb w n]
  rfl
theorem put_arg (k : Nat) (s : ByteArray) (n w : Int) (h : w < 1 ∨ 6 < w) (hk : 1 ≤ k) : pack_Put.f k s n w = some (⟨#[]⟩, 1) := by
  obtain ⟨m, rfl⟩ : ∃ m, k = m + 1 := ⟨k - 1, by omega⟩
  unfold pack_Put.f
  by_cases h1 : w < 1
  · rw [if_pos h1]; simp [pack_Put.j0]
  · have hd : decide (w > 6) = true := by simp; omega
    rw [if_neg h1, hd]; simp [pack_Put.j0]
theorem put_range (k : Nat) (s : ByteArray) (n : Int) (w : Nat) (h1 : 1 ≤ w) (h6 : w ≤ 6) (hn : n < 0 ∨ ((256 ^ w : Nat) : Int) ≤ n) (hk : 1 ≤ k) :
    pack_Put.f k s n (w : Int) = some (⟨#[]⟩, 6) := by
  obtain ⟨m, rfl⟩ : ∃ m, k = m + 1 := ⟨k - 1, by omega⟩
  unfold pack_Put.f
  have hd : decide ((w : Int) > 6) = false := by simp; omega
  rw [if_neg (by omega), hd]
  simp only [pack_Put.j0]
  rw [if_neg (by simp)]
  by_cases h0 : n < 0
  · rw [if_pos h0]
  · rw [if_neg h0, limit_plain w h1 h6]
    simp only [Option.bind_some]
    rw [if_pos (by omega)]
end Go.Proofs.Ytdphikbkknkhiaa.Pure
