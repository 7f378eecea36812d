/- Plain: the law's own bytes of a message; the law MsgBytes. No memory in sight. -/
import Derived.Test.YtkdnebejplollaaMsgPlain
import Derived.Test.YtkdnebejplollaaPAllx6
import Derived.Laws.BitsAllLaws
namespace Go.Proofs.Ytkdnebejplollaa.Pure
open Go.RowKit Go.Proofs.Ytkdnebejplollaa.PAll Go.Proofs.Ytkdnebejplollaa.Crc Go.Proofs.YtkdnebejplollaaW.PrintWords Go.Proofs.YtkdnebejplollaaW.PrintLast
set_option linter.unusedVariables false
set_option linter.unusedSimpArgs false

/-- The low bytes of a whole number, the highest first. -/
def lows : Nat → Int → List UInt8
  | 0, _ => []
  | d + 1, n => lows d (n / 256) ++ [UInt8.ofNat (n % 256).toNat]
theorem lows_length (d : Nat) : ∀ n, (lows d n).length = d := by
  induction d with
  | zero => intro n; rfl
  | succ d ih => intro n; simp [lows, ih]
theorem lows_nb (d : Nat) : ∀ n : Nat, lows d (n : Int) = nb d n := by
  induction d with
  | zero => intro n; rfl
  | succ d ih =>
    intro n
    show lows d ((n : Int) / 256) ++ [UInt8.ofNat (((n : Int) % 256)).toNat] = nb d (n / 256) ++ [UInt8.ofNat (n % 256)]
    rw [show (n : Int) / 256 = ((n / 256 : Nat) : Int) from rfl, ih, show ((n : Int) % 256).toNat = n % 256 from by omega]
theorem and255 (x : Int) : Go.bits .and .i64 x 255 = x % 256 := by
  show IntKind.i64.wrap ((BitVec.ofInt 64 x &&& BitVec.ofInt 64 255).toNat : Int) = _
  have h : (BitVec.ofInt 64 x &&& BitVec.ofInt 64 255).toNat = ((x % 18446744073709551616).toNat) % 256 := by
    rw [BitVec.toNat_and, BitVec.toNat_ofInt, BitVec.toNat_ofInt]
    have := Nat.and_two_pow_sub_one_eq_mod ((x % 18446744073709551616).toNat) 8
    simpa using this
  rw [h, IntKind.wrap_i64]
  omega
theorem low_one (x : Int) : strOfNums [Go.bits .and .i64 x 255 % 256] = (⟨#[UInt8.ofNat (x % 256).toNat]⟩ : ByteArray) := by
  unfold strOfNums
  rw [and255]
  simp only [List.map_cons, List.map_nil]
  rw [show x % 256 % 256 = x % 256 from by omega]
theorem number_from (d : Nat) : ∀ (k : Nat) (x : Int) (w i : Nat) (s : ByteArray), w ≤ 6 → i + d = w → s.size ≤ i →
    gharrylaw19_number.l0 (k + d + 1) x (w : Int) s (i : Int) = some ((⟨(lows d x).toArray⟩ : ByteArray) ++ s, (x / ((256 ^ d : Nat) : Int) == 0)) := by
  induction d with
  | zero =>
    intro k x w i s h6 hi hs
    simp only [gharrylaw19_number.l0]
    rw [if_neg (by omega)]
    show some (s, x == 0) = some (⟨#[]⟩ ++ s, _)
    rw [nil_app, Nat.pow_zero, Int.natCast_one, Int.ediv_one]
  | succ d ih =>
    intro k x w i s h6 hi hs
    rw [show k + (d + 1) + 1 = (k + d + 1) + 1 from by omega]
    simp only [gharrylaw19_number.l0]
    have hb : (⟨#[UInt8.ofNat (x % 256).toNat]⟩ : ByteArray).size = 1 := rfl
    rw [if_pos (by omega), Option.bind_some, low_one, if_pos (by omega), w64p (n := (i : Int) + 1) (by omega) (by omega)]
    have := ih k (x / 256) w (i + 1) (⟨#[UInt8.ofNat (x % 256).toNat]⟩ ++ s) h6 (by omega) (by rw [ByteArray.size_append]; omega)
    refine this.trans ?_
    have e1 : (⟨(lows d (x / 256)).toArray⟩ : ByteArray) ++ (⟨#[UInt8.ofNat (x % 256).toNat]⟩ ++ s) = ⟨(lows (d + 1) x).toArray⟩ ++ s := by
      rw [← app_assoc]
      apply ba_ext
      simp [ByteArray.data_append, lows]
    have e2 : x / 256 / ((256 ^ d : Nat) : Int) = x / ((256 ^ (d + 1) : Nat) : Int) := by
      rw [Int.ediv_ediv_of_nonneg (by omega), Nat.pow_succ, Nat.mul_comm]
      first | done | rfl
    rw [e1, e2]
theorem number_plain (k : Nat) (x : Int) (w : Nat) (h6 : w ≤ 6) (hk : 7 ≤ k) : gharrylaw19_number.f k x (w : Int) = some (⟨(lows w x).toArray⟩, decide (fit x w)) := by
  obtain ⟨m, rfl⟩ : ∃ m, k = m + w + 1 := ⟨k - w - 1, by omega⟩
  have := number_from w m x w 0 ⟨#[]⟩ h6 (by omega) (Nat.le_refl _)
  have e : (x / ((256 ^ w : Nat) : Int) == 0) = decide (fit x w) := by
    have hp : (0 : Int) < ((256 ^ w : Nat) : Int) := by have := Nat.pow_pos (n := w) (show 0 < 256 by decide); omega
    have : (x / ((256 ^ w : Nat) : Int) = 0) ↔ fit x w := by
      unfold fit
      constructor
      · intro h
        have h1 := Int.emod_nonneg x (Int.ne_of_gt hp)
        have h2 := Int.emod_lt_of_pos x hp
        have h3 := Int.emod_add_mul_ediv x ((256 ^ w : Nat) : Int)
        rw [h, Int.mul_zero, Int.add_zero] at h3
        exact ⟨by omega, by omega⟩
      · intro ⟨h1, h2⟩
        exact Int.ediv_eq_zero_of_lt h1 h2
    by_cases hf : fit x w
    · rw [decide_eq_true hf, this.2 hf]; rfl
    · rw [decide_eq_false hf]
      have : x / ((256 ^ w : Nat) : Int) ≠ 0 := fun c => hf (this.1 c)
      simpa using this
  refine this.trans ?_
  rw [app_nil, e]
/-- All the numbers, and whether they have room. -/
def lowsL : List (Int × Nat) → ByteArray
  | [] => ⟨#[]⟩
  | (n, w) :: l => ⟨(lows w n).toArray⟩ ++ lowsL l
def fitsL : List (Int × Nat) → Bool
  | [] => true
  | (n, w) :: l => decide (fit n w) && fitsL l
theorem lowsL_size (l : List (Int × Nat)) : (∀ p ∈ l, p.2 ≤ 6) → (lowsL l).size ≤ l.length * 6 := by
  induction l with
  | nil => intro _; exact Nat.zero_le _
  | cons p l ih =>
    intro h
    have h1 := ih (fun q hq => h q (List.mem_cons_of_mem _ hq))
    have h2 := h p List.mem_cons_self
    obtain ⟨n, w⟩ := p
    show ((⟨(lows w n).toArray⟩ : ByteArray) ++ lowsL l).size ≤ _
    have e : (⟨(lows w n).toArray⟩ : ByteArray).size = w := by show (lows w n).toArray.size = w; simp [lows_length]
    rw [ByteArray.size_append, e, List.length_cons]
    simp only at h2
    omega
theorem rd_nat (l : List Int) (i : Nat) (h : i < l.length) : rd l (i : Int) = l[i] := by
  unfold rd
  simp [List.getD_eq_getElem?_getD, List.getElem?_eq_getElem h]
theorem bytes_from (A : List (Int × Nat)) (a0 a1 a2 a3 a4 a5 a6 a7 a8 : Int) (a9 : ByteArray) (h9 : a9.size ≤ 5120) (h6 : ∀ p ∈ A, p.2 ≤ 6) (hA : A.length ≤ 10) (d : Nat) : ∀ (k i : Nat) (s : ByteArray) (f : Bool), i + d = A.length → s.size ≤ i * 6 →
    gharrylaw19_bytes.l0 (k + d + 8) (A.map (·.1)) (A.map fun p => (p.2 : Int)) s f (i : Int) a0 a1 a2 a3 a4 a5 a6 a7 a8 a9 = some (s ++ lowsL (A.drop i) ++ a9, f && fitsL (A.drop i)) := by
  induction d with
  | zero =>
    intro k i s f hi hs
    obtain ⟨m, hm⟩ : ∃ m, m = k + 7 := ⟨_, rfl⟩
    rw [show k + 0 + 8 = m + 1 from by omega]
    simp only [gharrylaw19_bytes.l0]
    rw [if_neg (by simp; omega), if_pos (by omega), List.drop_of_length_le (by omega)]
    show some (s ++ a9, f) = some (s ++ ⟨#[]⟩ ++ a9, f && true)
    rw [app_nil, Bool.and_true]
  | succ d ih =>
    intro k i s f hi hs
    have hl : i < A.length := by omega
    obtain ⟨m, hm⟩ : ∃ m, m = k + d + 8 := ⟨_, rfl⟩
    rw [show k + (d + 1) + 8 = m + 1 from by omega]
    simp only [gharrylaw19_bytes.l0]
    have hd : A.drop i = A[i] :: A.drop (i + 1) := List.drop_eq_getElem_cons hl
    have hw := h6 A[i] (List.getElem_mem _)
    rw [if_pos (by simp; omega), if_pos (by simp; omega), if_pos (by omega), rd_nat _ i (by simpa using hl), rd_nat _ i (by simpa using hl), List.getElem_map, List.getElem_map, number_plain _ _ _ hw (by omega), Option.bind_some]
    have e : (⟨(lows A[i].2 A[i].1).toArray⟩ : ByteArray).size = A[i].2 := by show (lows A[i].2 A[i].1).toArray.size = _; simp [lows_length]
    rw [if_pos (by show s.size + ByteArray.size _ ≤ _; rw [e]; omega), w64p (n := (i : Int) + 1) (by omega) (by omega)]
    have step : ∀ g : Bool, gharrylaw19_bytes.l0 m (A.map (·.1)) (A.map fun p => (p.2 : Int)) (s ++ ⟨(lows A[i].2 A[i].1).toArray⟩) g ((i : Int) + 1) a0 a1 a2 a3 a4 a5 a6 a7 a8 a9 = some (s ++ ⟨(lows A[i].2 A[i].1).toArray⟩ ++ lowsL (A.drop (i + 1)) ++ a9, g && fitsL (A.drop (i + 1))) := fun g => by
      rw [hm]
      exact ih k (i + 1) _ g (by omega) (by rw [ByteArray.size_append, e]; omega)
    have e2 : s ++ ⟨(lows A[i].2 A[i].1).toArray⟩ ++ lowsL (A.drop (i + 1)) = s ++ lowsL (A.drop i) := by
      rw [hd]
      show _ = s ++ ((⟨(lows A[i].2 A[i].1).toArray⟩ : ByteArray) ++ lowsL (A.drop (i + 1)))
      rw [app_assoc]
    have e3 : fitsL (A.drop i) = (decide (fit A[i].1 A[i].2) && fitsL (A.drop (i + 1))) := by rw [hd]; rfl
    rw [step, step, e2, e3]
    cases f
    · rw [if_neg (by decide)]
      rfl
    · rw [if_pos rfl]
      rfl
/-- A message's numbers, and their widths. -/
def numsL (a0 a1 a2 a3 a4 a5 a6 a7 a8 : Int) (a9 : ByteArray) : List (Int × Nat) := [(a0, 1), (a1, 1), (a2, 1), (a8, 1), (a3, 4), (a4, 4), (a5, 6), (a6, 6), (a7, 6), ((a9.size : Int), 2)]
theorem bytes_law (k : Nat) (hk : 18 ≤ k) (a0 a1 a2 a3 a4 a5 a6 a7 a8 : Int) (a9 : ByteArray) (h9 : a9.size ≤ 5120) :
    gharrylaw19_bytes.f k a0 a1 a2 a3 a4 a5 a6 a7 a8 a9 = some (lowsL (numsL a0 a1 a2 a3 a4 a5 a6 a7 a8 a9) ++ a9, fitsL (numsL a0 a1 a2 a3 a4 a5 a6 a7 a8 a9)) := by
  obtain ⟨m, rfl⟩ : ∃ m, k = m + 10 + 8 := ⟨k - 18, by omega⟩
  have := bytes_from (numsL a0 a1 a2 a3 a4 a5 a6 a7 a8 a9) a0 a1 a2 a3 a4 a5 a6 a7 a8 a9 h9 (by intro p hp; simp only [numsL, List.mem_cons, List.not_mem_nil, or_false] at hp; rcases hp with rfl | rfl | rfl | rfl | rfl | rfl | rfl | rfl | rfl | rfl <;> simp) (by simp [numsL]) 10 m 0 ⟨#[]⟩ true (by simp [numsL]) (Nat.le_refl _)
  refine this.trans ?_
  rw [List.drop_zero, nil_app, Bool.true_and]
theorem lows_enc (n : Int) (w : Nat) (h1 : 1 ≤ w) (h : fit n w) : (⟨(lows w n).toArray⟩ : ByteArray) = encI (n, (w : Int), E0) := by
  obtain ⟨m, rfl⟩ := Int.eq_ofNat_of_zero_le h.1
  unfold encI
  rw [if_neg (by show ¬ ((w : Int) = 0); omega), lows_nb]
  show _ = (⟨(nb ((w : Int)).toNat ((m : Int)).toNat).toArray⟩ : ByteArray)
  rw [Int.toNat_natCast, Int.toNat_natCast]
theorem fits_law (a0 a1 a2 a3 a4 a5 a6 a7 a8 : Int) (a9 : ByteArray) (hr : rightI a0 a1 a2 a9 = 0) : fitsL (numsL a0 a1 a2 a3 a4 a5 a6 a7 a8 a9) = true ↔ fits a3 a4 a5 a6 a7 a8 := by
  have h9 := right_text a0 a1 a2 a9 hr
  have hf := first_fit a0 a1 a2 a8 a9 hr
  have ht : fit (a9.size : Int) 2 := ⟨by omega, by show (a9.size : Int) < ((65536 : Nat) : Int); omega⟩
  unfold fits
  rw [← hf]
  simp [fitsL, numsL, ht, and_assoc]
theorem body_law (a0 a1 a2 a3 a4 a5 a6 a7 a8 : Int) (a9 : ByteArray) (hr : rightI a0 a1 a2 a9 = 0) (hf : fits a3 a4 a5 a6 a7 a8) : lowsL (numsL a0 a1 a2 a3 a4 a5 a6 a7 a8 a9) ++ a9 = encL (itemsM a0 a1 a2 a3 a4 a5 a6 a7 a8 a9) := by
  have h1 := (first_fit a0 a1 a2 a8 a9 hr).2 hf.1
  obtain ⟨_, h4, h6⟩ := hf
  have e : encI (0, 0, a9) = ⟨(nb 2 a9.size).toArray⟩ ++ a9 := by unfold encI; rw [if_pos rfl]
  simp only [lowsL, numsL, itemsM, nums_, List.map_cons, List.map_nil, List.cons_append, List.nil_append, encL]
  rw [lows_enc a0 1 (by omega) (h1 a0 (by simp)), lows_enc a1 1 (by omega) (h1 a1 (by simp)), lows_enc a2 1 (by omega) (h1 a2 (by simp)), lows_enc a8 1 (by omega) (h1 a8 (by simp)), lows_enc a3 4 (by omega) (h4 a3 (by simp)), lows_enc a4 4 (by omega) (h4 a4 (by simp)), lows_enc a5 6 (by omega) (h6 a5 (by simp)), lows_enc a6 6 (by omega) (h6 a6 (by simp)), lows_enc a7 6 (by omega) (h6 a7 (by simp)), lows_nb, e, app_nil, app_nil]
  simp only [app_assoc]
theorem bytes_pure (a0 a1 a2 a3 a4 a5 a6 a7 a8 : Int) (a9 : ByteArray) : gharrylaw19_MsgBytes.f 20 a0 a1 a2 a3 a4 a5 a6 a7 a8 a9 = some true := by
  have hlist : (⟨#[]⟩ : ByteArray).toList = ([] : List UInt8) := by rw [Lib.toList_data]
  unfold gharrylaw19_MsgBytes.f
  rw [msg_plain, right_impl 20 (by omega), right_law 20 (by omega)]
  by_cases hr : rightI a0 a1 a2 a9 = 0
  · rw [if_pos hr, hr]
    have h9 := right_text a0 a1 a2 a9 hr
    by_cases hf : fits a3 a4 a5 a6 a7 a8
    · rw [if_pos hf]
      simp only [Option.bind_some]
      rw [if_pos trivial, if_pos trivial, bytes_law 20 (by omega) _ _ _ _ _ _ _ _ _ _ h9]
      simp only [Option.bind_some]
      rw [if_pos ((fits_law a0 a1 a2 a3 a4 a5 a6 a7 a8 a9 hr).2 hf), if_pos trivial, body_law a0 a1 a2 a3 a4 a5 a6 a7 a8 a9 hr hf, seal_plain 20 _ (by rw [body_size]; omega) (by omega)]
      simp only [Option.bind_some]
      rw [if_pos trivial, awake_plain]
      rfl
    · rw [if_neg hf]
      simp only [Option.bind_some]
      rw [if_pos trivial, if_pos trivial, bytes_law 20 (by omega) _ _ _ _ _ _ _ _ _ _ h9]
      simp only [Option.bind_some]
      rw [if_neg (fun c => hf ((fits_law a0 a1 a2 a3 a4 a5 a6 a7 a8 a9 hr).1 c)), hlist, if_pos rfl, if_pos trivial, awake_plain]
      rfl
  · rw [if_neg hr]
    simp only [Option.bind_some]
    rw [if_pos trivial, if_neg hr, hlist, if_pos rfl, if_pos trivial, awake_plain]
    rfl
theorem MsgBytes_walk (a0 a1 a2 a3 a4 a5 a6 a7 a8 : Int) (a9 : ByteArray) (w : World) :
    Calls Try.prog 3 #[.agg #[.int .i64 a0, .int .i64 a1, .int .i64 a2, .int .i64 a3, .int .i64 a4, .int .i64 a5, .int .i64 a6, .int .i64 a7, .int .i64 a8, .string a9]] w fun e w' => e = .returned (.bool true) ∧ Below w.heap.size w w' := gharrylaw19_MsgBytes.calls 20 a0 a1 a2 a3 a4 a5 a6 a7 a8 a9 true w (bytes_pure a0 a1 a2 a3 a4 a5 a6 a7 a8 a9)
end Go.Proofs.Ytkdnebejplollaa.Pure
