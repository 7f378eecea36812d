/- Plain facts on the register of a sum of 32 bits: one step over a bit, its linearity, nibbles, bytes, bursts. No program in sight. -/
set_option linter.unusedVariables false
namespace Go.Proofs.Ytdphikbkknkhiaa.Crc

def poly : Nat := 0x82f63b78
/-- One bit of noughts. -/
def L1 (c : Nat) : Nat := if c % 2 = 1 then (c / 2) ^^^ poly else c / 2
/-- So many bits of noughts. -/
def Ln : Nat → Nat → Nat
  | 0, c => c
  | n + 1, c => Ln n (L1 c)

theorem Ln_add (a b c : Nat) : Ln (a + b) c = Ln b (Ln a c) := by
  induction a generalizing c with
  | zero => simp [Ln]
  | succ a ih => rw [Nat.succ_add]; simp [Ln, ih]
theorem Ln_succ' (n c : Nat) : Ln (n + 1) c = L1 (Ln n c) := by rw [Ln_add]; rfl

theorem xor_lt32 {a b : Nat} (ha : a < 4294967296) (hb : b < 4294967296) : a ^^^ b < 4294967296 :=
  Nat.xor_lt_two_pow (n := 32) ha hb
theorem L1_lt {c : Nat} (h : c < 4294967296) : L1 c < 4294967296 := by
  unfold L1
  split
  · exact xor_lt32 (by omega) (by decide)
  · omega
theorem Ln_lt (n : Nat) : ∀ {c : Nat}, c < 4294967296 → Ln n c < 4294967296 := by
  induction n with
  | zero => intro c h; exact h
  | succ n ih => intro c h; exact ih (L1_lt h)

theorem xor_mod2 (a b : Nat) : (a ^^^ b) % 2 = (a % 2 + b % 2) % 2 := by
  have h := Nat.xor_mod_two_pow (a := a) (b := b) (n := 1)
  simp only [Nat.pow_one] at h
  rw [h]
  rcases Nat.mod_two_eq_zero_or_one a with ha | ha <;> rcases Nat.mod_two_eq_zero_or_one b with hb | hb <;> rw [ha, hb] <;> rfl
theorem xor_div2 (a b : Nat) : (a ^^^ b) / 2 = (a / 2) ^^^ (b / 2) := by
  have h := Nat.shiftRight_xor_distrib (a := a) (b := b) (i := 1)
  simpa [Nat.shiftRight_eq_div_pow] using h
theorem L1_xor (a b : Nat) : L1 (a ^^^ b) = L1 a ^^^ L1 b := by
  unfold L1
  rw [xor_mod2, xor_div2]
  rcases Nat.mod_two_eq_zero_or_one a with ha | ha <;> rcases Nat.mod_two_eq_zero_or_one b with hb | hb <;> rw [ha, hb] <;> simp
  · rw [Nat.xor_assoc]
  · rw [Nat.xor_assoc, Nat.xor_assoc, Nat.xor_comm poly]
  · rw [Nat.xor_assoc, Nat.xor_comm poly, Nat.xor_assoc, Nat.xor_self, Nat.xor_zero]
theorem Ln_xor (n : Nat) : ∀ a b : Nat, Ln n (a ^^^ b) = Ln n a ^^^ Ln n b := by
  induction n with
  | zero => intro a b; rfl
  | succ n ih => intro a b; simp only [Ln]; rw [L1_xor, ih]
theorem L1_double (x : Nat) : L1 (2 * x) = x := by unfold L1; rw [if_neg (by omega)]; omega
theorem Ln_mul (n : Nat) : ∀ x : Nat, Ln n (2 ^ n * x) = x := by
  induction n with
  | zero => intro x; simp [Ln]
  | succ n ih =>
    intro x
    simp only [Ln]
    rw [Nat.pow_succ, Nat.mul_comm (2 ^ n) 2, Nat.mul_assoc, L1_double, ih]
theorem Ln_zero (n : Nat) : Ln n 0 = 0 := by
  have := Ln_mul n 0
  simpa using this
theorem Ln_pow (n : Nat) : Ln n (2 ^ n) = 1 := by
  have := Ln_mul n 1
  simpa using this

theorem Ln_0 (c : Nat) : Ln 0 c = c := rfl
theorem Ln_succ (n c : Nat) : Ln (n + 1) c = Ln n (L1 c) := rfl
attribute [irreducible] Ln

theorem split_low (c n : Nat) : c = (2 ^ n * (c / 2 ^ n)) ^^^ (c % 2 ^ n) := by
  have h := Nat.two_pow_add_eq_or_of_lt (i := n) (b := c % 2 ^ n) (Nat.mod_lt _ (Nat.two_pow_pos n)) (c / 2 ^ n)
  apply Nat.eq_of_testBit_eq
  intro j
  rw [Nat.testBit_xor, Nat.testBit_two_pow_mul, Nat.testBit_mod_two_pow]
  by_cases hj : n ≤ j
  · rw [Nat.testBit_div_two_pow]
    simp [hj, Nat.not_lt.2 hj]
  · simp [hj, Nat.lt_of_not_le hj]
/-- The table of nibbles: four bits at once. -/
theorem Ln_nibble (c : Nat) : Ln 4 c = (c / 16) ^^^ Ln 4 (c % 16) := by
  have h := split_low c 4
  have h2 := congrArg (Ln 4) h
  rw [Ln_xor, Ln_mul] at h2
  simpa using h2

/-- A register that has gone over a text. -/
def regN (c : Nat) : List UInt8 → Nat
  | [] => c
  | b :: l => regN (Ln 8 (c ^^^ b.toNat)) l

theorem regN_cons (c : Nat) (b : UInt8) (l : List UInt8) : regN c (b :: l) = regN (Ln 8 (c ^^^ b.toNat)) l := rfl
theorem regN_append (c : Nat) (s t : List UInt8) : regN c (s ++ t) = regN (regN c s) t := by
  induction s generalizing c with
  | nil => rfl
  | cons b s ih => rw [List.cons_append, regN_cons, regN_cons]; exact ih (Ln 8 (c ^^^ b.toNat))
theorem regN_snoc (c : Nat) (s : List UInt8) (b : UInt8) : regN c (s ++ [b]) = Ln 8 (regN c s ^^^ b.toNat) := by
  rw [regN_append]; rfl
theorem byte_lt (b : UInt8) : b.toNat < 4294967296 := by have := b.toNat_lt; omega
theorem regN_lt (s : List UInt8) : ∀ {c : Nat}, c < 4294967296 → regN c s < 4294967296 := by
  induction s with
  | nil => intro c h; exact h
  | cons b s ih => intro c h; rw [regN_cons]; exact ih (Ln_lt 8 (xor_lt32 h (byte_lt b)))

/-- The register's beginning goes through a text as through noughts. -/
theorem regN_xor (s : List UInt8) : ∀ c d : Nat, regN (c ^^^ d) s = regN c s ^^^ Ln (8 * s.length) d := by
  induction s with
  | nil => intro c d; show c ^^^ d = c ^^^ Ln 0 d; rw [Ln_0]
  | cons b s ih =>
    intro c d
    rw [regN_cons, regN_cons, List.length_cons]
    rw [show c ^^^ d ^^^ b.toNat = (c ^^^ b.toNat) ^^^ d from by rw [Nat.xor_assoc, Nat.xor_comm d, ← Nat.xor_assoc], Ln_xor, ih]
    rw [show 8 * (s.length + 1) = 8 + 8 * s.length from by omega, Ln_add]
theorem regN_zeros (n c : Nat) : regN c (List.replicate n 0) = Ln (8 * n) c := by
  induction n generalizing c with
  | zero => show c = Ln 0 c; rw [Ln_0]
  | succ n ih =>
    rw [List.replicate_succ, regN_cons, ih, show 8 * (n + 1) = 8 + 8 * n from by omega, Ln_add]
    simp

/-- The sum of a text. -/
def sumN (s : List UInt8) : Nat := regN 4294967295 s ^^^ 4294967295
theorem sumN_lt (s : List UInt8) : sumN s < 4294967296 := xor_lt32 (regN_lt s (by decide)) (by decide)
theorem xor_back (a b : Nat) : a ^^^ b ^^^ b = a := by rw [Nat.xor_assoc, Nat.xor_self, Nat.xor_zero]

theorem sum_more (s t : List UInt8) : regN (sumN s ^^^ 4294967295) t ^^^ 4294967295 = sumN (s ++ t) := by
  unfold sumN
  rw [xor_back, regN_append]
theorem sum_join (s t : List UInt8) : Ln (8 * t.length) (sumN s) ^^^ sumN t = sumN (s ++ t) := by
  rw [← sum_more]
  rw [Nat.xor_comm (sumN s), regN_xor]
  show _ ^^^ (regN 4294967295 t ^^^ 4294967295) = _
  rw [Nat.xor_comm (regN 4294967295 t) (Ln _ _), Nat.xor_assoc]
theorem join_any (a b n : Nat) : regN (a ^^^ 4294967295) (List.replicate n 0) ^^^ 4294967295 ^^^ sumN (List.replicate n 0) ^^^ b = Ln (8 * n) a ^^^ b := by
  unfold sumN
  rw [Nat.xor_comm a, regN_xor, List.length_replicate]
  congr 1
  generalize regN 4294967295 (List.replicate n 0) = x
  generalize Ln (8 * n) a = y
  rw [Nat.xor_assoc, Nat.xor_comm 4294967295, xor_back, Nat.xor_comm x, xor_back]

/-! ### Bursts -/
theorem L1_ker {c : Nat} (hc : c < 4294967296) (h : L1 c = 0) : c = 0 := by
  unfold L1 at h
  split at h
  · have h2 : c / 2 = poly := by
      have := congrArg (· ^^^ poly) h
      simpa [xor_back] using this
    unfold poly at h2
    omega
  · omega
theorem Ln_ker (n : Nat) : ∀ {c : Nat}, c < 4294967296 → Ln n c = 0 → c = 0 := by
  induction n with
  | zero => intro c _ h; rw [Ln_0] at h; exact h
  | succ n ih => intro c hc h; rw [Ln_succ] at h; exact L1_ker hc (ih (L1_lt hc) h)

/-- One bit of a text turned. -/
def flip (l : List UInt8) (bit : Nat) : List UInt8 := l.set (bit / 8) (l.getD (bit / 8) 0 ^^^ UInt8.ofNat (2 ^ (bit % 8)))
theorem flip_length (l : List UInt8) (bit : Nat) : (flip l bit).length = l.length := by simp [flip]

theorem u8_xor_toNat (a b : UInt8) : (a ^^^ b).toNat = a.toNat ^^^ b.toNat := UInt8.toNat_xor a b
theorem u8_pow (r : Nat) (h : r < 8) : (UInt8.ofNat (2 ^ r)).toNat = 2 ^ r := by
  have : 2 ^ r < 2 ^ 8 := Nat.pow_lt_pow_right (by omega) h
  rw [UInt8.toNat_ofNat']
  exact Nat.mod_eq_of_lt this

theorem regN_flip (l : List UInt8) : ∀ (c bit : Nat), bit < 8 * l.length → regN c (flip l bit) = regN c l ^^^ Ln (8 * l.length - bit) 1 := by
  induction l with
  | nil => intro c bit h; simp at h
  | cons b l ih =>
    intro c bit h
    by_cases hb : bit < 8
    · have h0 : bit / 8 = 0 := by omega
      have h1 : bit % 8 = bit := by omega
      simp only [flip, h0, h1, List.set_cons_zero, List.getD_cons_zero]
      rw [regN_cons, regN_cons, List.length_cons, u8_xor_toNat, u8_pow bit hb, ← Nat.xor_assoc, Ln_xor, regN_xor, ← Ln_add]
      congr 1
      rw [show 8 + 8 * l.length = bit + (8 * (l.length + 1) - bit) from by omega, Ln_add, Ln_pow]
    · obtain ⟨k, rfl⟩ : ∃ k, bit = k + 8 := ⟨bit - 8, by omega⟩
      have h0 : (k + 8) / 8 = k / 8 + 1 := by omega
      have h1 : (k + 8) % 8 = k % 8 := by omega
      have e : flip (b :: l) (k + 8) = b :: flip l k := by
        simp only [flip, h0, h1, List.set_cons_succ, List.getD_cons_succ]
      rw [List.length_cons] at h
      rw [e, regN_cons, regN_cons, List.length_cons, ih _ k (by omega), show 8 * (l.length + 1) - (k + 8) = 8 * l.length - k from by omega]

theorem mod_succ_bit (p i : Nat) : p % 2 ^ (i + 1) = if p / 2 ^ i % 2 = 1 then (p % 2 ^ i) ^^^ 2 ^ i else p % 2 ^ i := by
  apply Nat.eq_of_testBit_eq
  intro j
  have hb : p.testBit i = decide (p / 2 ^ i % 2 = 1) := by
    rw [Nat.testBit_eq_decide_div_mod_eq]
  split
  · rename_i h
    rw [Nat.testBit_xor, Nat.testBit_mod_two_pow, Nat.testBit_mod_two_pow, Nat.testBit_two_pow]
    by_cases hj : j = i
    · subst hj; simp [hb, h]
    · by_cases hlt : j < i
      · simp [hlt, show j < i + 1 by omega, show ¬ i = j by omega]
      · simp [hlt, show ¬ j < i + 1 by omega, show ¬ i = j by omega]
  · rename_i h
    rw [Nat.testBit_mod_two_pow, Nat.testBit_mod_two_pow]
    by_cases hj : j = i
    · subst hj; simp [hb, h]
    · by_cases hlt : j < i
      · simp [hlt, show j < i + 1 by omega]
      · simp [hlt, show ¬ j < i + 1 by omega]

/-- What a round of the burst does to the register. -/
theorem burst_step {l b : List UInt8} {c at_ p i : Nat} (hl : b.length = l.length) (hi : at_ + i < 8 * l.length)
    (hbit : p / 2 ^ i % 2 = 1) (h : regN c b = regN c l ^^^ Ln (8 * l.length - at_) (p % 2 ^ i)) :
    regN c (flip b (at_ + i)) = regN c l ^^^ Ln (8 * l.length - at_) (p % 2 ^ (i + 1)) := by
  rw [regN_flip b c _ (by omega), h, hl, mod_succ_bit, if_pos hbit, Ln_xor, Nat.xor_assoc]
  congr 2
  rw [show 8 * l.length - at_ = i + (8 * l.length - (at_ + i)) from by omega, Ln_add, Ln_pow]
theorem burst_skip {at_ p i n : Nat} (hbit : ¬ p / 2 ^ i % 2 = 1) : Ln (n - at_) (p % 2 ^ (i + 1)) = Ln (n - at_) (p % 2 ^ i) := by
  rw [mod_succ_bit, if_neg hbit]
theorem burst_ne {l b : List UInt8} {m p : Nat} (h : regN 4294967295 b = regN 4294967295 l ^^^ Ln m p) (hp : p < 4294967296) (h0 : p ≠ 0) : sumN b ≠ sumN l := by
  intro e
  unfold sumN at e
  have e2 : regN 4294967295 b = regN 4294967295 l := by
    have := congrArg (· ^^^ 4294967295) e
    simpa [xor_back] using this
  rw [h] at e2
  have e3 : Ln m p = 0 := by
    have := congrArg (regN 4294967295 l ^^^ ·) e2
    simpa [← Nat.xor_assoc] using this
  exact h0 (Ln_ker m hp e3)

/-! ### Matrices: what becomes of each bit -/
/-- The columns of a map, joined by the bits of a number, from bit i on. -/
def timesN (f : Nat → Nat) (c : Nat) : Nat → Nat
  | 0 => 0
  | i + 1 => if c / 2 ^ i % 2 = 1 then timesN f c i ^^^ f i else timesN f c i
theorem timesN_Ln (m c : Nat) : ∀ i, timesN (fun k => Ln m (2 ^ k)) c i = Ln m (c % 2 ^ i) := by
  intro i
  induction i with
  | zero => simp [timesN, Nat.mod_one, Ln_zero]
  | succ i ih =>
    simp only [timesN]
    rw [mod_succ_bit]
    split
    · rw [ih, Ln_xor]
    · exact ih
theorem timesN_congr {f g : Nat → Nat} (c : Nat) : ∀ i, (∀ k, k < i → f k = g k) → timesN f c i = timesN g c i := by
  intro i
  induction i with
  | zero => intro _; rfl
  | succ i ih =>
    intro h
    simp only [timesN]
    rw [ih fun k hk => h k (by omega), h i (by omega)]
theorem timesN_32 (m c : Nat) (hc : c < 4294967296) : timesN (fun k => Ln m (2 ^ k)) c 32 = Ln m c := by
  rw [timesN_Ln, Nat.mod_eq_of_lt hc]

theorem sum_example : sumN [49,50,51,52,53,54,55,56,57] = 3808858755 := by decide +kernel
end Go.Proofs.Ytdphikbkknkhiaa.Crc
