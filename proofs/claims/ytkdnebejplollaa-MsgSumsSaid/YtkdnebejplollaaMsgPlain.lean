/- Plain: a message's bytes, as the document has them. No memory in sight. -/
import Derived.Test.YtkdnebejplollaaSealPlain
import Derived.Test.YtkdnebejplollaaItems
import Derived.Test.YtkdnebejplollaaMsgBytes
import Derived.Test.YtkdnebejplollaaPAllx6
namespace Go.Proofs.Ytkdnebejplollaa.Pure
open Go.RowKit Go.Proofs.Ytkdnebejplollaa.PAll Go.Proofs.Ytkdnebejplollaa.Crc Go.Proofs.YtkdnebejplollaaW.PrintWords Go.Proofs.YtkdnebejplollaaW.PrintLast
set_option linter.unusedVariables false
set_option linter.unusedSimpArgs false

/-- Why a message can't be. -/
def rightI (a0 a1 a2 : Int) (a9 : ByteArray) : Int :=
  if a0 < 1 ∨ 6 < a0 then 1 else if a1 < 0 ∨ 2 < a1 ∨ a2 < 0 ∨ 2 < a2 ∨ a1 = a2 then 6 else if 5120 < a9.size then 3 else 0
theorem right_law (k : Nat) (hk : 2 ≤ k) (a0 a1 a2 a3 a4 a5 a6 a7 a8 : Int) (a9 : ByteArray) : gharrylaw19_right.f k a0 a1 a2 a3 a4 a5 a6 a7 a8 a9 = some (rightI a0 a1 a2 a9) := by
  obtain ⟨m, rfl⟩ : ∃ m, k = m + 1 + 1 := ⟨k - 2, by omega⟩
  unfold gharrylaw19_right.f rightI
  by_cases h1 : a0 < 1
  · rw [if_pos h1, if_pos (.inl h1)]; simp only [gharrylaw19_right.j0]; rw [if_pos trivial]
  · rw [if_neg h1]
    by_cases h2 : a0 > 6
    · rw [decide_eq_true h2, if_pos (.inr h2)]; simp only [gharrylaw19_right.j0]; rw [if_pos trivial]
    · rw [decide_eq_false h2, if_neg (by omega)]
      simp only [gharrylaw19_right.j0]
      rw [if_neg (by simp)]
      have j1 : ∀ b : Bool, gharrylaw19_right.j1 (m + 1) b a0 a1 a2 a3 a4 a5 a6 a7 a8 a9 = if b = true then some 6 else if 5120 < a9.size then some 3 else some 0 := fun b => by
        simp only [gharrylaw19_right.j1]
        by_cases hb : b = true
        · rw [if_pos hb, if_pos hb]
        · rw [if_neg hb, if_neg hb]
          by_cases h : 5120 < a9.size
          · rw [if_pos (by omega), if_pos h]
          · rw [if_neg (by omega), if_neg h]
      rw [j1, j1]
      by_cases c1 : a1 < 0
      · rw [if_pos c1, if_pos rfl, if_pos (.inl c1)]
      · rw [if_neg c1]
        by_cases c2 : a1 > 2
        · rw [if_pos c2, if_pos rfl, if_pos (.inr (.inl c2))]
        · rw [if_neg c2]
          by_cases c3 : a2 < 0
          · rw [if_pos c3, if_pos rfl, if_pos (.inr (.inr (.inl c3)))]
          · rw [if_neg c3]
            by_cases c4 : a2 > 2
            · rw [if_pos c4, if_pos rfl, if_pos (.inr (.inr (.inr (.inl c4))))]
            · rw [if_neg c4]
              by_cases c5 : a1 = a2
              · rw [if_pos (by simpa using c5), if_pos (.inr (.inr (.inr (.inr c5))))]
              · rw [if_neg (by simpa using c5), if_neg (show ¬ (a1 < 0 ∨ 2 < a1 ∨ a2 < 0 ∨ 2 < a2 ∨ a1 = a2) by omega)]
                split <;> rfl
theorem right_impl (k : Nat) (hk : 2 ≤ k) (a0 a1 a2 a3 a4 a5 a6 a7 a8 : Int) (a9 : ByteArray) : msg_Right.f k a0 a1 a2 a3 a4 a5 a6 a7 a8 a9 = some (rightI a0 a1 a2 a9) := by
  obtain ⟨m, rfl⟩ : ∃ m, k = m + 1 + 1 := ⟨k - 2, by omega⟩
  unfold msg_Right.f rightI
  by_cases h1 : a0 < 1
  · rw [if_pos h1, if_pos (.inl h1)]; simp only [msg_Right.j0]; rw [if_pos trivial]
  · rw [if_neg h1]
    by_cases h2 : a0 > 6
    · rw [decide_eq_true h2, if_pos (.inr h2)]; simp only [msg_Right.j0]; rw [if_pos trivial]
    · rw [decide_eq_false h2, if_neg (by omega)]
      simp only [msg_Right.j0]
      rw [if_neg (by simp)]
      have j1 : ∀ b : Bool, msg_Right.j1 (m + 1) b a0 a1 a2 a3 a4 a5 a6 a7 a8 a9 = if b = true then some 6 else if 5120 < a9.size then some 3 else some 0 := fun b => by
        simp only [msg_Right.j1]
        by_cases hb : b = true
        · rw [if_pos hb, if_pos hb]
        · rw [if_neg hb, if_neg hb]
          by_cases h : 5120 < a9.size
          · rw [if_pos (by omega), if_pos h]
          · rw [if_neg (by omega), if_neg h]
      rw [j1, j1]
      by_cases c1 : a1 < 0
      · rw [if_pos c1, if_pos rfl, if_pos (.inl c1)]
      · rw [if_neg c1]
        by_cases c2 : a1 > 2
        · rw [if_pos c2, if_pos rfl, if_pos (.inr (.inl c2))]
        · rw [if_neg c2]
          by_cases c3 : a2 < 0
          · rw [if_pos c3, if_pos rfl, if_pos (.inr (.inr (.inl c3)))]
          · rw [if_neg c3]
            by_cases c4 : a2 > 2
            · rw [if_pos c4, if_pos rfl, if_pos (.inr (.inr (.inr (.inl c4))))]
            · rw [if_neg c4]
              by_cases c5 : a1 = a2
              · rw [if_pos (by simpa using c5), if_pos (.inr (.inr (.inr (.inr c5))))]
              · rw [if_neg (by simpa using c5), if_neg (show ¬ (a1 < 0 ∨ 2 < a1 ∨ a2 < 0 ∨ 2 < a2 ∨ a1 = a2) by omega)]
                split <;> rfl

/-- A number that has room. -/
def fit (n : Int) (w : Nat) : Prop := 0 ≤ n ∧ n < ((256 ^ w : Nat) : Int)
instance (n : Int) (w : Nat) : Decidable (fit n w) := inferInstanceAs (Decidable (_ ∧ _))
def E0 : ByteArray := ⟨#[]⟩
theorem pow6 (w : Nat) (h : w ≤ 6) : 256 ^ w ≤ 281474976710656 := Nat.le_trans (Nat.pow_le_pow_right (by omega) h : 256 ^ w ≤ 256 ^ 6) (by decide)
theorem wnum_fit (s : ByteArray) (n : Int) (w : Nat) (h1 : 1 ≤ w) (h6 : w ≤ 6) (hs : s.size ≤ 1152921504606846976) (hf : fit n w) : pack_Writer_Num.f s 0 n (w : Int) = some (s ++ encI (n, (w : Int), E0), 0) := by
  obtain ⟨h0, h2⟩ := hf
  obtain ⟨m, rfl⟩ := Int.eq_ofNat_of_zero_le h0
  have e : encI ((m : Int), (w : Int), E0) = ⟨(nb w m).toArray⟩ := by
    unfold encI
    rw [if_neg (by show ¬ ((w : Int) = 0); omega)]
    show (⟨(nb ((w : Int)).toNat ((m : Int)).toNat).toArray⟩ : ByteArray) = _
    rw [Int.toNat_natCast, Int.toNat_natCast]
  unfold pack_Writer_Num.f
  rw [if_pos rfl, put_ok 10 s m w h1 h6 (by omega) (by omega) (by omega), Option.bind_some, if_pos rfl, e]
theorem wnum_bad (s : ByteArray) (n : Int) (w : Nat) (h1 : 1 ≤ w) (h6 : w ≤ 6) (hf : ¬ fit n w) : pack_Writer_Num.f s 0 n (w : Int) = some (⟨#[]⟩, 6) := by
  unfold fit at hf
  unfold pack_Writer_Num.f
  rw [if_pos rfl, put_range 10 s n w h1 h6 (by omega) (by omega), Option.bind_some, if_neg (by decide)]
theorem wnum_err (s : ByteArray) (e n w : Int) (h : e ≠ 0) : pack_Writer_Num.f s e n w = some (s, e) := by
  unfold pack_Writer_Num.f
  rw [if_neg h]
/-- Numbers of one width, as items. -/
def nums_ (w : Nat) (l : List Int) : List It := l.map fun n => (n, (w : Int), E0)
theorem wnums_err (w : Int) (l : List Int) : ∀ (s : ByteArray) (e : Int), e ≠ 0 → wnums w l (s, e) = some (s, e) := by
  induction l with
  | nil => intro s e h; rfl
  | cons n l ih =>
    intro s e h
    unfold wnums
    rw [wnum_err s e n w h, Option.bind_some]
    exact ih s e h
theorem encI_num (n : Int) (w : Nat) (h1 : 1 ≤ w) : (encI (n, (w : Int), E0)).size = w := by
  unfold encI
  rw [if_neg (by show ¬ ((w : Int) = 0); omega)]
  show (⟨(nb ((w : Int)).toNat n.toNat).toArray⟩ : ByteArray).size = w
  rw [nb_szI, Int.toNat_natCast]
theorem wnums_fit (w : Nat) (h1 : 1 ≤ w) (h6 : w ≤ 6) (l : List Int) : ∀ (s : ByteArray), s.size + l.length * 6 ≤ 1152921504606846976 → (∀ n ∈ l, fit n w) → wnums (w : Int) l (s, 0) = some (s ++ encL (nums_ w l), 0) := by
  induction l with
  | nil => intro s hs h; show some (s, (0 : Int)) = some (s ++ ⟨#[]⟩, 0); rw [app_nil]
  | cons n l ih =>
    intro s hs h
    unfold wnums
    rw [List.length_cons] at hs
    rw [wnum_fit s n w h1 h6 (by omega) (h n List.mem_cons_self), Option.bind_some, ih _ (by rw [ByteArray.size_append, encI_num n w h1]; omega) (fun x hx => h x (List.mem_cons_of_mem _ hx))]
    show some (_ ++ _ ++ _, (0 : Int)) = some (s ++ (encI (n, (w : Int), E0) ++ encL (nums_ w l)), 0)
    rw [app_assoc]
theorem wnums_bad (w : Nat) (h1 : 1 ≤ w) (h6 : w ≤ 6) (l : List Int) : ∀ (s : ByteArray), s.size + l.length * 6 ≤ 1152921504606846976 → (¬ ∀ n ∈ l, fit n w) → wnums (w : Int) l (s, 0) = some (⟨#[]⟩, 6) := by
  induction l with
  | nil => intro s hs h; exact absurd (fun n hn => by cases hn) h
  | cons n l ih =>
    intro s hs h
    unfold wnums
    rw [List.length_cons] at hs
    by_cases hn : fit n w
    · rw [wnum_fit s n w h1 h6 (by omega) hn, Option.bind_some]
      exact ih _ (by rw [ByteArray.size_append, encI_num n w h1]; omega) (fun c => h (fun x hx => by rcases List.mem_cons.1 hx with rfl | hx; exact hn; exact c x hx))
    · rw [wnum_bad s n w h1 h6 hn, Option.bind_some]
      exact wnums_err _ l _ _ (by decide)
theorem wtext_fit (s t : ByteArray) (hs : s.size ≤ 1152921504606846976) (ht : t.size ≤ 65535) : pack_Writer_Text.f s 0 t = some (s ++ encI (0, 0, t), 0) := by
  have hl2 := limit_plain 2 (by omega) (by omega)
  rw [show ((2 : Nat) : Int) = 2 from rfl, show ((256 ^ 2 : Nat) : Int) = 65536 from rfl] at hl2
  have hz : (s ++ (⟨(nb 2 t.size).toArray⟩ : ByteArray)).size = s.size + 2 := by rw [ByteArray.size_append, nb_szI]
  have h : pack_Text.f 10 s t = some ((s ++ ⟨(nb 2 t.size).toArray⟩) ++ t, 0) := by
    unfold pack_Text.f
    rw [hl2, Option.bind_some, if_neg (by omega), show (2 : Int) = ((2 : Nat) : Int) from rfl, put_ok 10 s t.size 2 (by omega) (by omega) (by omega) (by omega) (by omega), Option.bind_some, if_pos (by rw [hz]; omega)]
  have e : encI (0, 0, t) = ⟨(nb 2 t.size).toArray⟩ ++ t := by unfold encI; rw [if_pos rfl]
  unfold pack_Writer_Text.f
  rw [if_pos rfl, h, Option.bind_some, if_pos rfl, e, app_assoc]
theorem wtext_err (s t : ByteArray) (e : Int) (h : e ≠ 0) : pack_Writer_Text.f s e t = some (s, e) := by
  unfold pack_Writer_Text.f
  rw [if_neg h]

/-- A message's items. -/
def itemsM (a0 a1 a2 a3 a4 a5 a6 a7 a8 : Int) (a9 : ByteArray) : List It := nums_ 1 [a0, a1, a2, a8] ++ (nums_ 4 [a3, a4] ++ (nums_ 6 [a5, a6, a7] ++ [(0, 0, a9)]))
/-- Its numbers have room (the first three have it anyway). -/
def fits (a3 a4 a5 a6 a7 a8 : Int) : Prop := fit a8 1 ∧ (∀ n ∈ [a3, a4], fit n 4) ∧ ∀ n ∈ [a5, a6, a7], fit n 6
theorem encL_nums (w : Nat) (h1 : 1 ≤ w) (l : List Int) : (encL (nums_ w l)).size = l.length * w := by
  induction l with
  | nil => simp [nums_, encL]; rfl
  | cons n l ih =>
    show (encI (n, (w : Int), E0) ++ encL (nums_ w l)).size = _
    rw [ByteArray.size_append, encI_num n w h1, ih, List.length_cons, Nat.succ_mul]
    omega
theorem body_size (a0 a1 a2 a3 a4 a5 a6 a7 a8 : Int) (a9 : ByteArray) : (encL (itemsM a0 a1 a2 a3 a4 a5 a6 a7 a8 a9)).size = 32 + a9.size := by
  unfold itemsM
  have e : (encL [((0 : Int), (0 : Int), a9)]).size = 2 + a9.size := by
    show (encI (0, 0, a9) ++ ⟨#[]⟩).size = _
    rw [app_nil]
    unfold encI
    rw [if_pos rfl, ByteArray.size_append, nb_szI]
  rw [encL_app, encL_app, encL_app, ByteArray.size_append, ByteArray.size_append, ByteArray.size_append, encL_nums 1 (by omega), encL_nums 4 (by omega), encL_nums 6 (by omega), e]
  simp
  omega
theorem first_fit (a0 a1 a2 a8 : Int) (a9 : ByteArray) (hr : rightI a0 a1 a2 a9 = 0) : (∀ n ∈ [a0, a1, a2, a8], fit n 1) ↔ fit a8 1 := by
  unfold rightI at hr
  split at hr
  · exact absurd hr (by decide)
  · split at hr
    · exact absurd hr (by decide)
    · rename_i h1 h2
      constructor
      · intro h; exact h a8 (by simp)
      · intro h n hn
        simp only [List.mem_cons, List.not_mem_nil, or_false] at hn
        rcases hn with rfl | rfl | rfl | rfl
        · unfold fit; omega
        · unfold fit; omega
        · unfold fit; omega
        · exact h
theorem right_text (a0 a1 a2 : Int) (a9 : ByteArray) (hr : rightI a0 a1 a2 a9 = 0) : a9.size ≤ 5120 := by
  unfold rightI at hr
  split at hr
  · exact absurd hr (by decide)
  · split at hr
    · exact absurd hr (by decide)
    · split at hr
      · exact absurd hr (by decide)
      · omega
open Classical in
theorem msg_plain (a0 a1 a2 a3 a4 a5 a6 a7 a8 : Int) (a9 : ByteArray) : msg_Bytes.f a0 a1 a2 a3 a4 a5 a6 a7 a8 a9 =
    if rightI a0 a1 a2 a9 = 0 then (if fits a3 a4 a5 a6 a7 a8 then some (sealed (encL (itemsM a0 a1 a2 a3 a4 a5 a6 a7 a8 a9)), 0) else some (⟨#[]⟩, 6)) else some (⟨#[]⟩, rightI a0 a1 a2 a9) := by
  unfold msg_Bytes.f
  rw [right_impl 10 (by omega), Option.bind_some]
  by_cases hr : rightI a0 a1 a2 a9 = 0
  · rw [if_pos hr, if_pos hr]
    have ht := right_text a0 a1 a2 a9 hr
    have hE : ByteArray.size ⟨#[]⟩ = 0 := rfl
    have hbad : ∀ e : Int, e ≠ 0 → ((wnums 4 [a3, a4] (⟨#[]⟩, e)).bind fun s2 => (wnums 6 [a5, a6, a7] s2).bind fun s3 => (pack_Writer_Text.f s3.1 s3.2 a9).bind fun s4 => if s4.2 = 0 then (sum_Seal.f 10 s4.1).bind fun t => some (t, (0 : Int)) else some (⟨#[]⟩, s4.2)) = some (⟨#[]⟩, e) := fun e he => by
      rw [wnums_err _ _ _ e he, Option.bind_some, wnums_err _ _ _ e he, Option.bind_some, wtext_err _ _ e he, Option.bind_some, if_neg he]
    by_cases h1 : fit a8 1
    · rw [show (1 : Int) = ((1 : Nat) : Int) from rfl, wnums_fit 1 (by omega) (by omega) _ ⟨#[]⟩ (by rw [hE]; simp only [List.length_cons, List.length_nil]; omega) ((first_fit a0 a1 a2 a8 a9 hr).2 h1), Option.bind_some, nil_app]
      have z1 := encL_nums 1 (by omega) [a0, a1, a2, a8]
      generalize hA : encL (nums_ 1 [a0, a1, a2, a8]) = A at z1
      simp only [List.length_cons, List.length_nil] at z1
      by_cases h2 : ∀ n ∈ [a3, a4], fit n 4
      · rw [show (4 : Int) = ((4 : Nat) : Int) from rfl, wnums_fit 4 (by omega) (by omega) _ A (by simp only [List.length_cons, List.length_nil]; omega) h2, Option.bind_some]
        have z2 := encL_nums 4 (by omega) [a3, a4]
        generalize hB : encL (nums_ 4 [a3, a4]) = B at z2
        simp only [List.length_cons, List.length_nil] at z2
        have z3 := encL_nums 6 (by omega) [a5, a6, a7]
        generalize hC : encL (nums_ 6 [a5, a6, a7]) = C at z3
        simp only [List.length_cons, List.length_nil] at z3
        by_cases h3 : ∀ n ∈ [a5, a6, a7], fit n 6
        · rw [show (6 : Int) = ((6 : Nat) : Int) from rfl, wnums_fit 6 (by omega) (by omega) _ (A ++ B) (by rw [ByteArray.size_append]; simp only [List.length_cons, List.length_nil]; omega) h3, Option.bind_some, hC]
          have z : (A ++ B ++ C).size ≤ 100 := by rw [ByteArray.size_append, ByteArray.size_append]; omega
          rw [wtext_fit (A ++ B ++ C) a9 (by omega) (by omega), Option.bind_some, if_pos rfl, if_pos ⟨h1, h2, h3⟩]
          have e : A ++ B ++ C ++ encI (0, 0, a9) = encL (itemsM a0 a1 a2 a3 a4 a5 a6 a7 a8 a9) := by
            unfold itemsM
            rw [encL_app, encL_app, encL_app, hA, hB, hC]
            show _ = A ++ (B ++ (C ++ (encI (0, 0, a9) ++ ⟨#[]⟩)))
            rw [app_nil, app_assoc, app_assoc]
          show (sum_Seal.f 10 (A ++ B ++ C ++ encI (0, 0, a9))).bind _ = _
          rw [e, seal_plain 10 _ (by rw [body_size]; omega) (by omega), Option.bind_some]
        · rw [show (6 : Int) = ((6 : Nat) : Int) from rfl, wnums_bad 6 (by omega) (by omega) _ (A ++ B) (by rw [ByteArray.size_append]; simp only [List.length_cons, List.length_nil]; omega) h3, Option.bind_some, wtext_err _ _ 6 (by decide), Option.bind_some, if_neg (by decide), if_neg (fun c => h3 c.2.2)]
          rfl
      · rw [show (4 : Int) = ((4 : Nat) : Int) from rfl, wnums_bad 4 (by omega) (by omega) _ A (by simp only [List.length_cons, List.length_nil]; omega) h2, Option.bind_some, wnums_err _ _ _ 6 (by decide), Option.bind_some, wtext_err _ _ 6 (by decide), Option.bind_some, if_neg (by decide), if_neg (fun c => h2 c.2.1)]
    · rw [show (1 : Int) = ((1 : Nat) : Int) from rfl, wnums_bad 1 (by omega) (by omega) _ ⟨#[]⟩ (by rw [hE]; simp only [List.length_cons, List.length_nil]; omega) (fun c => h1 ((first_fit a0 a1 a2 a8 a9 hr).1 c)), Option.bind_some, hbad 6 (by decide), if_neg (fun c => h1 c.1)]
  · rw [if_neg hr, if_neg hr]
theorem awake_plain : gharrylaw19_awake.f = some true := by
  have hr : rightI 1 0 1 ⟨#[]⟩ = 0 := by decide
  have hf : fits 0 0 0 0 0 0 := ⟨by decide, by decide, by decide⟩
  unfold gharrylaw19_awake.f
  rw [msg_plain, if_pos hr, if_pos hf, Option.bind_some, if_pos rfl]
  rw [sealed_size, body_size]
  rfl
end Go.Proofs.Ytkdnebejplollaa.Pure
