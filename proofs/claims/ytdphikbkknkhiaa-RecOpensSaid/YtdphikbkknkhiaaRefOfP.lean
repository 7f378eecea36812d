/- Plain: which record the document says that bytes are; rec.Of answers alike. No memory in sight. -/
import Derived.Test.YtdphikbkknkhiaaRefChg
import Derived.Test.YtdphikbkknkhiaaRecOfBack
namespace Go.Proofs.Ytdphikbkknkhiaa.Pure
open Go.RowKit Go.Proofs.Ytdphikbkknkhiaa.PAll Go.Proofs.YtdphikbkknkhiaaW.PrintWords Go.Proofs.YtdphikbkknkhiaaW.PrintLast Go.Proofs.YtdphikbkknkhiaaW.PrintMore
set_option linter.unusedVariables false
set_option linter.unusedSimpArgs false

/-- The document's loop over images. -/
def imgR (s : ByteArray) : Nat → List S36 → Int → Int → List S36 × Int × Int
  | 0, li, a, e => (li, a, e)
  | d + 1, li, a, e => if e = 0 then imgR s d (li ++ [⟨(numS s a e 2).1, (textS s (numS s a e 2).2.1 (numS s a e 2).2.2 224).1⟩]) (textS s (numS s a e 2).2.1 (numS s a e 2).2.2 224).2.1 (textS s (numS s a e 2).2.1 (numS s a e 2).2.2 224).2.2 else (li, a, e)
/-- The document's loop over transactions. -/
def tabR (s : ByteArray) : Nat → List S55 → Int → Int → List S55 × Int × Int
  | 0, li, a, e => (li, a, e)
  | d + 1, li, a, e => if e = 0 then tabR s d (li ++ [⟨(numS s a e 6).1, (numS s (numS s a e 6).2.1 (numS s a e 6).2.2 6).1⟩]) (numS s (numS s a e 6).2.1 (numS s a e 6).2.2 6).2.1 (numS s (numS s a e 6).2.1 (numS s a e 6).2.2 6).2.2 else (li, a, e)
theorem imgR_err (s : ByteArray) (d : Nat) (li : List S36) (a e : Int) (h : e ≠ 0) : imgR s d li a e = (li, a, e) := by
  cases d with
  | zero => rfl
  | succ d => unfold imgR; rw [if_neg h]
theorem tabR_err (s : ByteArray) (d : Nat) (li : List S55) (a e : Int) (h : e ≠ 0) : tabR s d li a e = (li, a, e) := by
  cases d with
  | zero => rfl
  | succ d => unfold tabR; rw [if_neg h]
def refF (s : ByteArray) (k a : Int) : Got :=
  if k = 1 ∨ k = 2 then
    let r := imgR s (numS s a 0 1).1.toNat [] (numS s a 0 1).2.1 (numS s a 0 1).2.2
    ⟨zeroR k, r.1, [], r.2.1, r.2.2⟩
  else if k = 9 then
    let r := tabR s (numS s a 0 1).1.toNat [] (numS s a 0 1).2.1 (numS s a 0 1).2.2
    ⟨zeroR k, [], r.1, r.2.1, r.2.2⟩
  else readF s k a
def refOfP (s : ByteArray) : Got :=
  if (numS s 0 0 1).2.2 ≠ 0 then ⟨zeroR 0, [], [], 0, (numS s 0 0 1).2.2⟩
  else if (refF s (numS s 0 0 1).1 (numS s 0 0 1).2.1).e ≠ 0 then ⟨zeroR 0, [], [], 0, (refF s (numS s 0 0 1).1 (numS s 0 0 1).2.1).e⟩
  else if (cbodyP (refF s (numS s 0 0 1).1 (numS s 0 0 1).2.1).q (refF s (numS s 0 0 1).1 (numS s 0 0 1).2.1).li (refF s (numS s 0 0 1).1 (numS s 0 0 1).2.1).lt).2 ≠ 0 ∨ (cbodyP (refF s (numS s 0 0 1).1 (numS s 0 0 1).2.1).q (refF s (numS s 0 0 1).1 (numS s 0 0 1).2.1).li (refF s (numS s 0 0 1).1 (numS s 0 0 1).2.1).lt).1 ≠ s then ⟨zeroR 0, [], [], 0, 4⟩
  else ⟨(refF s (numS s 0 0 1).1 (numS s 0 0 1).2.1).q, (refF s (numS s 0 0 1).1 (numS s 0 0 1).2.1).li, (refF s (numS s 0 0 1).1 (numS s 0 0 1).2.1).lt, 0, 0⟩
theorem refOfP_err (s : ByteArray) (k a e : Int) (h : numS s 0 0 1 = (k, a, e)) (he : e ≠ 0) : refOfP s = ⟨zeroR 0, [], [], 0, e⟩ := by
  unfold refOfP; rw [h]; rw [if_pos he]
theorem refOfP_bad (s : ByteArray) (k a : Int) (h : numS s 0 0 1 = (k, a, 0)) (he : (refF s k a).e ≠ 0) : refOfP s = ⟨zeroR 0, [], [], 0, (refF s k a).e⟩ := by
  unfold refOfP; rw [h]; rw [if_neg (fun c => c rfl), if_pos he]
theorem refOfP_not (s : ByteArray) (k a : Int) (h : numS s 0 0 1 = (k, a, 0)) (he : (refF s k a).e = 0) (hb : (cbodyP (refF s k a).q (refF s k a).li (refF s k a).lt).2 ≠ 0 ∨ (cbodyP (refF s k a).q (refF s k a).li (refF s k a).lt).1 ≠ s) : refOfP s = ⟨zeroR 0, [], [], 0, 4⟩ := by
  unfold refOfP; rw [h]; rw [if_neg (fun c => c rfl), if_neg (fun c => c he), if_pos hb]
theorem refOfP_ok (s : ByteArray) (k a : Int) (h : numS s 0 0 1 = (k, a, 0)) (he : (refF s k a).e = 0) (hb : ¬ ((cbodyP (refF s k a).q (refF s k a).li (refF s k a).lt).2 ≠ 0 ∨ (cbodyP (refF s k a).q (refF s k a).li (refF s k a).lt).1 ≠ s)) : refOfP s = ⟨(refF s k a).q, (refF s k a).li, (refF s k a).lt, 0, 0⟩ := by
  unfold refOfP; rw [h]; rw [if_neg (fun c => c rfl), if_neg (fun c => c he), if_neg hb]

/-! Both loops. -/
theorem imgs_both (s : ByteArray) (n : Int) (d : Nat) : ∀ (k : Nat) (li : List S36) (j : Nat) (a : Int), RInv s a → n = (j : Int) + d → n ≤ 255 → li.length ≤ j → d + 3 ≤ k →
    ∃ li', rec_readImages.l0 k li n (j : Int) s a 0 = some (li', s, (imgR s d li a 0).2.1, (imgR s d li a 0).2.2) ∧ ((imgR s d li a 0).2.2 = 0 → li' = (imgR s d li a 0).1) := by
  induction d with
  | zero =>
    intro k li j a hv hj hn hl hk
    obtain ⟨m, rfl⟩ : ∃ m, k = m + 1 := ⟨k - 1, by omega⟩
    simp only [rec_readImages.l0]
    rw [if_neg (by omega)]
    exact ⟨_, rfl, fun _ => rfl⟩
  | succ d ih =>
    intro k li j a hv hj hn hl hk
    obtain ⟨m, rfl⟩ : ∃ m, k = m + 1 := ⟨k - 1, by omega⟩
    simp only [rec_readImages.l0]
    have hlt : (j : Int) < n := by omega
    rw [if_pos hlt, num_is hv 0 2]
    simp only [Option.bind_some]
    rw [text_is (numS_inv hv 0 2) m (by omega)]
    simp only [Option.bind_some, pack_Reader_Err.f]
    have hv2 := textS_inv (numS_inv hv 0 2) (numS s a 0 2).2.2 224
    have himg : imgR s (d + 1) li a 0 = imgR s d (li ++ [⟨(numS s a 0 2).1, (textS s (numS s a 0 2).2.1 (numS s a 0 2).2.2 224).1⟩]) (textS s (numS s a 0 2).2.1 (numS s a 0 2).2.2 224).2.1 (textS s (numS s a 0 2).2.1 (numS s a 0 2).2.2 224).2.2 := by
      conv => lhs; unfold imgR
      rw [if_pos rfl]
    rw [himg]
    by_cases he : (textS s (numS s a 0 2).2.1 (numS s a 0 2).2.2 224).2.2 = 0
    · rw [if_pos he, if_pos (by omega), w64p (by omega) (by omega), he]
      exact ih m _ (j + 1) _ hv2 (by omega) hn (by rw [List.length_append]; show li.length + 1 ≤ _; omega) (by omega)
    · rw [if_neg he, imgR_err s d _ _ _ he]
      exact ⟨_, rfl, fun c => absurd c he⟩
theorem numS_err (s : ByteArray) (a e w : Int) (h : e ≠ 0) : numS s a e w = (0, a, e) := by
  unfold numS rawS
  rw [if_neg (fun c => h c.1), if_neg h]
  rfl
theorem numS_bad {s : ByteArray} {a : Int} {n o f : Int} (h : numS s a 0 1 = (n, o, f)) (hf : f ≠ 0) : n = 0 := by
  unfold numS rawS at h
  rw [if_neg (by omega), if_pos rfl, if_neg (by omega)] at h
  split at h
  · simp only [Prod.mk.injEq] at h
    rw [← h.1]; rfl
  · simp only [Prod.mk.injEq] at h
    exact absurd h.2.2.symm hf
theorem tabs_err (s : ByteArray) (n : Int) (e : Int) (he : e ≠ 0) (d : Nat) : ∀ (k : Nat) (li : List S55) (j : Nat) (a : Int), RInv s a → n = (j : Int) + d → n ≤ 255 → li.length ≤ j → d + 3 ≤ k →
    ∃ li', rec_readTable.l0 k li n (j : Int) s a e = some (li', s, a, e) := by
  induction d with
  | zero =>
    intro k li j a hv hj hn hl hk
    obtain ⟨m, rfl⟩ : ∃ m, k = m + 1 := ⟨k - 1, by omega⟩
    simp only [rec_readTable.l0]
    rw [if_neg (by omega)]
    exact ⟨_, rfl⟩
  | succ d ih =>
    intro k li j a hv hj hn hl hk
    obtain ⟨m, rfl⟩ : ∃ m, k = m + 1 := ⟨k - 1, by omega⟩
    simp only [rec_readTable.l0]
    rw [if_pos (by omega), num_is hv e 6, numS_err s a e 6 he]
    simp only [Option.bind_some]
    rw [num_is hv e 6, numS_err s a e 6 he]
    simp only [Option.bind_some]
    rw [if_pos (by omega), w64p (by omega) (by omega)]
    exact ih m _ (j + 1) _ hv (by omega) hn (by rw [List.length_append]; show li.length + 1 ≤ _; omega) (by omega)
theorem tabs_both (s : ByteArray) (n : Int) (d : Nat) : ∀ (k : Nat) (li : List S55) (j : Nat) (a : Int), RInv s a → n = (j : Int) + d → n ≤ 255 → li.length ≤ j → d + 3 ≤ k →
    ∃ li', rec_readTable.l0 k li n (j : Int) s a 0 = some (li', s, (tabR s d li a 0).2.1, (tabR s d li a 0).2.2) ∧ ((tabR s d li a 0).2.2 = 0 → li' = (tabR s d li a 0).1) := by
  induction d with
  | zero =>
    intro k li j a hv hj hn hl hk
    obtain ⟨m, rfl⟩ : ∃ m, k = m + 1 := ⟨k - 1, by omega⟩
    simp only [rec_readTable.l0]
    rw [if_neg (by omega)]
    exact ⟨_, rfl, fun _ => rfl⟩
  | succ d ih =>
    intro k li j a hv hj hn hl hk
    obtain ⟨m, rfl⟩ : ∃ m, k = m + 1 := ⟨k - 1, by omega⟩
    simp only [rec_readTable.l0]
    rw [if_pos (by omega), num_is hv 0 6]
    simp only [Option.bind_some]
    rw [num_is (numS_inv hv 0 6) _ 6]
    simp only [Option.bind_some]
    have hv2 := numS_inv (numS_inv hv 0 6) (numS s a 0 6).2.2 6
    have htab : tabR s (d + 1) li a 0 = tabR s d (li ++ [⟨(numS s a 0 6).1, (numS s (numS s a 0 6).2.1 (numS s a 0 6).2.2 6).1⟩]) (numS s (numS s a 0 6).2.1 (numS s a 0 6).2.2 6).2.1 (numS s (numS s a 0 6).2.1 (numS s a 0 6).2.2 6).2.2 := by
      conv => lhs; unfold tabR
      rw [if_pos rfl]
    rw [htab, if_pos (by omega), w64p (by omega) (by omega)]
    by_cases he : (numS s (numS s a 0 6).2.1 (numS s a 0 6).2.2 6).2.2 = 0
    · rw [he]
      exact ih m _ (j + 1) _ hv2 (by omega) hn (by rw [List.length_append]; show li.length + 1 ≤ _; omega) (by omega)
    · rw [tabR_err s d _ _ _ he]
      obtain ⟨li', h⟩ := tabs_err s n _ he d m (li ++ [⟨(numS s a 0 6).1, (numS s (numS s a 0 6).2.1 (numS s a 0 6).2.2 6).1⟩]) (j + 1) _ hv2 (by omega) hn (by rw [List.length_append]; show li.length + 1 ≤ _; omega) (by omega)
      exact ⟨li', h, fun c => absurd c he⟩

/-- What is read is one, but for what an error leaves. -/
theorem refF_readF (s : ByteArray) (k a : Int) (h : RInv s a) : (refF s k a).e = (readF s k a).e ∧ ((refF s k a).e = 0 → refF s k a = readF s k a) := by
  obtain ⟨n, o, f, hn⟩ : ∃ n o f, numS s a 0 1 = (n, o, f) := ⟨_, _, _, rfl⟩
  have h0 := numS_lo (s := s) (at_ := a) 0 1
  have h1 := num1_lt (s := s) (a := a) (e := 0)
  have hv := numS_inv h 0 1
  rw [hn] at h0 h1 hv
  simp only at h0 h1 hv
  by_cases k12 : k = 1 ∨ k = 2
  · have e1 : refF s k a = ⟨zeroR k, (imgR s n.toNat [] o f).1, [], (imgR s n.toNat [] o f).2.1, (imgR s n.toNat [] o f).2.2⟩ := by
      unfold refF; rw [if_pos k12, hn]
    obtain ⟨li', hi, hi2⟩ : ∃ li', rec_readImages.f 300 s a 0 = some (li', s, (imgR s n.toNat [] o f).2.1, (imgR s n.toNat [] o f).2.2) ∧ ((imgR s n.toNat [] o f).2.2 = 0 → li' = (imgR s n.toNat [] o f).1) := by
      unfold rec_readImages.f
      rw [num_is h 0 1, hn]
      simp only [Option.bind_some]
      by_cases hf : f = 0
      · subst hf
        exact imgs_both s n n.toNat 300 [] 0 o hv (by omega) h1 (Nat.zero_le _) (by omega)
      · obtain rfl := numS_bad hn hf
        have hl : ∀ m, rec_readImages.l0 (m + 1) [] 0 0 s o f = some ([], s, o, f) := fun m => by
          simp only [rec_readImages.l0]
          rw [if_neg (by omega)]
        exact ⟨[], hl 299, fun _ => rfl⟩
    have e2 : readF s k a = ⟨zeroR k, li', [], (imgR s n.toNat [] o f).2.1, (imgR s n.toNat [] o f).2.2⟩ := by
      unfold readF; rw [if_pos k12, hi]; rfl
    rw [e1, e2]
    exact ⟨rfl, fun c => by rw [hi2 c]⟩
  by_cases k9 : k = 9
  · subst k9
    have e1 : refF s 9 a = ⟨zeroR 9, [], (tabR s n.toNat [] o f).1, (tabR s n.toNat [] o f).2.1, (tabR s n.toNat [] o f).2.2⟩ := by
      unfold refF; rw [if_neg (by omega), if_pos rfl, hn]
    obtain ⟨li', hi, hi2⟩ : ∃ li', rec_readTable.f 300 s a 0 = some (li', s, (tabR s n.toNat [] o f).2.1, (tabR s n.toNat [] o f).2.2) ∧ ((tabR s n.toNat [] o f).2.2 = 0 → li' = (tabR s n.toNat [] o f).1) := by
      unfold rec_readTable.f
      rw [num_is h 0 1, hn]
      simp only [Option.bind_some]
      by_cases hf : f = 0
      · subst hf
        exact tabs_both s n n.toNat 300 [] 0 o hv (by omega) h1 (Nat.zero_le _) (by omega)
      · obtain rfl := numS_bad hn hf
        have hl : ∀ m, rec_readTable.l0 (m + 1) [] 0 0 s o f = some ([], s, o, f) := fun m => by
          simp only [rec_readTable.l0]
          rw [if_neg (by omega)]
        exact ⟨[], hl 299, fun _ => rfl⟩
    have e2 : readF s 9 a = ⟨zeroR 9, [], li', (tabR s n.toNat [] o f).2.1, (tabR s n.toNat [] o f).2.2⟩ := by
      unfold readF; rw [if_neg (by omega), if_neg (by omega), if_neg (by omega), if_neg (by omega), if_pos rfl, hi]; rfl
    rw [e1, e2]
    exact ⟨rfl, fun c => by rw [hi2 c]⟩
  · have e1 : refF s k a = readF s k a := by unfold refF; rw [if_neg k12, if_neg k9]
    rw [e1]
    exact ⟨rfl, fun _ => rfl⟩

/-- What is read is clean. -/
theorem chgS_3 (s : ByteArray) (a e act : Int) (h : act = 3) : (chgS s a e act).2.2.1 = ⟨#[]⟩ := by
  subst h
  show (if (3 : Int) = 3 then ((⟨#[]⟩ : ByteArray), (textS s (numS s a e 2).2.1 (numS s a e 2).2.2 16).2.1, (textS s (numS s a e 2).2.1 (numS s a e 2).2.2 16).2.2) else textS s (textS s (numS s a e 2).2.1 (numS s a e 2).2.2 16).2.1 (textS s (numS s a e 2).2.1 (numS s a e 2).2.2 16).2.2 32).1 = ⟨#[]⟩
  rw [if_pos rfl]
theorem chgS_4 (s : ByteArray) (a e act : Int) (h : act = 4) : (chgS s a e act).2.2.2.1 = ⟨#[]⟩ := by
  subst h
  rfl
theorem clean6 (txn prev page act next : Int) (key old new_ : ByteArray) (h3 : act = 3 → old = ⟨#[]⟩) (h4 : act = 4 → new_ = ⟨#[]⟩) : SameV (cleanR ⟨6, txn, prev, page, act, key, old, new_, next, nilS, nilS, 0, 0⟩) ⟨6, txn, prev, page, act, key, old, new_, next, nilS, nilS, 0, 0⟩ := by
  have e : cleanR ⟨6, txn, prev, page, act, key, old, new_, next, nilS, nilS, 0, 0⟩ = tidyR ⟨6, txn, prev, page, act, key, old, new_, next, nilS, nilS, 0, 0⟩ act := rfl
  rw [e]
  unfold tidyR
  by_cases c3 : act = 3
  · rw [if_pos c3, h3 c3]
    exact ⟨rfl, rfl, rfl, rfl, rfl, rfl, rfl, rfl, rfl, rfl, rfl⟩
  · by_cases c4 : act = 4
    · rw [if_neg c3, if_pos c4, h4 c4]
      exact ⟨rfl, rfl, rfl, rfl, rfl, rfl, rfl, rfl, rfl, rfl, rfl⟩
    · rw [if_neg c3, if_neg c4]
      exact SameV.refl _
theorem clean345 (k txn prev page : Int) (key old new_ : ByteArray) (hk : k = 3 ∨ k = 4 ∨ k = 5) (h3 : k = 3 → old = ⟨#[]⟩) (h4 : k = 4 → new_ = ⟨#[]⟩) : SameV (cleanR ⟨k, txn, prev, page, 0, key, old, new_, 0, nilS, nilS, 0, 0⟩) ⟨k, txn, prev, page, 0, key, old, new_, 0, nilS, nilS, 0, 0⟩ := by
  have e : cleanR ⟨k, txn, prev, page, 0, key, old, new_, 0, nilS, nilS, 0, 0⟩ = tidyR ⟨k, txn, prev, page, 0, key, old, new_, 0, nilS, nilS, 0, 0⟩ k := by rcases hk with rfl | rfl | rfl <;> rfl
  rw [e]
  unfold tidyR
  by_cases c3 : k = 3
  · rw [if_pos c3, h3 c3]
    exact ⟨rfl, rfl, rfl, rfl, rfl, rfl, rfl, rfl, rfl, rfl, rfl⟩
  · by_cases c4 : k = 4
    · rw [if_neg c3, if_pos c4, h4 c4]
      exact ⟨rfl, rfl, rfl, rfl, rfl, rfl, rfl, rfl, rfl, rfl, rfl⟩
    · rw [if_neg c3, if_neg c4]
      exact SameV.refl _
theorem readF_clean (s : ByteArray) (k a : Int) : SameV (cleanR (readF s k a).q) (readF s k a).q ∧ cleanI (readF s k a).q (readF s k a).li = (readF s k a).li ∧ cleanT (readF s k a).q (readF s k a).lt = (readF s k a).lt := by
  unfold readF
  split
  · rename_i h
    rcases h with rfl | rfl
    · exact ⟨⟨rfl, rfl, rfl, rfl, rfl, rfl, rfl, rfl, rfl, rfl, rfl⟩, rfl, rfl⟩
    · exact ⟨⟨rfl, rfl, rfl, rfl, rfl, rfl, rfl, rfl, rfl, rfl, rfl⟩, rfl, rfl⟩
  · split
    · rename_i h
      subst h
      exact ⟨clean6 _ _ _ _ _ _ _ _ (chgS_3 s _ _ _) (chgS_4 s _ _ _), rfl, rfl⟩
    · split
      · rename_i h
        refine ⟨clean345 k _ _ _ _ _ _ h (chgS_3 s _ _ _) (chgS_4 s _ _ _), ?_, ?_⟩
        · unfold cleanI
          rw [if_neg (by assumption)]
        · unfold cleanT
          rw [if_neg (by show ¬ k = 9; omega)]
      · split
        · rename_i h
          rcases h with rfl | rfl <;> exact ⟨⟨rfl, rfl, rfl, rfl, rfl, rfl, rfl, rfl, rfl, rfl, rfl⟩, rfl, rfl⟩
        · split
          · rename_i h
            subst h
            exact ⟨⟨rfl, rfl, rfl, rfl, rfl, rfl, rfl, rfl, rfl, rfl, rfl⟩, rfl, rfl⟩
          · split
            · rename_i h
              subst h
              exact ⟨⟨rfl, rfl, rfl, rfl, rfl, rfl, rfl, rfl, rfl, rfl, rfl⟩, rfl, rfl⟩
            · rename_i c1 c2 c3 c4 c5 c6
              have e : cleanR (zeroR k) = zeroR k := by
                unfold cleanR
                rw [if_neg (show ¬ ((zeroR k).kind = 1 ∨ (zeroR k).kind = 2) from c1), if_neg (show ¬ ((zeroR k).kind = 3 ∨ (zeroR k).kind = 4 ∨ (zeroR k).kind = 5) from c3), if_neg (show ¬ ((zeroR k).kind = 6) from c2), if_neg (show ¬ ((zeroR k).kind = 7 ∨ (zeroR k).kind = 8) from c4), if_neg (show ¬ ((zeroR k).kind = 9) from c5), if_neg (show ¬ ((zeroR k).kind = 10) from c6)]
                rfl
              refine ⟨?_, ?_, ?_⟩
              · show SameV (cleanR (zeroR k)) (zeroR k)
                rw [e]
                exact SameV.refl _
              · show (if k = 1 ∨ k = 2 then ([] : List S36) else []) = []
                rw [if_neg c1]
              · show (if k = 9 then ([] : List S55) else []) = []
                rw [if_neg c5]

theorem refOf_ofP (s : ByteArray) (hs : s.size ≤ 1152921504606846976) : (refOfP s).e = (ofP s).e ∧ ((refOfP s).e = 0 → SameV (ofP s).q (refOfP s).q ∧ (ofP s).li = (refOfP s).li ∧ (ofP s).lt = (refOfP s).lt) := by
  obtain ⟨k, a, e, hk⟩ : ∃ k a e, numS s 0 0 1 = (k, a, e) := ⟨_, _, _, rfl⟩
  have hv := numS_inv (show RInv s 0 from ⟨Int.le_refl _, by omega, hs⟩) 0 1
  rw [hk] at hv
  simp only at hv
  by_cases he : e = 0
  · subst he
    obtain ⟨hr1, hr2⟩ := refF_readF s k a hv
    by_cases hz : (refF s k a).e = 0
    · have hG := hr2 hz
      obtain ⟨c1, c2, c3⟩ := readF_clean s k a
      have hcb : cbodyP (readF s k a).q (readF s k a).li (readF s k a).lt = bodyP (readF s k a).q (readF s k a).li (readF s k a).lt := by
        unfold cbodyP
        rw [c2, c3, bodyP_same c1]
      by_cases hb : (cbodyP (refF s k a).q (refF s k a).li (refF s k a).lt).2 ≠ 0 ∨ (cbodyP (refF s k a).q (refF s k a).li (refF s k a).lt).1 ≠ s
      · rw [refOfP_not s k a hk hz hb]
        refine ⟨?_, fun c => absurd c (by decide)⟩
        rw [hG, hcb] at hb
        by_cases hend : endS s (readF s k a).a (readF s k a).e = 0
        · rw [ofP_not s k a hk hend hb]
        · rw [ofP_end s k a hk hend]
          show (4 : Int) = endS s (readF s k a).a (readF s k a).e
          unfold endS at hend ⊢
          rw [← hr1, hz] at hend ⊢
          split
          · rfl
          · rw [if_neg (by assumption)] at hend
            exact absurd rfl hend
      · rw [refOfP_ok s k a hk hz hb]
        have hcs : cbodyP (refF s k a).q (refF s k a).li (refF s k a).lt = (s, 0) := by
          have h1 : (cbodyP (refF s k a).q (refF s k a).li (refF s k a).lt).2 = 0 := by
            rcases Classical.em ((cbodyP (refF s k a).q (refF s k a).li (refF s k a).lt).2 = 0) with h | h
            · exact h
            · exact absurd (.inl h) hb
          have h2 : (cbodyP (refF s k a).q (refF s k a).li (refF s k a).lt).1 = s := by
            rcases Classical.em ((cbodyP (refF s k a).q (refF s k a).li (refF s k a).lt).1 = s) with h | h
            · exact h
            · exact absurd (.inr h) hb
          exact Prod.ext h2 h1
        obtain ⟨b1, b2, b3, b4⟩ := of_back _ _ _ _ hcs
        rw [hG] at b2 b3 b4 ⊢
        refine ⟨b1.symm, fun _ => ⟨?_, ?_, ?_⟩⟩
        · exact ⟨b2.kind.trans c1.kind, b2.txn.trans c1.txn, b2.prev.trans c1.prev, b2.page.trans c1.page, b2.act.trans c1.act, b2.key.trans c1.key, b2.old.trans c1.old, b2.new_.trans c1.new_, b2.next.trans c1.next, b2.epoch.trans c1.epoch, b2.node.trans c1.node⟩
        · exact b3.trans c2
        · exact b4.trans c3
    · rw [refOfP_bad s k a hk hz]
      have hend : endS s (readF s k a).a (readF s k a).e = (refF s k a).e := by
        unfold endS
        rw [← hr1, if_neg (fun c => hz c.1)]
      rw [ofP_end s k a hk (by rw [hend]; exact hz), hend]
      exact ⟨rfl, fun c => absurd c hz⟩
  · rw [refOfP_err s k a e hk he, ofP_err s k a e hk he]
    exact ⟨rfl, fun c => absurd c he⟩
end Go.Proofs.Ytdphikbkknkhiaa.Pure
