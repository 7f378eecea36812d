/- Plain: what rec.Of reads. No memory in sight. -/
import Derived.Test.YtdphikbkknkhiaaReadPlain
import Derived.Test.YtdphikbkknkhiaaPAllx10
import Derived.Test.YtdphikbkknkhiaaRecBody
namespace Go.Proofs.Ytdphikbkknkhiaa.Pure
open Go.RowKit Go.Proofs.Ytdphikbkknkhiaa.PAll Go.Proofs.YtdphikbkknkhiaaW.PrintWords Go.Proofs.YtdphikbkknkhiaaW.PrintLast Go.Proofs.YtdphikbkknkhiaaW.PrintMore
set_option linter.unusedVariables false
set_option linter.unusedSimpArgs false

/-- What is changed, as it is read: page, key, old, new; where the reader stands then, and its error. -/
def chgS (s : ByteArray) (a e act : Int) : Int × ByteArray × ByteArray × ByteArray × Int × Int :=
  let p := numS s a e 2
  let k := textS s p.2.1 p.2.2 16
  let o := if act = 3 then ((⟨#[]⟩ : ByteArray), k.2.1, k.2.2) else textS s k.2.1 k.2.2 32
  let n := if act = 4 then ((⟨#[]⟩ : ByteArray), o.2.1, o.2.2) else textS s o.2.1 o.2.2 32
  (p.1, k.1, o.1, n.1, n.2.1, n.2.2)
/-- What is read: values, rows, where the reader stands then, and its error. -/
structure Got where
  q : RV
  li : List S36
  lt : List S55
  a : Int
  e : Int
def readF (s : ByteArray) (k a : Int) : Got :=
  if k = 1 ∨ k = 2 then
    let r := (rec_readImages.f 300 s a 0).getD ([], s, a, 0)
    ⟨zeroR k, r.1, [], r.2.2.1, r.2.2.2⟩
  else if k = 6 then
    let x := numS s a 0 6
    let y := numS s x.2.1 x.2.2 6
    let z := numS s y.2.1 y.2.2 6
    let t := numS s z.2.1 z.2.2 1
    let c := chgS s t.2.1 t.2.2 t.1
    ⟨{ zeroR k with txn := x.1, prev := y.1, next := z.1, act := t.1, page := c.1, key := c.2.1, old := c.2.2.1, new := c.2.2.2.1 }, [], [], c.2.2.2.2.1, c.2.2.2.2.2⟩
  else if k = 3 ∨ k = 4 ∨ k = 5 then
    let x := numS s a 0 6
    let y := numS s x.2.1 x.2.2 6
    let c := chgS s y.2.1 y.2.2 k
    ⟨{ zeroR k with txn := x.1, prev := y.1, page := c.1, key := c.2.1, old := c.2.2.1, new := c.2.2.2.1 }, [], [], c.2.2.2.2.1, c.2.2.2.2.2⟩
  else if k = 7 ∨ k = 8 then
    let x := numS s a 0 6
    let y := numS s x.2.1 x.2.2 6
    ⟨{ zeroR k with txn := x.1, prev := y.1 }, [], [], y.2.1, y.2.2⟩
  else if k = 9 then
    let r := (rec_readTable.f 300 s a 0).getD ([], s, a, 0)
    ⟨zeroR k, [], r.1, r.2.2.1, r.2.2.2⟩
  else if k = 10 then
    let x := numS s a 0 4
    let y := numS s x.2.1 x.2.2 1
    ⟨{ zeroR k with epoch := x.1, node := y.1 }, [], [], y.2.1, y.2.2⟩
  else ⟨zeroR k, [], [], a, 0⟩
theorem num1_lt {s : ByteArray} {a e : Int} : (numS s a e 1).1 ≤ 255 := by
  unfold numS
  split
  · show (0 : Int) ≤ 255; omega
  · have h := be_bound (rawS s a e 1).1.data.toList
    have hl : (rawS s a e 1).1.data.toList.length ≤ 1 := by
      unfold rawS
      split
      · split
        · simp
        · split
          · simp
          · simp only [ByteArray.data_extract, Array.toList_extract, List.extract_eq_take_drop, List.length_take]
            omega
      · simp
    show be (rawS s a e 1).1.data.toList ≤ 255
    have h2 : (256 : Int) ^ (rawS s a e 1).1.data.toList.length ≤ 256 := by
      rcases (by omega : (rawS s a e 1).1.data.toList.length = 0 ∨ (rawS s a e 1).1.data.toList.length = 1) with h | h <;> rw [h] <;> decide
    omega
theorem imgs_l0 (s : ByteArray) (n : Int) (d : Nat) : ∀ (k : Nat) (li : List S36) (j : Nat) (a e : Int), RInv s a → n ≤ (j : Int) + d → n ≤ 255 → li.length ≤ j → j ≤ 300 → d + 3 ≤ k →
    ∃ li' a' e', rec_readImages.l0 k li n (j : Int) s a e = some (li', s, a', e') ∧ RInv s a' ∧ li'.length ≤ j + d := by
  induction d with
  | zero =>
    intro k li j a e hv hj hn hl hj3 hk
    obtain ⟨m, rfl⟩ : ∃ m, k = m + 1 := ⟨k - 1, by omega⟩
    simp only [rec_readImages.l0]
    rw [if_neg (by omega)]
    exact ⟨_, _, _, rfl, hv, by omega⟩
  | succ d ih =>
    intro k li j a e hv hj hn hl hj3 hk
    obtain ⟨m, rfl⟩ : ∃ m, k = m + 1 := ⟨k - 1, by omega⟩
    simp only [rec_readImages.l0]
    by_cases hlt : (j : Int) < n
    · rw [if_pos hlt, num_is hv e 2]
      simp only [Option.bind_some]
      rw [text_is (numS_inv hv e 2) m (by omega)]
      simp only [Option.bind_some, pack_Reader_Err.f]
      have hv2 := textS_inv (numS_inv hv e 2) (numS s a e 2).2.2 224
      split
      · rw [if_pos (by omega), w64p (by omega) (by omega)]
        obtain ⟨li', a', e', h, hv', hl'⟩ := ih m (li ++ [⟨(numS s a e 2).1, (textS s (numS s a e 2).2.1 (numS s a e 2).2.2 224).1⟩]) (j + 1) _ _ hv2 (by omega) hn (by rw [List.length_append]; show li.length + 1 ≤ _; omega) (by omega) (by omega)
        exact ⟨li', a', e', h, hv', by omega⟩
      · exact ⟨_, _, _, rfl, hv2, by show (0 : Nat) ≤ _; omega⟩
    · rw [if_neg hlt]
      exact ⟨_, _, _, rfl, hv, by omega⟩
theorem imgs_some {s : ByteArray} {a : Int} (h : RInv s a) (e : Int) : ∃ li a' e', rec_readImages.f 300 s a e = some (li, s, a', e') ∧ RInv s a' ∧ li.length ≤ 300 := by
  have h0 := numS_lo (s := s) (at_ := a) e 1
  have h1 := num1_lt (s := s) (a := a) (e := e)
  unfold rec_readImages.f
  rw [num_is h e 1]
  simp only [Option.bind_some]
  obtain ⟨li', a', e', hh, hv', hl'⟩ := imgs_l0 s (numS s a e 1).1 (numS s a e 1).1.toNat 300 [] 0 (numS s a e 1).2.1 (numS s a e 1).2.2 (numS_inv h e 1) (by omega) h1 (Nat.zero_le _) (by omega) (by omega)
  exact ⟨li', a', e', hh, hv', by omega⟩
theorem tab_l0 (s : ByteArray) (n : Int) (d : Nat) : ∀ (k : Nat) (li : List S55) (j : Nat) (a e : Int), RInv s a → n ≤ (j : Int) + d → n ≤ 255 → li.length ≤ j → j ≤ 300 → d + 3 ≤ k →
    ∃ li' a' e', rec_readTable.l0 k li n (j : Int) s a e = some (li', s, a', e') ∧ RInv s a' ∧ li'.length ≤ j + d := by
  induction d with
  | zero =>
    intro k li j a e hv hj hn hl hj3 hk
    obtain ⟨m, rfl⟩ : ∃ m, k = m + 1 := ⟨k - 1, by omega⟩
    simp only [rec_readTable.l0]
    rw [if_neg (by omega)]
    exact ⟨_, _, _, rfl, hv, by omega⟩
  | succ d ih =>
    intro k li j a e hv hj hn hl hj3 hk
    obtain ⟨m, rfl⟩ : ∃ m, k = m + 1 := ⟨k - 1, by omega⟩
    simp only [rec_readTable.l0]
    by_cases hlt : (j : Int) < n
    · rw [if_pos hlt, num_is hv e 6]
      simp only [Option.bind_some]
      rw [num_is (numS_inv hv e 6) _ 6]
      simp only [Option.bind_some]
      have hv2 := numS_inv (numS_inv hv e 6) (numS s a e 6).2.2 6
      rw [if_pos (by omega), w64p (by omega) (by omega)]
      obtain ⟨li', a', e', h, hv', hl'⟩ := ih m (li ++ [⟨(numS s a e 6).1, (numS s (numS s a e 6).2.1 (numS s a e 6).2.2 6).1⟩]) (j + 1) _ _ hv2 (by omega) hn (by rw [List.length_append]; show li.length + 1 ≤ _; omega) (by omega) (by omega)
      exact ⟨li', a', e', h, hv', by omega⟩
    · rw [if_neg hlt]
      exact ⟨_, _, _, rfl, hv, by omega⟩
theorem tab_some {s : ByteArray} {a : Int} (h : RInv s a) (e : Int) : ∃ li a' e', rec_readTable.f 300 s a e = some (li, s, a', e') ∧ RInv s a' ∧ li.length ≤ 300 := by
  have h0 := numS_lo (s := s) (at_ := a) e 1
  have h1 := num1_lt (s := s) (a := a) (e := e)
  unfold rec_readTable.f
  rw [num_is h e 1]
  simp only [Option.bind_some]
  obtain ⟨li', a', e', hh, hv', hl'⟩ := tab_l0 s (numS s a e 1).1 (numS s a e 1).1.toNat 300 [] 0 (numS s a e 1).2.1 (numS s a e 1).2.2 (numS_inv h e 1) (by omega) h1 (Nat.zero_le _) (by omega) (by omega)
  exact ⟨li', a', e', hh, hv', by omega⟩
end Go.Proofs.Ytdphikbkknkhiaa.Pure
