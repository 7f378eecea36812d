/- Plain: what the document's put, text, change, ahead and Body answer, in the writer's own form. No memory in sight. -/
import Derived.Test.YtdphikbkknkhiaaWrPlain
import Derived.Test.YtdphikbkknkhiaaPAllx5
import Derived.Test.YtdphikbkknkhiaaPAllx6
namespace Go.Proofs.Ytdphikbkknkhiaa.Pure
open Go.RowKit Go.Proofs.Ytdphikbkknkhiaa.PAll Go.Proofs.YtdphikbkknkhiaaW.PrintWords Go.Proofs.YtdphikbkknkhiaaW.PrintLast Go.Proofs.YtdphikbkknkhiaaW.PrintMore
set_option linter.unusedVariables false
set_option linter.unusedSimpArgs false

/-- What has been laid: nothing, if there was an error; and it isn't long. -/
structure NS (k : Nat) (r : WS) : Prop where
  nil : r.2 ≠ 0 → r.1 = ⟨#[]⟩
  z : r.1.size + 65537 * k ≤ 1099511627776
theorem NS.step {k : Nat} {r : WS} (h : NS (k + 1) r) (x : It) (hw : x.2.1 ≤ 6) : NS k (wrS r x) := by
  refine ⟨fun c => ?_, by have := h.z; have := wrS_le r x hw; omega⟩
  unfold wrS at c ⊢
  by_cases h0 : r.2 ≠ 0
  · rw [if_pos h0]; exact h.nil h0
  · rw [if_neg h0] at c ⊢
    by_cases h1 : errI x = 0
    · rw [if_pos h1] at c; exact absurd rfl c
    · rw [if_neg h1]
theorem NS.le {k j : Nat} {r : WS} (h : NS k r) (hj : j ≤ k) : NS j r := ⟨h.nil, by have := h.z; have : 65537 * j ≤ 65537 * k := Nat.mul_le_mul_left _ hj; omega⟩
theorem pow_lim (d : Nat) : ∀ (k : Nat) (s : ByteArray) (n e : Int) (w i : Nat), w ≤ 6 → i + d = w →
    gharryref07_put.l0 (k + d + 1) s n (w : Int) e ((256 ^ i : Nat) : Int) (i : Int) = gharryref07_put.l0 (k + 1) s n (w : Int) e ((256 ^ w : Nat) : Int) (w : Int) := by
  induction d with
  | zero => intro k s n e w i hw hi; obtain rfl : i = w := by omega
            rfl
  | succ d ih =>
    intro k s n e w i hw hi
    have hp : (256 : Nat) ^ i ≤ 256 ^ 5 := Nat.pow_le_pow_right (by omega) (by omega)
    have hs : (256 : Nat) ^ (i + 1) = 256 ^ i * 256 := Nat.pow_succ ..
    have e5 : (256 : Nat) ^ 5 = 1099511627776 := by decide
    have := ih k s n e w (i + 1) hw (by omega)
    rw [← this]
    rw [show k + (d + 1) + 1 = (k + d + 1) + 1 by omega]
    conv => lhs; unfold gharryref07_put.l0
    rw [if_pos (by omega), w64p (by omega) (by omega), w64p (by omega) (by omega), show (256 : Int) * ((256 ^ i : Nat) : Int) = ((256 ^ (i + 1) : Nat) : Int) by rw [hs]; omega]
    rfl
theorem put_fold (s : ByteArray) (w : Nat) (d : Nat) (hw : w ≤ 6) (hs : s.size ≤ 1099511627776) : ∀ (k n i : Nat) (t : ByteArray), i + d = w → t.size = i → n < 256 ^ 6 →
    gharryref07_put.l1 (k + d + 1) s (n : Int) (w : Int) t (i : Int) = some (s ++ ((⟨(nb d n).toArray⟩ : ByteArray) ++ t), 0) := by
  induction d with
  | zero =>
    intro k n i t hi ht hn
    simp only [gharryref07_put.l1]
    rw [if_neg (by omega), if_pos (by omega)]
    have e : (⟨(nb 0 n).toArray⟩ : ByteArray) ++ t = t := nil_app t
    rw [e]
  | succ d ih =>
    intro k n i t hi ht hn
    rw [show k + (d + 1) + 1 = (k + d + 1) + 1 by omega]
    have e6 : (256 : Nat) ^ 6 = 281474976710656 := by decide
    have hm : Int.tmod (n : Int) 256 = ((n % 256 : Nat) : Int) := rfl
    have hd : Int.tdiv (n : Int) 256 = ((n / 256 : Nat) : Int) := rfl
    have hz : ∀ l : List Int, (strOfNums l).size = l.length := fun l => by simp [strOfNums, ByteArray.size]
    conv => lhs; unfold gharryref07_put.l1
    simp only [Option.bind_some]
    rw [if_pos (by omega), hz, if_pos (by simp; omega), hm, hd, w64p (by omega) (by omega), w64p (by omega) (by omega)]
    have hb : strOfNums [((n % 256 : Nat) : Int) % 256] ++ t = (⟨#[UInt8.ofNat (n % 256)]⟩ : ByteArray) ++ t := by
      have : ((n % 256 : Nat) : Int) % 256 = ((n % 256 : Nat) : Int) := by omega
      rw [this]
      rfl
    rw [hb]
    have := ih k (n / 256) (i + 1) ((⟨#[UInt8.ofNat (n % 256)]⟩ : ByteArray) ++ t) (by omega) (by rw [ByteArray.size_append, ht]; show 1 + i = i + 1; omega) (by omega)
    rw [show ((i : Int) + 1) = ((i + 1 : Nat) : Int) by omega, this]
    have hnb : (⟨(nb (d + 1) n).toArray⟩ : ByteArray) = (⟨(nb d (n / 256)).toArray⟩ : ByteArray) ++ ⟨#[UInt8.ofNat (n % 256)]⟩ := by
      apply ba_extI
      rw [ByteArray.data_append]
      simp [nb]
    rw [hnb, app_assoc]
theorem put_is (r : WS) (n w : Int) (h1 : 1 ≤ w) (h6 : w ≤ 6) (hN : NS 1 r) : gharryref07_put.f 30 r.1 n w r.2 = some (wrS r (num_ n w)) := by
  obtain ⟨v, rfl⟩ : ∃ v : Nat, w = (v : Int) := ⟨w.toNat, by omega⟩
  have hz := hN.z
  have hp : (256 : Nat) ^ v ≤ 256 ^ 6 := Nat.pow_le_pow_right (by omega) (by omega)
  have hl := pow_lim v (29 - v) r.1 n r.2 v 0 (by omega) (by omega)
  rw [show (29 - v) + v + 1 = 30 by omega, show 29 - v + 1 = (28 - v) + 1 + 1 by omega] at hl
  show gharryref07_put.l0 30 r.1 n (v : Int) r.2 1 0 = _
  refine hl.trans ?_
  conv => lhs; unfold gharryref07_put.l0
  rw [if_neg (by omega)]
  by_cases he : r.2 = 0
  · rw [if_pos he]
    by_cases hn : n < 0 ∨ ((256 ^ v : Nat) : Int) ≤ n
    · have e := errI_num n v (by omega)
      rw [if_pos hn] at e
      rw [wrS_bad r _ he (by rw [e]; omega), e]
      by_cases h0 : n < 0
      · rw [if_pos h0]; simp only [gharryref07_put.j1]; rw [if_pos trivial]
      · rw [if_neg h0, decide_eq_true (show n ≥ ((256 ^ v : Nat) : Int) by omega)]; simp only [gharryref07_put.j1]; rw [if_pos trivial]
    · have e := errI_num n v (by omega)
      rw [if_neg hn] at e
      rw [wrS_ok r _ he e, if_neg (by omega), decide_eq_false (show ¬ n ≥ ((256 ^ v : Nat) : Int) by omega)]
      obtain ⟨m, rfl⟩ : ∃ m : Nat, n = (m : Int) := ⟨n.toNat, by omega⟩
      simp only [gharryref07_put.j1]
      rw [if_neg (by simp), encI_num m v (by omega)]
      have := put_fold r.1 v v (by omega) (by omega) (27 - v - v) m 0 ⟨#[]⟩ (by omega) rfl (by omega)
      rw [show 27 - v - v + v + 1 = 28 - v by omega, app_nil] at this
      exact this
  · rw [if_neg he, wrS_off r _ he, ← hN.nil he]
theorem rtext_is (r : WS) (t : ByteArray) (hN : NS 1 r) (ht : r.2 ≠ 0 ∨ t.size ≤ 65535) : gharryref07_text.f r.1 t r.2 = some (wrS r (text_ t)) := by
  have hz := hN.z
  unfold gharryref07_text.f
  by_cases he : r.2 = 0
  · have ht2 : t.size ≤ 65535 := ht.resolve_left (fun c => c he)
    have e := errI_text t
    rw [if_neg (by omega)] at e
    have hb : strOfNums [((t.size : Int) / 256) % 256, (t.size : Int) % 256] = ⟨(nb 2 t.size).toArray⟩ := by
      have h1 : ((t.size : Int) / 256) % 256 = ((t.size / 256 % 256 : Nat) : Int) := by omega
      have h2 : (t.size : Int) % 256 = ((t.size % 256 : Nat) : Int) := by omega
      rw [h1, h2]
      rfl
    rw [if_pos he]
    simp only [Option.bind_some]
    rw [hb, nb_szI, if_pos (by omega), if_pos (by rw [ByteArray.size_append, nb_szI]; omega), wrS_ok r _ he e, encI_text, app_assoc]
  · rw [if_neg he, wrS_off r _ he, ← hN.nil he]
theorem wrS_err (r : WS) (x : It) (h : r.2 ≠ 0) : (wrS r x).2 ≠ 0 := by rw [wrS_off r x h]; exact h
theorem wrL_off (r : WS) (l : List It) (h : r.2 ≠ 0) : wrL r l = r := by
  induction l with
  | nil => rfl
  | cons x l ih => rw [wrL_cons, wrS_off r x h, ih]
theorem change_is (r : WS) (kind txn prev page act : Int) (key old new_ : ByteArray) (next : Int) (li : List S36) (lt : List S55) (epoch node a2 : Int) (hN : NS 4 r) (ht : r.2 ≠ 0 ∨ (key.size ≤ 65535 ∧ old.size ≤ 65535 ∧ new_.size ≤ 65535)) :
    gharryref07_change.f 30 r.1 kind txn prev page act key old new_ next li lt epoch node a2 r.2 = some (wrL r (chgL page key old new_ a2)) := by
  unfold gharryref07_change.f chgL
  have n1 := hN.step (num_ page 2) (by show (2 : Int) ≤ 6; omega)
  have n2 := n1.step (text_ key) (by show (0 : Int) ≤ 6; omega)
  have n3 := n2.step (text_ old) (by show (0 : Int) ≤ 6; omega)
  have t1 : (wrS r (num_ page 2)).2 ≠ 0 ∨ (key.size ≤ 65535 ∧ old.size ≤ 65535 ∧ new_.size ≤ 65535) := ht.imp_left (wrS_err _ _)
  have t2 : (wrS (wrS r (num_ page 2)) (text_ key)).2 ≠ 0 ∨ (key.size ≤ 65535 ∧ old.size ≤ 65535 ∧ new_.size ≤ 65535) := t1.imp_left (wrS_err _ _)
  have t3 : (wrS (wrS (wrS r (num_ page 2)) (text_ key)) (text_ old)).2 ≠ 0 ∨ (key.size ≤ 65535 ∧ old.size ≤ 65535 ∧ new_.size ≤ 65535) := t2.imp_left (wrS_err _ _)
  rw [put_is r page 2 (by omega) (by omega) (hN.le (by omega))]
  simp only [Option.bind_some]
  rw [rtext_is _ key (n1.le (by omega)) (t1.imp_right fun h => h.1)]
  simp only [Option.bind_some]
  by_cases h3 : a2 = 3
  · subst h3
    rw [if_pos rfl, if_neg (by omega), if_pos rfl, if_neg (by omega), rtext_is _ new_ (n2.le (by omega)) (t2.imp_right fun h => h.2.2)]
    rfl
  · rw [if_neg h3, if_neg h3, rtext_is _ old (n2.le (by omega)) (t2.imp_right fun h => h.2.1)]
    simp only [Option.bind_some]
    by_cases h4 : a2 = 4
    · rw [if_pos h4, if_pos h4]
      rfl
    · rw [if_neg h4, if_neg h4, rtext_is _ new_ (n3.le (by omega)) (t3.imp_right fun h => h.2.2)]
      rfl
theorem ahead_l0 (kind txn prev page act : Int) (key old new_ : ByteArray) (next : Int) (li : List S36) (lt : List S55) (epoch node : Int) (hli : li.length ≤ 300) (d : Nat) : ∀ (k j : Nat), j + d = li.length → d + 1 ≤ k →
    gharryref07_ahead.l0 k (j : Int) kind txn prev page act key old new_ next li lt epoch node = some (if ∀ x ∈ li.drop j, x.f1.size = 224 then 0 else 4) := by
  induction d with
  | zero =>
    intro k j hj hk
    obtain ⟨m, rfl⟩ : ∃ m, k = m + 1 := ⟨k - 1, by omega⟩
    simp only [gharryref07_ahead.l0]
    rw [if_neg (by omega), List.drop_eq_nil_of_le (by omega), if_pos (by simp)]
  | succ d ih =>
    intro k j hj hk
    obtain ⟨m, rfl⟩ : ∃ m, k = m + 1 := ⟨k - 1, by omega⟩
    have hlt : j < li.length := by omega
    have hd := List.drop_eq_getElem_cons hlt
    have hr : rd_T36 li (j : Int) = li[j] := by
      unfold rd_T36
      rw [Int.toNat_natCast, List.getD_eq_getElem?_getD, List.getElem?_eq_getElem hlt]
      rfl
    simp only [gharryref07_ahead.l0]
    rw [if_pos (by omega), if_pos (by omega), hr, w64p (by omega) (by omega)]
    by_cases h : li[j].f1.size = 224
    · have hiff : (∀ x ∈ li.drop (j + 1), x.f1.size = 224) ↔ (∀ x ∈ li.drop j, x.f1.size = 224) := by
        rw [hd, List.forall_mem_cons]
        exact ⟨fun c => ⟨h, c⟩, fun c => c.2⟩
      rw [if_pos (by omega)]
      refine (ih m (j + 1) (by omega) (by omega)).trans ?_
      by_cases hA : ∀ x ∈ li.drop (j + 1), x.f1.size = 224
      · rw [if_pos hA, if_pos (hiff.1 hA)]
      · rw [if_neg hA, if_neg (fun c => hA (hiff.2 c))]
    · rw [if_neg (by omega), if_neg (fun c => h (c _ (by rw [hd]; exact List.mem_cons_self)))]
/-- The document's ahead, of a clean record. -/
theorem ahead_is (kind txn prev page act : Int) (key old new_ : ByteArray) (next : Int) (iA : Option Addr) (ic : Nat) (li : List S36) (tA : Option Addr) (tc : Nat) (lt : List S55) (epoch node : Int) (hli : li.length ≤ 300)
    (hz : 7 ≤ kind → kind ≤ 10 → cutE key old new_ = 0) :
    gharryref07_ahead.f 700 kind txn prev page act key old new_ next li lt epoch node = some (aheadE ⟨kind, txn, prev, page, act, key, old, new_, next, ⟨iA, li.length, ic⟩, ⟨tA, lt.length, tc⟩, epoch, node⟩ li) := by
  have hj3 : ∀ k, gharryref07_ahead.j3 (k + 1) kind txn prev page act key old new_ next li lt epoch node = some (cutE key old new_) := fun k => by
    simp only [gharryref07_ahead.j3]
    unfold cutE
    by_cases a : 16 < key.size
    · rw [if_pos (by omega), if_pos a]
    · rw [if_neg (by omega), if_neg a]
      by_cases b : 32 < old.size
      · rw [if_pos (by omega), if_pos (.inl b)]
      · rw [if_neg (by omega)]
        by_cases c : 32 < new_.size
        · rw [if_pos (by omega), if_pos (.inr c)]
        · rw [if_neg (by omega), if_neg (by omega)]
  have hl0 := ahead_l0 kind txn prev page act key old new_ next li lt epoch node hli li.length 698 0 (by omega) (by omega)
  rw [List.drop_zero] at hl0
  unfold gharryref07_ahead.f aheadE
  simp only
  by_cases h1 : kind = 1
  · subst h1
    rw [if_pos rfl, if_pos (.inl rfl)]
    simp only [gharryref07_ahead.j0]
    rw [if_pos (by rfl), if_pos trivial]
    simp only [gharryref07_ahead.j1]
    by_cases hn : li.length = 1
    · rw [if_neg (by simp; omega), if_neg (fun c => c.2 hn)]
      exact hl0
    · rw [if_pos (by simp; omega), if_pos ⟨trivial, hn⟩]
  · rw [if_neg h1]
    by_cases h2 : kind = 2
    · subst h2
      rw [if_pos (.inr rfl)]
      simp only [gharryref07_ahead.j0]
      rw [if_pos (by rfl), if_neg (by omega)]
      simp only [gharryref07_ahead.j1]
      rw [if_neg (by simp), if_neg (by omega)]
      exact hl0
    · rw [if_neg (by omega)]
      simp only [gharryref07_ahead.j0]
      rw [if_neg (by simpa using h2)]
      by_cases h6 : kind = 6
      · subst h6
        rw [if_pos rfl]
        by_cases a : act < 3
        · rw [if_pos a, if_pos ⟨rfl, .inl a⟩]
        · rw [if_neg a]
          by_cases b : 5 < act
          · rw [if_pos b, if_pos ⟨rfl, .inr b⟩]
          · rw [if_neg b, if_neg (show ¬ ((6 : Int) = 6 ∧ (act < 3 ∨ 5 < act)) from fun c => c.2.elim a b), if_pos (by omega)]
            exact hj3 698
      · rw [if_neg h6, if_neg (show ¬ (kind = 6 ∧ (act < 3 ∨ 5 < act)) from fun c => h6 c.1)]
        by_cases hk : 3 ≤ kind ∧ kind ≤ 6
        · rw [if_pos hk]
          rcases (by omega : kind = 3 ∨ kind = 4 ∨ kind = 5) with rfl | rfl | rfl
          · rw [if_pos rfl]; exact hj3 698
          · rw [if_neg (by omega), if_pos rfl]; exact hj3 698
          · rw [if_neg (by omega), if_neg (by omega), if_pos rfl]; exact hj3 698
        · rw [if_neg hk]
          by_cases hk2 : 7 ≤ kind ∧ kind ≤ 10
          · rw [if_pos hk2]
            have hc := hz hk2.1 hk2.2
            rw [if_neg (by omega), if_neg (by omega), if_neg (by omega)]
            rw [hc] at hj3
            rcases (by omega : kind = 7 ∨ kind = 8 ∨ kind = 9 ∨ kind = 10) with rfl | rfl | rfl | rfl
            · rw [if_pos rfl]; exact hj3 698
            · rw [if_neg (by omega), if_pos rfl]; exact hj3 698
            · rw [if_neg (by omega), if_neg (by omega), if_pos rfl]; exact hj3 698
            · rw [if_neg (by omega), if_neg (by omega), if_neg (by omega), if_pos rfl]; exact hj3 698
          · rw [if_neg hk2, if_neg (by omega), if_neg (by omega), if_neg (by omega), if_neg (by omega), if_neg (by omega), if_neg (by omega), if_neg (by omega)]
end Go.Proofs.Ytdphikbkknkhiaa.Pure
