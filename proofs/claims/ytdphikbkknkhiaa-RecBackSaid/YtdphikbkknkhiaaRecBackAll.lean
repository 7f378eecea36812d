/- Plain: what a record's items lay is read again. No memory in sight. -/
import Derived.Test.YtdphikbkknkhiaaRecOpenAll
import Derived.Test.YtdphikbkknkhiaaSealPlain
namespace Go.Proofs.Ytdphikbkknkhiaa.Pure
open Go.RowKit Go.Proofs.Ytdphikbkknkhiaa.PAll Go.Proofs.YtdphikbkknkhiaaW.PrintWords Go.Proofs.YtdphikbkknkhiaaW.PrintLast Go.Proofs.YtdphikbkknkhiaaW.PrintMore
set_option linter.unusedVariables false
set_option linter.unusedSimpArgs false

/-- All items have room; a text is at most so long. -/
theorem good_of (x : It) (h : errI x = 0) (hw : x.2.1 = 0 ∨ (1 ≤ x.2.1 ∧ x.2.1 ≤ 6)) : GoodI x := by
  unfold errI at h
  rcases hw with h0 | ⟨h1, h6⟩
  · rw [if_pos h0] at h
    left
    refine ⟨h0, ?_⟩
    split at h <;> omega
  · rw [if_neg (by omega)] at h
    right
    refine ⟨h1, h6, ?_, ?_⟩ <;> (split at h <;> omega)
/-- Where a text of items is read. -/
theorem num_at (A B : List It) (n w : Int) (h : errI (num_ n w) = 0) (h1 : 1 ≤ w) (h6 : w ≤ 6) :
    numS (encL (A ++ num_ n w :: B)) ((encL A).size : Int) 0 w = (n, ((encL (A ++ [num_ n w])).size : Int), 0) := by
  obtain ⟨v, rfl⟩ : ∃ v : Nat, w = (v : Int) := ⟨w.toNat, by omega⟩
  rw [errI_num n v (by omega)] at h
  have hn : ¬ (n < 0 ∨ ((256 ^ v : Nat) : Int) ≤ n) := by
    intro c
    rw [if_pos c] at h
    omega
  obtain ⟨m, rfl⟩ : ∃ m : Nat, n = (m : Int) := ⟨n.toNat, by omega⟩
  have e : encL (A ++ num_ (m : Int) v :: B) = encL A ++ ⟨(nb v m).toArray⟩ ++ encL B := by
    rw [encL_app, app_assoc]
    show encL A ++ (encI (num_ (m : Int) v) ++ encL B) = _
    rw [encI_num m v (by omega)]
  rw [e, num_back (encL A) (encL B) m v (by omega) (by omega) (by omega), encL_app, ByteArray.size_append]
  show _ = ((m : Int), (((encL A).size + (encI (num_ (m : Int) v) ++ ⟨#[]⟩).size : Nat) : Int), 0)
  rw [app_nil, encI_num m v (by omega), nb_szI]
  rfl
theorem text_at (A B : List It) (t : ByteArray) (most : Int) (ht : (t.size : Int) ≤ most) (h65 : t.size ≤ 65535) :
    textS (encL (A ++ text_ t :: B)) ((encL A).size : Int) 0 most = (t, ((encL (A ++ [text_ t])).size : Int), 0) := by
  have e : encL (A ++ text_ t :: B) = encL A ++ ((⟨(nb 2 t.size).toArray⟩ : ByteArray) ++ t) ++ encL B := by
    rw [encL_app, app_assoc]
    show encL A ++ (encI (text_ t) ++ encL B) = _
    rw [encI_text]
  rw [e, text_back (encL A) (encL B) t most h65 ht, encL_app, ByteArray.size_append]
  show _ = (t, (((encL A).size + (encI (text_ t) ++ ⟨#[]⟩).size : Nat) : Int), 0)
  rw [app_nil, encI_text, ByteArray.size_append, nb_szI]
  congr 2
  omega
theorem pos_inv (X B : List It) (s : ByteArray) (hs : s = encL (X ++ B)) (hz : s.size ≤ 1152921504606846976) : RInv s ((encL X).size : Int) := by
  have e : s.size = (encL X).size + (encL B).size := by rw [hs, encL_app, ByteArray.size_append]
  exact ⟨by omega, by omega, hz⟩
theorem imgL_split (l : List S36) (j : Nat) (h : j < l.length) : imgL l = imgL (l.take j) ++ num_ l[j].f0 2 :: text_ l[j].f1 :: imgL (l.drop (j + 1)) := by
  have e : l = l.take j ++ l[j] :: l.drop (j + 1) := by rw [← List.drop_eq_getElem_cons h, List.take_append_drop]
  conv => lhs; rw [e]
  unfold imgL
  rw [List.flatMap_append]
  rfl
theorem tabL_split (l : List S55) (j : Nat) (h : j < l.length) : tabL l = tabL (l.take j) ++ num_ l[j].f0 6 :: num_ l[j].f1 6 :: tabL (l.drop (j + 1)) := by
  have e : l = l.take j ++ l[j] :: l.drop (j + 1) := by rw [← List.drop_eq_getElem_cons h, List.take_append_drop]
  conv => lhs; rw [e]
  unfold tabL
  rw [List.flatMap_append]
  rfl
theorem imgs_back_l0 (A B : List It) (li : List S36) (hl : li.length ≤ 255) (hx : ∀ x ∈ li, errI (num_ x.f0 2) = 0 ∧ x.f1.size = 224) (s : ByteArray) (hs : s = encL (A ++ imgL li ++ B)) (hz : s.size ≤ 1152921504606846976) (d : Nat) :
    ∀ (k j : Nat), j + d = li.length → d + 3 ≤ k → rec_readImages.l0 k (li.take j) (li.length : Int) (j : Int) s ((encL (A ++ imgL (li.take j))).size : Int) 0 = some (li, s, ((encL (A ++ imgL li)).size : Int), 0) := by
  induction d with
  | zero =>
    intro k j hj hk
    obtain ⟨m, rfl⟩ : ∃ m, k = m + 1 := ⟨k - 1, by omega⟩
    simp only [rec_readImages.l0]
    rw [if_neg (by omega), List.take_of_length_le (by omega)]
  | succ d ih =>
    intro k j hj hk
    obtain ⟨m, rfl⟩ : ∃ m, k = m + 1 := ⟨k - 1, by omega⟩
    have hlt : j < li.length := by omega
    have hy := hx li[j] (List.getElem_mem hlt)
    have hsp := imgL_split li j hlt
    have hsn : imgL (li.take (j + 1)) = imgL (li.take j) ++ [num_ li[j].f0 2, text_ li[j].f1] := PAll.imgL_snoc li j hlt
    have htk : li.take (j + 1) = li.take j ++ [(⟨li[j].f0, li[j].f1⟩ : S36)] := by rw [List.take_succ_eq_append_getElem hlt]
    have e1 : s = encL ((A ++ imgL (li.take j)) ++ num_ li[j].f0 2 :: (text_ li[j].f1 :: (imgL (li.drop (j + 1)) ++ B))) := by rw [hs, hsp]; simp
    have e2 : s = encL ((A ++ imgL (li.take j) ++ [num_ li[j].f0 2]) ++ text_ li[j].f1 :: (imgL (li.drop (j + 1)) ++ B)) := by rw [hs, hsp]; simp
    have v1 := pos_inv _ _ s e1 hz
    have n1 := num_at (A ++ imgL (li.take j)) (text_ li[j].f1 :: (imgL (li.drop (j + 1)) ++ B)) li[j].f0 2 hy.1 (by omega) (by omega)
    have n2 := text_at (A ++ imgL (li.take j) ++ [num_ li[j].f0 2]) (imgL (li.drop (j + 1)) ++ B) li[j].f1 224 (by omega) (by omega)
    rw [← e1] at n1
    rw [← e2] at n2
    have v2 := numS_inv v1 0 2
    rw [n1] at v2
    simp only [rec_readImages.l0]
    rw [if_pos (by omega), num_is v1 0 2, n1]
    simp only [Option.bind_some]
    rw [text_is v2 m (by omega), n2]
    simp only [Option.bind_some, pack_Reader_Err.f]
    rw [if_pos trivial, if_pos (by rw [List.length_take]; omega), w64p (by omega) (by omega), ← htk]
    have ee : (A ++ imgL (li.take j) ++ [num_ li[j].f0 2]) ++ [text_ li[j].f1] = A ++ imgL (li.take (j + 1)) := by rw [hsn]; simp
    rw [ee]
    exact ih m (j + 1) (by omega) (by omega)
theorem imgs_back (A B : List It) (li : List S36) (hl : li.length ≤ 255) (hx : ∀ x ∈ li, errI (num_ x.f0 2) = 0 ∧ x.f1.size = 224) (s : ByteArray) (hs : s = encL (A ++ num_ (li.length : Int) 1 :: (imgL li ++ B))) (hz : s.size ≤ 1152921504606846976) :
    rec_readImages.f 300 s ((encL A).size : Int) 0 = some (li, s, ((encL (A ++ num_ (li.length : Int) 1 :: imgL li)).size : Int), 0) := by
  have he : errI (num_ (li.length : Int) 1) = 0 := by
    have := errI_num (li.length : Int) 1 (by omega)
    rw [if_neg (by show ¬ ((li.length : Int) < 0 ∨ ((256 : Nat) : Int) ≤ li.length); omega)] at this
    exact this
  have v1 := pos_inv A _ s hs hz
  have n1 := num_at A (imgL li ++ B) (li.length : Int) 1 he (by omega) (by omega)
  rw [← hs] at n1
  unfold rec_readImages.f
  rw [num_is v1 0 1, n1]
  simp only [Option.bind_some]
  have := imgs_back_l0 (A ++ [num_ (li.length : Int) 1]) B li hl hx s (by rw [hs]; simp) hz li.length 300 0 (by omega) (by omega)
  rw [List.take_zero] at this
  have e0 : A ++ [num_ (li.length : Int) 1] ++ imgL [] = A ++ [num_ (li.length : Int) 1] := by simp [imgL]
  have e1 : A ++ [num_ (li.length : Int) 1] ++ imgL li = A ++ num_ (li.length : Int) 1 :: imgL li := by simp
  rw [e0, e1] at this
  exact this
theorem tab_back_l0 (A B : List It) (li : List S55) (hl : li.length ≤ 255) (hx : ∀ x ∈ li, errI (num_ x.f0 6) = 0 ∧ errI (num_ x.f1 6) = 0) (s : ByteArray) (hs : s = encL (A ++ tabL li ++ B)) (hz : s.size ≤ 1152921504606846976) (d : Nat) :
    ∀ (k j : Nat), j + d = li.length → d + 3 ≤ k → rec_readTable.l0 k (li.take j) (li.length : Int) (j : Int) s ((encL (A ++ tabL (li.take j))).size : Int) 0 = some (li, s, ((encL (A ++ tabL li)).size : Int), 0) := by
  induction d with
  | zero =>
    intro k j hj hk
    obtain ⟨m, rfl⟩ : ∃ m, k = m + 1 := ⟨k - 1, by omega⟩
    simp only [rec_readTable.l0]
    rw [if_neg (by omega), List.take_of_length_le (by omega)]
  | succ d ih =>
    intro k j hj hk
    obtain ⟨m, rfl⟩ : ∃ m, k = m + 1 := ⟨k - 1, by omega⟩
    have hlt : j < li.length := by omega
    have hy := hx li[j] (List.getElem_mem hlt)
    have hsp := tabL_split li j hlt
    have hsn : tabL (li.take (j + 1)) = tabL (li.take j) ++ [num_ li[j].f0 6, num_ li[j].f1 6] := PAll.tabL_snoc li j hlt
    have htk : li.take (j + 1) = li.take j ++ [(⟨li[j].f0, li[j].f1⟩ : S55)] := by rw [List.take_succ_eq_append_getElem hlt]
    have e1 : s = encL ((A ++ tabL (li.take j)) ++ num_ li[j].f0 6 :: (num_ li[j].f1 6 :: (tabL (li.drop (j + 1)) ++ B))) := by rw [hs, hsp]; simp
    have e2 : s = encL ((A ++ tabL (li.take j) ++ [num_ li[j].f0 6]) ++ num_ li[j].f1 6 :: (tabL (li.drop (j + 1)) ++ B)) := by rw [hs, hsp]; simp
    have v1 := pos_inv _ _ s e1 hz
    have n1 := num_at (A ++ tabL (li.take j)) (num_ li[j].f1 6 :: (tabL (li.drop (j + 1)) ++ B)) li[j].f0 6 hy.1 (by omega) (by omega)
    have n2 := num_at (A ++ tabL (li.take j) ++ [num_ li[j].f0 6]) (tabL (li.drop (j + 1)) ++ B) li[j].f1 6 hy.2 (by omega) (by omega)
    rw [← e1] at n1
    rw [← e2] at n2
    have v2 := numS_inv v1 0 6
    rw [n1] at v2
    simp only [rec_readTable.l0]
    rw [if_pos (by omega), num_is v1 0 6, n1]
    simp only [Option.bind_some]
    rw [num_is v2 0 6, n2]
    simp only [Option.bind_some]
    rw [if_pos (by rw [List.length_take]; omega), w64p (by omega) (by omega), ← htk]
    have ee : (A ++ tabL (li.take j) ++ [num_ li[j].f0 6]) ++ [num_ li[j].f1 6] = A ++ tabL (li.take (j + 1)) := by rw [hsn]; simp
    rw [ee]
    exact ih m (j + 1) (by omega) (by omega)
theorem tab_back (A B : List It) (li : List S55) (hl : li.length ≤ 255) (hx : ∀ x ∈ li, errI (num_ x.f0 6) = 0 ∧ errI (num_ x.f1 6) = 0) (s : ByteArray) (hs : s = encL (A ++ num_ (li.length : Int) 1 :: (tabL li ++ B))) (hz : s.size ≤ 1152921504606846976) :
    rec_readTable.f 300 s ((encL A).size : Int) 0 = some (li, s, ((encL (A ++ num_ (li.length : Int) 1 :: tabL li)).size : Int), 0) := by
  have he : errI (num_ (li.length : Int) 1) = 0 := by
    have := errI_num (li.length : Int) 1 (by omega)
    rw [if_neg (by show ¬ ((li.length : Int) < 0 ∨ ((256 : Nat) : Int) ≤ li.length); omega)] at this
    exact this
  have v1 := pos_inv A _ s hs hz
  have n1 := num_at A (tabL li ++ B) (li.length : Int) 1 he (by omega) (by omega)
  rw [← hs] at n1
  unfold rec_readTable.f
  rw [num_is v1 0 1, n1]
  simp only [Option.bind_some]
  have := tab_back_l0 (A ++ [num_ (li.length : Int) 1]) B li hl hx s (by rw [hs]; simp) hz li.length 300 0 (by omega) (by omega)
  rw [List.take_zero] at this
  have e0 : A ++ [num_ (li.length : Int) 1] ++ tabL [] = A ++ [num_ (li.length : Int) 1] := by simp [tabL]
  have e1 : A ++ [num_ (li.length : Int) 1] ++ tabL li = A ++ num_ (li.length : Int) 1 :: tabL li := by simp
  rw [e0, e1] at this
  exact this
end Go.Proofs.Ytdphikbkknkhiaa.Pure
/- Plain: a record that has bytes is read again as it is. No memory in sight. -/
namespace Go.Proofs.Ytdphikbkknkhiaa.Pure
open Go.RowKit Go.Proofs.Ytdphikbkknkhiaa.PAll Go.Proofs.YtdphikbkknkhiaaW.PrintWords Go.Proofs.YtdphikbkknkhiaaW.PrintLast Go.Proofs.YtdphikbkknkhiaaW.PrintMore
set_option linter.unusedVariables false
set_option linter.unusedSimpArgs false

theorem wrL_stay (r : WS) (l : List It) (h : r.2 ≠ 0) : wrL r l = r := by
  induction l with
  | nil => rfl
  | cons x l ih => rw [wrL_cons, wrS_off r x h, ih]
theorem wrL_all (l : List It) : ∀ (s : ByteArray), (wrL (s, 0) l).2 = 0 → (∀ x ∈ l, errI x = 0) ∧ wrL (s, 0) l = (s ++ encL l, 0) := by
  induction l with
  | nil => intro s _; exact ⟨fun x hx => absurd hx (by simp), by show (s, (0 : Int)) = (s ++ ⟨#[]⟩, 0); rw [app_nil]⟩
  | cons x l ih =>
    intro s h
    rw [wrL_cons] at h ⊢
    by_cases he : errI x = 0
    · rw [wrS_ok (s, 0) x rfl he] at h ⊢
      obtain ⟨h1, h2⟩ := ih _ h
      refine ⟨fun y hy => ?_, ?_⟩
      · rcases List.mem_cons.1 hy with e | e
        · rw [e]; exact he
        · exact h1 y e
      · rw [h2]
        show ((s ++ encI x) ++ encL l, (0 : Int)) = (s ++ (encI x ++ encL l), 0)
        rw [app_assoc]
    · rw [wrS_bad (s, 0) x rfl he, wrL_stay _ l he] at h
      exact absurd h he
theorem body_enc (q : RV) (li : List S36) (lt : List S55) (t : ByteArray) (h : bodyP q li lt = (t, 0)) : aheadE q li = 0 ∧ (∀ x ∈ recL q li lt, errI x = 0) ∧ t = encL (recL q li lt) ∧ t.size ≤ 4096 := by
  have hs := bodyP_le q li lt
  rw [h] at hs
  unfold bodyP at h
  by_cases a : aheadE q li = 0
  · rw [if_neg (fun c => c a)] at h
    by_cases b : (wrL (⟨#[]⟩, 0) (recL q li lt)).2 = 0
    · rw [if_neg (fun c => c b)] at h
      obtain ⟨h1, h2⟩ := wrL_all _ _ b
      split at h
      · exact absurd (congrArg Prod.snd h) (by show (3 : Int) ≠ 0; decide)
      · rw [h2, nil_app] at h
        exact ⟨a, h1, (congrArg Prod.fst h).symm, hs⟩
    · rw [if_pos b] at h
      exact absurd (congrArg Prod.snd h) b
  · rw [if_pos a] at h
    exact absurd (congrArg Prod.snd h) a
/-- What is read again. -/
def Reads (t : ByteArray) (q : RV) (li : List S36) (lt : List S55) : Prop :=
  ∃ k a, numS t 0 0 1 = (k, a, 0) ∧ (readF t k a).a = (t.size : Int) ∧ (readF t k a).e = 0 ∧ SameV (readF t k a).q q ∧ (readF t k a).li = li ∧ (readF t k a).lt = lt
theorem of_reads (t : ByteArray) (q : RV) (li : List S36) (lt : List S55) (h : bodyP q li lt = (t, 0)) (hr : Reads t q li lt) : (ofP t).e = 0 ∧ SameV (ofP t).q q ∧ (ofP t).li = li ∧ (ofP t).lt = lt := by
  obtain ⟨k, a, h0, h1, h2, h3, h4, h5⟩ := hr
  have hb : bodyP (readF t k a).q (readF t k a).li (readF t k a).lt = (t, 0) := by rw [h4, h5, bodyP_same h3, h]
  rw [ofP_ok t k a h0 (by unfold endS; rw [h2, h1, if_neg (by omega)]) (by rw [hb]; exact fun c => c.elim (fun d => d rfl) (fun d => d rfl))]
  exact ⟨rfl, h3, h4, h5⟩

theorem back_7 (txn prev : Int) (t : ByteArray) (h : bodyP (⟨7, txn, prev, 0, 0, ⟨#[]⟩, ⟨#[]⟩, ⟨#[]⟩, 0, nilS, nilS, 0, 0⟩ : RV) [] [] = (t, 0)) : Reads t (⟨7, txn, prev, 0, 0, ⟨#[]⟩, ⟨#[]⟩, ⟨#[]⟩, 0, nilS, nilS, 0, 0⟩ : RV) [] [] := by
  obtain ⟨ha, hE, ht, hs⟩ := body_enc _ _ _ t h
  have hrec : recL (⟨7, txn, prev, 0, 0, ⟨#[]⟩, ⟨#[]⟩, ⟨#[]⟩, 0, nilS, nilS, 0, 0⟩ : RV) [] [] = [num_ (7) 1, num_ (txn) 6, num_ (prev) 6] := by simp [recL, chgL]
  rw [hrec] at hE ht
  have n0 : numS t 0 0 1 = (7, ((encL ([num_ (7) 1] : List It)).size : Int), 0) := by
    rw [ht]
    exact num_at [] [num_ (txn) 6, num_ (prev) 6] (7) 1 (hE _ (by simp)) (by omega) (by omega)
  have n1 : numS t ((encL ([num_ (7) 1] : List It)).size : Int) 0 6 = (txn, ((encL ([num_ (7) 1, num_ (txn) 6] : List It)).size : Int), 0) := by
    rw [ht]
    exact num_at [num_ (7) 1] [num_ (prev) 6] (txn) 6 (hE _ (by simp)) (by omega) (by omega)
  have n2 : numS t ((encL ([num_ (7) 1, num_ (txn) 6] : List It)).size : Int) 0 6 = (prev, ((encL ([num_ (7) 1, num_ (txn) 6, num_ (prev) 6] : List It)).size : Int), 0) := by
    rw [ht]
    exact num_at [num_ (7) 1, num_ (txn) 6] [] (prev) 6 (hE _ (by simp)) (by omega) (by omega)
  have hz : ((encL ([num_ (7) 1, num_ (txn) 6, num_ (prev) 6] : List It)).size : Int) = (t.size : Int) := by rw [ht]
  generalize ((encL ([num_ (7) 1] : List It)).size : Int) = p1 at *
  generalize ((encL ([num_ (7) 1, num_ (txn) 6] : List It)).size : Int) = p2 at *
  generalize ((encL ([num_ (7) 1, num_ (txn) 6, num_ (prev) 6] : List It)).size : Int) = p3 at *
  have hr : readF t 7 p1 = ⟨(⟨7, txn, prev, 0, 0, ⟨#[]⟩, ⟨#[]⟩, ⟨#[]⟩, 0, nilS, nilS, 0, 0⟩ : RV), [], [], p3, 0⟩ := by
    unfold readF chgS
    simp [n1, n2, zeroR]
  refine ⟨7, p1, n0, ?_⟩
  rw [hr]
  exact ⟨hz, rfl, SameV.refl _, rfl, rfl⟩

theorem back_8 (txn prev : Int) (t : ByteArray) (h : bodyP (⟨8, txn, prev, 0, 0, ⟨#[]⟩, ⟨#[]⟩, ⟨#[]⟩, 0, nilS, nilS, 0, 0⟩ : RV) [] [] = (t, 0)) : Reads t (⟨8, txn, prev, 0, 0, ⟨#[]⟩, ⟨#[]⟩, ⟨#[]⟩, 0, nilS, nilS, 0, 0⟩ : RV) [] [] := by
  obtain ⟨ha, hE, ht, hs⟩ := body_enc _ _ _ t h
  have hrec : recL (⟨8, txn, prev, 0, 0, ⟨#[]⟩, ⟨#[]⟩, ⟨#[]⟩, 0, nilS, nilS, 0, 0⟩ : RV) [] [] = [num_ (8) 1, num_ (txn) 6, num_ (prev) 6] := by simp [recL, chgL]
  rw [hrec] at hE ht
  have n0 : numS t 0 0 1 = (8, ((encL ([num_ (8) 1] : List It)).size : Int), 0) := by
    rw [ht]
    exact num_at [] [num_ (txn) 6, num_ (prev) 6] (8) 1 (hE _ (by simp)) (by omega) (by omega)
  have n1 : numS t ((encL ([num_ (8) 1] : List It)).size : Int) 0 6 = (txn, ((encL ([num_ (8) 1, num_ (txn) 6] : List It)).size : Int), 0) := by
    rw [ht]
    exact num_at [num_ (8) 1] [num_ (prev) 6] (txn) 6 (hE _ (by simp)) (by omega) (by omega)
  have n2 : numS t ((encL ([num_ (8) 1, num_ (txn) 6] : List It)).size : Int) 0 6 = (prev, ((encL ([num_ (8) 1, num_ (txn) 6, num_ (prev) 6] : List It)).size : Int), 0) := by
    rw [ht]
    exact num_at [num_ (8) 1, num_ (txn) 6] [] (prev) 6 (hE _ (by simp)) (by omega) (by omega)
  have hz : ((encL ([num_ (8) 1, num_ (txn) 6, num_ (prev) 6] : List It)).size : Int) = (t.size : Int) := by rw [ht]
  generalize ((encL ([num_ (8) 1] : List It)).size : Int) = p1 at *
  generalize ((encL ([num_ (8) 1, num_ (txn) 6] : List It)).size : Int) = p2 at *
  generalize ((encL ([num_ (8) 1, num_ (txn) 6, num_ (prev) 6] : List It)).size : Int) = p3 at *
  have hr : readF t 8 p1 = ⟨(⟨8, txn, prev, 0, 0, ⟨#[]⟩, ⟨#[]⟩, ⟨#[]⟩, 0, nilS, nilS, 0, 0⟩ : RV), [], [], p3, 0⟩ := by
    unfold readF chgS
    simp [n1, n2, zeroR]
  refine ⟨8, p1, n0, ?_⟩
  rw [hr]
  exact ⟨hz, rfl, SameV.refl _, rfl, rfl⟩

theorem back_10 (epoch node : Int) (t : ByteArray) (h : bodyP (⟨10, 0, 0, 0, 0, ⟨#[]⟩, ⟨#[]⟩, ⟨#[]⟩, 0, nilS, nilS, epoch, node⟩ : RV) [] [] = (t, 0)) : Reads t (⟨10, 0, 0, 0, 0, ⟨#[]⟩, ⟨#[]⟩, ⟨#[]⟩, 0, nilS, nilS, epoch, node⟩ : RV) [] [] := by
  obtain ⟨ha, hE, ht, hs⟩ := body_enc _ _ _ t h
  have hrec : recL (⟨10, 0, 0, 0, 0, ⟨#[]⟩, ⟨#[]⟩, ⟨#[]⟩, 0, nilS, nilS, epoch, node⟩ : RV) [] [] = [num_ (10) 1, num_ (epoch) 4, num_ (node) 1] := by simp [recL, chgL]
  rw [hrec] at hE ht
  have n0 : numS t 0 0 1 = (10, ((encL ([num_ (10) 1] : List It)).size : Int), 0) := by
    rw [ht]
    exact num_at [] [num_ (epoch) 4, num_ (node) 1] (10) 1 (hE _ (by simp)) (by omega) (by omega)
  have n1 : numS t ((encL ([num_ (10) 1] : List It)).size : Int) 0 4 = (epoch, ((encL ([num_ (10) 1, num_ (epoch) 4] : List It)).size : Int), 0) := by
    rw [ht]
    exact num_at [num_ (10) 1] [num_ (node) 1] (epoch) 4 (hE _ (by simp)) (by omega) (by omega)
  have n2 : numS t ((encL ([num_ (10) 1, num_ (epoch) 4] : List It)).size : Int) 0 1 = (node, ((encL ([num_ (10) 1, num_ (epoch) 4, num_ (node) 1] : List It)).size : Int), 0) := by
    rw [ht]
    exact num_at [num_ (10) 1, num_ (epoch) 4] [] (node) 1 (hE _ (by simp)) (by omega) (by omega)
  have hz : ((encL ([num_ (10) 1, num_ (epoch) 4, num_ (node) 1] : List It)).size : Int) = (t.size : Int) := by rw [ht]
  generalize ((encL ([num_ (10) 1] : List It)).size : Int) = p1 at *
  generalize ((encL ([num_ (10) 1, num_ (epoch) 4] : List It)).size : Int) = p2 at *
  generalize ((encL ([num_ (10) 1, num_ (epoch) 4, num_ (node) 1] : List It)).size : Int) = p3 at *
  have hr : readF t 10 p1 = ⟨(⟨10, 0, 0, 0, 0, ⟨#[]⟩, ⟨#[]⟩, ⟨#[]⟩, 0, nilS, nilS, epoch, node⟩ : RV), [], [], p3, 0⟩ := by
    unfold readF chgS
    simp [n1, n2, zeroR]
  refine ⟨10, p1, n0, ?_⟩
  rw [hr]
  exact ⟨hz, rfl, SameV.refl _, rfl, rfl⟩

theorem back_3 (txn prev page : Int) (key old new_ : ByteArray) (t : ByteArray) (h : bodyP (⟨3, txn, prev, page, 0, key, ⟨#[]⟩, new_, 0, nilS, nilS, 0, 0⟩ : RV) [] [] = (t, 0)) : Reads t (⟨3, txn, prev, page, 0, key, ⟨#[]⟩, new_, 0, nilS, nilS, 0, 0⟩ : RV) [] [] := by
  obtain ⟨ha, hE, ht, hs⟩ := body_enc _ _ _ t h
  have hrec : recL (⟨3, txn, prev, page, 0, key, ⟨#[]⟩, new_, 0, nilS, nilS, 0, 0⟩ : RV) [] [] = [num_ (3) 1, num_ (txn) 6, num_ (prev) 6, num_ (page) 2, text_ key, text_ new_] := by simp [recL, chgL]
  rw [hrec] at hE ht
  have hc : cutE key (⟨#[]⟩ : ByteArray) new_ = 0 := by simpa [aheadE] using ha
  obtain ⟨c1, c2, c3⟩ : key.size ≤ 16 ∧ (⟨#[]⟩ : ByteArray).size ≤ 32 ∧ new_.size ≤ 32 := by
    unfold cutE at hc
    split at hc
    · omega
    · split at hc
      · omega
      · refine ⟨by omega, ?_, ?_⟩ <;> omega
  have n0 : numS t 0 0 1 = (3, ((encL ([num_ (3) 1] : List It)).size : Int), 0) := by
    rw [ht]
    exact num_at [] [num_ (txn) 6, num_ (prev) 6, num_ (page) 2, text_ key, text_ new_] (3) 1 (hE _ (by simp)) (by omega) (by omega)
  have n1 : numS t ((encL ([num_ (3) 1] : List It)).size : Int) 0 6 = (txn, ((encL ([num_ (3) 1, num_ (txn) 6] : List It)).size : Int), 0) := by
    rw [ht]
    exact num_at [num_ (3) 1] [num_ (prev) 6, num_ (page) 2, text_ key, text_ new_] (txn) 6 (hE _ (by simp)) (by omega) (by omega)
  have n2 : numS t ((encL ([num_ (3) 1, num_ (txn) 6] : List It)).size : Int) 0 6 = (prev, ((encL ([num_ (3) 1, num_ (txn) 6, num_ (prev) 6] : List It)).size : Int), 0) := by
    rw [ht]
    exact num_at [num_ (3) 1, num_ (txn) 6] [num_ (page) 2, text_ key, text_ new_] (prev) 6 (hE _ (by simp)) (by omega) (by omega)
  have n3 : numS t ((encL ([num_ (3) 1, num_ (txn) 6, num_ (prev) 6] : List It)).size : Int) 0 2 = (page, ((encL ([num_ (3) 1, num_ (txn) 6, num_ (prev) 6, num_ (page) 2] : List It)).size : Int), 0) := by
    rw [ht]
    exact num_at [num_ (3) 1, num_ (txn) 6, num_ (prev) 6] [text_ key, text_ new_] (page) 2 (hE _ (by simp)) (by omega) (by omega)
  have n4 : textS t ((encL ([num_ (3) 1, num_ (txn) 6, num_ (prev) 6, num_ (page) 2] : List It)).size : Int) 0 16 = (key, ((encL ([num_ (3) 1, num_ (txn) 6, num_ (prev) 6, num_ (page) 2, text_ key] : List It)).size : Int), 0) := by
    rw [ht]
    exact text_at [num_ (3) 1, num_ (txn) 6, num_ (prev) 6, num_ (page) 2] [text_ new_] key 16 (by omega) (by omega)
  have n5 : textS t ((encL ([num_ (3) 1, num_ (txn) 6, num_ (prev) 6, num_ (page) 2, text_ key] : List It)).size : Int) 0 32 = (new_, ((encL ([num_ (3) 1, num_ (txn) 6, num_ (prev) 6, num_ (page) 2, text_ key, text_ new_] : List It)).size : Int), 0) := by
    rw [ht]
    exact text_at [num_ (3) 1, num_ (txn) 6, num_ (prev) 6, num_ (page) 2, text_ key] [] new_ 32 (by omega) (by omega)
  have hz : ((encL ([num_ (3) 1, num_ (txn) 6, num_ (prev) 6, num_ (page) 2, text_ key, text_ new_] : List It)).size : Int) = (t.size : Int) := by rw [ht]
  generalize ((encL ([num_ (3) 1] : List It)).size : Int) = p1 at *
  generalize ((encL ([num_ (3) 1, num_ (txn) 6] : List It)).size : Int) = p2 at *
  generalize ((encL ([num_ (3) 1, num_ (txn) 6, num_ (prev) 6] : List It)).size : Int) = p3 at *
  generalize ((encL ([num_ (3) 1, num_ (txn) 6, num_ (prev) 6, num_ (page) 2] : List It)).size : Int) = p4 at *
  generalize ((encL ([num_ (3) 1, num_ (txn) 6, num_ (prev) 6, num_ (page) 2, text_ key] : List It)).size : Int) = p5 at *
  generalize ((encL ([num_ (3) 1, num_ (txn) 6, num_ (prev) 6, num_ (page) 2, text_ key, text_ new_] : List It)).size : Int) = p6 at *
  have hr : readF t 3 p1 = ⟨(⟨3, txn, prev, page, 0, key, ⟨#[]⟩, new_, 0, nilS, nilS, 0, 0⟩ : RV), [], [], p6, 0⟩ := by
    unfold readF chgS
    simp [n1, n2, n3, n4, n5, zeroR]
  refine ⟨3, p1, n0, ?_⟩
  rw [hr]
  exact ⟨hz, rfl, SameV.refl _, rfl, rfl⟩

theorem back_4 (txn prev page : Int) (key old new_ : ByteArray) (t : ByteArray) (h : bodyP (⟨4, txn, prev, page, 0, key, old, ⟨#[]⟩, 0, nilS, nilS, 0, 0⟩ : RV) [] [] = (t, 0)) : Reads t (⟨4, txn, prev, page, 0, key, old, ⟨#[]⟩, 0, nilS, nilS, 0, 0⟩ : RV) [] [] := by
  obtain ⟨ha, hE, ht, hs⟩ := body_enc _ _ _ t h
  have hrec : recL (⟨4, txn, prev, page, 0, key, old, ⟨#[]⟩, 0, nilS, nilS, 0, 0⟩ : RV) [] [] = [num_ (4) 1, num_ (txn) 6, num_ (prev) 6, num_ (page) 2, text_ key, text_ old] := by simp [recL, chgL]
  rw [hrec] at hE ht
  have hc : cutE key old (⟨#[]⟩ : ByteArray) = 0 := by simpa [aheadE] using ha
  obtain ⟨c1, c2, c3⟩ : key.size ≤ 16 ∧ old.size ≤ 32 ∧ (⟨#[]⟩ : ByteArray).size ≤ 32 := by
    unfold cutE at hc
    split at hc
    · omega
    · split at hc
      · omega
      · refine ⟨by omega, ?_, ?_⟩ <;> omega
  have n0 : numS t 0 0 1 = (4, ((encL ([num_ (4) 1] : List It)).size : Int), 0) := by
    rw [ht]
    exact num_at [] [num_ (txn) 6, num_ (prev) 6, num_ (page) 2, text_ key, text_ old] (4) 1 (hE _ (by simp)) (by omega) (by omega)
  have n1 : numS t ((encL ([num_ (4) 1] : List It)).size : Int) 0 6 = (txn, ((encL ([num_ (4) 1, num_ (txn) 6] : List It)).size : Int), 0) := by
    rw [ht]
    exact num_at [num_ (4) 1] [num_ (prev) 6, num_ (page) 2, text_ key, text_ old] (txn) 6 (hE _ (by simp)) (by omega) (by omega)
  have n2 : numS t ((encL ([num_ (4) 1, num_ (txn) 6] : List It)).size : Int) 0 6 = (prev, ((encL ([num_ (4) 1, num_ (txn) 6, num_ (prev) 6] : List It)).size : Int), 0) := by
    rw [ht]
    exact num_at [num_ (4) 1, num_ (txn) 6] [num_ (page) 2, text_ key, text_ old] (prev) 6 (hE _ (by simp)) (by omega) (by omega)
  have n3 : numS t ((encL ([num_ (4) 1, num_ (txn) 6, num_ (prev) 6] : List It)).size : Int) 0 2 = (page, ((encL ([num_ (4) 1, num_ (txn) 6, num_ (prev) 6, num_ (page) 2] : List It)).size : Int), 0) := by
    rw [ht]
    exact num_at [num_ (4) 1, num_ (txn) 6, num_ (prev) 6] [text_ key, text_ old] (page) 2 (hE _ (by simp)) (by omega) (by omega)
  have n4 : textS t ((encL ([num_ (4) 1, num_ (txn) 6, num_ (prev) 6, num_ (page) 2] : List It)).size : Int) 0 16 = (key, ((encL ([num_ (4) 1, num_ (txn) 6, num_ (prev) 6, num_ (page) 2, text_ key] : List It)).size : Int), 0) := by
    rw [ht]
    exact text_at [num_ (4) 1, num_ (txn) 6, num_ (prev) 6, num_ (page) 2] [text_ old] key 16 (by omega) (by omega)
  have n5 : textS t ((encL ([num_ (4) 1, num_ (txn) 6, num_ (prev) 6, num_ (page) 2, text_ key] : List It)).size : Int) 0 32 = (old, ((encL ([num_ (4) 1, num_ (txn) 6, num_ (prev) 6, num_ (page) 2, text_ key, text_ old] : List It)).size : Int), 0) := by
    rw [ht]
    exact text_at [num_ (4) 1, num_ (txn) 6, num_ (prev) 6, num_ (page) 2, text_ key] [] old 32 (by omega) (by omega)
  have hz : ((encL ([num_ (4) 1, num_ (txn) 6, num_ (prev) 6, num_ (page) 2, text_ key, text_ old] : List It)).size : Int) = (t.size : Int) := by rw [ht]
  generalize ((encL ([num_ (4) 1] : List It)).size : Int) = p1 at *
  generalize ((encL ([num_ (4) 1, num_ (txn) 6] : List It)).size : Int) = p2 at *
  generalize ((encL ([num_ (4) 1, num_ (txn) 6, num_ (prev) 6] : List It)).size : Int) = p3 at *
  generalize ((encL ([num_ (4) 1, num_ (txn) 6, num_ (prev) 6, num_ (page) 2] : List It)).size : Int) = p4 at *
  generalize ((encL ([num_ (4) 1, num_ (txn) 6, num_ (prev) 6, num_ (page) 2, text_ key] : List It)).size : Int) = p5 at *
  generalize ((encL ([num_ (4) 1, num_ (txn) 6, num_ (prev) 6, num_ (page) 2, text_ key, text_ old] : List It)).size : Int) = p6 at *
  have hr : readF t 4 p1 = ⟨(⟨4, txn, prev, page, 0, key, old, ⟨#[]⟩, 0, nilS, nilS, 0, 0⟩ : RV), [], [], p6, 0⟩ := by
    unfold readF chgS
    simp [n1, n2, n3, n4, n5, zeroR]
  refine ⟨4, p1, n0, ?_⟩
  rw [hr]
  exact ⟨hz, rfl, SameV.refl _, rfl, rfl⟩

theorem back_5 (txn prev page : Int) (key old new_ : ByteArray) (t : ByteArray) (h : bodyP (⟨5, txn, prev, page, 0, key, old, new_, 0, nilS, nilS, 0, 0⟩ : RV) [] [] = (t, 0)) : Reads t (⟨5, txn, prev, page, 0, key, old, new_, 0, nilS, nilS, 0, 0⟩ : RV) [] [] := by
  obtain ⟨ha, hE, ht, hs⟩ := body_enc _ _ _ t h
  have hrec : recL (⟨5, txn, prev, page, 0, key, old, new_, 0, nilS, nilS, 0, 0⟩ : RV) [] [] = [num_ (5) 1, num_ (txn) 6, num_ (prev) 6, num_ (page) 2, text_ key, text_ old, text_ new_] := by simp [recL, chgL]
  rw [hrec] at hE ht
  have hc : cutE key old new_ = 0 := by simpa [aheadE] using ha
  obtain ⟨c1, c2, c3⟩ : key.size ≤ 16 ∧ old.size ≤ 32 ∧ new_.size ≤ 32 := by
    unfold cutE at hc
    split at hc
    · omega
    · split at hc
      · omega
      · refine ⟨by omega, ?_, ?_⟩ <;> omega
  have n0 : numS t 0 0 1 = (5, ((encL ([num_ (5) 1] : List It)).size : Int), 0) := by
    rw [ht]
    exact num_at [] [num_ (txn) 6, num_ (prev) 6, num_ (page) 2, text_ key, text_ old, text_ new_] (5) 1 (hE _ (by simp)) (by omega) (by omega)
  have n1 : numS t ((encL ([num_ (5) 1] : List It)).size : Int) 0 6 = (txn, ((encL ([num_ (5) 1, num_ (txn) 6] : List It)).size : Int), 0) := by
    rw [ht]
    exact num_at [num_ (5) 1] [num_ (prev) 6, num_ (page) 2, text_ key, text_ old, text_ new_] (txn) 6 (hE _ (by simp)) (by omega) (by omega)
  have n2 : numS t ((encL ([num_ (5) 1, num_ (txn) 6] : List It)).size : Int) 0 6 = (prev, ((encL ([num_ (5) 1, num_ (txn) 6, num_ (prev) 6] : List It)).size : Int), 0) := by
    rw [ht]
    exact num_at [num_ (5) 1, num_ (txn) 6] [num_ (page) 2, text_ key, text_ old, text_ new_] (prev) 6 (hE _ (by simp)) (by omega) (by omega)
  have n3 : numS t ((encL ([num_ (5) 1, num_ (txn) 6, num_ (prev) 6] : List It)).size : Int) 0 2 = (page, ((encL ([num_ (5) 1, num_ (txn) 6, num_ (prev) 6, num_ (page) 2] : List It)).size : Int), 0) := by
    rw [ht]
    exact num_at [num_ (5) 1, num_ (txn) 6, num_ (prev) 6] [text_ key, text_ old, text_ new_] (page) 2 (hE _ (by simp)) (by omega) (by omega)
  have n4 : textS t ((encL ([num_ (5) 1, num_ (txn) 6, num_ (prev) 6, num_ (page) 2] : List It)).size : Int) 0 16 = (key, ((encL ([num_ (5) 1, num_ (txn) 6, num_ (prev) 6, num_ (page) 2, text_ key] : List It)).size : Int), 0) := by
    rw [ht]
    exact text_at [num_ (5) 1, num_ (txn) 6, num_ (prev) 6, num_ (page) 2] [text_ old, text_ new_] key 16 (by omega) (by omega)
  have n5 : textS t ((encL ([num_ (5) 1, num_ (txn) 6, num_ (prev) 6, num_ (page) 2, text_ key] : List It)).size : Int) 0 32 = (old, ((encL ([num_ (5) 1, num_ (txn) 6, num_ (prev) 6, num_ (page) 2, text_ key, text_ old] : List It)).size : Int), 0) := by
    rw [ht]
    exact text_at [num_ (5) 1, num_ (txn) 6, num_ (prev) 6, num_ (page) 2, text_ key] [text_ new_] old 32 (by omega) (by omega)
  have n6 : textS t ((encL ([num_ (5) 1, num_ (txn) 6, num_ (prev) 6, num_ (page) 2, text_ key, text_ old] : List It)).size : Int) 0 32 = (new_, ((encL ([num_ (5) 1, num_ (txn) 6, num_ (prev) 6, num_ (page) 2, text_ key, text_ old, text_ new_] : List It)).size : Int), 0) := by
    rw [ht]
    exact text_at [num_ (5) 1, num_ (txn) 6, num_ (prev) 6, num_ (page) 2, text_ key, text_ old] [] new_ 32 (by omega) (by omega)
  have hz : ((encL ([num_ (5) 1, num_ (txn) 6, num_ (prev) 6, num_ (page) 2, text_ key, text_ old, text_ new_] : List It)).size : Int) = (t.size : Int) := by rw [ht]
  generalize ((encL ([num_ (5) 1] : List It)).size : Int) = p1 at *
  generalize ((encL ([num_ (5) 1, num_ (txn) 6] : List It)).size : Int) = p2 at *
  generalize ((encL ([num_ (5) 1, num_ (txn) 6, num_ (prev) 6] : List It)).size : Int) = p3 at *
  generalize ((encL ([num_ (5) 1, num_ (txn) 6, num_ (prev) 6, num_ (page) 2] : List It)).size : Int) = p4 at *
  generalize ((encL ([num_ (5) 1, num_ (txn) 6, num_ (prev) 6, num_ (page) 2, text_ key] : List It)).size : Int) = p5 at *
  generalize ((encL ([num_ (5) 1, num_ (txn) 6, num_ (prev) 6, num_ (page) 2, text_ key, text_ old] : List It)).size : Int) = p6 at *
  generalize ((encL ([num_ (5) 1, num_ (txn) 6, num_ (prev) 6, num_ (page) 2, text_ key, text_ old, text_ new_] : List It)).size : Int) = p7 at *
  have hr : readF t 5 p1 = ⟨(⟨5, txn, prev, page, 0, key, old, new_, 0, nilS, nilS, 0, 0⟩ : RV), [], [], p7, 0⟩ := by
    unfold readF chgS
    simp [n1, n2, n3, n4, n5, n6, zeroR]
  refine ⟨5, p1, n0, ?_⟩
  rw [hr]
  exact ⟨hz, rfl, SameV.refl _, rfl, rfl⟩

theorem back_63 (txn prev next page : Int) (key old new_ : ByteArray) (t : ByteArray) (h : bodyP (⟨6, txn, prev, page, 3, key, ⟨#[]⟩, new_, next, nilS, nilS, 0, 0⟩ : RV) [] [] = (t, 0)) : Reads t (⟨6, txn, prev, page, 3, key, ⟨#[]⟩, new_, next, nilS, nilS, 0, 0⟩ : RV) [] [] := by
  obtain ⟨ha, hE, ht, hs⟩ := body_enc _ _ _ t h
  have hrec : recL (⟨6, txn, prev, page, 3, key, ⟨#[]⟩, new_, next, nilS, nilS, 0, 0⟩ : RV) [] [] = [num_ (6) 1, num_ (txn) 6, num_ (prev) 6, num_ (next) 6, num_ (3) 1, num_ (page) 2, text_ key, text_ new_] := by simp [recL, chgL]
  rw [hrec] at hE ht
  have hc : cutE key (⟨#[]⟩ : ByteArray) new_ = 0 := by simpa [aheadE] using ha
  obtain ⟨c1, c2, c3⟩ : key.size ≤ 16 ∧ (⟨#[]⟩ : ByteArray).size ≤ 32 ∧ new_.size ≤ 32 := by
    unfold cutE at hc
    split at hc
    · omega
    · split at hc
      · omega
      · refine ⟨by omega, ?_, ?_⟩ <;> omega
  have n0 : numS t 0 0 1 = (6, ((encL ([num_ (6) 1] : List It)).size : Int), 0) := by
    rw [ht]
    exact num_at [] [num_ (txn) 6, num_ (prev) 6, num_ (next) 6, num_ (3) 1, num_ (page) 2, text_ key, text_ new_] (6) 1 (hE _ (by simp)) (by omega) (by omega)
  have n1 : numS t ((encL ([num_ (6) 1] : List It)).size : Int) 0 6 = (txn, ((encL ([num_ (6) 1, num_ (txn) 6] : List It)).size : Int), 0) := by
    rw [ht]
    exact num_at [num_ (6) 1] [num_ (prev) 6, num_ (next) 6, num_ (3) 1, num_ (page) 2, text_ key, text_ new_] (txn) 6 (hE _ (by simp)) (by omega) (by omega)
  have n2 : numS t ((encL ([num_ (6) 1, num_ (txn) 6] : List It)).size : Int) 0 6 = (prev, ((encL ([num_ (6) 1, num_ (txn) 6, num_ (prev) 6] : List It)).size : Int), 0) := by
    rw [ht]
    exact num_at [num_ (6) 1, num_ (txn) 6] [num_ (next) 6, num_ (3) 1, num_ (page) 2, text_ key, text_ new_] (prev) 6 (hE _ (by simp)) (by omega) (by omega)
  have n3 : numS t ((encL ([num_ (6) 1, num_ (txn) 6, num_ (prev) 6] : List It)).size : Int) 0 6 = (next, ((encL ([num_ (6) 1, num_ (txn) 6, num_ (prev) 6, num_ (next) 6] : List It)).size : Int), 0) := by
    rw [ht]
    exact num_at [num_ (6) 1, num_ (txn) 6, num_ (prev) 6] [num_ (3) 1, num_ (page) 2, text_ key, text_ new_] (next) 6 (hE _ (by simp)) (by omega) (by omega)
  have n4 : numS t ((encL ([num_ (6) 1, num_ (txn) 6, num_ (prev) 6, num_ (next) 6] : List It)).size : Int) 0 1 = (3, ((encL ([num_ (6) 1, num_ (txn) 6, num_ (prev) 6, num_ (next) 6, num_ (3) 1] : List It)).size : Int), 0) := by
    rw [ht]
    exact num_at [num_ (6) 1, num_ (txn) 6, num_ (prev) 6, num_ (next) 6] [num_ (page) 2, text_ key, text_ new_] (3) 1 (hE _ (by simp)) (by omega) (by omega)
  have n5 : numS t ((encL ([num_ (6) 1, num_ (txn) 6, num_ (prev) 6, num_ (next) 6, num_ (3) 1] : List It)).size : Int) 0 2 = (page, ((encL ([num_ (6) 1, num_ (txn) 6, num_ (prev) 6, num_ (next) 6, num_ (3) 1, num_ (page) 2] : List It)).size : Int), 0) := by
    rw [ht]
    exact num_at [num_ (6) 1, num_ (txn) 6, num_ (prev) 6, num_ (next) 6, num_ (3) 1] [text_ key, text_ new_] (page) 2 (hE _ (by simp)) (by omega) (by omega)
  have n6 : textS t ((encL ([num_ (6) 1, num_ (txn) 6, num_ (prev) 6, num_ (next) 6, num_ (3) 1, num_ (page) 2] : List It)).size : Int) 0 16 = (key, ((encL ([num_ (6) 1, num_ (txn) 6, num_ (prev) 6, num_ (next) 6, num_ (3) 1, num_ (page) 2, text_ key] : List It)).size : Int), 0) := by
    rw [ht]
    exact text_at [num_ (6) 1, num_ (txn) 6, num_ (prev) 6, num_ (next) 6, num_ (3) 1, num_ (page) 2] [text_ new_] key 16 (by omega) (by omega)
  have n7 : textS t ((encL ([num_ (6) 1, num_ (txn) 6, num_ (prev) 6, num_ (next) 6, num_ (3) 1, num_ (page) 2, text_ key] : List It)).size : Int) 0 32 = (new_, ((encL ([num_ (6) 1, num_ (txn) 6, num_ (prev) 6, num_ (next) 6, num_ (3) 1, num_ (page) 2, text_ key, text_ new_] : List It)).size : Int), 0) := by
    rw [ht]
    exact text_at [num_ (6) 1, num_ (txn) 6, num_ (prev) 6, num_ (next) 6, num_ (3) 1, num_ (page) 2, text_ key] [] new_ 32 (by omega) (by omega)
  have hz : ((encL ([num_ (6) 1, num_ (txn) 6, num_ (prev) 6, num_ (next) 6, num_ (3) 1, num_ (page) 2, text_ key, text_ new_] : List It)).size : Int) = (t.size : Int) := by rw [ht]
  generalize ((encL ([num_ (6) 1] : List It)).size : Int) = p1 at *
  generalize ((encL ([num_ (6) 1, num_ (txn) 6] : List It)).size : Int) = p2 at *
  generalize ((encL ([num_ (6) 1, num_ (txn) 6, num_ (prev) 6] : List It)).size : Int) = p3 at *
  generalize ((encL ([num_ (6) 1, num_ (txn) 6, num_ (prev) 6, num_ (next) 6] : List It)).size : Int) = p4 at *
  generalize ((encL ([num_ (6) 1, num_ (txn) 6, num_ (prev) 6, num_ (next) 6, num_ (3) 1] : List It)).size : Int) = p5 at *
  generalize ((encL ([num_ (6) 1, num_ (txn) 6, num_ (prev) 6, num_ (next) 6, num_ (3) 1, num_ (page) 2] : List It)).size : Int) = p6 at *
  generalize ((encL ([num_ (6) 1, num_ (txn) 6, num_ (prev) 6, num_ (next) 6, num_ (3) 1, num_ (page) 2, text_ key] : List It)).size : Int) = p7 at *
  generalize ((encL ([num_ (6) 1, num_ (txn) 6, num_ (prev) 6, num_ (next) 6, num_ (3) 1, num_ (page) 2, text_ key, text_ new_] : List It)).size : Int) = p8 at *
  have hr : readF t 6 p1 = ⟨(⟨6, txn, prev, page, 3, key, ⟨#[]⟩, new_, next, nilS, nilS, 0, 0⟩ : RV), [], [], p8, 0⟩ := by
    unfold readF chgS
    simp [n1, n2, n3, n4, n5, n6, n7, zeroR]
  refine ⟨6, p1, n0, ?_⟩
  rw [hr]
  exact ⟨hz, rfl, SameV.refl _, rfl, rfl⟩

theorem back_64 (txn prev next page : Int) (key old new_ : ByteArray) (t : ByteArray) (h : bodyP (⟨6, txn, prev, page, 4, key, old, ⟨#[]⟩, next, nilS, nilS, 0, 0⟩ : RV) [] [] = (t, 0)) : Reads t (⟨6, txn, prev, page, 4, key, old, ⟨#[]⟩, next, nilS, nilS, 0, 0⟩ : RV) [] [] := by
  obtain ⟨ha, hE, ht, hs⟩ := body_enc _ _ _ t h
  have hrec : recL (⟨6, txn, prev, page, 4, key, old, ⟨#[]⟩, next, nilS, nilS, 0, 0⟩ : RV) [] [] = [num_ (6) 1, num_ (txn) 6, num_ (prev) 6, num_ (next) 6, num_ (4) 1, num_ (page) 2, text_ key, text_ old] := by simp [recL, chgL]
  rw [hrec] at hE ht
  have hc : cutE key old (⟨#[]⟩ : ByteArray) = 0 := by simpa [aheadE] using ha
  obtain ⟨c1, c2, c3⟩ : key.size ≤ 16 ∧ old.size ≤ 32 ∧ (⟨#[]⟩ : ByteArray).size ≤ 32 := by
    unfold cutE at hc
    split at hc
    · omega
    · split at hc
      · omega
      · refine ⟨by omega, ?_, ?_⟩ <;> omega
  have n0 : numS t 0 0 1 = (6, ((encL ([num_ (6) 1] : List It)).size : Int), 0) := by
    rw [ht]
    exact num_at [] [num_ (txn) 6, num_ (prev) 6, num_ (next) 6, num_ (4) 1, num_ (page) 2, text_ key, text_ old] (6) 1 (hE _ (by simp)) (by omega) (by omega)
  have n1 : numS t ((encL ([num_ (6) 1] : List It)).size : Int) 0 6 = (txn, ((encL ([num_ (6) 1, num_ (txn) 6] : List It)).size : Int), 0) := by
    rw [ht]
    exact num_at [num_ (6) 1] [num_ (prev) 6, num_ (next) 6, num_ (4) 1, num_ (page) 2, text_ key, text_ old] (txn) 6 (hE _ (by simp)) (by omega) (by omega)
  have n2 : numS t ((encL ([num_ (6) 1, num_ (txn) 6] : List It)).size : Int) 0 6 = (prev, ((encL ([num_ (6) 1, num_ (txn) 6, num_ (prev) 6] : List It)).size : Int), 0) := by
    rw [ht]
    exact num_at [num_ (6) 1, num_ (txn) 6] [num_ (next) 6, num_ (4) 1, num_ (page) 2, text_ key, text_ old] (prev) 6 (hE _ (by simp)) (by omega) (by omega)
  have n3 : numS t ((encL ([num_ (6) 1, num_ (txn) 6, num_ (prev) 6] : List It)).size : Int) 0 6 = (next, ((encL ([num_ (6) 1, num_ (txn) 6, num_ (prev) 6, num_ (next) 6] : List It)).size : Int), 0) := by
    rw [ht]
    exact num_at [num_ (6) 1, num_ (txn) 6, num_ (prev) 6] [num_ (4) 1, num_ (page) 2, text_ key, text_ old] (next) 6 (hE _ (by simp)) (by omega) (by omega)
  have n4 : numS t ((encL ([num_ (6) 1, num_ (txn) 6, num_ (prev) 6, num_ (next) 6] : List It)).size : Int) 0 1 = (4, ((encL ([num_ (6) 1, num_ (txn) 6, num_ (prev) 6, num_ (next) 6, num_ (4) 1] : List It)).size : Int), 0) := by
    rw [ht]
    exact num_at [num_ (6) 1, num_ (txn) 6, num_ (prev) 6, num_ (next) 6] [num_ (page) 2, text_ key, text_ old] (4) 1 (hE _ (by simp)) (by omega) (by omega)
  have n5 : numS t ((encL ([num_ (6) 1, num_ (txn) 6, num_ (prev) 6, num_ (next) 6, num_ (4) 1] : List It)).size : Int) 0 2 = (page, ((encL ([num_ (6) 1, num_ (txn) 6, num_ (prev) 6, num_ (next) 6, num_ (4) 1, num_ (page) 2] : List It)).size : Int), 0) := by
    rw [ht]
    exact num_at [num_ (6) 1, num_ (txn) 6, num_ (prev) 6, num_ (next) 6, num_ (4) 1] [text_ key, text_ old] (page) 2 (hE _ (by simp)) (by omega) (by omega)
  have n6 : textS t ((encL ([num_ (6) 1, num_ (txn) 6, num_ (prev) 6, num_ (next) 6, num_ (4) 1, num_ (page) 2] : List It)).size : Int) 0 16 = (key, ((encL ([num_ (6) 1, num_ (txn) 6, num_ (prev) 6, num_ (next) 6, num_ (4) 1, num_ (page) 2, text_ key] : List It)).size : Int), 0) := by
    rw [ht]
    exact text_at [num_ (6) 1, num_ (txn) 6, num_ (prev) 6, num_ (next) 6, num_ (4) 1, num_ (page) 2] [text_ old] key 16 (by omega) (by omega)
  have n7 : textS t ((encL ([num_ (6) 1, num_ (txn) 6, num_ (prev) 6, num_ (next) 6, num_ (4) 1, num_ (page) 2, text_ key] : List It)).size : Int) 0 32 = (old, ((encL ([num_ (6) 1, num_ (txn) 6, num_ (prev) 6, num_ (next) 6, num_ (4) 1, num_ (page) 2, text_ key, text_ old] : List It)).size : Int), 0) := by
    rw [ht]
    exact text_at [num_ (6) 1, num_ (txn) 6, num_ (prev) 6, num_ (next) 6, num_ (4) 1, num_ (page) 2, text_ key] [] old 32 (by omega) (by omega)
  have hz : ((encL ([num_ (6) 1, num_ (txn) 6, num_ (prev) 6, num_ (next) 6, num_ (4) 1, num_ (page) 2, text_ key, text_ old] : List It)).size : Int) = (t.size : Int) := by rw [ht]
  generalize ((encL ([num_ (6) 1] : List It)).size : Int) = p1 at *
  generalize ((encL ([num_ (6) 1, num_ (txn) 6] : List It)).size : Int) = p2 at *
  generalize ((encL ([num_ (6) 1, num_ (txn) 6, num_ (prev) 6] : List It)).size : Int) = p3 at *
  generalize ((encL ([num_ (6) 1, num_ (txn) 6, num_ (prev) 6, num_ (next) 6] : List It)).size : Int) = p4 at *
  generalize ((encL ([num_ (6) 1, num_ (txn) 6, num_ (prev) 6, num_ (next) 6, num_ (4) 1] : List It)).size : Int) = p5 at *
  generalize ((encL ([num_ (6) 1, num_ (txn) 6, num_ (prev) 6, num_ (next) 6, num_ (4) 1, num_ (page) 2] : List It)).size : Int) = p6 at *
  generalize ((encL ([num_ (6) 1, num_ (txn) 6, num_ (prev) 6, num_ (next) 6, num_ (4) 1, num_ (page) 2, text_ key] : List It)).size : Int) = p7 at *
  generalize ((encL ([num_ (6) 1, num_ (txn) 6, num_ (prev) 6, num_ (next) 6, num_ (4) 1, num_ (page) 2, text_ key, text_ old] : List It)).size : Int) = p8 at *
  have hr : readF t 6 p1 = ⟨(⟨6, txn, prev, page, 4, key, old, ⟨#[]⟩, next, nilS, nilS, 0, 0⟩ : RV), [], [], p8, 0⟩ := by
    unfold readF chgS
    simp [n1, n2, n3, n4, n5, n6, n7, zeroR]
  refine ⟨6, p1, n0, ?_⟩
  rw [hr]
  exact ⟨hz, rfl, SameV.refl _, rfl, rfl⟩

theorem back_65 (txn prev next page : Int) (key old new_ : ByteArray) (t : ByteArray) (h : bodyP (⟨6, txn, prev, page, 5, key, old, new_, next, nilS, nilS, 0, 0⟩ : RV) [] [] = (t, 0)) : Reads t (⟨6, txn, prev, page, 5, key, old, new_, next, nilS, nilS, 0, 0⟩ : RV) [] [] := by
  obtain ⟨ha, hE, ht, hs⟩ := body_enc _ _ _ t h
  have hrec : recL (⟨6, txn, prev, page, 5, key, old, new_, next, nilS, nilS, 0, 0⟩ : RV) [] [] = [num_ (6) 1, num_ (txn) 6, num_ (prev) 6, num_ (next) 6, num_ (5) 1, num_ (page) 2, text_ key, text_ old, text_ new_] := by simp [recL, chgL]
  rw [hrec] at hE ht
  have hc : cutE key old new_ = 0 := by simpa [aheadE] using ha
  obtain ⟨c1, c2, c3⟩ : key.size ≤ 16 ∧ old.size ≤ 32 ∧ new_.size ≤ 32 := by
    unfold cutE at hc
    split at hc
    · omega
    · split at hc
      · omega
      · refine ⟨by omega, ?_, ?_⟩ <;> omega
  have n0 : numS t 0 0 1 = (6, ((encL ([num_ (6) 1] : List It)).size : Int), 0) := by
    rw [ht]
    exact num_at [] [num_ (txn) 6, num_ (prev) 6, num_ (next) 6, num_ (5) 1, num_ (page) 2, text_ key, text_ old, text_ new_] (6) 1 (hE _ (by simp)) (by omega) (by omega)
  have n1 : numS t ((encL ([num_ (6) 1] : List It)).size : Int) 0 6 = (txn, ((encL ([num_ (6) 1, num_ (txn) 6] : List It)).size : Int), 0) := by
    rw [ht]
    exact num_at [num_ (6) 1] [num_ (prev) 6, num_ (next) 6, num_ (5) 1, num_ (page) 2, text_ key, text_ old, text_ new_] (txn) 6 (hE _ (by simp)) (by omega) (by omega)
  have n2 : numS t ((encL ([num_ (6) 1, num_ (txn) 6] : List It)).size : Int) 0 6 = (prev, ((encL ([num_ (6) 1, num_ (txn) 6, num_ (prev) 6] : List It)).size : Int), 0) := by
    rw [ht]
    exact num_at [num_ (6) 1, num_ (txn) 6] [num_ (next) 6, num_ (5) 1, num_ (page) 2, text_ key, text_ old, text_ new_] (prev) 6 (hE _ (by simp)) (by omega) (by omega)
  have n3 : numS t ((encL ([num_ (6) 1, num_ (txn) 6, num_ (prev) 6] : List It)).size : Int) 0 6 = (next, ((encL ([num_ (6) 1, num_ (txn) 6, num_ (prev) 6, num_ (next) 6] : List It)).size : Int), 0) := by
    rw [ht]
    exact num_at [num_ (6) 1, num_ (txn) 6, num_ (prev) 6] [num_ (5) 1, num_ (page) 2, text_ key, text_ old, text_ new_] (next) 6 (hE _ (by simp)) (by omega) (by omega)
  have n4 : numS t ((encL ([num_ (6) 1, num_ (txn) 6, num_ (prev) 6, num_ (next) 6] : List It)).size : Int) 0 1 = (5, ((encL ([num_ (6) 1, num_ (txn) 6, num_ (prev) 6, num_ (next) 6, num_ (5) 1] : List It)).size : Int), 0) := by
    rw [ht]
    exact num_at [num_ (6) 1, num_ (txn) 6, num_ (prev) 6, num_ (next) 6] [num_ (page) 2, text_ key, text_ old, text_ new_] (5) 1 (hE _ (by simp)) (by omega) (by omega)
  have n5 : numS t ((encL ([num_ (6) 1, num_ (txn) 6, num_ (prev) 6, num_ (next) 6, num_ (5) 1] : List It)).size : Int) 0 2 = (page, ((encL ([num_ (6) 1, num_ (txn) 6, num_ (prev) 6, num_ (next) 6, num_ (5) 1, num_ (page) 2] : List It)).size : Int), 0) := by
    rw [ht]
    exact num_at [num_ (6) 1, num_ (txn) 6, num_ (prev) 6, num_ (next) 6, num_ (5) 1] [text_ key, text_ old, text_ new_] (page) 2 (hE _ (by simp)) (by omega) (by omega)
  have n6 : textS t ((encL ([num_ (6) 1, num_ (txn) 6, num_ (prev) 6, num_ (next) 6, num_ (5) 1, num_ (page) 2] : List It)).size : Int) 0 16 = (key, ((encL ([num_ (6) 1, num_ (txn) 6, num_ (prev) 6, num_ (next) 6, num_ (5) 1, num_ (page) 2, text_ key] : List It)).size : Int), 0) := by
    rw [ht]
    exact text_at [num_ (6) 1, num_ (txn) 6, num_ (prev) 6, num_ (next) 6, num_ (5) 1, num_ (page) 2] [text_ old, text_ new_] key 16 (by omega) (by omega)
  have n7 : textS t ((encL ([num_ (6) 1, num_ (txn) 6, num_ (prev) 6, num_ (next) 6, num_ (5) 1, num_ (page) 2, text_ key] : List It)).size : Int) 0 32 = (old, ((encL ([num_ (6) 1, num_ (txn) 6, num_ (prev) 6, num_ (next) 6, num_ (5) 1, num_ (page) 2, text_ key, text_ old] : List It)).size : Int), 0) := by
    rw [ht]
    exact text_at [num_ (6) 1, num_ (txn) 6, num_ (prev) 6, num_ (next) 6, num_ (5) 1, num_ (page) 2, text_ key] [text_ new_] old 32 (by omega) (by omega)
  have n8 : textS t ((encL ([num_ (6) 1, num_ (txn) 6, num_ (prev) 6, num_ (next) 6, num_ (5) 1, num_ (page) 2, text_ key, text_ old] : List It)).size : Int) 0 32 = (new_, ((encL ([num_ (6) 1, num_ (txn) 6, num_ (prev) 6, num_ (next) 6, num_ (5) 1, num_ (page) 2, text_ key, text_ old, text_ new_] : List It)).size : Int), 0) := by
    rw [ht]
    exact text_at [num_ (6) 1, num_ (txn) 6, num_ (prev) 6, num_ (next) 6, num_ (5) 1, num_ (page) 2, text_ key, text_ old] [] new_ 32 (by omega) (by omega)
  have hz : ((encL ([num_ (6) 1, num_ (txn) 6, num_ (prev) 6, num_ (next) 6, num_ (5) 1, num_ (page) 2, text_ key, text_ old, text_ new_] : List It)).size : Int) = (t.size : Int) := by rw [ht]
  generalize ((encL ([num_ (6) 1] : List It)).size : Int) = p1 at *
  generalize ((encL ([num_ (6) 1, num_ (txn) 6] : List It)).size : Int) = p2 at *
  generalize ((encL ([num_ (6) 1, num_ (txn) 6, num_ (prev) 6] : List It)).size : Int) = p3 at *
  generalize ((encL ([num_ (6) 1, num_ (txn) 6, num_ (prev) 6, num_ (next) 6] : List It)).size : Int) = p4 at *
  generalize ((encL ([num_ (6) 1, num_ (txn) 6, num_ (prev) 6, num_ (next) 6, num_ (5) 1] : List It)).size : Int) = p5 at *
  generalize ((encL ([num_ (6) 1, num_ (txn) 6, num_ (prev) 6, num_ (next) 6, num_ (5) 1, num_ (page) 2] : List It)).size : Int) = p6 at *
  generalize ((encL ([num_ (6) 1, num_ (txn) 6, num_ (prev) 6, num_ (next) 6, num_ (5) 1, num_ (page) 2, text_ key] : List It)).size : Int) = p7 at *
  generalize ((encL ([num_ (6) 1, num_ (txn) 6, num_ (prev) 6, num_ (next) 6, num_ (5) 1, num_ (page) 2, text_ key, text_ old] : List It)).size : Int) = p8 at *
  generalize ((encL ([num_ (6) 1, num_ (txn) 6, num_ (prev) 6, num_ (next) 6, num_ (5) 1, num_ (page) 2, text_ key, text_ old, text_ new_] : List It)).size : Int) = p9 at *
  have hr : readF t 6 p1 = ⟨(⟨6, txn, prev, page, 5, key, old, new_, next, nilS, nilS, 0, 0⟩ : RV), [], [], p9, 0⟩ := by
    unfold readF chgS
    simp [n1, n2, n3, n4, n5, n6, n7, n8, zeroR]
  refine ⟨6, p1, n0, ?_⟩
  rw [hr]
  exact ⟨hz, rfl, SameV.refl _, rfl, rfl⟩

theorem len_of (n : Nat) (h : errI (num_ (n : Int) 1) = 0) : n ≤ 255 := by
  have := errI_num (n : Int) 1 (by omega)
  rw [show ((1 : Nat) : Int) = 1 from rfl, h] at this
  by_cases c : (n : Int) < 0 ∨ ((256 ^ 1 : Nat) : Int) ≤ n
  · rw [if_pos c] at this; omega
  · have e : (256 : Nat) ^ 1 = 256 := by decide
    omega
theorem back_img (k : Int) (hk : k = 1 ∨ k = 2) (x : Sl) (li : List S36) (t : ByteArray) (h : bodyP (⟨k, 0, 0, 0, 0, ⟨#[]⟩, ⟨#[]⟩, ⟨#[]⟩, 0, x, nilS, 0, 0⟩ : RV) li [] = (t, 0)) :
    Reads t (⟨k, 0, 0, 0, 0, ⟨#[]⟩, ⟨#[]⟩, ⟨#[]⟩, 0, x, nilS, 0, 0⟩ : RV) li [] := by
  obtain ⟨ha, hE, ht, hs⟩ := body_enc _ _ _ t h
  have hrec : recL (⟨k, 0, 0, 0, 0, ⟨#[]⟩, ⟨#[]⟩, ⟨#[]⟩, 0, x, nilS, 0, 0⟩ : RV) li [] = num_ k 1 :: num_ (li.length : Int) 1 :: imgL li := by
    unfold recL
    simp only
    rw [if_pos hk]
  rw [hrec] at hE ht
  have hl := len_of li.length (hE _ (by simp))
  have h224 : ∀ y ∈ li, y.f1.size = 224 := by
    unfold aheadE at ha
    simp only at ha
    rw [if_pos hk] at ha
    split at ha
    · omega
    · split at ha
      · assumption
      · omega
  have hx : ∀ y ∈ li, errI (num_ y.f0 2) = 0 ∧ y.f1.size = 224 := fun y hy => ⟨hE _ (List.mem_cons_of_mem _ (List.mem_cons_of_mem _ (List.mem_flatMap.2 ⟨y, hy, by simp⟩))), h224 y hy⟩
  have n0 : numS t 0 0 1 = (k, ((encL ([num_ k 1] : List It)).size : Int), 0) := by
    rw [ht]
    exact num_at [] (num_ (li.length : Int) 1 :: imgL li) k 1 (hE _ (by simp)) (by omega) (by omega)
  have hi := imgs_back [num_ k 1] [] li hl hx t (by rw [ht]; simp) (by omega)
  have hz : ((encL ([num_ k 1] ++ num_ (li.length : Int) 1 :: imgL li)).size : Int) = (t.size : Int) := by rw [ht]; rfl
  have hr : readF t k ((encL ([num_ k 1] : List It)).size : Int) = ⟨zeroR k, li, [], (t.size : Int), 0⟩ := by
    unfold readF
    rw [if_pos hk, hi, hz]
    rfl
  refine ⟨k, _, n0, ?_⟩
  rw [hr]
  exact ⟨rfl, rfl, ⟨rfl, rfl, rfl, rfl, rfl, rfl, rfl, rfl, rfl, rfl, rfl⟩, rfl, rfl⟩
theorem back_tab (x : Sl) (lt : List S55) (t : ByteArray) (h : bodyP (⟨9, 0, 0, 0, 0, ⟨#[]⟩, ⟨#[]⟩, ⟨#[]⟩, 0, nilS, x, 0, 0⟩ : RV) [] lt = (t, 0)) :
    Reads t (⟨9, 0, 0, 0, 0, ⟨#[]⟩, ⟨#[]⟩, ⟨#[]⟩, 0, nilS, x, 0, 0⟩ : RV) [] lt := by
  obtain ⟨ha, hE, ht, hs⟩ := body_enc _ _ _ t h
  have hrec : recL (⟨9, 0, 0, 0, 0, ⟨#[]⟩, ⟨#[]⟩, ⟨#[]⟩, 0, nilS, x, 0, 0⟩ : RV) [] lt = num_ 9 1 :: num_ (lt.length : Int) 1 :: tabL lt := by
    simp [recL]
  rw [hrec] at hE ht
  have hl := len_of lt.length (hE _ (by simp))
  have hx : ∀ y ∈ lt, errI (num_ y.f0 6) = 0 ∧ errI (num_ y.f1 6) = 0 := fun y hy => ⟨hE _ (List.mem_cons_of_mem _ (List.mem_cons_of_mem _ (List.mem_flatMap.2 ⟨y, hy, by simp⟩))), hE _ (List.mem_cons_of_mem _ (List.mem_cons_of_mem _ (List.mem_flatMap.2 ⟨y, hy, by simp⟩)))⟩
  have n0 : numS t 0 0 1 = (9, ((encL ([num_ 9 1] : List It)).size : Int), 0) := by
    rw [ht]
    exact num_at [] (num_ (lt.length : Int) 1 :: tabL lt) 9 1 (hE _ (by simp)) (by omega) (by omega)
  have hi := tab_back [num_ 9 1] [] lt hl hx t (by rw [ht]; simp) (by omega)
  have hz : ((encL ([num_ 9 1] ++ num_ (lt.length : Int) 1 :: tabL lt)).size : Int) = (t.size : Int) := by rw [ht]; rfl
  have hr : readF t 9 ((encL ([num_ 9 1] : List It)).size : Int) = ⟨zeroR 9, [], lt, (t.size : Int), 0⟩ := by
    unfold readF
    rw [if_neg (by omega), if_neg (by omega), if_neg (by omega), if_neg (by omega), if_pos rfl, hi, hz]
    rfl
  refine ⟨9, _, n0, ?_⟩
  rw [hr]
  exact ⟨rfl, rfl, ⟨rfl, rfl, rfl, rfl, rfl, rfl, rfl, rfl, rfl, rfl, rfl⟩, rfl, rfl⟩
/-- A record that has bytes is read again, clean. -/
theorem of_back (r : RV) (l : List S36) (l' : List S55) (t : ByteArray) (h : cbodyP r l l' = (t, 0)) :
    (ofP t).e = 0 ∧ SameV (ofP t).q (cleanR r) ∧ (ofP t).li = cleanI r l ∧ (ofP t).lt = cleanT r l' := by
  refine of_reads t (cleanR r) _ _ h ?_
  have ha := (body_enc _ _ _ t h).1
  obtain ⟨kind, txn, prev, page, act, key, old, new_, next, images, table, epoch, node⟩ := r
  unfold cbodyP at h
  by_cases hk : 1 ≤ kind ∧ kind ≤ 10
  · obtain ⟨k1, k2⟩ := hk
    rcases (by omega : kind = 1 ∨ kind = 2 ∨ kind = 3 ∨ kind = 4 ∨ kind = 5 ∨ kind = 6 ∨ kind = 7 ∨ kind = 8 ∨ kind = 9 ∨ kind = 10) with rfl | rfl | rfl | rfl | rfl | rfl | rfl | rfl | rfl | rfl
    · exact back_img 1 (.inl rfl) images l t h
    · exact back_img 2 (.inr rfl) images l t h
    · exact back_3 txn prev page key old new_ t h
    · exact back_4 txn prev page key old new_ t h
    · exact back_5 txn prev page key old new_ t h
    · by_cases a3 : act = 3
      · subst a3; exact back_63 txn prev next page key old new_ t h
      · by_cases a4 : act = 4
        · subst a4; exact back_64 txn prev next page key old new_ t h
        · have e : cleanR ⟨6, txn, prev, page, act, key, old, new_, next, images, table, epoch, node⟩ = ⟨6, txn, prev, page, act, key, old, new_, next, nilS, nilS, 0, 0⟩ := by
            show tidyR _ act = _
            unfold tidyR
            rw [if_neg a3, if_neg a4]
            rfl
          rw [e] at h ha ⊢
          by_cases a5 : act = 5
          · subst a5; exact back_65 txn prev next page key old new_ t h
          · exfalso
            unfold aheadE at ha
            simp only at ha
            rw [if_neg (by omega), if_pos ⟨trivial, by omega⟩] at ha
            omega
    · exact back_7 txn prev t h
    · exact back_8 txn prev t h
    · exact back_tab table l' t h
    · exact back_10 epoch node t h
  · exfalso
    have e : cleanR ⟨kind, txn, prev, page, act, key, old, new_, next, images, table, epoch, node⟩ = zeroR kind := by
      unfold cleanR
      simp only
      rw [if_neg (by omega), if_neg (by omega), if_neg (by omega), if_neg (by omega), if_neg (by omega), if_neg (by omega)]
    rw [e] at ha
    unfold aheadE zeroR at ha
    simp only at ha
    rw [if_neg (by omega), if_neg (by omega), if_neg (by omega), if_neg (by omega)] at ha
    omega
end Go.Proofs.Ytdphikbkknkhiaa.Pure
/- Plain: a frame between other bytes, as rec.Open meets it. No memory in sight. -/
namespace Go.Proofs.Ytdphikbkknkhiaa.Pure
open Go.RowKit Go.Proofs.Ytdphikbkknkhiaa.PAll Go.Proofs.YtdphikbkknkhiaaW.PrintWords Go.Proofs.YtdphikbkknkhiaaW.PrintLast Go.Proofs.YtdphikbkknkhiaaW.PrintMore
set_option linter.unusedVariables false
set_option linter.unusedSimpArgs false

theorem enc_pos (q : RV) (li : List S36) (lt : List S55) (t : ByteArray) (h : bodyP q li lt = (t, 0)) : 1 ≤ t.size := by
  obtain ⟨_, _, ht, _⟩ := body_enc q li lt t h
  rw [ht]
  show 1 ≤ (encI (num_ q.kind 1) ++ encL _).size
  rw [ByteArray.size_append]
  have : (encI (num_ q.kind 1)).size = 1 := by
    unfold encI num_
    rw [if_neg (show ¬ ((1 : Int) = 0) by omega), nb_szI]
    rfl
  omega
theorem ext_tail (a b : ByteArray) : (a ++ b).extract a.size (a ++ b).size = b := by
  have := ext_mid a b ⟨#[]⟩ a.size (a ++ b).size rfl (by rw [ByteArray.size_append])
  rw [app_nil] at this
  exact this
/-- A frame between other bytes. -/
theorem open_frame (t ahead behind : ByteArray) (ht : t.size ≤ 4096) (S F : ByteArray) (hF : F = (⟨(nb 2 t.size).toArray⟩ : ByteArray) ++ sealed t) (hS : S = ahead ++ F ++ behind) :
    ahead.size ≤ S.size ∧ S.extract ahead.size S.size = F ++ behind ∧ 6 ≤ (F ++ behind).size ∧ numS (F ++ behind) 0 0 2 = ((t.size : Int), 2, 0) ∧ (t.size : Int) ≤ ((F ++ behind).size : Int) - 6 ∧
    (F ++ behind).extract 2 (6 + t.size) = sealed t ∧ sum_Open.f (sealed t) = some (t, 0) ∧ F.size = 6 + t.size := by
  have hz : F.size = 6 + t.size := by rw [hF, ByteArray.size_append, nb_szI, sealed_size]; omega
  have hz2 : (F ++ behind).size = 6 + t.size + behind.size := by rw [ByteArray.size_append, hz]
  have e : S = ahead ++ (F ++ behind) := by rw [hS, app_assoc]
  have hn := num_back ⟨#[]⟩ (sealed t ++ behind) t.size 2 (by omega) (by omega) (by show t.size < 65536; omega)
  rw [nil_app, ← app_assoc, ← hF] at hn
  refine ⟨by rw [e, ByteArray.size_append]; omega, by rw [e]; exact ext_tail _ _, by omega, hn, by omega, ?_, open_sealed t (by omega), hz⟩
  rw [hF, ext_mid (⟨(nb 2 t.size).toArray⟩ : ByteArray) (sealed t) behind 2 (6 + t.size) (by rw [nb_szI]) (by rw [sealed_size]; omega)]
end Go.Proofs.Ytdphikbkknkhiaa.Pure
