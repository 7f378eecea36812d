/- Plain: what a record's items lay is read again. No memory in sight. -/
import Derived.Test.YtdphikbkknkhiaaRecOf
namespace Go.Proofs.Ytdphikbkknkhiaa.Pure
open Go.RowKit Go.Proofs.Ytdphikbkknkhiaa.PAll Go.Proofs.YtdphikbkknkhiaaW.PrintWords Go.Proofs.YtdphikbkknkhiaaW.PrintLast Go.Proofs.YtdphikbkknkhiaaW.PrintMore
set_option linter.unusedVariables false
set_option linter.unusedSimpArgs false

/-- All items have room; a text is at most so long. -/
theorem good_of (x : It) (h : errI x = 0) (hw : x.2.1 = 0 ∨ (1 ≤ x.2.1 ∧ x.2.1 ≤ 6)) : GoodI x := by
  unfold errI at h
  rcases hw with h0 | ⟨h1, h6⟩
  · rw [if_pos h0] at h
    left
    refine ⟨h0, ?_⟩
    split at h <;> omega
  · rw [if_neg (by omega)] at h
    right
    refine ⟨h1, h6, ?_, ?_⟩ <;> (split at h <;> omega)
/-- Where a text of items is read. -/
theorem num_at (A B : List It) (n w : Int) (h : errI (num_ n w) = 0) (h1 : 1 ≤ w) (h6 : w ≤ 6) :
    numS (encL (A ++ num_ n w :: B)) ((encL A).size : Int) 0 w = (n, ((encL (A ++ [num_ n w])).size : Int), 0) := by
  obtain ⟨v, rfl⟩ : ∃ v : Nat, w = (v : Int) := ⟨w.toNat, by omega⟩
  rw [errI_num n v (by omega)] at h
  have hn : ¬ (n < 0 ∨ ((256 ^ v : Nat) : Int) ≤ n) := by
    intro c
    rw [if_pos c] at h
    omega
  obtain ⟨m, rfl⟩ : ∃ m : Nat, n = (m : Int) := ⟨n.toNat, by omega⟩
  have e : encL (A ++ num_ (m : Int) v :: B) = encL A ++ ⟨(nb v m).toArray⟩ ++ encL B := by
    rw [encL_app, app_assoc]
    show encL A ++ (encI (num_ (m : Int) v) ++ encL B) = _
    rw [encI_num m v (by omega)]
  rw [e, num_back (encL A) (encL B) m v (by omega) (by omega) (by omega), encL_app, ByteArray.size_append]
  show _ = ((m : Int), (((encL A).size + (encI (num_ (m : Int) v) ++ ⟨#[]⟩).size : Nat) : Int), 0)
  rw [app_nil, encI_num m v (by omega), nb_szI]
  rfl
theorem text_at (A B : List It) (t : ByteArray) (most : Int) (ht : (t.size : Int) ≤ most) (h65 : t.size ≤ 65535) :
    textS (encL (A ++ text_ t :: B)) ((encL A).size : Int) 0 most = (t, ((encL (A ++ [text_ t])).size : Int), 0) := by
  have e : encL (A ++ text_ t :: B) = encL A ++ ((⟨(nb 2 t.size).toArray⟩ : ByteArray) ++ t) ++ encL B := by
    rw [encL_app, app_assoc]
    show encL A ++ (encI (text_ t) ++ encL B) = _
    rw [encI_text]
  rw [e, text_back (encL A) (encL B) t most h65 ht, encL_app, ByteArray.size_append]
  show _ = (t, (((encL A).size + (encI (text_ t) ++ ⟨#[]⟩).size : Nat) : Int), 0)
  rw [app_nil, encI_text, ByteArray.size_append, nb_szI]
  congr 2
  omega
theorem pos_inv (X B : List It) (s : ByteArray) (hs : s = encL (X ++ B)) (hz : s.size ≤ 1152921504606846976) : RInv s ((encL X).size : Int) := by
  have e : s.size = (encL X).size + (encL B).size := by rw [hs, encL_app, ByteArray.size_append]
  exact ⟨by omega, by omega, hz⟩
theorem imgL_split (l : List S36) (j : Nat) (h : j < l.length) : imgL l = imgL (l.take j) ++ num_ l[j].f0 2 :: text_ l[j].f1 :: imgL (l.drop (j + 1)) := by
  have e : l = l.take j ++ l[j] :: l.drop (j + 1) := by rw [← List.drop_eq_getElem_cons h, List.take_append_drop]
  conv => lhs; rw [e]
  unfold imgL
  rw [List.flatMap_append]
  rfl
theorem tabL_split (l : List S55) (j : Nat) (h : j < l.length) : tabL l = tabL (l.take j) ++ num_ l[j].f0 6 :: num_ l[j].f1 6 :: tabL (l.drop (j + 1)) := by
  have e : l = l.take j ++ l[j] :: l.drop (j + 1) := by rw [← List.drop_eq_getElem_cons h, List.take_append_drop]
  conv => lhs; rw [e]
  unfold tabL
  rw [List.flatMap_append]
  rfl
theorem imgs_back_l0 (A B : List It) (li : List S36) (hl : li.length ≤ 255) (hx : ∀ x ∈ li, errI (num_ x.f0 2) = 0 ∧ x.f1.size = 224) (s : ByteArray) (hs : s = encL (A ++ imgL li ++ B)) (hz : s.size ≤ 1152921504606846976) (d : Nat) :
    ∀ (k j : Nat), j + d = li.length → d + 3 ≤ k → rec_readImages.l0 k (li.take j) (li.length : Int) (j : Int) s ((encL (A ++ imgL (li.take j))).size : Int) 0 = some (li, s, ((encL (A ++ imgL li)).size : Int), 0) := by
  induction d with
  | zero =>
    intro k j hj hk
    obtain ⟨m, rfl⟩ : ∃ m, k = m + 1 := ⟨k - 1, by omega⟩
    simp only [rec_readImages.l0]
    rw [if_neg (by omega), List.take_of_length_le (by omega)]
  | succ d ih =>
    intro k j hj hk
    obtain ⟨m, rfl⟩ : ∃ m, k = m + 1 := ⟨k - 1, by omega⟩
    have hlt : j < li.length := by omega
    have hy := hx li[j] (List.getElem_mem hlt)
    have hsp := imgL_split li j hlt
    have hsn : imgL (li.take (j + 1)) = imgL (li.take j) ++ [num_ li[j].f0 2, text_ li[j].f1] := PAll.imgL_snoc li j hlt
    have htk : li.take (j + 1) = li.take j ++ [(⟨li[j].f0, li[j].f1⟩ : S36)] := by rw [List.take_succ_eq_append_getElem hlt]
    have e1 : s = encL ((A ++ imgL (li.take j)) ++ num_ li[j].f0 2 :: (text_ li[j].f1 :: (imgL (li.drop (j + 1)) ++ B))) := by rw [hs, hsp]; simp
    have e2 : s = encL ((A ++ imgL (li.take j) ++ [num_ li[j].f0 2]) ++ text_ li[j].f1 :: (imgL (li.drop (j + 1)) ++ B)) := by rw [hs, hsp]; simp
    have v1 := pos_inv _ _ s e1 hz
    have n1 := num_at (A ++ imgL (li.take j)) (text_ li[j].f1 :: (imgL (li.drop (j + 1)) ++ B)) li[j].f0 2 hy.1 (by omega) (by omega)
    have n2 := text_at (A ++ imgL (li.take j) ++ [num_ li[j].f0 2]) (imgL (li.drop (j + 1)) ++ B) li[j].f1 224 (by omega) (by omega)
    rw [← e1] at n1
    rw [← e2] at n2
    have v2 := numS_inv v1 0 2
    rw [n1] at v2
    simp only [rec_readImages.l0]
    rw [if_pos (by omega), num_is v1 0 2, n1]
    simp only [Option.bind_some]
    rw [text_is v2 m (by omega), n2]
    simp only [Option.bind_some, pack_Reader_Err.f]
    rw [if_pos trivial, if_pos (by rw [List.length_take]; omega), w64p (by omega) (by omega), ← htk]
    have ee : (A ++ imgL (li.take j) ++ [num_ li[j].f0 2]) ++ [text_ li[j].f1] = A ++ imgL (li.take (j + 1)) := by rw [hsn]; simp
    rw [ee]
    exact ih m (j + 1) (by omega) (by omega)
theorem imgs_back (A B : List It) (li : List S36) (hl : li.length ≤ 255) (hx : ∀ x ∈ li, errI (num_ x.f0 2) = 0 ∧ x.f1.size = 224) (s : ByteArray) (hs : s = encL (A ++ num_ (li.length : Int) 1 :: (imgL li ++ B))) (hz : s.size ≤ 1152921504606846976) :
    rec_readImages.f 300 s ((encL A).size : Int) 0 = some (li, s, ((encL (A ++ num_ (li.length : Int) 1 :: imgL li)).size : Int), 0) := by
  have he : errI (num_ (li.length : Int) 1) = 0 := by
    have := errI_num (li.length : Int) 1 (by omega)
    rw [if_neg (by show ¬ ((li.length : Int) < 0 ∨ ((256 : Nat) : Int) ≤ li.length); omega)] at this
    exact this
  have v1 := pos_inv A _ s hs hz
  have n1 := num_at A (imgL li ++ B) (li.length : Int) 1 he (by omega) (by omega)
  rw [← hs] at n1
  unfold rec_readImages.f
  rw [num_is v1 0 1, n1]
  simp only [Option.bind_some]
  have := imgs_back_l0 (A ++ [num_ (li.length : Int) 1]) B li hl hx s (by rw [hs]; simp) hz li.length 300 0 (by omega) (by omega)
  rw [List.take_zero] at this
  have e0 : A ++ [num_ (li.length : Int) 1] ++ imgL [] = A ++ [num_ (li.length : Int) 1] := by simp [imgL]
  have e1 : A ++ [num_ (li.length : Int) 1] ++ imgL li = A ++ num_ (li.length : Int) 1 :: imgL li := by simp
  rw [e0, e1] at this
  exact this
theorem tab_back_l0 (A B : List It) (li : List S55) (hl : li.length ≤ 255) (hx : ∀ x ∈ li, errI (num_ x.f0 6) = 0 ∧ errI (num_ x.f1 6) = 0) (s : ByteArray) (hs : s = encL (A ++ tabL li ++ B)) (hz : s.size ≤ 1152921504606846976) (d : Nat) :
    ∀ (k j : Nat), j + d = li.length → d + 3 ≤ k → rec_readTable.l0 k (li.take j) (li.length : Int) (j : Int) s ((encL (A ++ tabL (li.take j))).size : Int) 0 = some (li, s, ((encL (A ++ tabL li)).size : Int), 0) := by
  induction d with
  | zero =>
    intro k j hj hk
    obtain ⟨m, rfl⟩ : ∃ m, k = m + 1 := ⟨k - 1, by omega⟩
    simp only [rec_readTable.l0]
    rw [if_neg (by omega), List.take_of_length_le (by omega)]
  | succ d ih =>
    intro k j hj hk
    obtain ⟨m, rfl⟩ : ∃ m, k = m + 1 := ⟨k - 1, by omega⟩
    have hlt : j < li.length := by omega
    have hy := hx li[j] (List.getElem_mem hlt)
    have hsp := tabL_split li j hlt
    have hsn : tabL (li.take (j + 1)) = tabL (li.take j) ++ [num_ li[j].f0 6, num_ li[j].f1 6] := PAll.tabL_snoc li j hlt
    have htk : li.take (j + 1) = li.take j ++ [(⟨li[j].f0, li[j].f1⟩ : S55)] := by rw [List.take_succ_eq_append_getElem hlt]
    have e1 : s = encL ((A ++ tabL (li.take j)) ++ num_ li[j].f0 6 :: (num_ li[j].f1 6 :: (tabL (li.drop (j + 1)) ++ B))) := by rw [hs, hsp]; simp
    have e2 : s = encL ((A ++ tabL (li.take j) ++ [num_ li[j].f0 6]) ++ num_ li[j].f1 6 :: (tabL (li.drop (j + 1)) ++ B)) := by rw [hs, hsp]; simp
    have v1 := pos_inv _ _ s e1 hz
    have n1 := num_at (A ++ tabL (li.take j)) (num_ li[j].f1 6 :: (tabL (li.drop (j + 1)) ++ B)) li[j].f0 6 hy.1 (by omega) (by omega)
    have n2 := num_at (A ++ tabL (li.take j) ++ [num_ li[j].f0 6]) (tabL (li.drop (j + 1)) ++ B) li[j].f1 6 hy.2 (by omega) (by omega)
    rw [← e1] at n1
    rw [← e2] at n2
    have v2 := numS_inv v1 0 6
    rw [n1] at v2
    simp only [rec_readTable.l0]
    rw [if_pos (by omega), num_is v1 0 6, n1]
    simp only [Option.bind_some]
    rw [num_is v2 0 6, n2]
    simp only [Option.bind_some]
    rw [if_pos (by rw [List.length_take]; omega), w64p (by omega) (by omega), ← htk]
    have ee : (A ++ tabL (li.take j) ++ [num_ li[j].f0 6]) ++ [num_ li[j].f1 6] = A ++ tabL (li.take (j + 1)) := by rw [hsn]; simp
    rw [ee]
    exact ih m (j + 1) (by omega) (by omega)
theorem tab_back (A B : List It) (li : List S55) (hl : li.length ≤ 255) (hx : ∀ x ∈ li, errI (num_ x.f0 6) = 0 ∧ errI (num_ x.f1 6) = 0) (s : ByteArray) (hs : s = encL (A ++ num_ (li.length : Int) 1 :: (tabL li ++ B))) (hz : s.size ≤ 1152921504606846976) :
    rec_readTable.f 300 s ((encL A).size : Int) 0 = some (li, s, ((encL (A ++ num_ (li.length : Int) 1 :: tabL li)).size : Int), 0) := by
  have he : errI (num_ (li.length : Int) 1) = 0 := by
    have := errI_num (li.length : Int) 1 (by omega)
    rw [if_neg (by show ¬ ((li.length : Int) < 0 ∨ ((256 : Nat) : Int) ≤ li.length); omega)] at this
    exact this
  have v1 := pos_inv A _ s hs hz
  have n1 := num_at A (tabL li ++ B) (li.length : Int) 1 he (by omega) (by omega)
  rw [← hs] at n1
  unfold rec_readTable.f
  rw [num_is v1 0 1, n1]
  simp only [Option.bind_some]
  have := tab_back_l0 (A ++ [num_ (li.length : Int) 1]) B li hl hx s (by rw [hs]; simp) hz li.length 300 0 (by omega) (by omega)
  rw [List.take_zero] at this
  have e0 : A ++ [num_ (li.length : Int) 1] ++ tabL [] = A ++ [num_ (li.length : Int) 1] := by simp [tabL]
  have e1 : A ++ [num_ (li.length : Int) 1] ++ tabL li = A ++ num_ (li.length : Int) 1 :: tabL li := by simp
  rw [e0, e1] at this
  exact this
end Go.Proofs.Ytdphikbkknkhiaa.Pure
