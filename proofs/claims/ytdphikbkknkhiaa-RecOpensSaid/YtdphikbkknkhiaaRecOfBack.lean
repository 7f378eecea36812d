/- Plain: a record that has bytes is read again as it is. No memory in sight. -/
import Derived.Test.YtdphikbkknkhiaaRecBackPlain
namespace Go.Proofs.Ytdphikbkknkhiaa.Pure
open Go.RowKit Go.Proofs.Ytdphikbkknkhiaa.PAll Go.Proofs.YtdphikbkknkhiaaW.PrintWords Go.Proofs.YtdphikbkknkhiaaW.PrintLast Go.Proofs.YtdphikbkknkhiaaW.PrintMore
set_option linter.unusedVariables false
set_option linter.unusedSimpArgs false

theorem wrL_stay (r : WS) (l : List It) (h : r.2 ≠ 0) : wrL r l = r := by
  induction l with
  | nil => rfl
  | cons x l ih => rw [wrL_cons, wrS_off r x h, ih]
theorem wrL_all (l : List It) : ∀ (s : ByteArray), (wrL (s, 0) l).2 = 0 → (∀ x ∈ l, errI x = 0) ∧ wrL (s, 0) l = (s ++ encL l, 0) := by
  induction l with
  | nil => intro s _; exact ⟨fun x hx => absurd hx (by simp), by show (s, (0 : Int)) = (s ++ ⟨#[]⟩, 0); rw [app_nil]⟩
  | cons x l ih =>
    intro s h
    rw [wrL_cons] at h ⊢
    by_cases he : errI x = 0
    · rw [wrS_ok (s, 0) x rfl he] at h ⊢
      obtain ⟨h1, h2⟩ := ih _ h
      refine ⟨fun y hy => ?_, ?_⟩
      · rcases List.mem_cons.1 hy with e | e
        · rw [e]; exact he
        · exact h1 y e
      · rw [h2]
        show ((s ++ encI x) ++ encL l, (0 : Int)) = (s ++ (encI x ++ encL l), 0)
        rw [app_assoc]
    · rw [wrS_bad (s, 0) x rfl he, wrL_stay _ l he] at h
      exact absurd h he
theorem body_enc (q : RV) (li : List S36) (lt : List S55) (t : ByteArray) (h : bodyP q li lt = (t, 0)) : aheadE q li = 0 ∧ (∀ x ∈ recL q li lt, errI x = 0) ∧ t = encL (recL q li lt) ∧ t.size ≤ 4096 := by
  have hs := bodyP_le q li lt
  rw [h] at hs
  unfold bodyP at h
  by_cases a : aheadE q li = 0
  · rw [if_neg (fun c => c a)] at h
    by_cases b : (wrL (⟨#[]⟩, 0) (recL q li lt)).2 = 0
    · rw [if_neg (fun c => c b)] at h
      obtain ⟨h1, h2⟩ := wrL_all _ _ b
      split at h
      · exact absurd (congrArg Prod.snd h) (by show (3 : Int) ≠ 0; decide)
      · rw [h2, nil_app] at h
        exact ⟨a, h1, (congrArg Prod.fst h).symm, hs⟩
    · rw [if_pos b] at h
      exact absurd (congrArg Prod.snd h) b
  · rw [if_pos a] at h
    exact absurd (congrArg Prod.snd h) a
/-- What is read again. -/
def Reads (t : ByteArray) (q : RV) (li : List S36) (lt : List S55) : Prop :=
  ∃ k a, numS t 0 0 1 = (k, a, 0) ∧ (readF t k a).a = (t.size : Int) ∧ (readF t k a).e = 0 ∧ SameV (readF t k a).q q ∧ (readF t k a).li = li ∧ (readF t k a).lt = lt
theorem of_reads (t : ByteArray) (q : RV) (li : List S36) (lt : List S55) (h : bodyP q li lt = (t, 0)) (hr : Reads t q li lt) : (ofP t).e = 0 ∧ SameV (ofP t).q q ∧ (ofP t).li = li ∧ (ofP t).lt = lt := by
  obtain ⟨k, a, h0, h1, h2, h3, h4, h5⟩ := hr
  have hb : bodyP (readF t k a).q (readF t k a).li (readF t k a).lt = (t, 0) := by rw [h4, h5, bodyP_same h3, h]
  rw [ofP_ok t k a h0 (by unfold endS; rw [h2, h1, if_neg (by omega)]) (by rw [hb]; exact fun c => c.elim (fun d => d rfl) (fun d => d rfl))]
  exact ⟨rfl, h3, h4, h5⟩

theorem back_7 (txn prev : Int) (t : ByteArray) (h : bodyP (⟨7, txn, prev, 0, 0, ⟨#[]⟩, ⟨#[]⟩, ⟨#[]⟩, 0, nilS, nilS, 0, 0⟩ : RV) [] [] = (t, 0)) : Reads t (⟨7, txn, prev, 0, 0, ⟨#[]⟩, ⟨#[]⟩, ⟨#[]⟩, 0, nilS, nilS, 0, 0⟩ : RV) [] [] := by
  obtain ⟨ha, hE, ht, hs⟩ := body_enc _ _ _ t h
  have hrec : recL (⟨7, txn, prev, 0, 0, ⟨#[]⟩, ⟨#[]⟩, ⟨#[]⟩, 0, nilS, nilS, 0, 0⟩ : RV) [] [] = [num_ (7) 1, num_ (txn) 6, num_ (prev) 6] := by simp [recL, chgL]
  rw [hrec] at hE ht
  have n0 : numS t 0 0 1 = (7, ((encL ([num_ (7) 1] : List It)).size : Int), 0) := by
    rw [ht]
    exact num_at [] [num_ (txn) 6, num_ (prev) 6] (7) 1 (hE _ (by simp)) (by omega) (by omega)
  have n1 : numS t ((encL ([num_ (7) 1] : List It)).size : Int) 0 6 = (txn, ((encL ([num_ (7) 1, num_ (txn) 6] : List It)).size : Int), 0) := by
    rw [ht]
    exact num_at [num_ (7) 1] [num_ (prev) 6] (txn) 6 (hE _ (by simp)) (by omega) (by omega)
  have n2 : numS t ((encL ([num_ (7) 1, num_ (txn) 6] : List It)).size : Int) 0 6 = (prev, ((encL ([num_ (7) 1, num_ (txn) 6, num_ (prev) 6] : List It)).size : Int), 0) := by
    rw [ht]
    exact num_at [num_ (7) 1, num_ (txn) 6] [] (prev) 6 (hE _ (by simp)) (by omega) (by omega)
  have hz : ((encL ([num_ (7) 1, num_ (txn) 6, num_ (prev) 6] : List It)).size : Int) = (t.size : Int) := by rw [ht]
  generalize ((encL ([num_ (7) 1] : List It)).size : Int) = p1 at *
  generalize ((encL ([num_ (7) 1, num_ (txn) 6] : List It)).size : Int) = p2 at *
  generalize ((encL ([num_ (7) 1, num_ (txn) 6, num_ (prev) 6] : List It)).size : Int) = p3 at *
  have hr : readF t 7 p1 = ⟨(⟨7, txn, prev, 0, 0, ⟨#[]⟩, ⟨#[]⟩, ⟨#[]⟩, 0, nilS, nilS, 0, 0⟩ : RV), [], [], p3, 0⟩ := by
    unfold readF chgS
    simp [n1, n2, zeroR]
  refine ⟨7, p1, n0, ?_⟩
  rw [hr]
  exact ⟨hz, rfl, SameV.refl _, rfl, rfl⟩

theorem back_8 (txn prev : Int) (t : ByteArray) (h : bodyP (⟨8, txn, prev, 0, 0, ⟨#[]⟩, ⟨#[]⟩, ⟨#[]⟩, 0, nilS, nilS, 0, 0⟩ : RV) [] [] = (t, 0)) : Reads t (⟨8, txn, prev, 0, 0, ⟨#[]⟩, ⟨#[]⟩, ⟨#[]⟩, 0, nilS, nilS, 0, 0⟩ : RV) [] [] := by
  obtain ⟨ha, hE, ht, hs⟩ := body_enc _ _ _ t h
  have hrec : recL (⟨8, txn, prev, 0, 0, ⟨#[]⟩, ⟨#[]⟩, ⟨#[]⟩, 0, nilS, nilS, 0, 0⟩ : RV) [] [] = [num_ (8) 1, num_ (txn) 6, num_ (prev) 6] := by simp [recL, chgL]
  rw [hrec] at hE ht
  have n0 : numS t 0 0 1 = (8, ((encL ([num_ (8) 1] : List It)).size : Int), 0) := by
    rw [ht]
    exact num_at [] [num_ (txn) 6, num_ (prev) 6] (8) 1 (hE _ (by simp)) (by omega) (by omega)
  have n1 : numS t ((encL ([num_ (8) 1] : List It)).size : Int) 0 6 = (txn, ((encL ([num_ (8) 1, num_ (txn) 6] : List It)).size : Int), 0) := by
    rw [ht]
    exact num_at [num_ (8) 1] [num_ (prev) 6] (txn) 6 (hE _ (by simp)) (by omega) (by omega)
  have n2 : numS t ((encL ([num_ (8) 1, num_ (txn) 6] : List It)).size : Int) 0 6 = (prev, ((encL ([num_ (8) 1, num_ (txn) 6, num_ (prev) 6] : List It)).size : Int), 0) := by
    rw [ht]
    exact num_at [num_ (8) 1, num_ (txn) 6] [] (prev) 6 (hE _ (by simp)) (by omega) (by omega)
  have hz : ((encL ([num_ (8) 1, num_ (txn) 6, num_ (prev) 6] : List It)).size : Int) = (t.size : Int) := by rw [ht]
  generalize ((encL ([num_ (8) 1] : List It)).size : Int) = p1 at *
  generalize ((encL ([num_ (8) 1, num_ (txn) 6] : List It)).size : Int) = p2 at *
  generalize ((encL ([num_ (8) 1, num_ (txn) 6, num_ (prev) 6] : List It)).size : Int) = p3 at *
  have hr : readF t 8 p1 = ⟨(⟨8, txn, prev, 0, 0, ⟨#[]⟩, ⟨#[]⟩, ⟨#[]⟩, 0, nilS, nilS, 0, 0⟩ : RV), [], [], p3, 0⟩ := by
    unfold readF chgS
    simp [n1, n2, zeroR]
  refine ⟨8, p1, n0, ?_⟩
  rw [hr]
  exact ⟨hz, rfl, SameV.refl _, rfl, rfl⟩

theorem back_10 (epoch node : Int) (t : ByteArray) (h : bodyP (⟨10, 0, 0, 0, 0, ⟨#[]⟩, ⟨#[]⟩, ⟨#[]⟩, 0, nilS, nilS, epoch, node⟩ : RV) [] [] = (t, 0)) : Reads t (⟨10, 0, 0, 0, 0, ⟨#[]⟩, ⟨#[]⟩, ⟨#[]⟩, 0, nilS, nilS, epoch, node⟩ : RV) [] [] := by
  obtain ⟨ha, hE, ht, hs⟩ := body_enc _ _ _ t h
  have hrec : recL (⟨10, 0, 0, 0, 0, ⟨#[]⟩, ⟨#[]⟩, ⟨#[]⟩, 0, nilS, nilS, epoch, node⟩ : RV) [] [] = [num_ (10) 1, num_ (epoch) 4, num_ (node) 1] := by simp [recL, chgL]
  rw [hrec] at hE ht
  have n0 : numS t 0 0 1 = (10, ((encL ([num_ (10) 1] : List It)).size : Int), 0) := by
    rw [ht]
    exact num_at [] [num_ (epoch) 4, num_ (node) 1] (10) 1 (hE _ (by simp)) (by omega) (by omega)
  have n1 : numS t ((encL ([num_ (10) 1] : List It)).size : Int) 0 4 = (epoch, ((encL ([num_ (10) 1, num_ (epoch) 4] : List It)).size : Int), 0) := by
    rw [ht]
    exact num_at [num_ (10) 1] [num_ (node) 1] (epoch) 4 (hE _ (by simp)) (by omega) (by omega)
  have n2 : numS t ((encL ([num_ (10) 1, num_ (epoch) 4] : List It)).size : Int) 0 1 = (node, ((encL ([num_ (10) 1, num_ (epoch) 4, num_ (node) 1] : List It)).size : Int), 0) := by
    rw [ht]
    exact num_at [num_ (10) 1, num_ (epoch) 4] [] (node) 1 (hE _ (by simp)) (by omega) (by omega)
  have hz : ((encL ([num_ (10) 1, num_ (epoch) 4, num_ (node) 1] : List It)).size : Int) = (t.size : Int) := by rw [ht]
  generalize ((encL ([num_ (10) 1] : List It)).size : Int) = p1 at *
  generalize ((encL ([num_ (10) 1, num_ (epoch) 4] : List It)).size : Int) = p2 at *
  generalize ((encL ([num_ (10) 1, num_ (epoch) 4, num_ (node) 1] : List It)).size : Int) = p3 at *
  have hr : readF t 10 p1 = ⟨(⟨10, 0, 0, 0, 0, ⟨#[]⟩, ⟨#[]⟩, ⟨#[]⟩, 0, nilS, nilS, epoch, node⟩ : RV), [], [], p3, 0⟩ := by
    unfold readF chgS
    simp [n1, n2, zeroR]
  refine ⟨10, p1, n0, ?_⟩
  rw [hr]
  exact ⟨hz, rfl, SameV.refl _, rfl, rfl⟩

theorem back_3 (txn prev page : Int) (key old new_ : ByteArray) (t : ByteArray) (h : bodyP (⟨3, txn, prev, page, 0, key, ⟨#[]⟩, new_, 0, nilS, nilS, 0, 0⟩ : RV) [] [] = (t, 0)) : Reads t (⟨3, txn, prev, page, 0, key, ⟨#[]⟩, new_, 0, nilS, nilS, 0, 0⟩ : RV) [] [] := by
  obtain ⟨ha, hE, ht, hs⟩ := body_enc _ _ _ t h
  have hrec : recL (⟨3, txn, prev, page, 0, key, ⟨#[]⟩, new_, 0, nilS, nilS, 0, 0⟩ : RV) [] [] = [num_ (3) 1, num_ (txn) 6, num_ (prev) 6, num_ (page) 2, text_ key, text_ new_] := by simp [recL, chgL]
  rw [hrec] at hE ht
  have hc : cutE key (⟨#[]⟩ : ByteArray) new_ = 0 := by simpa [aheadE] using ha
  obtain ⟨c1, c2, c3⟩ : key.size ≤ 16 ∧ (⟨#[]⟩ : ByteArray).size ≤ 32 ∧ new_.size ≤ 32 := by
    unfold cutE at hc
    split at hc
    · omega
    · split at hc
      · omega
      · refine ⟨by omega, ?_, ?_⟩ <;> omega
  have n0 : numS t 0 0 1 = (3, ((encL ([num_ (3) 1] : List It)).size : Int), 0) := by
    rw [ht]
    exact num_at [] [num_ (txn) 6, num_ (prev) 6, num_ (page) 2, text_ key, text_ new_] (3) 1 (hE _ (by simp)) (by omega) (by omega)
  have n1 : numS t ((encL ([num_ (3) 1] : List It)).size : Int) 0 6 = (txn, ((encL ([num_ (3) 1, num_ (txn) 6] : List It)).size : Int), 0) := by
    rw [ht]
    exact num_at [num_ (3) 1] [num_ (prev) 6, num_ (page) 2, text_ key, text_ new_] (txn) 6 (hE _ (by simp)) (by omega) (by omega)
  have n2 : numS t ((encL ([num_ (3) 1, num_ (txn) 6] : List It)).size : Int) 0 6 = (prev, ((encL ([num_ (3) 1, num_ (txn) 6, num_ (prev) 6] : List It)).size : Int), 0) := by
    rw [ht]
    exact num_at [num_ (3) 1, num_ (txn) 6] [num_ (page) 2, text_ key, text_ new_] (prev) 6 (hE _ (by simp)) (by omega) (by omega)
  have n3 : numS t ((encL ([num_ (3) 1, num_ (txn) 6, num_ (prev) 6] : List It)).size : Int) 0 2 = (page, ((encL ([num_ (3) 1, num_ (txn) 6, num_ (prev) 6, num_ (page) 2] : List It)).size : Int), 0) := by
    rw [ht]
    exact num_at [num_ (3) 1, num_ (txn) 6, num_ (prev) 6] [text_ key, text_ new_] (page) 2 (hE _ (by simp)) (by omega) (by omega)
  have n4 : textS t ((encL ([num_ (3) 1, num_ (txn) 6, num_ (prev) 6, num_ (page) 2] : List It)).size : Int) 0 16 = (key, ((encL ([num_ (3) 1, num_ (txn) 6, num_ (prev) 6, num_ (page) 2, text_ key] : List It)).size : Int), 0) := by
    rw [ht]
    exact text_at [num_ (3) 1, num_ (txn) 6, num_ (prev) 6, num_ (page) 2] [text_ new_] key 16 (by omega) (by omega)
  have n5 : textS t ((encL ([num_ (3) 1, num_ (txn) 6, num_ (prev) 6, num_ (page) 2, text_ key] : List It)).size : Int) 0 32 = (new_, ((encL ([num_ (3) 1, num_ (txn) 6, num_ (prev) 6, num_ (page) 2, text_ key, text_ new_] : List It)).size : Int), 0) := by
    rw [ht]
    exact text_at [num_ (3) 1, num_ (txn) 6, num_ (prev) 6, num_ (page) 2, text_ key] [] new_ 32 (by omega) (by omega)
  have hz : ((encL ([num_ (3) 1, num_ (txn) 6, num_ (prev) 6, num_ (page) 2, text_ key, text_ new_] : List It)).size : Int) = (t.size : Int) := by rw [ht]
  generalize ((encL ([num_ (3) 1] : List It)).size : Int) = p1 at *
  generalize ((encL ([num_ (3) 1, num_ (txn) 6] : List It)).size : Int) = p2 at *
  generalize ((encL ([num_ (3) 1, num_ (txn) 6, num_ (prev) 6] : List It)).size : Int) = p3 at *
  generalize ((encL ([num_ (3) 1, num_ (txn) 6, num_ (prev) 6, num_ (page) 2] : List It)).size : Int) = p4 at *
  generalize ((encL ([num_ (3) 1, num_ (txn) 6, num_ (prev) 6, num_ (page) 2, text_ key] : List It)).size : Int) = p5 at *
  generalize ((encL ([num_ (3) 1, num_ (txn) 6, num_ (prev) 6, num_ (page) 2, text_ key, text_ new_] : List It)).size : Int) = p6 at *
  have hr : readF t 3 p1 = ⟨(⟨3, txn, prev, page, 0, key, ⟨#[]⟩, new_, 0, nilS, nilS, 0, 0⟩ : RV), [], [], p6, 0⟩ := by
    unfold readF chgS
    simp [n1, n2, n3, n4, n5, zeroR]
  refine ⟨3, p1, n0, ?_⟩
  rw [hr]
  exact ⟨hz, rfl, SameV.refl _, rfl, rfl⟩

theorem back_4 (txn prev page : Int) (key old new_ : ByteArray) (t : ByteArray) (h : bodyP (⟨4, txn, prev, page, 0, key, old, ⟨#[]⟩, 0, nilS, nilS, 0, 0⟩ : RV) [] [] = (t, 0)) : Reads t (⟨4, txn, prev, page, 0, key, old, ⟨#[]⟩, 0, nilS, nilS, 0, 0⟩ : RV) [] [] := by
  obtain ⟨ha, hE, ht, hs⟩ := body_enc _ _ _ t h
  have hrec : recL (⟨4, txn, prev, page, 0, key, old, ⟨#[]⟩, 0, nilS, nilS, 0, 0⟩ : RV) [] [] = [num_ (4) 1, num_ (txn) 6, num_ (prev) 6, num_ (page) 2, text_ key, text_ old] := by simp [recL, chgL]
  rw [hrec] at hE ht
  have hc : cutE key old (⟨#[]⟩ : ByteArray) = 0 := by simpa [aheadE] using ha
  obtain ⟨c1, c2, c3⟩ : key.size ≤ 16 ∧ old.size ≤ 32 ∧ (⟨#[]⟩ : ByteArray).size ≤ 32 := by
    unfold cutE at hc
    split at hc
    · omega
    · split at hc
      · omega
      · refine ⟨by omega, ?_, ?_⟩ <;> omega
  have n0 : numS t 0 0 1 = (4, ((encL ([num_ (4) 1] : List It)).size : Int), 0) := by
    rw [ht]
    exact num_at [] [num_ (txn) 6, num_ (prev) 6, num_ (page) 2, text_ key, text_ old] (4) 1 (hE _ (by simp)) (by omega) (by omega)
  have n1 : numS t ((encL ([num_ (4) 1] : List It)).size : Int) 0 6 = (txn, ((encL ([num_ (4) 1, num_ (txn) 6] : List It)).size : Int), 0) := by
    rw [ht]
    exact num_at [num_ (4) 1] [num_ (prev) 6, num_ (page) 2, text_ key, text_ old] (txn) 6 (hE _ (by simp)) (by omega) (by omega)
  have n2 : numS t ((encL ([num_ (4) 1, num_ (txn) 6] : List It)).size : Int) 0 6 = (prev, ((encL ([num_ (4) 1, num_ (txn) 6, num_ (prev) 6] : List It)).size : Int), 0) := by
    rw [ht]
    exact num_at [num_ (4) 1, num_ (txn) 6] [num_ (page) 2, text_ key, text_ old] (prev) 6 (hE _ (by simp)) (by omega) (by omega)
  have n3 : numS t ((encL ([num_ (4) 1, num_ (txn) 6, num_ (prev) 6] : List It)).size : Int) 0 2 = (page, ((encL ([num_ (4) 1, num_ (txn) 6, num_ (prev) 6, num_ (page) 2] : List It)).size : Int), 0) := by
    rw [ht]
    exact num_at [num_ (4) 1, num_ (txn) 6, num_ (prev) 6] [text_ key, text_ old] (page) 2 (hE _ (by simp)) (by omega) (by omega)
  have n4 : textS t ((encL ([num_ (4) 1, num_ (txn) 6, num_ (prev) 6, num_ (page) 2] : List It)).size : Int) 0 16 = (key, ((encL ([num_ (4) 1, num_ (txn) 6, num_ (prev) 6, num_ (page) 2, text_ key] : List It)).size : Int), 0) := by
    rw [ht]
    exact text_at [num_ (4) 1, num_ (txn) 6, num_ (prev) 6, num_ (page) 2] [text_ old] key 16 (by omega) (by omega)
  have n5 : textS t ((encL ([num_ (4) 1, num_ (txn) 6, num_ (prev) 6, num_ (page) 2, text_ key] : List It)).size : Int) 0 32 = (old, ((encL ([num_ (4) 1, num_ (txn) 6, num_ (prev) 6, num_ (page) 2, text_ key, text_ old] : List It)).size : Int), 0) := by
    rw [ht]
    exact text_at [num_ (4) 1, num_ (txn) 6, num_ (prev) 6, num_ (page) 2, text_ key] [] old 32 (by omega) (by omega)
  have hz : ((encL ([num_ (4) 1, num_ (txn) 6, num_ (prev) 6, num_ (page) 2, text_ key, text_ old] : List It)).size : Int) = (t.size : Int) := by rw [ht]
  generalize ((encL ([num_ (4) 1] : List It)).size : Int) = p1 at *
  generalize ((encL ([num_ (4) 1, num_ (txn) 6] : List It)).size : Int) = p2 at *
  generalize ((encL ([num_ (4) 1, num_ (txn) 6, num_ (prev) 6] : List It)).size : Int) = p3 at *
  generalize ((encL ([num_ (4) 1, num_ (txn) 6, num_ (prev) 6, num_ (page) 2] : List It)).size : Int) = p4 at *
  generalize ((encL ([num_ (4) 1, num_ (txn) 6, num_ (prev) 6, num_ (page) 2, text_ key] : List It)).size : Int) = p5 at *
  generalize ((encL ([num_ (4) 1, num_ (txn) 6, num_ (prev) 6, num_ (page) 2, text_ key, text_ old] : List It)).size : Int) = p6 at *
  have hr : readF t 4 p1 = ⟨(⟨4, txn, prev, page, 0, key, old, ⟨#[]⟩, 0, nilS, nilS, 0, 0⟩ : RV), [], [], p6, 0⟩ := by
    unfold readF chgS
    simp [n1, n2, n3, n4, n5, zeroR]
  refine ⟨4, p1, n0, ?_⟩
  rw [hr]
  exact ⟨hz, rfl, SameV.refl _, rfl, rfl⟩

theorem back_5 (txn prev page : Int) (key old new_ : ByteArray) (t : ByteArray) (h : bodyP (⟨5, txn, prev, page, 0, key, old, new_, 0, nilS, nilS, 0, 0⟩ : RV) [] [] = (t, 0)) : Reads t (⟨5, txn, prev, page, 0, key, old, new_, 0, nilS, nilS, 0, 0⟩ : RV) [] [] := by
  obtain ⟨ha, hE, ht, hs⟩ := body_enc _ _ _ t h
  have hrec : recL (⟨5, txn, prev, page, 0, key, old, new_, 0, nilS, nilS, 0, 0⟩ : RV) [] [] = [num_ (5) 1, num_ (txn) 6, num_ (prev) 6, num_ (page) 2, text_ key, text_ old, text_ new_] := by simp [recL, chgL]
  rw [hrec] at hE ht
  have hc : cutE key old new_ = 0 := by simpa [aheadE] using ha
  obtain ⟨c1, c2, c3⟩ : key.size ≤ 16 ∧ old.size ≤ 32 ∧ new_.size ≤ 32 := by
    unfold cutE at hc
    split at hc
    · omega
    · split at hc
      · omega
      · refine ⟨by omega, ?_, ?_⟩ <;> omega
  have n0 : numS t 0 0 1 = (5, ((encL ([num_ (5) 1] : List It)).size : Int), 0) := by
    rw [ht]
    exact num_at [] [num_ (txn) 6, num_ (prev) 6, num_ (page) 2, text_ key, text_ old, text_ new_] (5) 1 (hE _ (by simp)) (by omega) (by omega)
  have n1 : numS t ((encL ([num_ (5) 1] : List It)).size : Int) 0 6 = (txn, ((encL ([num_ (5) 1, num_ (txn) 6] : List It)).size : Int), 0) := by
    rw [ht]
    exact num_at [num_ (5) 1] [num_ (prev) 6, num_ (page) 2, text_ key, text_ old, text_ new_] (txn) 6 (hE _ (by simp)) (by omega) (by omega)
  have n2 : numS t ((encL ([num_ (5) 1, num_ (txn) 6] : List It)).size : Int) 0 6 = (prev, ((encL ([num_ (5) 1, num_ (txn) 6, num_ (prev) 6] : List It)).size : Int), 0) := by
    rw [ht]
    exact num_at [num_ (5) 1, num_ (txn) 6] [num_ (page) 2, text_ key, text_ old, text_ new_] (prev) 6 (hE _ (by simp)) (by omega) (by omega)
  have n3 : numS t ((encL ([num_ (5) 1, num_ (txn) 6, num_ (prev) 6] : List It)).size : Int) 0 2 = (page, ((encL ([num_ (5) 1, num_ (txn) 6, num_ (prev) 6, num_ (page) 2] : List It)).size : Int), 0) := by
    rw [ht]
    exact num_at [num_ (5) 1, num_ (txn) 6, num_ (prev) 6] [text_ key, text_ old, text_ new_] (page) 2 (hE _ (by simp)) (by omega) (by omega)
  have n4 : textS t ((encL ([num_ (5) 1, num_ (txn) 6, num_ (prev) 6, num_ (page) 2] : List It)).size : Int) 0 16 = (key, ((encL ([num_ (5) 1, num_ (txn) 6, num_ (prev) 6, num_ (page) 2, text_ key] : List It)).size : Int), 0) := by
    rw [ht]
    exact text_at [num_ (5) 1, num_ (txn) 6, num_ (prev) 6, num_ (page) 2] [text_ old, text_ new_] key 16 (by omega) (by omega)
  have n5 : textS t ((encL ([num_ (5) 1, num_ (txn) 6, num_ (prev) 6, num_ (page) 2, text_ key] : List It)).size : Int) 0 32 = (old, ((encL ([num_ (5) 1, num_ (txn) 6, num_ (prev) 6, num_ (page) 2, text_ key, text_ old] : List It)).size : Int), 0) := by
    rw [ht]
    exact text_at [num_ (5) 1, num_ (txn) 6, num_ (prev) 6, num_ (page) 2, text_ key] [text_ new_] old 32 (by omega) (by omega)
  have n6 : textS t ((encL ([num_ (5) 1, num_ (txn) 6, num_ (prev) 6, num_ (page) 2, text_ key, text_ old] : List It)).size : Int) 0 32 = (new_, ((encL ([num_ (5) 1, num_ (txn) 6, num_ (prev) 6, num_ (page) 2, text_ key, text_ old, text_ new_] : List It)).size : Int), 0) := by
    rw [ht]
    exact text_at [num_ (5) 1, num_ (txn) 6, num_ (prev) 6, num_ (page) 2, text_ key, text_ old] [] new_ 32 (by omega) (by omega)
  have hz : ((encL ([num_ (5) 1, num_ (txn) 6, num_ (prev) 6, num_ (page) 2, text_ key, text_ old, text_ new_] : List It)).size : Int) = (t.size : Int) := by rw [ht]
  generalize ((encL ([num_ (5) 1] : List It)).size : Int) = p1 at *
  generalize ((encL ([num_ (5) 1, num_ (txn) 6] : List It)).size : Int) = p2 at *
  generalize ((encL ([num_ (5) 1, num_ (txn) 6, num_ (prev) 6] : List It)).size : Int) = p3 at *
  generalize ((encL ([num_ (5) 1, num_ (txn) 6, num_ (prev) 6, num_ (page) 2] : List It)).size : Int) = p4 at *
  generalize ((encL ([num_ (5) 1, num_ (txn) 6, num_ (prev) 6, num_ (page) 2, text_ key] : List It)).size : Int) = p5 at *
  generalize ((encL ([num_ (5) 1, num_ (txn) 6, num_ (prev) 6, num_ (page) 2, text_ key, text_ old] : List It)).size : Int) = p6 at *
  generalize ((encL ([num_ (5) 1, num_ (txn) 6, num_ (prev) 6, num_ (page) 2, text_ key, text_ old, text_ new_] : List It)).size : Int) = p7 at *
  have hr : readF t 5 p1 = ⟨(⟨5, txn, prev, page, 0, key, old, new_, 0, nilS, nilS, 0, 0⟩ : RV), [], [], p7, 0⟩ := by
    unfold readF chgS
    simp [n1, n2, n3, n4, n5, n6, zeroR]
  refine ⟨5, p1, n0, ?_⟩
  rw [hr]
  exact ⟨hz, rfl, SameV.refl _, rfl, rfl⟩

theorem back_63 (txn prev next page : Int) (key old new_ : ByteArray) (t : ByteArray) (h : bodyP (⟨6, txn, prev, page, 3, key, ⟨#[]⟩, new_, next, nilS, nilS, 0, 0⟩ : RV) [] [] = (t, 0)) : Reads t (⟨6, txn, prev, page, 3, key, ⟨#[]⟩, new_, next, nilS, nilS, 0, 0⟩ : RV) [] [] := by
  obtain ⟨ha, hE, ht, hs⟩ := body_enc _ _ _ t h
  have hrec : recL (⟨6, txn, prev, page, 3, key, ⟨#[]⟩, new_, next, nilS, nilS, 0, 0⟩ : RV) [] [] = [num_ (6) 1, num_ (txn) 6, num_ (prev) 6, num_ (next) 6, num_ (3) 1, num_ (page) 2, text_ key, text_ new_] := by simp [recL, chgL]
  rw [hrec] at hE ht
  have hc : cutE key (⟨#[]⟩ : ByteArray) new_ = 0 := by simpa [aheadE] using ha
  obtain ⟨c1, c2, c3⟩ : key.size ≤ 16 ∧ (⟨#[]⟩ : ByteArray).size ≤ 32 ∧ new_.size ≤ 32 := by
    unfold cutE at hc
    split at hc
    · omega
    · split at hc
      · omega
      · refine ⟨by omega, ?_, ?_⟩ <;> omega
  have n0 : numS t 0 0 1 = (6, ((encL ([num_ (6) 1] : List It)).size : Int), 0) := by
    rw [ht]
    exact num_at [] [num_ (txn) 6, num_ (prev) 6, num_ (next) 6, num_ (3) 1, num_ (page) 2, text_ key, text_ new_] (6) 1 (hE _ (by simp)) (by omega) (by omega)
  have n1 : numS t ((encL ([num_ (6) 1] : List It)).size : Int) 0 6 = (txn, ((encL ([num_ (6) 1, num_ (txn) 6] : List It)).size : Int), 0) := by
    rw [ht]
    exact num_at [num_ (6) 1] [num_ (prev) 6, num_ (next) 6, num_ (3) 1, num_ (page) 2, text_ key, text_ new_] (txn) 6 (hE _ (by simp)) (by omega) (by omega)
  have n2 : numS t ((encL ([num_ (6) 1, num_ (txn) 6] : List It)).size : Int) 0 6 = (prev, ((encL ([num_ (6) 1, num_ (txn) 6, num_ (prev) 6] : List It)).size : Int), 0) := by
    rw [ht]
    exact num_at [num_ (6) 1, num_ (txn) 6] [num_ (next) 6, num_ (3) 1, num_ (page) 2, text_ key, text_ new_] (prev) 6 (hE _ (by simp)) (by omega) (by omega)
  have n3 : numS t ((encL ([num_ (6) 1, num_ (txn) 6, num_ (prev) 6] : List It)).size : Int) 0 6 = (next, ((encL ([num_ (6) 1, num_ (txn) 6, num_ (prev) 6, num_ (next) 6] : List It)).size : Int), 0) := by
    rw [ht]
    exact num_at [num_ (6) 1, num_ (txn) 6, num_ (prev) 6] [num_ (3) 1, num_ (page) 2, text_ key, text_ new_] (next) 6 (hE _ (by simp)) (by omega) (by omega)
  have n4 : numS t ((encL ([num_ (6) 1, num_ (txn) 6, num_ (prev) 6, num_ (next) 6] : List It)).size : Int) 0 1 = (3, ((encL ([num_ (6) 1, num_ (txn) 6, num_ (prev) 6, num_ (next) 6, num_ (3) 1] : List It)).size : Int), 0) := by
    rw [ht]
    exact num_at [num_ (6) 1, num_ (txn) 6, num_ (prev) 6, num_ (next) 6] [num_ (page) 2, text_ key, text_ new_] (3) 1 (hE _ (by simp)) (by omega) (by omega)
  have n5 : numS t ((encL ([num_ (6) 1, num_ (txn) 6, num_ (prev) 6, num_ (next) 6, num_ (3) 1] : List It)).size : Int) 0 2 = (page, ((encL ([num_ (6) 1, num_ (txn) 6, num_ (prev) 6, num_ (next) 6, num_ (3) 1, num_ (page) 2] : List It)).size : Int), 0) := by
    rw [ht]
    exact num_at [num_ (6) 1, num_ (txn) 6, num_ (prev) 6, num_ (next) 6, num_ (3) 1] [text_ key, text_ new_] (page) 2 (hE _ (by simp)) (by omega) (by omega)
  have n6 : textS t ((encL ([num_ (6) 1, num_ (txn) 6, num_ (prev) 6, num_ (next) 6, num_ (3) 1, num_ (page) 2] : List It)).size : Int) 0 16 = (key, ((encL ([num_ (6) 1, num_ (txn) 6, num_ (prev) 6, num_ (next) 6, num_ (3) 1, num_ (page) 2, text_ key] : List It)).size : Int), 0) := by
    rw [ht]
    exact text_at [num_ (6) 1, num_ (txn) 6, num_ (prev) 6, num_ (next) 6, num_ (3) 1, num_ (page) 2] [text_ new_] key 16 (by omega) (by omega)
  have n7 : textS t ((encL ([num_ (6) 1, num_ (txn) 6, num_ (prev) 6, num_ (next) 6, num_ (3) 1, num_ (page) 2, text_ key] : List It)).size : Int) 0 32 = (new_, ((encL ([num_ (6) 1, num_ (txn) 6, num_ (prev) 6, num_ (next) 6, num_ (3) 1, num_ (page) 2, text_ key, text_ new_] : List It)).size : Int), 0) := by
    rw [ht]
    exact text_at [num_ (6) 1, num_ (txn) 6, num_ (prev) 6, num_ (next) 6, num_ (3) 1, num_ (page) 2, text_ key] [] new_ 32 (by omega) (by omega)
  have hz : ((encL ([num_ (6) 1, num_ (txn) 6, num_ (prev) 6, num_ (next) 6, num_ (3) 1, num_ (page) 2, text_ key, text_ new_] : List It)).size : Int) = (t.size : Int) := by rw [ht]
  generalize ((encL ([num_ (6) 1] : List It)).size : Int) = p1 at *
  generalize ((encL ([num_ (6) 1, num_ (txn) 6] : List It)).size : Int) = p2 at *
  generalize ((encL ([num_ (6) 1, num_ (txn) 6, num_ (prev) 6] : List It)).size : Int) = p3 at *
  generalize ((encL ([num_ (6) 1, num_ (txn) 6, num_ (prev) 6, num_ (next) 6] : List It)).size : Int) = p4 at *
  generalize ((encL ([num_ (6) 1, num_ (txn) 6, num_ (prev) 6, num_ (next) 6, num_ (3) 1] : List It)).size : Int) = p5 at *
  generalize ((encL ([num_ (6) 1, num_ (txn) 6, num_ (prev) 6, num_ (next) 6, num_ (3) 1, num_ (page) 2] : List It)).size : Int) = p6 at *
  generalize ((encL ([num_ (6) 1, num_ (txn) 6, num_ (prev) 6, num_ (next) 6, num_ (3) 1, num_ (page) 2, text_ key] : List It)).size : Int) = p7 at *
  generalize ((encL ([num_ (6) 1, num_ (txn) 6, num_ (prev) 6, num_ (next) 6, num_ (3) 1, num_ (page) 2, text_ key, text_ new_] : List It)).size : Int) = p8 at *
  have hr : readF t 6 p1 = ⟨(⟨6, txn, prev, page, 3, key, ⟨#[]⟩, new_, next, nilS, nilS, 0, 0⟩ : RV), [], [], p8, 0⟩ := by
    unfold readF chgS
    simp [n1, n2, n3, n4, n5, n6, n7, zeroR]
  refine ⟨6, p1, n0, ?_⟩
  rw [hr]
  exact ⟨hz, rfl, SameV.refl _, rfl, rfl⟩

theorem back_64 (txn prev next page : Int) (key old new_ : ByteArray) (t : ByteArray) (h : bodyP (⟨6, txn, prev, page, 4, key, old, ⟨#[]⟩, next, nilS, nilS, 0, 0⟩ : RV) [] [] = (t, 0)) : Reads t (⟨6, txn, prev, page, 4, key, old, ⟨#[]⟩, next, nilS, nilS, 0, 0⟩ : RV) [] [] := by
  obtain ⟨ha, hE, ht, hs⟩ := body_enc _ _ _ t h
  have hrec : recL (⟨6, txn, prev, page, 4, key, old, ⟨#[]⟩, next, nilS, nilS, 0, 0⟩ : RV) [] [] = [num_ (6) 1, num_ (txn) 6, num_ (prev) 6, num_ (next) 6, num_ (4) 1, num_ (page) 2, text_ key, text_ old] := by simp [recL, chgL]
  rw [hrec] at hE ht
  have hc : cutE key old (⟨#[]⟩ : ByteArray) = 0 := by simpa [aheadE] using ha
  obtain ⟨c1, c2, c3⟩ : key.size ≤ 16 ∧ old.size ≤ 32 ∧ (⟨#[]⟩ : ByteArray).size ≤ 32 := by
    unfold cutE at hc
    split at hc
    · omega
    · split at hc
      · omega
      · refine ⟨by omega, ?_, ?_⟩ <;> omega
  have n0 : numS t 0 0 1 = (6, ((encL ([num_ (6) 1] : List It)).size : Int), 0) := by
    rw [ht]
    exact num_at [] [num_ (txn) 6, num_ (prev) 6, num_ (next) 6, num_ (4) 1, num_ (page) 2, text_ key, text_ old] (6) 1 (hE _ (by simp)) (by omega) (by omega)
  have n1 : numS t ((encL ([num_ (6) 1] : List It)).size : Int) 0 6 = (txn, ((encL ([num_ (6) 1, num_ (txn) 6] : List It)).size : Int), 0) := by
    rw [ht]
    exact num_at [num_ (6) 1] [num_ (prev) 6, num_ (next) 6, num_ (4) 1, num_ (page) 2, text_ key, text_ old] (txn) 6 (hE _ (by simp)) (by omega) (by omega)
  have n2 : numS t ((encL ([num_ (6) 1, num_ (txn) 6] : List It)).size : Int) 0 6 = (prev, ((encL ([num_ (6) 1, num_ (txn) 6, num_ (prev) 6] : List It)).size : Int), 0) := by
    rw [ht]
    exact num_at [num_ (6) 1, num_ (txn) 6] [num_ (next) 6, num_ (4) 1, num_ (page) 2, text_ key, text_ old] (prev) 6 (hE _ (by simp)) (by omega) (by omega)
  have n3 : numS t ((encL ([num_ (6) 1, num_ (txn) 6, num_ (prev) 6] : List It)).size : Int) 0 6 = (next, ((encL ([num_ (6) 1, num_ (txn) 6, num_ (prev) 6, num_ (next) 6] : List It)).size : Int), 0) := by
    rw [ht]
    exact num_at [num_ (6) 1, num_ (txn) 6, num_ (prev) 6] [num_ (4) 1, num_ (page) 2, text_ key, text_ old] (next) 6 (hE _ (by simp)) (by omega) (by omega)
  have n4 : numS t ((encL ([num_ (6) 1, num_ (txn) 6, num_ (prev) 6, num_ (next) 6] : List It)).size : Int) 0 1 = (4, ((encL ([num_ (6) 1, num_ (txn) 6, num_ (prev) 6, num_ (next) 6, num_ (4) 1] : List It)).size : Int), 0) := by
    rw [ht]
    exact num_at [num_ (6) 1, num_ (txn) 6, num_ (prev) 6, num_ (next) 6] [num_ (page) 2, text_ key, text_ old] (4) 1 (hE _ (by simp)) (by omega) (by omega)
  have n5 : numS t ((encL ([num_ (6) 1, num_ (txn) 6, num_ (prev) 6, num_ (next) 6, num_ (4) 1] : List It)).size : Int) 0 2 = (page, ((encL ([num_ (6) 1, num_ (txn) 6, num_ (prev) 6, num_ (next) 6, num_ (4) 1, num_ (page) 2] : List It)).size : Int), 0) := by
    rw [ht]
    exact num_at [num_ (6) 1, num_ (txn) 6, num_ (prev) 6, num_ (next) 6, num_ (4) 1] [text_ key, text_ old] (page) 2 (hE _ (by simp)) (by omega) (by omega)
  have n6 : textS t ((encL ([num_ (6) 1, num_ (txn) 6, num_ (prev) 6, num_ (next) 6, num_ (4) 1, num_ (page) 2] : List It)).size : Int) 0 16 = (key, ((encL ([num_ (6) 1, num_ (txn) 6, num_ (prev) 6, num_ (next) 6, num_ (4) 1, num_ (page) 2, text_ key] : List It)).size : Int), 0) := by
    rw [ht]
    exact text_at [num_ (6) 1, num_ (txn) 6, num_ (prev) 6, num_ (next) 6, num_ (4) 1, num_ (page) 2] [text_ old] key 16 (by omega) (by omega)
  have n7 : textS t ((encL ([num_ (6) 1, num_ (txn) 6, num_ (prev) 6, num_ (next) 6, num_ (4) 1, num_ (page) 2, text_ key] : List It)).size : Int) 0 32 = (old, ((encL ([num_ (6) 1, num_ (txn) 6, num_ (prev) 6, num_ (next) 6, num_ (4) 1, num_ (page) 2, text_ key, text_ old] : List It)).size : Int), 0) := by
    rw [ht]
    exact text_at [num_ (6) 1, num_ (txn) 6, num_ (prev) 6, num_ (next) 6, num_ (4) 1, num_ (page) 2, text_ key] [] old 32 (by omega) (by omega)
  have hz : ((encL ([num_ (6) 1, num_ (txn) 6, num_ (prev) 6, num_ (next) 6, num_ (4) 1, num_ (page) 2, text_ key, text_ old] : List It)).size : Int) = (t.size : Int) := by rw [ht]
  generalize ((encL ([num_ (6) 1] : List It)).size : Int) = p1 at *
  generalize ((encL ([num_ (6) 1, num_ (txn) 6] : List It)).size : Int) = p2 at *
  generalize ((encL ([num_ (6) 1, num_ (txn) 6, num_ (prev) 6] : List It)).size : Int) = p3 at *
  generalize ((encL ([num_ (6) 1, num_ (txn) 6, num_ (prev) 6, num_ (next) 6] : List It)).size : Int) = p4 at *
  generalize ((encL ([num_ (6) 1, num_ (txn) 6, num_ (prev) 6, num_ (next) 6, num_ (4) 1] : List It)).size : Int) = p5 at *
  generalize ((encL ([num_ (6) 1, num_ (txn) 6, num_ (prev) 6, num_ (next) 6, num_ (4) 1, num_ (page) 2] : List It)).size : Int) = p6 at *
  generalize ((encL ([num_ (6) 1, num_ (txn) 6, num_ (prev) 6, num_ (next) 6, num_ (4) 1, num_ (page) 2, text_ key] : List It)).size : Int) = p7 at *
  generalize ((encL ([num_ (6) 1, num_ (txn) 6, num_ (prev) 6, num_ (next) 6, num_ (4) 1, num_ (page) 2, text_ key, text_ old] : List It)).size : Int) = p8 at *
  have hr : readF t 6 p1 = ⟨(⟨6, txn, prev, page, 4, key, old, ⟨#[]⟩, next, nilS, nilS, 0, 0⟩ : RV), [], [], p8, 0⟩ := by
    unfold readF chgS
    simp [n1, n2, n3, n4, n5, n6, n7, zeroR]
  refine ⟨6, p1, n0, ?_⟩
  rw [hr]
  exact ⟨hz, rfl, SameV.refl _, rfl, rfl⟩

theorem back_65 (txn prev next page : Int) (key old new_ : ByteArray) (t : ByteArray) (h : bodyP (⟨6, txn, prev, page, 5, key, old, new_, next, nilS, nilS, 0, 0⟩ : RV) [] [] = (t, 0)) : Reads t (⟨6, txn, prev, page, 5, key, old, new_, next, nilS, nilS, 0, 0⟩ : RV) [] [] := by
  obtain ⟨ha, hE, ht, hs⟩ := body_enc _ _ _ t h
  have hrec : recL (⟨6, txn, prev, page, 5, key, old, new_, next, nilS, nilS, 0, 0⟩ : RV) [] [] = [num_ (6) 1, num_ (txn) 6, num_ (prev) 6, num_ (next) 6, num_ (5) 1, num_ (page) 2, text_ key, text_ old, text_ new_] := by simp [recL, chgL]
  rw [hrec] at hE ht
  have hc : cutE key old new_ = 0 := by simpa [aheadE] using ha
  obtain ⟨c1, c2, c3⟩ : key.size ≤ 16 ∧ old.size ≤ 32 ∧ new_.size ≤ 32 := by
    unfold cutE at hc
    split at hc
    · omega
    · split at hc
      · omega
      · refine ⟨by omega, ?_, ?_⟩ <;> omega
  have n0 : numS t 0 0 1 = (6, ((encL ([num_ (6) 1] : List It)).size : Int), 0) := by
    rw [ht]
    exact num_at [] [num_ (txn) 6, num_ (prev) 6, num_ (next) 6, num_ (5) 1, num_ (page) 2, text_ key, text_ old, text_ new_] (6) 1 (hE _ (by simp)) (by omega) (by omega)
  have n1 : numS t ((encL ([num_ (6) 1] : List It)).size : Int) 0 6 = (txn, ((encL ([num_ (6) 1, num_ (txn) 6] : List It)).size : Int), 0) := by
    rw [ht]
    exact num_at [num_ (6) 1] [num_ (prev) 6, num_ (next) 6, num_ (5) 1, num_ (page) 2, text_ key, text_ old, text_ new_] (txn) 6 (hE _ (by simp)) (by omega) (by omega)
  have n2 : numS t ((encL ([num_ (6) 1, num_ (txn) 6] : List It)).size : Int) 0 6 = (prev, ((encL ([num_ (6) 1, num_ (txn) 6, num_ (prev) 6] : List It)).size : Int), 0) := by
    rw [ht]
    exact num_at [num_ (6) 1, num_ (txn) 6] [num_ (next) 6, num_ (5) 1, num_ (page) 2, text_ key, text_ old, text_ new_] (prev) 6 (hE _ (by simp)) (by omega) (by omega)
  have n3 : numS t ((encL ([num_ (6) 1, num_ (txn) 6, num_ (prev) 6] : List It)).size : Int) 0 6 = (next, ((encL ([num_ (6) 1, num_ (txn) 6, num_ (prev) 6, num_ (next) 6] : List It)).size : Int), 0) := by
    rw [ht]
    exact num_at [num_ (6) 1, num_ (txn) 6, num_ (prev) 6] [num_ (5) 1, num_ (page) 2, text_ key, text_ old, text_ new_] (next) 6 (hE _ (by simp)) (by omega) (by omega)
  have n4 : numS t ((encL ([num_ (6) 1, num_ (txn) 6, num_ (prev) 6, num_ (next) 6] : List It)).size : Int) 0 1 = (5, ((encL ([num_ (6) 1, num_ (txn) 6, num_ (prev) 6, num_ (next) 6, num_ (5) 1] : List It)).size : Int), 0) := by
    rw [ht]
    exact num_at [num_ (6) 1, num_ (txn) 6, num_ (prev) 6, num_ (next) 6] [num_ (page) 2, text_ key, text_ old, text_ new_] (5) 1 (hE _ (by simp)) (by omega) (by omega)
  have n5 : numS t ((encL ([num_ (6) 1, num_ (txn) 6, num_ (prev) 6, num_ (next) 6, num_ (5) 1] : List It)).size : Int) 0 2 = (page, ((encL ([num_ (6) 1, num_ (txn) 6, num_ (prev) 6, num_ (next) 6, num_ (5) 1, num_ (page) 2] : List It)).size : Int), 0) := by
    rw [ht]
    exact num_at [num_ (6) 1, num_ (txn) 6, num_ (prev) 6, num_ (next) 6, num_ (5) 1] [text_ key, text_ old, text_ new_] (page) 2 (hE _ (by simp)) (by omega) (by omega)
  have n6 : textS t ((encL ([num_ (6) 1, num_ (txn) 6, num_ (prev) 6, num_ (next) 6, num_ (5) 1, num_ (page) 2] : List It)).size : Int) 0 16 = (key, ((encL ([num_ (6) 1, num_ (txn) 6, num_ (prev) 6, num_ (next) 6, num_ (5) 1, num_ (page) 2, text_ key] : List It)).size : Int), 0) := by
    rw [ht]
    exact text_at [num_ (6) 1, num_ (txn) 6, num_ (prev) 6, num_ (next) 6, num_ (5) 1, num_ (page) 2] [text_ old, text_ new_] key 16 (by omega) (by omega)
  have n7 : textS t ((encL ([num_ (6) 1, num_ (txn) 6, num_ (prev) 6, num_ (next) 6, num_ (5) 1, num_ (page) 2, text_ key] : List It)).size : Int) 0 32 = (old, ((encL ([num_ (6) 1, num_ (txn) 6, num_ (prev) 6, num_ (next) 6, num_ (5) 1, num_ (page) 2, text_ key, text_ old] : List It)).size : Int), 0) := by
    rw [ht]
    exact text_at [num_ (6) 1, num_ (txn) 6, num_ (prev) 6, num_ (next) 6, num_ (5) 1, num_ (page) 2, text_ key] [text_ new_] old 32 (by omega) (by omega)
  have n8 : textS t ((encL ([num_ (6) 1, num_ (txn) 6, num_ (prev) 6, num_ (next) 6, num_ (5) 1, num_ (page) 2, text_ key, text_ old] : List It)).size : Int) 0 32 = (new_, ((encL ([num_ (6) 1, num_ (txn) 6, num_ (prev) 6, num_ (next) 6, num_ (5) 1, num_ (page) 2, text_ key, text_ old, text_ new_] : List It)).size : Int), 0) := by
    rw [ht]
    exact text_at [num_ (6) 1, num_ (txn) 6, num_ (prev) 6, num_ (next) 6, num_ (5) 1, num_ (page) 2, text_ key, text_ old] [] new_ 32 (by omega) (by omega)
  have hz : ((encL ([num_ (6) 1, num_ (txn) 6, num_ (prev) 6, num_ (next) 6, num_ (5) 1, num_ (page) 2, text_ key, text_ old, text_ new_] : List It)).size : Int) = (t.size : Int) := by rw [ht]
  generalize ((encL ([num_ (6) 1] : List It)).size : Int) = p1 at *
  generalize ((encL ([num_ (6) 1, num_ (txn) 6] : List It)).size : Int) = p2 at *
  generalize ((encL ([num_ (6) 1, num_ (txn) 6, num_ (prev) 6] : List It)).size : Int) = p3 at *
  generalize ((encL ([num_ (6) 1, num_ (txn) 6, num_ (prev) 6, num_ (next) 6] : List It)).size : Int) = p4 at *
  generalize ((encL ([num_ (6) 1, num_ (txn) 6, num_ (prev) 6, num_ (next) 6, num_ (5) 1] : List It)).size : Int) = p5 at *
  generalize ((encL ([num_ (6) 1, num_ (txn) 6, num_ (prev) 6, num_ (next) 6, num_ (5) 1, num_ (page) 2] : List It)).size : Int) = p6 at *
  generalize ((encL ([num_ (6) 1, num_ (txn) 6, num_ (prev) 6, num_ (next) 6, num_ (5) 1, num_ (page) 2, text_ key] : List It)).size : Int) = p7 at *
  generalize ((encL ([num_ (6) 1, num_ (txn) 6, num_ (prev) 6, num_ (next) 6, num_ (5) 1, num_ (page) 2, text_ key, text_ old] : List It)).size : Int) = p8 at *
  generalize ((encL ([num_ (6) 1, num_ (txn) 6, num_ (prev) 6, num_ (next) 6, num_ (5) 1, num_ (page) 2, text_ key, text_ old, text_ new_] : List It)).size : Int) = p9 at *
  have hr : readF t 6 p1 = ⟨(⟨6, txn, prev, page, 5, key, old, new_, next, nilS, nilS, 0, 0⟩ : RV), [], [], p9, 0⟩ := by
    unfold readF chgS
    simp [n1, n2, n3, n4, n5, n6, n7, n8, zeroR]
  refine ⟨6, p1, n0, ?_⟩
  rw [hr]
  exact ⟨hz, rfl, SameV.refl _, rfl, rfl⟩

theorem len_of (n : Nat) (h : errI (num_ (n : Int) 1) = 0) : n ≤ 255 := by
  have := errI_num (n : Int) 1 (by omega)
  rw [show ((1 : Nat) : Int) = 1 from rfl, h] at this
  by_cases c : (n : Int) < 0 ∨ ((256 ^ 1 : Nat) : Int) ≤ n
  · rw [if_pos c] at this; omega
  · have e : (256 : Nat) ^ 1 = 256 := by decide
    omega
theorem back_img (k : Int) (hk : k = 1 ∨ k = 2) (x : Sl) (li : List S36) (t : ByteArray) (h : bodyP (⟨k, 0, 0, 0, 0, ⟨#[]⟩, ⟨#[]⟩, ⟨#[]⟩, 0, x, nilS, 0, 0⟩ : RV) li [] = (t, 0)) :
    Reads t (⟨k, 0, 0, 0, 0, ⟨#[]⟩, ⟨#[]⟩, ⟨#[]⟩, 0, x, nilS, 0, 0⟩ : RV) li [] := by
  obtain ⟨ha, hE, ht, hs⟩ := body_enc _ _ _ t h
  have hrec : recL (⟨k, 0, 0, 0, 0, ⟨#[]⟩, ⟨#[]⟩, ⟨#[]⟩, 0, x, nilS, 0, 0⟩ : RV) li [] = num_ k 1 :: num_ (li.length : Int) 1 :: imgL li := by
    unfold recL
    simp only
    rw [if_pos hk]
  rw [hrec] at hE ht
  have hl := len_of li.length (hE _ (by simp))
  have h224 : ∀ y ∈ li, y.f1.size = 224 := by
    unfold aheadE at ha
    simp only at ha
    rw [if_pos hk] at ha
    split at ha
    · omega
    · split at ha
      · assumption
      · omega
  have hx : ∀ y ∈ li, errI (num_ y.f0 2) = 0 ∧ y.f1.size = 224 := fun y hy => ⟨hE _ (List.mem_cons_of_mem _ (List.mem_cons_of_mem _ (List.mem_flatMap.2 ⟨y, hy, by simp⟩))), h224 y hy⟩
  have n0 : numS t 0 0 1 = (k, ((encL ([num_ k 1] : List It)).size : Int), 0) := by
    rw [ht]
    exact num_at [] (num_ (li.length : Int) 1 :: imgL li) k 1 (hE _ (by simp)) (by omega) (by omega)
  have hi := imgs_back [num_ k 1] [] li hl hx t (by rw [ht]; simp) (by omega)
  have hz : ((encL ([num_ k 1] ++ num_ (li.length : Int) 1 :: imgL li)).size : Int) = (t.size : Int) := by rw [ht]; rfl
  have hr : readF t k ((encL ([num_ k 1] : List It)).size : Int) = ⟨zeroR k, li, [], (t.size : Int), 0⟩ := by
    unfold readF
    rw [if_pos hk, hi, hz]
    rfl
  refine ⟨k, _, n0, ?_⟩
  rw [hr]
  exact ⟨rfl, rfl, ⟨rfl, rfl, rfl, rfl, rfl, rfl, rfl, rfl, rfl, rfl, rfl⟩, rfl, rfl⟩
theorem back_tab (x : Sl) (lt : List S55) (t : ByteArray) (h : bodyP (⟨9, 0, 0, 0, 0, ⟨#[]⟩, ⟨#[]⟩, ⟨#[]⟩, 0, nilS, x, 0, 0⟩ : RV) [] lt = (t, 0)) :
    Reads t (⟨9, 0, 0, 0, 0, ⟨#[]⟩, ⟨#[]⟩, ⟨#[]⟩, 0, nilS, x, 0, 0⟩ : RV) [] lt := by
  obtain ⟨ha, hE, ht, hs⟩ := body_enc _ _ _ t h
  have hrec : recL (⟨9, 0, 0, 0, 0, ⟨#[]⟩, ⟨#[]⟩, ⟨#[]⟩, 0, nilS, x, 0, 0⟩ : RV) [] lt = num_ 9 1 :: num_ (lt.length : Int) 1 :: tabL lt := by
    simp [recL]
  rw [hrec] at hE ht
  have hl := len_of lt.length (hE _ (by simp))
  have hx : ∀ y ∈ lt, errI (num_ y.f0 6) = 0 ∧ errI (num_ y.f1 6) = 0 := fun y hy => ⟨hE _ (List.mem_cons_of_mem _ (List.mem_cons_of_mem _ (List.mem_flatMap.2 ⟨y, hy, by simp⟩))), hE _ (List.mem_cons_of_mem _ (List.mem_cons_of_mem _ (List.mem_flatMap.2 ⟨y, hy, by simp⟩)))⟩
  have n0 : numS t 0 0 1 = (9, ((encL ([num_ 9 1] : List It)).size : Int), 0) := by
    rw [ht]
    exact num_at [] (num_ (lt.length : Int) 1 :: tabL lt) 9 1 (hE _ (by simp)) (by omega) (by omega)
  have hi := tab_back [num_ 9 1] [] lt hl hx t (by rw [ht]; simp) (by omega)
  have hz : ((encL ([num_ 9 1] ++ num_ (lt.length : Int) 1 :: tabL lt)).size : Int) = (t.size : Int) := by rw [ht]; rfl
  have hr : readF t 9 ((encL ([num_ 9 1] : List It)).size : Int) = ⟨zeroR 9, [], lt, (t.size : Int), 0⟩ := by
    unfold readF
    rw [if_neg (by omega), if_neg (by omega), if_neg (by omega), if_neg (by omega), if_pos rfl, hi, hz]
    rfl
  refine ⟨9, _, n0, ?_⟩
  rw [hr]
  exact ⟨rfl, rfl, ⟨rfl, rfl, rfl, rfl, rfl, rfl, rfl, rfl, rfl, rfl, rfl⟩, rfl, rfl⟩
/-- A record that has bytes is read again, clean. -/
theorem of_back (r : RV) (l : List S36) (l' : List S55) (t : ByteArray) (h : cbodyP r l l' = (t, 0)) :
    (ofP t).e = 0 ∧ SameV (ofP t).q (cleanR r) ∧ (ofP t).li = cleanI r l ∧ (ofP t).lt = cleanT r l' := by
  refine of_reads t (cleanR r) _ _ h ?_
  have ha := (body_enc _ _ _ t h).1
  obtain ⟨kind, txn, prev, page, act, key, old, new_, next, images, table, epoch, node⟩ := r
  unfold cbodyP at h
  by_cases hk : 1 ≤ kind ∧ kind ≤ 10
  · obtain ⟨k1, k2⟩ := hk
    rcases (by omega : kind = 1 ∨ kind = 2 ∨ kind = 3 ∨ kind = 4 ∨ kind = 5 ∨ kind = 6 ∨ kind = 7 ∨ kind = 8 ∨ kind = 9 ∨ kind = 10) with rfl | rfl | rfl | rfl | rfl | rfl | rfl | rfl | rfl | rfl
    · exact back_img 1 (.inl rfl) images l t h
    · exact back_img 2 (.inr rfl) images l t h
    · exact back_3 txn prev page key old new_ t h
    · exact back_4 txn prev page key old new_ t h
    · exact back_5 txn prev page key old new_ t h
    · by_cases a3 : act = 3
      · subst a3; exact back_63 txn prev next page key old new_ t h
      · by_cases a4 : act = 4
        · subst a4; exact back_64 txn prev next page key old new_ t h
        · have e : cleanR ⟨6, txn, prev, page, act, key, old, new_, next, images, table, epoch, node⟩ = ⟨6, txn, prev, page, act, key, old, new_, next, nilS, nilS, 0, 0⟩ := by
            show tidyR _ act = _
            unfold tidyR
            rw [if_neg a3, if_neg a4]
            rfl
          rw [e] at h ha ⊢
          by_cases a5 : act = 5
          · subst a5; exact back_65 txn prev next page key old new_ t h
          · exfalso
            unfold aheadE at ha
            simp only at ha
            rw [if_neg (by omega), if_pos ⟨trivial, by omega⟩] at ha
            omega
    · exact back_7 txn prev t h
    · exact back_8 txn prev t h
    · exact back_tab table l' t h
    · exact back_10 epoch node t h
  · exfalso
    have e : cleanR ⟨kind, txn, prev, page, act, key, old, new_, next, images, table, epoch, node⟩ = zeroR kind := by
      unfold cleanR
      simp only
      rw [if_neg (by omega), if_neg (by omega), if_neg (by omega), if_neg (by omega), if_neg (by omega), if_neg (by omega)]
    rw [e] at ha
    unfold aheadE zeroR at ha
    simp only at ha
    rw [if_neg (by omega), if_neg (by omega), if_neg (by omega), if_neg (by omega)] at ha
    omega
end Go.Proofs.Ytdphikbkknkhiaa.Pure
