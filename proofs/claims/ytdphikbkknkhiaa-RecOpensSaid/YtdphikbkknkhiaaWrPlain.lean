/- Plain: what a writer does with an item; a record's items; its bytes without a frame, or why it has none. No memory in sight. -/
import Derived.Test.YtdphikbkknkhiaaItems
import Derived.Test.YtdphikbkknkhiaaPackWr
import Derived.Test.YtdphikbkknkhiaaClean
namespace Go.Proofs.Ytdphikbkknkhiaa.Pure
open Go.RowKit Go.Proofs.Ytdphikbkknkhiaa.PAll Go.Proofs.YtdphikbkknkhiaaW.PrintWords Go.Proofs.YtdphikbkknkhiaaW.PrintLast Go.Proofs.YtdphikbkknkhiaaW.PrintMore
set_option linter.unusedVariables false
set_option linter.unusedSimpArgs false

/-- What a writer has laid, and its first error. -/
abbrev WS := ByteArray × Int
/-- An item that has no room: why. -/
def errI (x : It) : Int := if x.2.1 = 0 then (if 65536 ≤ x.2.2.size then 3 else 0) else if x.1 < 0 ∨ ((256 ^ x.2.1.toNat : Nat) : Int) ≤ x.1 then 6 else 0
def wrS (r : WS) (x : It) : WS := if r.2 ≠ 0 then r else if errI x = 0 then (r.1 ++ encI x, 0) else (⟨#[]⟩, errI x)
def num_ (n w : Int) : It := (n, w, ⟨#[]⟩)
def text_ (t : ByteArray) : It := (0, 0, t)
theorem errI_num (n : Int) (v : Nat) (h : 1 ≤ v) : errI (num_ n (v : Int)) = if n < 0 ∨ ((256 ^ v : Nat) : Int) ≤ n then 6 else 0 := by
  unfold errI num_
  rw [if_neg (show ¬ ((v : Int) = 0) by omega)]
  rfl
theorem errI_text (t : ByteArray) : errI (text_ t) = if 65536 ≤ t.size then 3 else 0 := by
  unfold errI text_
  rw [if_pos rfl]
theorem encI_num (n v : Nat) (h : 1 ≤ v) : encI (num_ (n : Int) (v : Int)) = ⟨(nb v n).toArray⟩ := by
  unfold encI num_
  rw [if_neg (show ¬ ((v : Int) = 0) by omega)]
  rfl
theorem encI_text (t : ByteArray) : encI (text_ t) = (⟨(nb 2 t.size).toArray⟩ : ByteArray) ++ t := by
  unfold encI text_
  rw [if_pos rfl]
theorem wrS_off (r : WS) (x : It) (h : r.2 ≠ 0) : wrS r x = r := by unfold wrS; rw [if_pos h]
theorem wrS_bad (r : WS) (x : It) (h : r.2 = 0) (he : errI x ≠ 0) : wrS r x = (⟨#[]⟩, errI x) := by unfold wrS; rw [if_neg (fun c => c h), if_neg he]
theorem wrS_ok (r : WS) (x : It) (h : r.2 = 0) (he : errI x = 0) : wrS r x = (r.1 ++ encI x, 0) := by unfold wrS; rw [if_neg (fun c => c h), if_pos he]
theorem wnum_is (r : WS) (n w : Int) (h1 : 1 ≤ w) (h6 : w ≤ 6) (hs : r.1.size ≤ 1099511627776) : pack_Writer_Num.f r.1 r.2 n w = some (wrS r (num_ n w)) := by
  obtain ⟨v, rfl⟩ : ∃ v : Nat, w = (v : Int) := ⟨w.toNat, by omega⟩
  unfold pack_Writer_Num.f
  by_cases he : r.2 = 0
  · rw [if_pos he]
    by_cases hn : n < 0 ∨ ((256 ^ v : Nat) : Int) ≤ n
    · have e := errI_num n v (by omega)
      rw [if_pos hn] at e
      rw [put_range 10 r.1 n v (by omega) (by omega) hn (by omega), wrS_bad r _ he (by rw [e]; omega), e]
      rfl
    · have e := errI_num n v (by omega)
      rw [if_neg hn] at e
      have hn2 := hn
      obtain ⟨m, rfl⟩ : ∃ m : Nat, n = (m : Int) := ⟨n.toNat, by omega⟩
      rw [put_ok 10 r.1 m v (by omega) (by omega) (by omega) (by omega) (by omega), wrS_ok r _ he e, encI_num m v (by omega)]
      rfl
  · rw [if_neg he, wrS_off r _ he]
theorem wtext_is (r : WS) (t : ByteArray) (hs : r.1.size ≤ 1099511627776) : pack_Writer_Text.f r.1 r.2 t = some (wrS r (text_ t)) := by
  unfold pack_Writer_Text.f
  by_cases he : r.2 = 0
  · rw [if_pos he]
    unfold pack_Text.f
    have hl := limit_plain 2 (by omega) (by omega)
    rw [show ((2 : Nat) : Int) = 2 from rfl] at hl
    rw [hl]
    simp only [Option.bind_some]
    have e := errI_text t
    by_cases ht : 65536 ≤ t.size
    · rw [if_pos ht] at e
      rw [if_pos (by omega), wrS_bad r _ he (by rw [e]; omega), e]
      rfl
    · rw [if_neg ht] at e
      have hp := put_ok 10 r.1 t.size 2 (by omega) (by omega) (by omega) (by omega) (by omega)
      rw [show ((2 : Nat) : Int) = 2 from rfl] at hp
      have hz : (r.1 ++ (⟨(nb 2 t.size).toArray⟩ : ByteArray)).size = r.1.size + 2 := by rw [ByteArray.size_append, nb_szI]
      rw [if_neg (by omega), hp]
      simp only [Option.bind_some]
      rw [if_pos (by rw [hz]; omega), wrS_ok r _ he e, encI_text, ← app_assoc]
      rfl
  · rw [if_neg he, wrS_off r _ he]
theorem encI_le (x : It) (h : errI x = 0) (hw : x.2.1 ≤ 6) : (encI x).size ≤ 65537 := by
  unfold errI at h
  unfold encI
  by_cases h0 : x.2.1 = 0
  · rw [if_pos h0] at h
    rw [if_pos h0, ByteArray.size_append, nb_szI]
    split at h <;> omega
  · rw [if_neg h0, nb_szI]; omega
theorem wrS_le (r : WS) (x : It) (hw : x.2.1 ≤ 6) : (wrS r x).1.size ≤ r.1.size + 65537 := by
  unfold wrS
  split
  · omega
  · split
    · next h => simp only; rw [ByteArray.size_append]; have := encI_le x h hw; omega
    · show (0 : Nat) ≤ _; omega
/-- Items, one behind the other. -/
def wrL (r : WS) (l : List It) : WS := l.foldl wrS r
theorem wrL_app (r : WS) (l m : List It) : wrL r (l ++ m) = wrL (wrL r l) m := List.foldl_append
theorem wrL_cons (r : WS) (x : It) (m : List It) : wrL r (x :: m) = wrL (wrS r x) m := rfl
def imgL (l : List S36) : List It := l.flatMap fun x => [num_ x.f0 2, text_ x.f1]
def tabL (l : List S55) : List It := l.flatMap fun x => [num_ x.f0 6, num_ x.f1 6]
/-- Why the texts of a change can't be. -/
def cutE (key old new : ByteArray) : Int := if 16 < key.size then 17 else if 32 < old.size ∨ 32 < new.size then 18 else 0
def chgL (page : Int) (key old new : ByteArray) (act : Int) : List It :=
  [num_ page 2, text_ key] ++ (if act = 3 then [] else [text_ old]) ++ (if act = 4 then [] else [text_ new])
/-- What stands ahead of a writer's error. -/
def aheadE (r : RV) (li : List S36) : Int :=
  if r.kind = 1 ∨ r.kind = 2 then (if r.kind = 1 ∧ li.length ≠ 1 then 4 else if ∀ x ∈ li, x.f1.size = 224 then 0 else 4)
  else if r.kind = 6 ∧ (r.act < 3 ∨ 5 < r.act) then 4
  else if 3 ≤ r.kind ∧ r.kind ≤ 6 then cutE r.key r.old r.new
  else if 7 ≤ r.kind ∧ r.kind ≤ 10 then 0 else 1
/-- A record's items. -/
def recL (r : RV) (li : List S36) (lt : List S55) : List It :=
  num_ r.kind 1 ::
  (if r.kind = 1 ∨ r.kind = 2 then num_ li.length 1 :: imgL li
   else if r.kind = 9 then num_ lt.length 1 :: tabL lt
   else if r.kind = 10 then [num_ r.epoch 4, num_ r.node 1]
   else [num_ r.txn 6, num_ r.prev 6] ++ (if r.kind = 6 then [num_ r.next 6, num_ r.act 1] ++ chgL r.page r.key r.old r.new r.act else if r.kind < 6 then chgL r.page r.key r.old r.new r.kind else []))
/-- A record's bytes without a frame, or why it has none. -/
def bodyP (r : RV) (li : List S36) (lt : List S55) : WS :=
  if aheadE r li ≠ 0 then (⟨#[]⟩, aheadE r li)
  else if (wrL (⟨#[]⟩, 0) (recL r li lt)).2 ≠ 0 then (⟨#[]⟩, (wrL (⟨#[]⟩, 0) (recL r li lt)).2)
  else if 4096 < (wrL (⟨#[]⟩, 0) (recL r li lt)).1.size then (⟨#[]⟩, 3)
  else wrL (⟨#[]⟩, 0) (recL r li lt)
end Go.Proofs.Ytdphikbkknkhiaa.Pure
