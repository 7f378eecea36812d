/- Plain: what items (numbers of so many bytes, texts) lay, and that it is read again. No memory in sight. -/
import Derived.Test.YtdphikbkknkhiaaPackPlain
import Derived.Test.YtdphikbkknkhiaaReadPlain
namespace Go.Proofs.Ytdphikbkknkhiaa.Pure
open Go.RowKit Go.Proofs.Ytdphikbkknkhiaa.PAll Go.Proofs.YtdphikbkknkhiaaW.PrintWords Go.Proofs.YtdphikbkknkhiaaW.PrintLast Go.Proofs.YtdphikbkknkhiaaW.PrintMore
set_option linter.unusedVariables false
set_option linter.unusedSimpArgs false

abbrev It := Int × Int × ByteArray
/-- An item that has room. -/
def GoodI (x : It) : Prop := (x.2.1 = 0 ∧ x.2.2.size ≤ 65535) ∨ (1 ≤ x.2.1 ∧ x.2.1 ≤ 6 ∧ 0 ≤ x.1 ∧ x.1 < ((256 ^ x.2.1.toNat : Nat) : Int))
/-- What an item lays. -/
def encI (x : It) : ByteArray := if x.2.1 = 0 then (⟨(nb 2 x.2.2.size).toArray⟩ : ByteArray) ++ x.2.2 else ⟨(nb x.2.1.toNat x.1.toNat).toArray⟩
def encL : List It → ByteArray
  | [] => ⟨#[]⟩
  | x :: l => encI x ++ encL l
theorem ba_extI {a b : ByteArray} (h : a.data.toList = b.data.toList) : a = b := by
  cases a with | mk a => cases b with | mk b => simp only at h; rw [Array.toList_inj.1 h]
theorem nb_szI (k n : Nat) : (⟨(nb k n).toArray⟩ : ByteArray).size = k := by show (nb k n).toArray.size = k; simp [nb_length]
theorem app_nil (s : ByteArray) : s ++ (⟨#[]⟩ : ByteArray) = s := by apply ba_extI; simp [ByteArray.data_append]
theorem nil_app (s : ByteArray) : (⟨#[]⟩ : ByteArray) ++ s = s := by apply ba_extI; simp [ByteArray.data_append]
theorem app_assoc (a b c : ByteArray) : (a ++ b) ++ c = a ++ (b ++ c) := by apply ba_extI; simp [ByteArray.data_append]
theorem encL_snoc (l : List It) (x : It) : encL (l ++ [x]) = encL l ++ encI x := by
  induction l with
  | nil => show encI x ++ ⟨#[]⟩ = ⟨#[]⟩ ++ encI x; rw [app_nil, nil_app]
  | cons y l ih => show encI y ++ encL (l ++ [x]) = (encI y ++ encL l) ++ encI x; rw [ih, app_assoc]
theorem encL_app (l m : List It) : encL (l ++ m) = encL l ++ encL m := by
  induction l with
  | nil => show encL m = ⟨#[]⟩ ++ encL m; rw [nil_app]
  | cons y l ih => show encI y ++ encL (l ++ m) = (encI y ++ encL l) ++ encL m; rw [ih, app_assoc]
theorem encI_size (x : It) (h : GoodI x) : (encI x).size ≤ 65537 := by
  unfold encI
  rcases h with ⟨h, h2⟩ | ⟨h1, h6, _, _⟩
  · rw [if_pos h, ByteArray.size_append, nb_szI]; omega
  · rw [if_neg (by omega), nb_szI]; omega
theorem encL_size (l : List It) (h : ∀ x ∈ l, GoodI x) : (encL l).size ≤ l.length * 65537 := by
  induction l with
  | nil => exact Nat.zero_le _
  | cons x l ih =>
    have h1 := ih (fun y hy => h y (List.mem_cons_of_mem _ hy))
    have h2 := encI_size x (h x List.mem_cons_self)
    show (encI x ++ encL l).size ≤ _
    rw [ByteArray.size_append, List.length_cons]
    omega
/-- The middle of three. -/
theorem ext_mid (a b c : ByteArray) (n m : Nat) (hn : n = a.size) (hm : m = n + b.size) : (a ++ b ++ c).extract n m = b := by
  subst hn hm
  apply ba_extI
  rw [ByteArray.data_extract, Array.toList_extract, ByteArray.data_append, ByteArray.data_append, Array.toList_append, Array.toList_append]
  have ha : a.size = a.data.toList.length := by rw [Array.length_toList]; rfl
  have hb : b.size = b.data.toList.length := by rw [Array.length_toList]; rfl
  rw [ha, hb]
  generalize a.data.toList = A
  generalize b.data.toList = B
  generalize c.data.toList = C
  rw [List.extract_eq_take_drop, List.append_assoc, List.drop_left, show A.length + B.length - A.length = B.length by omega, List.take_left]
theorem raw_mid (a b c : ByteArray) (n : Int) (hn : n = b.size) : rawS (a ++ b ++ c) (a.size : Int) 0 n = (b, (a.size : Int) + n, 0) := by
  subst hn
  unfold rawS
  have hs : (a ++ b ++ c).size = a.size + b.size + c.size := by rw [ByteArray.size_append, ByteArray.size_append]
  rw [if_pos rfl, if_neg (by omega), if_neg (by rw [hs]; omega), ext_mid a b c _ _ (by omega) (by omega)]
/-- A number that was laid is read. -/
theorem num_back (a c : ByteArray) (n w : Nat) (h1 : 1 ≤ w) (h6 : w ≤ 6) (hn : n < 256 ^ w) : numS (a ++ ⟨(nb w n).toArray⟩ ++ c) (a.size : Int) 0 (w : Int) = ((n : Int), (a.size : Int) + w, 0) := by
  unfold numS
  rw [if_neg (by omega), raw_mid a ⟨(nb w n).toArray⟩ c (w : Int) (by rw [nb_szI])]
  show (be (nb w n).toArray.toList, _) = _
  rw [List.toList_toArray, be_nb w n hn]
/-- A text that was laid is read. -/
theorem text_back (a c t : ByteArray) (most : Int) (ht : t.size ≤ 65535) (hm : (t.size : Int) ≤ most) : textS (a ++ (⟨(nb 2 t.size).toArray⟩ ++ t) ++ c) (a.size : Int) 0 most = (t, (a.size : Int) + 2 + t.size, 0) := by
  have e1 : a ++ ((⟨(nb 2 t.size).toArray⟩ : ByteArray) ++ t) ++ c = a ++ ⟨(nb 2 t.size).toArray⟩ ++ (t ++ c) := by rw [app_assoc, app_assoc, app_assoc]
  have e2 : a ++ (⟨(nb 2 t.size).toArray⟩ : ByteArray) ++ (t ++ c) = (a ++ ⟨(nb 2 t.size).toArray⟩) ++ t ++ c := by rw [app_assoc, app_assoc, app_assoc]
  have hsz : (a ++ (⟨(nb 2 t.size).toArray⟩ : ByteArray)).size = a.size + 2 := by rw [ByteArray.size_append, nb_szI]
  have hnum := num_back a (t ++ c) t.size 2 (by omega) (by omega) (by show t.size < 65536; omega)
  have hr := raw_mid (a ++ (⟨(nb 2 t.size).toArray⟩ : ByteArray)) t c (t.size : Int) rfl
  rw [hsz] at hr
  unfold textS
  rw [e1]
  rw [show ((2 : Nat) : Int) = 2 from rfl] at hnum
  rw [hnum]
  dsimp only
  rw [if_neg (by omega), e2]
  rw [show ((a.size + 2 : Nat) : Int) = (a.size : Int) + 2 from by omega] at hr
  exact hr
/-- What is read where an item lies: the item, and where it ends. -/
theorem item_back (l : List It) (most : Int) (j : Nat) (hj : j < l.length) (hg : GoodI l[j]) (hm : l[j].2.1 = 0 → (l[j].2.2.size : Int) ≤ most) :
    (l[j].2.1 = 0 ∧ textS (encL l) ((encL (l.take j)).size : Int) 0 most = (l[j].2.2, ((encL (l.take (j + 1))).size : Int), 0)) ∨
    (l[j].2.1 ≠ 0 ∧ numS (encL l) ((encL (l.take j)).size : Int) 0 l[j].2.1 = (l[j].1, ((encL (l.take (j + 1))).size : Int), 0)) := by
  have ht : l.take (j + 1) = l.take j ++ [l[j]] := List.take_succ_eq_append_getElem hj
  have hl : encL l = encL (l.take j) ++ encI l[j] ++ encL (l.drop (j + 1)) := by
    rw [← encL_snoc, ← ht, ← encL_app, List.take_append_drop]
  have hsz : (encL (l.take (j + 1))).size = (encL (l.take j)).size + (encI l[j]).size := by rw [ht, encL_snoc, ByteArray.size_append]
  generalize l[j] = x at *
  generalize encL (l.take j) = A at *
  generalize encL (l.drop (j + 1)) = C at *
  rw [hl, hsz]
  rcases hg with ⟨h0, h2⟩ | ⟨h1, h6, hn0, hn⟩
  · left
    have he : encI x = (⟨(nb 2 x.2.2.size).toArray⟩ : ByteArray) ++ x.2.2 := by unfold encI; rw [if_pos h0]
    refine ⟨h0, ?_⟩
    rw [he, text_back A C x.2.2 most h2 (hm h0), ByteArray.size_append, nb_szI]
    congr 2
    omega
  · right
    have he : encI x = (⟨(nb x.2.1.toNat x.1.toNat).toArray⟩ : ByteArray) := by unfold encI; rw [if_neg (by omega)]
    refine ⟨by omega, ?_⟩
    have := num_back A C x.1.toNat x.2.1.toNat (by omega) (by omega) (by omega)
    rw [show ((x.2.1.toNat : Nat) : Int) = x.2.1 from by omega, show ((x.1.toNat : Nat) : Int) = x.1 from by omega] at this
    rw [he, this, nb_szI]
    congr 2
    omega
theorem take_inv (l : List It) (j : Nat) (hg : ∀ x ∈ l, GoodI x) (hl : l.length ≤ 60) : RInv (encL l) ((encL (l.take j)).size : Int) := by
  have h := encL_size l hg
  have e : (encL l).size = (encL (l.take j)).size + (encL (l.drop j)).size := by
    rw [← ByteArray.size_append, ← encL_app, List.take_append_drop]
  exact ⟨by omega, by omega, by omega⟩
end Go.Proofs.Ytdphikbkknkhiaa.Pure
