/- The law RecOpens, walked by hand. -/
import Derived.Test.YtdphikbkknkhiaaRefOf
import Derived.Test.YtdphikbkknkhiaaRecOpen
import Derived.Test.YtdphikbkknkhiaaRecAwake
import Derived.Test.YtdphikbkknkhiaaSealPlain
namespace Go.Proofs.Ytdphikbkknkhiaa.Pure
open Go.RowKit Go.Proofs.Ytdphikbkknkhiaa.Crc Go.Proofs.Ytdphikbkknkhiaa.PAll Go.Proofs.YtdphikbkknkhiaaW.PrintWords Go.Proofs.YtdphikbkknkhiaaW.PrintLast Go.Proofs.YtdphikbkknkhiaaW.PrintMore
set_option linter.unusedVariables false
set_option linter.unusedSimpArgs false

/-- The first two bytes behind a place, as a number. -/
theorem num2_at (S : ByteArray) (m : Nat) (h : m + 6 ≤ S.size) : numS (S.extract m S.size) 0 0 2 = (256 * bt S (m : Int) + bt S ((m : Int) + 1), 2, 0) := by
  have hz : (S.extract m S.size).size = S.size - m := by rw [ByteArray.size_extract]; omega
  have hr : rawS (S.extract m S.size) 0 0 2 = ((S.extract m S.size).extract 0 2, 2, 0) := by
    unfold rawS
    rw [if_pos rfl, if_neg (by omega), if_neg (by omega)]
    rfl
  unfold numS
  rw [if_neg (by omega), hr]
  have h0 : m < S.data.toList.length := by rw [Array.length_toList]; show m < S.size; omega
  have h1 : m + 1 < S.data.toList.length := by rw [Array.length_toList]; show m + 1 < S.size; omega
  have hl : ((S.extract m S.size).extract 0 2).data.toList = [S.data.toList[m], S.data.toList[m + 1]] := by
    simp only [ByteArray.data_extract, Array.toList_extract, List.extract_eq_take_drop]
    rw [List.drop_zero, List.take_take]
    rw [show min (2 - 0) (S.size - m) = 2 by omega]
    rw [List.drop_eq_getElem_cons h0, List.drop_eq_getElem_cons h1]
    rfl
  have b0 : bt S (m : Int) = ((S.data.toList[m]).toNat : Int) := by
    rw [← bt_at S (m : Int) (by show m < S.size; omega)]
    rfl
  have b1 : bt S ((m : Int) + 1) = ((S.data.toList[m + 1]).toNat : Int) := by
    have e : ((m : Int) + 1) = ((m + 1 : Nat) : Int) := by omega
    rw [e, ← bt_at S ((m + 1 : Nat) : Int) (by show m + 1 < S.size; omega)]
    rfl
  rw [hl, b0, b1]
  show (be [S.data.toList[m], S.data.toList[m + 1]], (2 : Int), (0 : Int)) = _
  have e : be [S.data.toList[m], S.data.toList[m + 1]] = 256 * ((S.data.toList[m]).toNat : Int) + ((S.data.toList[m + 1]).toNat : Int) := by
    show ((0 : Int) * 256 + _) * 256 + _ = _
    omega
  rw [e]
theorem ext_ext (S : ByteArray) (m a b : Nat) (hb : m + b ≤ S.size) : (S.extract m S.size).extract a b = S.extract (m + a) (m + b) := by
  apply ba_ext
  simp only [ByteArray.data_extract, Array.toList_extract, List.extract_eq_take_drop]
  rw [List.drop_take, List.take_take, List.drop_drop]
  congr 1
  omega
/-- A sum ahead of bytes, as it is met: sealed or not. -/
theorem open_either (v : ByteArray) (hv : 4 ≤ v.size) (hs : v.size ≤ 1152921504606846900) (b : ByteArray) (hb : v.extract 4 v.size = b) : (sealed b = v ∧ sum_Open.f v = some (b, 0)) ∨ (sealed b ≠ v ∧ sum_Open.f v = some (⟨#[]⟩, 5)) := by
  rw [open_plain v (by omega), if_neg (by omega)]
  have hbl : b.data.toList = v.data.toList.drop 4 := by
    rw [← hb]
    simp only [ByteArray.data_extract, Array.toList_extract, List.extract_eq_take_drop]
    rw [List.take_of_length_le (by rw [List.length_drop, Array.length_toList]; show v.size - 4 ≤ v.size - 4; omega)]
  have hlen : v.data.toList.length = v.size := by rw [Array.length_toList]; rfl
  have hS := sumN_lt b.data.toList
  have hsd : (sealed b).data.toList = nb 4 (sumN b.data.toList) ++ b.data.toList := by unfold sealed; rw [ByteArray.data_append, Array.toList_append]
  rw [← hbl, hb]
  by_cases h : be (v.data.toList.take 4) = ((sumN b.data.toList : Nat) : Int)
  · left
    rw [if_pos h]
    refine ⟨?_, rfl⟩
    apply ba_ext
    rw [hsd, hbl]
    conv => rhs; rw [← List.take_append_drop 4 v.data.toList]
    congr 1
    have h4 : (v.data.toList.take 4).length = 4 := by rw [List.length_take]; omega
    rw [hbl] at h
    have q := nb_be _ 4 h4
    rw [h, Int.toNat_natCast] at q
    exact q
  · right
    rw [if_neg h]
    refine ⟨fun c => h ?_, rfl⟩
    have hv2 : v.data.toList = nb 4 (sumN b.data.toList) ++ b.data.toList := by rw [← c, hsd]
    rw [hv2, List.take_append_of_le_length (by rw [nb_length]; omega), List.take_of_length_le (by rw [nb_length]; omega), be_nb 4 _ (by have := hS; omega)]
theorem readF_len {s : ByteArray} {a : Int} (h : RInv s a) (k : Int) : (readF s k a).li.length ≤ 300 ∧ (readF s k a).lt.length ≤ 300 := by
  obtain ⟨li, a1, e1, h1, _, hl⟩ := imgs_some h 0
  obtain ⟨lt, a2, e2, h2, _, hl2⟩ := tab_some h 0
  unfold readF
  split
  · rw [h1]
    exact ⟨hl, Nat.zero_le _⟩
  · split
    · exact ⟨Nat.zero_le _, Nat.zero_le _⟩
    · split
      · exact ⟨Nat.zero_le _, Nat.zero_le _⟩
      · split
        · exact ⟨Nat.zero_le _, Nat.zero_le _⟩
        · split
          · rw [h2]
            exact ⟨Nat.zero_le _, hl2⟩
          · split
            · exact ⟨Nat.zero_le _, Nat.zero_le _⟩
            · exact ⟨Nat.zero_le _, Nat.zero_le _⟩
theorem ofP_len (s : ByteArray) (hs : s.size ≤ 1152921504606846976) : (ofP s).li.length ≤ 300 ∧ (ofP s).lt.length ≤ 300 := by
  have hv := numS_inv (show RInv s 0 from ⟨Int.le_refl _, by omega, hs⟩) 0 1
  have hl := readF_len hv (numS s 0 0 1).1
  unfold ofP
  split
  · exact ⟨Nat.zero_le _, Nat.zero_le _⟩
  · split
    · exact ⟨Nat.zero_le _, Nat.zero_le _⟩
    · split
      · exact ⟨Nat.zero_le _, Nat.zero_le _⟩
      · exact hl
end Go.Proofs.Ytdphikbkknkhiaa.Pure
namespace Go.Proofs.Ytdphikbkknkhiaa.PAll
open Go.RowKit Go.Proofs.Ytdphikbkknkhiaa.Pure Go.Proofs.YtdphikbkknkhiaaW.PrintWords Go.Proofs.YtdphikbkknkhiaaW.PrintLast Go.Proofs.YtdphikbkknkhiaaW.PrintMore
set_option linter.unusedVariables false
set_option linter.unusedSimpArgs false

/-- A row that is loaded under a guard that is met. -/
theorem load_row_g {P : Program} {ops : Array Oper} {rest : List Oper} {o : Oper} {a : Act} {w : World} {Q : Exit → Act → World → Prop} (hw : Region.wanted o (yielded ops a.tmps) = true) (ty : TypeId) (x : Operand) (ho : o.op = .load ty x)
    (g : Nat) (hx : a.eval x = .pointer (some ⟨g, 0, none⟩)) (t : TypeId) (cs : Array Value) (fr : Nat × Nat) (d : TypeDesc) (hg : w.heap[g]? = some (.cells cs t fr))
    (hu : P.underlying ty = some d) (hd : (match d with | .struct _ | .array _ _ => true | _ => false) = true) (hi : (P.info? ty).map (·.size) = some cs.size)
    (h : wpList P ops Q rest (a.put o.dst (.agg cs)) w) : wpList P ops Q (o :: rest) a w :=
  wpList_step fun K hK => by rw [if_pos hw]; exact wp_load_row ty x ho g hx t cs fr d hg hu hd hi (hK _ _ h)
theorem same_zero (q : RV) (hv : SameV q (zeroR 0)) (w : World) (h : RRow w q [] []) : Calls Try.prog 14 #[.agg q.cs, .agg #[.int .i64 0, .int .i64 0, .int .i64 0, .int .i64 0, .int .i64 0, .string ⟨#[]⟩, .string ⟨#[]⟩, .string ⟨#[]⟩, .int .i64 0, .slice none 0 0, .slice none 0 0, .int .i64 0, .int .i64 0]] w fun e w' => e = .returned (.bool true) ∧ Below w.heap.size w w' := same_calls q (zeroR 0) [] [] w h (RRow.zero w) hv (by simp) (by simp)
/-- No record stands there, and why. -/
def BadOut (w w' : World) (x : Ending) (E : Int) : Prop := ∃ q : RV, x = .returned (.tuple #[.agg q.cs, .int .i64 0, .int .i64 E]) ∧ SameV q (zeroR 0) ∧ RRow w' q [] [] ∧ Below w.heap.size w w'
theorem bad_out {args : Array Value} {E : Int} (h : ∀ w, Calls Try.prog 19 args w fun x w' => OpenOut w w' x (badG E) 0) : ∀ w, Calls Try.prog 19 args w fun x w' => BadOut w w' x E := h
/-- A record stands there. -/
def GoodOut (w w' : World) (x : Ending) (n : Int) (Q : RV) (li : List S36) (lt : List S55) : Prop := ∃ q : RV, x = .returned (.tuple #[.agg q.cs, .int .i64 n, .int .i64 0]) ∧ SameV q Q ∧ RRow w' q li lt ∧ Below w.heap.size w w'
theorem good_out {args : Array Value} {n : Int} {G : Got} (he : G.e = 0) (h : ∀ w, Calls Try.prog 19 args w fun x w' => OpenOut w w' x G n) : ∀ w, Calls Try.prog 19 args w fun x w' => GoodOut w w' x n G.q G.li G.lt :=
  fun w => (h w).mono fun x w' ⟨q, hx, h1, h2, h3⟩ => ⟨q, by rw [← he]; exact hx, h1, h2, h3⟩
theorem refof_bad (b : ByteArray) (hb : b.size ≤ 1152921504606846976) (E : Int) (h : (refOfP b).e = E) : ∀ w, Calls Try.prog 20 #[.string b] w fun x w' => ∃ q : RV, x = .returned (.tuple #[.agg q.cs, .int .i64 E]) ∧ Below w.heap.size w w' :=
  fun w => (refof_walk b hb w).mono fun x w' ⟨q, hx, _, _, h3⟩ => ⟨q, by rw [← h]; exact hx, h3⟩
theorem refof_good (b : ByteArray) (hb : b.size ≤ 1152921504606846976) (h : (refOfP b).e = 0) : ∀ w, Calls Try.prog 20 #[.string b] w fun x w' => ∃ q : RV, x = .returned (.tuple #[.agg q.cs, .int .i64 0]) ∧ SameV q (refOfP b).q ∧ Kd.R k36 36 w' w.heap.size (fun _ => True) q.images.v (refOfP b).li ∧ Kd.R k55 55 w' w.heap.size (fun _ => True) q.table.v (refOfP b).lt ∧ Below w.heap.size w w' :=
  fun w => (refof_walk b hb w).mono fun x w' ⟨q, hx, h1, h2, h3⟩ => ⟨q, by rw [← h]; exact hx, h1, h2.1, h2.2, h3⟩
theorem SameV.symm {a b : RV} (h : SameV a b) : SameV b a := ⟨h.kind.symm, h.txn.symm, h.prev.symm, h.page.symm, h.act.symm, h.key.symm, h.old.symm, h.new_.symm, h.next.symm, h.epoch.symm, h.node.symm⟩
theorem SameV.to {a b c : RV} (h : SameV a b) (k : SameV b c) : SameV a c := ⟨h.kind.trans k.kind, h.txn.trans k.txn, h.prev.trans k.prev, h.page.trans k.page, h.act.trans k.act, h.key.trans k.key, h.old.trans k.old, h.new_.trans k.new_, h.next.trans k.next, h.epoch.trans k.epoch, h.node.trans k.node⟩
/-- At most the first thousand bytes. -/
def CutTo (s S : ByteArray) : Prop := (decide ((1000 : Int) < (s.size : Int)) = true ∧ decide (1000 < s.size) = true ∧ (1000 : Int) ≤ (s.size : Int) ∧ 1000 ≤ s.size ∧ s.extract 0 1000 = S) ∨ (decide ((1000 : Int) < (s.size : Int)) = false ∧ decide (1000 < s.size) = false ∧ S = s)
end Go.Proofs.Ytdphikbkknkhiaa.PAll
