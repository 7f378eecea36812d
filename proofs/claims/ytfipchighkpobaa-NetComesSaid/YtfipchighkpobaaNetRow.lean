/- Rows of texts that may have less room than their block, and what an append leaves of them. -/
import Derived.Test.YtfipchighkpobaaNetNobody
import Derived.ArgAppend
namespace Go.Proofs.Ytfipchighkpobaa.PAll
open Go.RowKit Go.Proofs.YtfipchighkpobaaW.PrintWords Go.Proofs.YtfipchighkpobaaW.PrintLast Go.Proofs.YtfipchighkpobaaW.PrintMore
set_option linter.unusedVariables false
set_option linter.unusedSimpArgs false

/-- Of what was there, only the blocks of S may be changed. -/
structure Only (w w' : World) (S : Nat → Prop) : Prop where
  os : w'.os = w.os
  tape : w'.tape = w.tape
  output : w'.output = w.output
  size : w.heap.size ≤ w'.heap.size
  block : ∀ k, k < w.heap.size → ¬ S k → w'.heap[k]? = w.heap[k]?

theorem Only.refl (w : World) (S : Nat → Prop) : Only w w S := ⟨rfl, rfl, rfl, Nat.le_refl _, fun _ _ _ => rfl⟩
theorem Only.below {w w' : World} {S : Nat → Prop} {B : Nat} (h : Only w w' S) (hS : ∀ k, S k → B ≤ k) (hB : B ≤ w.heap.size) : Below B w w' :=
  ⟨h.os, h.tape, h.output, h.size, fun k hk => h.block k (by omega) (fun hs => by have := hS k hs; omega)⟩
theorem Only.trans {a b c : World} {S S' : Nat → Prop} (h1 : Only a b S) (h2 : Only b c S') (hS : ∀ k, k < a.heap.size → S' k → S k) : Only a c S :=
  ⟨h2.os.trans h1.os, h2.tape.trans h1.tape, h2.output.trans h1.output, Nat.le_trans h1.size h2.size, fun k hk hn => (h2.block k (Nat.lt_of_lt_of_le hk h1.size) (fun hs => hn (hS k hk hs))).trans (h1.block k hk hn)⟩
theorem Only.mono {a b : World} {S S' : Nat → Prop} (h1 : Only a b S) (hS : ∀ k, S k → S' k) : Only a b S' :=
  ⟨h1.os, h1.tape, h1.output, h1.size, fun k hk hn => h1.block k hk (fun hs => hn (hS k hs))⟩
theorem Only.hold {w w' : World} {S : Nat → Prop} {g : Nat} {o : Obj} (h : Only w w' S) (hg : w.heap[g]? = some o) (hn : ¬ S g) : w'.heap[g]? = some o := (h.block g (blk_lt hg) hn).trans hg
theorem Only.alloc (w : World) (o : Obj) : Only w (w.alloc o) (fun _ => False) := ⟨rfl, rfl, rfl, by simp, fun k hk _ => Below.heap_alloc w o k hk⟩
theorem Only.drew (w : World) : Only w w.drew (fun _ => False) := ⟨rfl, rfl, rfl, Nat.le_refl _, fun _ _ _ => rfl⟩
theorem Only.set (w : World) (g i : Nat) (v : Value) : Only w (w.setCell ⟨g, i, none⟩ v) (fun k => k = g) := by
  have hb : Below 0 w (w.setCell ⟨g, i, none⟩ v) := (Below.refl 0 w).setCell (Nat.zero_le _) v
  exact ⟨hb.os, hb.tape, hb.output, hb.size, fun k _ hn => Go.heap_setCell_other w ⟨g, i, none⟩ k v hn⟩

def ablk (A : Option Addr) : Option Nat := A.map (fun a => a.block)

/-- A row of texts: what it holds, and how much room it has (which may be less than its block's). -/
def SR (w : World) (B : Nat) (A : Option Addr) (c : Nat) (xs : List ByteArray) : Prop :=
  xs.length ≤ c ∧ c ≤ maxLen ∧ ((A = none ∧ c = 0) ∨ ∃ r cs, A = some ⟨r, 0, none⟩ ∧ B ≤ r ∧ w.heap[r]? = some (.cells cs 9 (0, 0)) ∧ c ≤ cs.size ∧ cs.toList.take xs.length = xs.map Value.string)

theorem sr_nil (w : World) (B : Nat) : SR w B none 0 [] := ⟨Nat.le_refl _, by decide, .inl ⟨rfl, rfl⟩⟩
theorem SR.hold {w w' : World} {B : Nat} {A : Option Addr} {c : Nat} {xs : List ByteArray} {S : Nat → Prop} (h : SR w B A c xs) (ho : Only w w' S) (hn : ∀ r, ablk A = some r → ¬ S r) : SR w' B A c xs := by
  obtain ⟨h1, h2, h3⟩ := h
  refine ⟨h1, h2, h3.imp id ?_⟩
  rintro ⟨r, cs, rfl, hB, hr, h4⟩
  exact ⟨r, cs, rfl, hB, ho.hold hr (hn r rfl), h4⟩
theorem SR.ge {w : World} {B : Nat} {A : Option Addr} {c : Nat} {xs : List ByteArray} (h : SR w B A c xs) {r : Nat} (hr : ablk A = some r) : B ≤ r ∧ r < w.heap.size ∧ ∃ cs, w.heap[r]? = some (.cells cs 9 (0, 0)) := by
  obtain ⟨_, _, ⟨rfl, _⟩ | ⟨r', cs, rfl, hB, hr', _⟩⟩ := h
  · simp [ablk] at hr
  · simp [ablk] at hr
    subst hr
    exact ⟨hB, blk_lt hr', cs, hr'⟩
theorem SR.get {w : World} {B : Nat} {A : Option Addr} {c : Nat} {xs : List ByteArray} (h : SR w B A c xs) (j : Nat) (hj : j < xs.length) : ∃ r, A = some ⟨r, 0, none⟩ ∧ B ≤ r ∧ w.cell? ⟨r, j, none⟩ = some (.string xs[j]) ∧ w.frozen? ⟨r, j, none⟩ = false := by
  obtain ⟨hl, _, ⟨rfl, rfl⟩ | ⟨r, cs, rfl, hB, hr, hc, ht⟩⟩ := h
  · omega
  · refine ⟨r, rfl, hB, ?_, blk_frozen hr j⟩
    have h1 : (cs.toList.take xs.length)[j]? = some (.string xs[j]) := by rw [ht, List.getElem?_map, List.getElem?_eq_getElem hj]; rfl
    rw [List.getElem?_take] at h1
    rw [if_pos hj] at h1
    exact (blk_cell hr j).trans (by simpa using h1)
/-- A row of fewer. -/
theorem SR.take {w : World} {B : Nat} {A : Option Addr} {c : Nat} {xs : List ByteArray} (h : SR w B A c xs) (i : Nat) (hi : i ≤ xs.length) (hA : A ≠ none) : SR w B A i (xs.take i) := by
  obtain ⟨hl, hm, ⟨rfl, rfl⟩ | ⟨r, cs, rfl, hB, hr, hc, ht⟩⟩ := h
  · exact absurd rfl hA
  · refine ⟨by simp; omega, by omega, .inr ⟨r, cs, rfl, hB, hr, by omega, ?_⟩⟩
    rw [List.length_take, Nat.min_eq_left hi, List.map_take, ← ht, List.take_take, Nat.min_eq_left hi]

theorem sr_own {w : World} {B : Nat} {v : Value} {xs : List ByteArray} (h : w.ownsRow B 9 1 v xs.length (xs.map Value.string)) : ∃ A c, v = .slice A xs.length c ∧ SR w B A c xs ∧ ablk A = v.ownBlock := by
  rcases h.2 with ⟨rfl, h0⟩ | ⟨g, cap, cur, rfl, hB, hg, hn, hm, hs, ht⟩
  · obtain rfl : xs = [] := List.eq_nil_of_length_eq_zero h0
    exact ⟨none, 0, rfl, sr_nil w B, rfl⟩
  · exact ⟨some ⟨g, 0, none⟩, cap, rfl, ⟨hn, hm, .inr ⟨g, cur, rfl, hB, hg, by omega, by simpa using ht⟩⟩, rfl⟩

theorem strs_one (news : List ByteArray) : ∀ u ∈ news.map Value.string, u.oneCell' = true := by
  intro u hu
  obtain ⟨x, _, rfl⟩ := List.mem_map.1 hu
  rfl

/-- What an append leaves. -/
def App (w w' : World) (B : Nat) (A A' : Option Addr) (c' : Nat) (ys : List ByteArray) : Prop :=
  SR w' B A' c' ys ∧ Only w w' (fun k => ablk A = some k) ∧ ∀ r, ablk A' = some r → ablk A = some r ∨ w.heap.size ≤ r

theorem sr_append {w : World} {B : Nat} {A : Option Addr} {c : Nat} {xs : List ByteArray} (h : SR w B A c xs) (hB : B ≤ w.heap.size) (X : Option Addr) (m c1 : Nat) (news : List ByteArray) (hm : news.length = m) (hX : X = none → m = 0)
    (hn : ∀ ad, X = some ad → ∀ (j : Nat) u, (news.map Value.string)[j]? = some u → w.cell? (ad.add j) = some u) (hl : xs.length + m ≤ 1000) :
    ∃ A' c' w', (Builtin.append_ #[25, 25] 25 #[.slice A xs.length c, .slice X m c1]).run Try.prog w = .ok (.slice A' (xs.length + m) c') w' ∧ App w w' B A A' c' (xs ++ news) := by
  obtain ⟨i, hi, hinf⟩ := Option.map_eq_some_iff.1 info9
  simp only [Prod.mk.injEq] at hinf
  obtain ⟨hz, hsz, hby⟩ := hinf
  subst hm
  cases X with
  | none =>
    obtain rfl : news = [] := List.eq_nil_of_length_eq_zero (hX rfl)
    refine ⟨A, c, w, run_append_nothing w 25 25 25 9 i Try.underlying25 hi A xs.length c h.1 _ (Src.ofNil w Try.underlying25 c1), ?_, Only.refl _ _, fun r hr => .inl hr⟩
    simpa using h
  | some ad =>
    have hn' := hn ad rfl
    have hlen : (news.map Value.string).length = news.length * 1 := by simp
    obtain ⟨hle, hmx, ⟨rfl, rfl⟩ | ⟨r, cs, rfl, hBr, hr, hc, ht⟩⟩ := h
    · obtain rfl : xs = [] := List.eq_nil_of_length_eq_zero (by omega)
      obtain ⟨v', w', hrun, ho, hg, _⟩ := run_append_own (P := Try.prog) w w.heap.size 25 25 9 i _ 1 _ Try.underlying25 hi hz hsz hby rfl (by decide) (.slice none 0 0) 0 [] (World.ownsRow_nil w w.heap.size 9 1) ad news.length c1 (news.map Value.string) hlen hn' (strs_one news)
        (by simp only [List.length_nil, Nat.zero_add] at hl ⊢; simp only [maxLen]; omega) (by simp only [List.length_nil, Nat.zero_add] at hl ⊢; omega) (Nat.le_refl _)
      have ho' : w'.ownsRow w.heap.size 9 1 v' news.length (news.map Value.string) := by simpa using ho
      obtain ⟨A', c', rfl, hS, hA⟩ := sr_own ho'
      refine ⟨A', c', w', by simpa using hrun, ?_, ⟨hg.os, hg.tape, hg.output, hg.size, fun k hk _ => hg.block k hk (by simp [Value.ownBlock])⟩, fun r hr => .inr (ho'.lt r (hA ▸ hr)).1⟩
      rw [List.nil_append]
      exact ⟨hS.1, hS.2.1, hS.2.2.imp id fun ⟨r, cs, e, hB', h3⟩ => ⟨r, cs, e, by omega, h3⟩⟩
    · by_cases hroom : xs.length + news.length ≤ c
      · have hrun := run_append_room (P := Try.prog) w 25 25 9 i Try.underlying25 hi r xs.length c cs hr ad news.length c1 (news.map Value.string) (by rw [hsz]; exact hlen) hn' (strs_one news) hroom (by rw [hsz]; simp; omega)
        rw [hsz] at hrun
        refine ⟨_, _, _, hrun, ⟨by simpa using hroom, hmx, .inr ⟨r, _, rfl, hBr, setRow_heap w r cs _ 9 _ hr, ?_, ?_⟩⟩, ⟨rfl, rfl, rfl, by simp, fun k _ hk => setRow_other w r k _ (fun e => hk (by simp [ablk, e]))⟩, fun r hr => .inl hr⟩
        · simp only [List.size_toArray, List.length_append, List.length_take, List.length_drop, Array.length_toList, List.length_map]
          omega
        · simp only [Nat.mul_one]
          rw [ht, ← List.map_append]
          exact (congrArg (fun k => List.take k _) (by simp)).trans List.take_left
      · have holds : ∀ j u, (xs.map Value.string)[j]? = some u → w.cell? ((⟨r, 0, none⟩ : Addr).add j) = some u := by
          intro j u hu
          rw [← ht, List.getElem?_take] at hu
          split at hu
          · rw [Addr.add_lit, Nat.zero_add]
            exact (blk_cell hr j).trans (by simpa using hu)
          · cases hu
        obtain ⟨v', w', hrun, ho, hg⟩ := run_append_arg_grows (P := Try.prog) w 25 25 9 i _ 1 _ Try.underlying25 hi hz hsz hby rfl (by decide) ⟨r, 0, none⟩ xs.length c (xs.map Value.string) (by simp) holds ad news.length c1 (news.map Value.string) hlen hn' (by omega) (by simp only [maxLen]; omega) (by omega)
        have ho' : w'.ownsRow w.heap.size 9 1 v' (xs ++ news).length ((xs ++ news).map Value.string) := by simpa using ho
        obtain ⟨A', c', rfl, hS, hA⟩ := sr_own ho'
        refine ⟨A', c', w', by simpa using hrun, ?_, ⟨hg.os, hg.tape, hg.output, hg.size, fun k hk _ => hg.block k hk (by simp)⟩, fun r hr => .inr (ho'.lt r (hA ▸ hr)).1⟩
        exact ⟨hS.1, hS.2.1, hS.2.2.imp id fun ⟨r, cs, e, hB', h3⟩ => ⟨r, cs, e, by omega, h3⟩⟩

theorem wpList_sr_append {w : World} {ops : Array Oper} {rest : List Oper} {o : Oper} {a : Act} {Q : Exit → Act → World → Prop} (hg : o.guard = none) (s x : Operand)
    (hop : o.op = .call { callee := .builtin .append, args := #[s, x], argTypes := #[25, 25] }) (hty : o.type = 25)
    {B : Nat} {A : Option Addr} {c : Nat} {xs : List ByteArray} (h : SR w B A c xs) (hB : B ≤ w.heap.size) (X : Option Addr) (m c1 : Nat) (news : List ByteArray) (hm : news.length = m) (hX : X = none → m = 0)
    (hn : ∀ ad, X = some ad → ∀ (j : Nat) u, (news.map Value.string)[j]? = some u → w.cell? (ad.add j) = some u) (hl : xs.length + m ≤ 1000)
    (hs : a.eval s = .slice A xs.length c) (hx : a.eval x = .slice X m c1)
    (hK : ∀ A' c' w', App w w' B A A' c' (xs ++ news) → wpList Try.prog ops Q rest (a.put o.dst (.slice A' (xs.length + m) c')) w') :
    wpList Try.prog ops Q (o :: rest) a w := by
  obtain ⟨A', c', w', hrun, happ⟩ := sr_append h hB X m c1 news hm hX hn hl
  refine wpList_plain hg fun K hK' => ?_
  unfold Oper.wp
  simp [execOp, hop, resolve, invoke, builtin, hs, hx, hty, hrun, Result.andThen]
  exact hK' _ _ (hK A' c' w' happ)
end Go.Proofs.Ytfipchighkpobaa.PAll
