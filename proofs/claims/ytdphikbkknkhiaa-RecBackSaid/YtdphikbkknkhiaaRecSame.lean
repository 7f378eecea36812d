/- The document's Same: two records of the same values and rows are one. -/
import Derived.Test.YtdphikbkknkhiaaRecFrame
import Derived.Test.YtdphikbkknkhiaaPAllx7
namespace Go.Proofs.Ytdphikbkknkhiaa.PAll
open Go.RowKit Go.Proofs.Ytdphikbkknkhiaa.Pure Go.Proofs.YtdphikbkknkhiaaW.PrintWords Go.Proofs.YtdphikbkknkhiaaW.PrintLast Go.Proofs.YtdphikbkknkhiaaW.PrintMore
set_option linter.unusedVariables false
set_option linter.unusedSimpArgs false

section
variable (kind txn prev page act : Int) (key old new_ : ByteArray) (next epoch node : Int) (li : List S36) (lt : List S55)
theorem same_l1 (hlt : lt.length ≤ 300) (d : Nat) : ∀ (k j : Nat), j + d = lt.length → d + 1 ≤ k →
    gharryref07_Same.l1 k (j : Int) kind txn prev page act key old new_ next li lt epoch node kind txn prev page act key old new_ next li lt epoch node = some true := by
  induction d with
  | zero =>
    intro k j hj hk
    obtain ⟨m, rfl⟩ : ∃ m, k = m + 1 := ⟨k - 1, by omega⟩
    simp only [gharryref07_Same.l1]
    rw [if_neg (by omega)]
  | succ d ih =>
    intro k j hj hk
    obtain ⟨m, rfl⟩ : ∃ m, k = m + 1 := ⟨k - 1, by omega⟩
    simp only [gharryref07_Same.l1]
    rw [if_pos (by omega), if_pos (by omega), if_pos (by omega), if_neg (by simp), w64p (by omega) (by omega)]
    exact ih m (j + 1) (by omega) (by omega)
theorem same_l0 (hli : li.length ≤ 300) (hlt : lt.length ≤ 300) (d : Nat) : ∀ (k j : Nat), j + d = li.length → d + 303 ≤ k →
    gharryref07_Same.l0 k (j : Int) kind txn prev page act key old new_ next li lt epoch node kind txn prev page act key old new_ next li lt epoch node = some true := by
  induction d with
  | zero =>
    intro k j hj hk
    obtain ⟨m, rfl⟩ : ∃ m, k = m + 1 := ⟨k - 1, by omega⟩
    simp only [gharryref07_Same.l0]
    rw [if_neg (by omega)]
    exact same_l1 kind txn prev page act key old new_ next epoch node li lt hlt lt.length m 0 (by omega) (by omega)
  | succ d ih =>
    intro k j hj hk
    obtain ⟨m, rfl⟩ : ∃ m, k = m + 1 := ⟨k - 1, by omega⟩
    simp only [gharryref07_Same.l0]
    rw [if_pos (by omega), if_pos (by omega), if_pos (by omega), if_neg (by simp), w64p (by omega) (by omega)]
    exact ih m (j + 1) (by omega) (by omega)
theorem same_f (hli : li.length ≤ 300) (hlt : lt.length ≤ 300) :
    gharryref07_Same.f 700 kind txn prev page act key old new_ next li lt epoch node kind txn prev page act key old new_ next li lt epoch node = some true := by
  unfold gharryref07_Same.f
  rw [if_pos rfl, if_pos rfl, if_pos rfl, if_pos rfl, if_pos rfl, if_pos rfl, if_pos rfl, if_pos rfl, if_pos rfl, if_pos rfl]
  simp only [gharryref07_Same.j0]
  rw [if_neg (by simp), if_pos trivial]
  simp only [gharryref07_Same.j1]
  rw [if_neg (by simp)]
  exact same_l0 kind txn prev page act key old new_ next epoch node li lt hli hlt li.length 698 0 (by omega) (by omega)
end
/-- The same values, but for where the rows lie. -/
structure SameV (a b : RV) : Prop where
  kind : a.kind = b.kind
  txn : a.txn = b.txn
  prev : a.prev = b.prev
  page : a.page = b.page
  act : a.act = b.act
  key : a.key = b.key
  old : a.old = b.old
  new_ : a.new = b.new
  next : a.next = b.next
  epoch : a.epoch = b.epoch
  node : a.node = b.node
theorem SameV.refl (a : RV) : SameV a a := ⟨rfl, rfl, rfl, rfl, rfl, rfl, rfl, rfl, rfl, rfl, rfl⟩
theorem same_calls (a b : RV) (li : List S36) (lt : List S55) (w : World) (ha : RRow w a li lt) (hb : RRow w b li lt) (hv : SameV a b) (hli : li.length ≤ 300) (hlt : lt.length ≤ 300) :
    Calls Try.prog 14 #[.agg a.cs, .agg b.cs] w fun e w' => e = .returned (.bool true) ∧ Below w.heap.size w w' := by
  obtain ⟨kind, txn, prev, page, act, key, old, new_, next, ⟨iA, in_, ic⟩, ⟨tA, tn, tc⟩, epoch, node⟩ := a
  obtain ⟨kind2, txn2, prev2, page2, act2, key2, old2, new2, next2, ⟨iA2, in2, ic2⟩, ⟨tA2, tn2, tc2⟩, epoch2, node2⟩ := b
  obtain ⟨h1, h2, h3, h4, h5, h6, h7, h8, h9, h10, h11⟩ := hv
  simp only at h1 h2 h3 h4 h5 h6 h7 h8 h9 h10 h11
  subst h1 h2 h3 h4 h5 h6 h7 h8 h9 h10 h11
  obtain ⟨a1, a2, a3, a4, a5, a6⟩ := ha
  obtain ⟨b1, b2, b3, b4, b5, b6⟩ := hb
  simp only at a1 a2 a3 a4 a5 a6 b1 b2 b3 b4 b5 b6
  subst a2 a5 b2 b5
  exact gharryref07_Same.calls 700 kind txn prev page act key old new_ next iA ic li tA tc lt epoch node kind txn prev page act key old new_ next iA2 ic2 li tA2 tc2 lt epoch node true w a1 a3 a4 a6 b1 b3 b4 b6 (same_f kind txn prev page act key old new_ next epoch node li lt hli hlt)
end Go.Proofs.Ytdphikbkknkhiaa.PAll
