/- Both nets side by side. -/
import Derived.Test.YtfipchighkpobaaNetLaw
namespace Go.Proofs.Ytfipchighkpobaa.PAll
open Go.RowKit Go.Proofs.YtfipchighkpobaaW.PrintWords Go.Proofs.YtfipchighkpobaaW.PrintLast Go.Proofs.YtfipchighkpobaaW.PrintMore
set_option linter.unusedVariables false
set_option linter.unusedSimpArgs false

/-- Both nets, and that their rows are two. -/
structure LS (B : Nat) (w : World) (g p : Nat) (A A' : Option Addr) (c c' : Nat) (way : List ByteArray) (lost sent : Int) (way' : List ByteArray) (lost' sent' : Int) : Prop where
  n : NT B w g A c way lost sent
  q : PT B w p A' c' way' lost' sent'
  sep : ∀ r, ablk A = some r → ablk A' ≠ some r

section
variable {B : Nat} {w w' : World} {g p : Nat} {A A' A1 : Option Addr} {c c' c1 : Nat} {way way' way1 : List ByteArray} {lost sent lost' sent' lost1 sent1 : Int}

theorem LS.gp (h : LS B w g p A A' c c' way lost sent way' lost' sent') : g ≠ p := by
  rintro rfl
  have h1 := h.n.rec_
  rw [h.q.rec_] at h1
  simp at h1
theorem row_ne {k : Nat} {o : Obj} {ys : List ByteArray} {cc : Nat} {X : Option Addr} (h : SR w B X cc ys) (hk : w.heap[k]? = some o) (ho : ∀ cs, o ≠ .cells cs 9 (0, 0)) : ablk X ≠ some k := by
  intro e
  obtain ⟨_, _, cs, h2⟩ := h.ge e
  rw [hk] at h2
  cases h2
  exact ho _ rfl
theorem LS.ng (h : LS B w g p A A' c c' way lost sent way' lost' sent') : ablk A' ≠ some g := row_ne h.q.row h.n.rec_ (fun cs e => by simp at e)
theorem LS.qp (h : LS B w g p A A' c c' way lost sent way' lost' sent') : ablk A ≠ some p := row_ne h.n.row h.q.rec_ (fun cs e => by simp at e)
/-- The net is moved on. -/
theorem LS.net (h : LS B w g p A A' c c' way lost sent way' lost' sent') (hn : NT B w' g A1 c1 way1 lost1 sent1) (hm : Moved w w' g A A1) : LS B w' g p A1 A' c1 c' way1 lost1 sent1 way' lost' sent' := by
  refine ⟨hn, h.q.hold hm.1 ?_ ?_, ?_⟩
  · rintro (e | e)
    · exact h.gp e.symm
    · exact h.qp e
  · rintro r hr (e | e)
    · exact h.ng (e ▸ hr)
    · exact h.sep r e hr
  · intro r hr hr'
    rcases hm.2 r hr with e | e
    · exact h.sep r e hr'
    · have := (h.q.row.ge hr').2.1; omega
/-- The document's is moved on. -/
theorem LS.plain (h : LS B w g p A A' c c' way lost sent way' lost' sent') (hn : PT B w' p A1 c1 way1 lost1 sent1) (hm : Moved w w' p A' A1) : LS B w' g p A A1 c c1 way lost sent way1 lost1 sent1 := by
  refine ⟨h.n.hold hm.1 ?_ ?_, hn, ?_⟩
  · rintro (e | e)
    · exact h.gp e
    · exact h.ng e
  · rintro r hr (e | e)
    · exact h.qp (e ▸ hr)
    · exact h.sep r hr e
  · intro r hr hr'
    rcases hm.2 r hr' with e | e
    · exact h.sep r hr e
    · have := (h.n.row.ge hr).2.1; omega
theorem LS.hold {S : Nat → Prop} (h : LS B w g p A A' c c' way lost sent way' lost' sent') (ho : Only w w' S) (hS : ∀ k, k < w.heap.size → ¬ S k) : LS B w' g p A A' c c' way lost sent way' lost' sent' :=
  ⟨h.n.hold ho (hS g (blk_lt h.n.rec_)) (fun r hr => hS r (h.n.row.ge hr).2.1), h.q.hold ho (hS p (blk_lt h.q.rec_)) (fun r hr => hS r (h.q.row.ge hr).2.1), h.sep⟩
theorem LS.alloc (h : LS B w g p A A' c c' way lost sent way' lost' sent') (o : Obj) : LS B (w.alloc o) g p A A' c c' way lost sent way' lost' sent' := h.hold (Only.alloc w o) (fun _ _ h => h)
theorem LS.drew (h : LS B w g p A A' c c' way lost sent way' lost' sent') : LS B w.drew g p A A' c c' way lost sent way' lost' sent' := h.hold (Only.drew w) (fun _ _ h => h)
theorem LS.belowN (h : LS B w g p A A' c c' way lost sent way' lost' sent') (hm : Moved w w' g A A1) : Below B w w' :=
  hm.1.below (fun k e => by rcases e with e | e; exact e ▸ h.n.ge; exact (h.n.row.ge e).1) h.n.bound
theorem LS.belowP (h : LS B w g p A A' c c' way lost sent way' lost' sent') (hm : Moved w w' p A' A1) : Below B w w' :=
  hm.1.below (fun k e => by rcases e with e | e; exact e ▸ h.q.ge; exact (h.q.row.ge e).1) h.n.bound
end

/-- The call, where it stands. -/
def OB (w : World) (o : Nat) (kind I K : Int) (s : ByteArray) : Prop := w.heap[o]? = some (.cells #[.int .i64 kind, .int .i64 I, .int .i64 K, .string s] 27 (0, 0))
theorem OB.hold {w w' : World} {o : Nat} {kind I K : Int} {s : ByteArray} {S : Nat → Prop} (h : OB w o kind I K s) (ho : Only w w' S) (hS : ¬ S o) : OB w' o kind I K s := ho.hold h hS
theorem OB.net {B : Nat} {w w' : World} {g : Nat} {A A1 : Option Addr} {c : Nat} {way : List ByteArray} {lost sent : Int} {o : Nat} {kind I K : Int} {s : ByteArray} (h : OB w o kind I K s) (hn : NT B w g A c way lost sent) (hm : Moved w w' g A A1) : OB w' o kind I K s := by
  refine h.hold hm.1 ?_
  rintro (rfl | e)
  · have h1 := hn.rec_
    rw [h] at h1
    simp at h1
  · exact row_ne hn.row h (fun cs e => by simp at e) e
theorem OB.plain {B : Nat} {w w' : World} {g : Nat} {A A1 : Option Addr} {c : Nat} {way : List ByteArray} {lost sent : Int} {o : Nat} {kind I K : Int} {s : ByteArray} (h : OB w o kind I K s) (hn : PT B w g A c way lost sent) (hm : Moved w w' g A A1) : OB w' o kind I K s := by
  refine h.hold hm.1 ?_
  rintro (rfl | e)
  · have h1 := hn.rec_
    rw [h] at h1
    simp at h1
  · exact row_ne hn.row h (fun cs e => by simp at e) e
theorem OB.new (w : World) (kind I K : Int) (s : ByteArray) : OB (w.alloc (.cells #[.int .i64 kind, .int .i64 I, .int .i64 K, .string s] 27)) w.heap.size kind I K s := heap_alloc_new w _
section
variable {w : World} {o : Nat} {kind I K : Int} {s : ByteArray}
theorem OB.c0 (h : OB w o kind I K s) : w.cell? ⟨o, 0, none⟩ = some (.int .i64 kind) := (blk_cell h 0).trans rfl
theorem OB.c1 (h : OB w o kind I K s) : w.cell? ⟨o, 1, none⟩ = some (.int .i64 I) := (blk_cell h 1).trans rfl
theorem OB.c2 (h : OB w o kind I K s) : w.cell? ⟨o, 2, none⟩ = some (.int .i64 K) := (blk_cell h 2).trans rfl
theorem OB.c3 (h : OB w o kind I K s) : w.cell? ⟨o, 3, none⟩ = some (.string s) := (blk_cell h 3).trans rfl
end
theorem PT.fz {B : Nat} {w : World} {p : Nat} {A : Option Addr} {c : Nat} {way : List ByteArray} {lost sent : Int} (h : PT B w p A c way lost sent) (i : Nat) : w.frozen? ⟨p, i, none⟩ = false := blk_frozen h.rec_ i
theorem Moved.below {B : Nat} {w w' : World} {g : Nat} {A A1 : Option Addr} (hm : Moved w w' g A A1) (hg : B ≤ g) (hA : ∀ r, ablk A = some r → B ≤ r) (hB : B ≤ w.heap.size) : Below B w w' :=
  hm.1.below (fun k e => by rcases e with e | e; exact e ▸ hg; exact hA k e) hB

/-- Both have stepped alike. -/
def Stepped (B : Nat) (w w' : World) (g p : Nat) (way : List ByteArray) (lost sent : Int) : Prop := Below B w w' ∧ ∃ A A' c c', LS B w' g p A A' c c' way lost sent way lost sent
end Go.Proofs.Ytfipchighkpobaa.PAll
