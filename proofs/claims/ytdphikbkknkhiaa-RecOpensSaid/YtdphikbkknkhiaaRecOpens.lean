/- The law RecOpens, whole. -/
import Derived.Test.YtdphikbkknkhiaaRecOpensA
import Derived.Test.YtdphikbkknkhiaaRecOpensB
import Derived.Test.YtdphikbkknkhiaaRecOpensC
import Derived.Test.YtdphikbkknkhiaaRecOpensD
import Derived.Test.YtdphikbkknkhiaaRecOpensE
namespace Go.Proofs.Ytdphikbkknkhiaa.PAll
open Go.RowKit Go.Proofs.Ytdphikbkknkhiaa.Pure Go.Proofs.YtdphikbkknkhiaaW.PrintWords Go.Proofs.YtdphikbkknkhiaaW.PrintLast Go.Proofs.YtdphikbkknkhiaaW.PrintMore
set_option linter.unusedVariables false
set_option linter.unusedSimpArgs false

theorem RecOpens.walk (s : ByteArray) (at_ : Int) (w : World) (hs : s.size ≤ 140737488351232) (ha : (Lit.int .i64 at_).wf = true) :
    Calls Try.prog 8 #[.string s, .int .i64 at_] w fun e w' => e = .returned (.bool true) ∧ Below w.heap.size w w' := by
  obtain ⟨S, hS, hz⟩ : ∃ S, CutTo s S ∧ S.size ≤ 1000 := by
    by_cases h : 1000 < s.size
    · exact ⟨s.extract 0 1000, .inl ⟨by simp; omega, by simpa using h, by omega, by omega, rfl⟩, by rw [ByteArray.size_extract]; omega⟩
    · exact ⟨s, .inr ⟨by simp; omega, by simpa using h, rfl⟩, by omega⟩
  by_cases h0 : at_ < 0
  · exact opens_neg s S hS hz at_ h0 w
  by_cases h1 : (S.size : Int) < at_
  · exact opens_far s S hS hz at_ h0 h1 w
  obtain ⟨m, rfl⟩ : ∃ m : Nat, at_ = m := ⟨at_.toNat, by omega⟩
  by_cases h6 : S.size - m < 6
  · exact opens_short s S hS hz m (by omega) h6 w
  have r0 := bt_range S (m : Int)
  have r1 := bt_range S ((m : Int) + 1)
  obtain ⟨n, hn⟩ : ∃ n, 256 * bt S (m : Int) + bt S ((m : Int) + 1) = n := ⟨_, rfl⟩
  by_cases n1 : n < 1
  · exact opens_less s S hS hz m (by omega) n hn n1 w
  by_cases n2 : 4096 < n
  · exact opens_more s S hS hz m (by omega) n hn (by omega) n2 w
  by_cases n3 : (S.size : Int) - m - 6 < n
  · exact opens_cut s S hS hz m (by omega) n hn (by omega) (by omega) n3 w
  obtain ⟨p, rfl⟩ : ∃ p : Nat, n = p := ⟨n.toNat, by omega⟩
  obtain ⟨b, hb⟩ : ∃ b, S.extract (m + 6) (m + 6 + p) = b := ⟨_, rfl⟩
  obtain ⟨v, hv⟩ : ∃ v, S.extract (m + 2) (m + 6 + p) = v := ⟨_, rfl⟩
  have hbz : b.size = p := by rw [← hb, ByteArray.size_extract]; omega
  have hvz : v.size = 4 + p := by rw [← hv, ByteArray.size_extract]; omega
  have hvb : v.extract 4 v.size = b := by
    rw [hvz, ← hv, ← hb]
    apply ba_ext
    simp only [ByteArray.data_extract, Array.toList_extract, List.extract_eq_take_drop]
    rw [List.drop_take, List.take_take, List.drop_drop]
    congr 1
    omega
  rcases open_either v (by omega) (by omega) b hvb with ⟨k1, k2⟩ | ⟨k1, k2⟩
  · obtain ⟨g1, g2⟩ := refOf_ofP b (by omega)
    by_cases hE : (refOfP b).e = 0
    · obtain ⟨g3, g4, g5⟩ := g2 hE
      exact opens_ok s S hS hz m (by omega) p hn (by omega) (by omega) (by omega) b v hb hv k1 k2 (by rw [← g1]; exact hE) hE g3 g4 g5 w
    · exact opens_ofbad s S hS hz m (by omega) p hn (by omega) (by omega) (by omega) b v hb hv k1 k2 (refOfP b).e hE g1.symm rfl w
  · exact opens_sum s S hS hz m (by omega) p hn (by omega) (by omega) (by omega) b v hb hv k1 k2 w
end Go.Proofs.Ytdphikbkknkhiaa.PAll
