/- Plain: sum.Open, the law's four bytes. No memory in sight. -/
import Derived.Test.YtnbfphjhhdkefaaSumPlain
import Derived.Test.YtnbfphjhhdkefaaPackPlain
import Derived.Test.YtnbfphjhhdkefaaPAllx3
import Derived.Lib.Strings
namespace Go.Proofs.Ytnbfphjhhdkefaa.Pure
open Go.RowKit Go.Proofs.Ytnbfphjhhdkefaa.PAll Go.Proofs.Ytnbfphjhhdkefaa.Crc Go.Proofs.YtnbfphjhhdkefaaW.PrintWords Go.Proofs.YtnbfphjhhdkefaaW.PrintLast
set_option linter.unusedVariables false
set_option linter.unusedSimpArgs false

theorem ba_ext {a b : ByteArray} (h : a.data.toList = b.data.toList) : a = b := by
  cases a with | mk a => cases b with | mk b => simp only at h; rw [Array.toList_inj.1 h]
theorem four_plain (n : Nat) (hn : n < 4294967296) : gharrylaw02_four.f (n : Int) = some ⟨(nb 4 n).toArray⟩ := by
  unfold gharrylaw02_four.f
  have t : ∀ m : Nat, Int.tdiv (n : Int) (m : Int) = ((n / m : Nat) : Int) := fun m => by rw [Int.tdiv_eq_ediv_of_nonneg (by omega)]; rfl
  have q : ∀ a : Nat, Int.tmod (a : Int) 256 = ((a % 256 : Nat) : Int) := fun a => by rw [Int.tmod_eq_emod_of_nonneg (by omega)]; rfl
  have t1 := t 16777216
  have t2 := t 65536
  have t3 := t 256
  rw [show (16777216 : Int) = ((16777216 : Nat) : Int) from rfl, show (65536 : Int) = ((65536 : Nat) : Int) from rfl, t1, t2]
  rw [show Int.tdiv (n : Int) 256 = ((n / 256 : Nat) : Int) from t3, w64 (n := ((n / 16777216 : Nat) : Int)) (by omega) (by omega), w64 (n := ((n / 65536 : Nat) : Int)) (by omega) (by omega), w64 (n := ((n / 256 : Nat) : Int)) (by omega) (by omega), q, q, q]
  unfold strOfNums
  simp only [nb, List.map_cons, List.map_nil, List.nil_append, List.cons_append]
  rw [show (((n / 16777216 : Nat) : Int) % 256).toNat = n / 256 / 256 / 256 % 256 from by omega, show (((n / 65536 % 256 : Nat) : Int) % 256).toNat = n / 256 / 256 % 256 from by omega,
    show (((n / 256 % 256 : Nat) : Int) % 256).toNat = n / 256 % 256 from by omega, show (((n % 256 : Nat) : Int) % 256).toNat = n % 256 from by omega]
theorem empty_list : (⟨#[]⟩ : ByteArray).toList = [] := by rw [Lib.toList_data]
theorem num4 (s : ByteArray) (h4 : 4 ≤ s.size) (hs : s.size ≤ 3004) : pack_Reader_Num.f s 0 0 4 = some (be (s.data.toList.take 4), s, 4, 0) := by
  unfold pack_Reader_Num.f
  rw [if_pos rfl, if_neg (by omega), if_neg (by omega), if_neg (by omega)]
  rw [show (0 : Int).toNat = 0 from rfl, show ((0 : Int) + 4).toNat = 4 from rfl, Lib.extract_data]
  rfl
theorem open_plain (s : ByteArray) (hs : s.size ≤ 3004) : sum_Open.f s =
    if s.size < 4 then some (⟨#[]⟩, 2) else if be (s.data.toList.take 4) = ((sumN (s.data.toList.drop 4) : Nat) : Int) then some (s.extract 4 s.size, 0) else some (⟨#[]⟩, 5) := by
  unfold sum_Open.f
  by_cases h : s.size < 4
  · rw [if_pos (by omega), if_pos h]
  · rw [if_neg (by omega), if_neg h]
    unfold pack_Read.f
    rw [Option.bind_some, num4 s (by omega) hs, Option.bind_some, if_pos (by omega), sum_plain _ (by rw [ByteArray.size_extract]; omega), Option.bind_some]
    rw [Lib.extract_data, List.take_of_length_le (l := s.data.toList.drop 4) (i := s.size - 4) (by simp)]
theorem take_nb (s : ByteArray) (h4 : 4 ≤ s.size) (n : Nat) (hn : n < 4294967296) : (be (s.data.toList.take 4) = (n : Int)) ↔ s.data.toList.take 4 = nb 4 n := by
  have hl : (s.data.toList.take 4).length = 4 := by simp; omega
  constructor
  · intro h
    have := nb_be (s.data.toList.take 4) 4 hl
    rw [h] at this
    simpa using this.symm
  · intro h; rw [h, be_nb 4 n (by omega)]

end Go.Proofs.Ytnbfphjhhdkefaa.Pure
