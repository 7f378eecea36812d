-- Written by a program of this session out of the seat's translation; Lean checks it.
import Derived.Test.YtdphikbkknkhiaaPAllx0
import Derived.Test.YtdphikbkknkhiaaPAllx1
import Derived.Test.YtdphikbkknkhiaaPAllx2
namespace Go.Proofs.Ytdphikbkknkhiaa.PAll
open Go.RowKit Go.Proofs.YtdphikbkknkhiaaW.PrintWords Go.Proofs.YtdphikbkknkhiaaW.PrintLast Go.Proofs.YtdphikbkknkhiaaW.PrintMore
attribute [local go_sem] max2_int min2_int max_two min_two max_three min_three max_four min_four   -- for this text's walks alone
set_option linter.unusedVariables false
set_option linter.unusedSimpArgs false

attribute [local go_sem high] eqA36 eqA55
/-! ### gharryref07_Same: function 14 -/
mutual
def gharryref07_Same.j0 : Nat → Bool → Int → Int → Int → Int → Int → ByteArray → ByteArray → ByteArray → Int → List (S36) → List (S55) → Int → Int → Int → Int → Int → Int → Int → ByteArray → ByteArray → ByteArray → Int → List (S36) → List (S55) → Int → Int → Option (Bool)
  | 0, _, _, _, _, _, _, _, _, _, _, _, _, _, _, _, _, _, _, _, _, _, _, _, _, _, _, _ => none
  | k + 1, x81, x144000, x144001, x144002, x144003, x144004, x144005, x144006, x144007, x144008, x144009, x144010, x144011, x144012, x145000, x145001, x145002, x145003, x145004, x145005, x145006, x145007, x145008, x145009, x145010, x145011, x145012 => if x81 = true then (some false) else (if (x144009.length : Int) = (x145009.length : Int) then (gharryref07_Same.j1 k ((x144010.length : Int) != (x145010.length : Int)) x144000 x144001 x144002 x144003 x144004 x144005 x144006 x144007 x144008 x144009 x144010 x144011 x144012 x145000 x145001 x145002 x145003 x145004 x145005 x145006 x145007 x145008 x145009 x145010 x145011 x145012) else (gharryref07_Same.j1 k true x144000 x144001 x144002 x144003 x144004 x144005 x144006 x144007 x144008 x144009 x144010 x144011 x144012 x145000 x145001 x145002 x145003 x145004 x145005 x145006 x145007 x145008 x145009 x145010 x145011 x145012))
def gharryref07_Same.j1 : Nat → Bool → Int → Int → Int → Int → Int → ByteArray → ByteArray → ByteArray → Int → List (S36) → List (S55) → Int → Int → Int → Int → Int → Int → Int → ByteArray → ByteArray → ByteArray → Int → List (S36) → List (S55) → Int → Int → Option (Bool)
  | 0, _, _, _, _, _, _, _, _, _, _, _, _, _, _, _, _, _, _, _, _, _, _, _, _, _, _, _ => none
  | k + 1, x97, x144000, x144001, x144002, x144003, x144004, x144005, x144006, x144007, x144008, x144009, x144010, x144011, x144012, x145000, x145001, x145002, x145003, x145004, x145005, x145006, x145007, x145008, x145009, x145010, x145011, x145012 => if x97 = true then (some false) else (gharryref07_Same.l0 k 0 x144000 x144001 x144002 x144003 x144004 x144005 x144006 x144007 x144008 x144009 x144010 x144011 x144012 x145000 x145001 x145002 x145003 x145004 x145005 x145006 x145007 x145008 x145009 x145010 x145011 x145012)
def gharryref07_Same.l0 : Nat → Int → Int → Int → Int → Int → Int → ByteArray → ByteArray → ByteArray → Int → List (S36) → List (S55) → Int → Int → Int → Int → Int → Int → Int → ByteArray → ByteArray → ByteArray → Int → List (S36) → List (S55) → Int → Int → Option (Bool)
  | 0, _, _, _, _, _, _, _, _, _, _, _, _, _, _, _, _, _, _, _, _, _, _, _, _, _, _, _ => none
  | k + 1, x5, x144000, x144001, x144002, x144003, x144004, x144005, x144006, x144007, x144008, x144009, x144010, x144011, x144012, x145000, x145001, x145002, x145003, x145004, x145005, x145006, x145007, x145008, x145009, x145010, x145011, x145012 => if x5 < (x144009.length : Int) then (if 0 ≤ x5 then (if x5 < (x145009.length : Int) then (if (!(((rd_T36 x144009 x5).f0) == ((rd_T36 x145009 x5).f0)) || (!((((rd_T36 x144009 x5).f1).toList) == (((rd_T36 x145009 x5).f1).toList)))) = true then (some false) else (gharryref07_Same.l0 k (wrap64 (x5 + 1)) x144000 x144001 x144002 x144003 x144004 x144005 x144006 x144007 x144008 x144009 x144010 x144011 x144012 x145000 x145001 x145002 x145003 x145004 x145005 x145006 x145007 x145008 x145009 x145010 x145011 x145012)) else (none)) else (none)) else (gharryref07_Same.l1 k 0 x144000 x144001 x144002 x144003 x144004 x144005 x144006 x144007 x144008 x144009 x144010 x144011 x144012 x145000 x145001 x145002 x145003 x145004 x145005 x145006 x145007 x145008 x145009 x145010 x145011 x145012)
def gharryref07_Same.l1 : Nat → Int → Int → Int → Int → Int → Int → ByteArray → ByteArray → ByteArray → Int → List (S36) → List (S55) → Int → Int → Int → Int → Int → Int → Int → ByteArray → ByteArray → ByteArray → Int → List (S36) → List (S55) → Int → Int → Option (Bool)
  | 0, _, _, _, _, _, _, _, _, _, _, _, _, _, _, _, _, _, _, _, _, _, _, _, _, _, _, _ => none
  | k + 1, x6, x144000, x144001, x144002, x144003, x144004, x144005, x144006, x144007, x144008, x144009, x144010, x144011, x144012, x145000, x145001, x145002, x145003, x145004, x145005, x145006, x145007, x145008, x145009, x145010, x145011, x145012 => if x6 < (x144010.length : Int) then (if 0 ≤ x6 then (if x6 < (x145010.length : Int) then (if (!(((rd_T55 x144010 x6).f0) == ((rd_T55 x145010 x6).f0)) || (!(((rd_T55 x144010 x6).f1) == ((rd_T55 x145010 x6).f1)))) = true then (some false) else (gharryref07_Same.l1 k (wrap64 (x6 + 1)) x144000 x144001 x144002 x144003 x144004 x144005 x144006 x144007 x144008 x144009 x144010 x144011 x144012 x145000 x145001 x145002 x145003 x145004 x145005 x145006 x145007 x145008 x145009 x145010 x145011 x145012)) else (none)) else (none)) else (some true)
end
def gharryref07_Same.f (k : Nat) (a0_0 : Int) (a0_1 : Int) (a0_2 : Int) (a0_3 : Int) (a0_4 : Int) (a0_5 : ByteArray) (a0_6 : ByteArray) (a0_7 : ByteArray) (a0_8 : Int) (l0_9 : List (S36)) (l0_10 : List (S55)) (a0_11 : Int) (a0_12 : Int) (a1_0 : Int) (a1_1 : Int) (a1_2 : Int) (a1_3 : Int) (a1_4 : Int) (a1_5 : ByteArray) (a1_6 : ByteArray) (a1_7 : ByteArray) (a1_8 : Int) (l1_9 : List (S36)) (l1_10 : List (S55)) (a1_11 : Int) (a1_12 : Int) : Option (Bool) := if a0_0 = a1_0 then (if a0_1 = a1_1 then (if a0_2 = a1_2 then (if a0_3 = a1_3 then (if a0_4 = a1_4 then (if a0_5.toList = a1_5.toList then (if a0_6.toList = a1_6.toList then (if a0_7.toList = a1_7.toList then (if a0_8 = a1_8 then (if a0_11 = a1_11 then (gharryref07_Same.j0 k (a0_12 != a1_12) a0_0 a0_1 a0_2 a0_3 a0_4 a0_5 a0_6 a0_7 a0_8 l0_9 l0_10 a0_11 a0_12 a1_0 a1_1 a1_2 a1_3 a1_4 a1_5 a1_6 a1_7 a1_8 l1_9 l1_10 a1_11 a1_12) else (gharryref07_Same.j0 k true a0_0 a0_1 a0_2 a0_3 a0_4 a0_5 a0_6 a0_7 a0_8 l0_9 l0_10 a0_11 a0_12 a1_0 a1_1 a1_2 a1_3 a1_4 a1_5 a1_6 a1_7 a1_8 l1_9 l1_10 a1_11 a1_12)) else (gharryref07_Same.j0 k true a0_0 a0_1 a0_2 a0_3 a0_4 a0_5 a0_6 a0_7 a0_8 l0_9 l0_10 a0_11 a0_12 a1_0 a1_1 a1_2 a1_3 a1_4 a1_5 a1_6 a1_7 a1_8 l1_9 l1_10 a1_11 a1_12)) else (gharryref07_Same.j0 k true a0_0 a0_1 a0_2 a0_3 a0_4 a0_5 a0_6 a0_7 a0_8 l0_9 l0_10 a0_11 a0_12 a1_0 a1_1 a1_2 a1_3 a1_4 a1_5 a1_6 a1_7 a1_8 l1_9 l1_10 a1_11 a1_12)) else (gharryref07_Same.j0 k true a0_0 a0_1 a0_2 a0_3 a0_4 a0_5 a0_6 a0_7 a0_8 l0_9 l0_10 a0_11 a0_12 a1_0 a1_1 a1_2 a1_3 a1_4 a1_5 a1_6 a1_7 a1_8 l1_9 l1_10 a1_11 a1_12)) else (gharryref07_Same.j0 k true a0_0 a0_1 a0_2 a0_3 a0_4 a0_5 a0_6 a0_7 a0_8 l0_9 l0_10 a0_11 a0_12 a1_0 a1_1 a1_2 a1_3 a1_4 a1_5 a1_6 a1_7 a1_8 l1_9 l1_10 a1_11 a1_12)) else (gharryref07_Same.j0 k true a0_0 a0_1 a0_2 a0_3 a0_4 a0_5 a0_6 a0_7 a0_8 l0_9 l0_10 a0_11 a0_12 a1_0 a1_1 a1_2 a1_3 a1_4 a1_5 a1_6 a1_7 a1_8 l1_9 l1_10 a1_11 a1_12)) else (gharryref07_Same.j0 k true a0_0 a0_1 a0_2 a0_3 a0_4 a0_5 a0_6 a0_7 a0_8 l0_9 l0_10 a0_11 a0_12 a1_0 a1_1 a1_2 a1_3 a1_4 a1_5 a1_6 a1_7 a1_8 l1_9 l1_10 a1_11 a1_12)) else (gharryref07_Same.j0 k true a0_0 a0_1 a0_2 a0_3 a0_4 a0_5 a0_6 a0_7 a0_8 l0_9 l0_10 a0_11 a0_12 a1_0 a1_1 a1_2 a1_3 a1_4 a1_5 a1_6 a1_7 a1_8 l1_9 l1_10 a1_11 a1_12)) else (gharryref07_Same.j0 k true a0_0 a0_1 a0_2 a0_3 a0_4 a0_5 a0_6 a0_7 a0_8 l0_9 l0_10 a0_11 a0_12 a1_0 a1_1 a1_2 a1_3 a1_4 a1_5 a1_6 a1_7 a1_8 l1_9 l1_10 a1_11 a1_12)) else (gharryref07_Same.j0 k true a0_0 a0_1 a0_2 a0_3 a0_4 a0_5 a0_6 a0_7 a0_8 l0_9 l0_10 a0_11 a0_12 a1_0 a1_1 a1_2 a1_3 a1_4 a1_5 a1_6 a1_7 a1_8 l1_9 l1_10 a1_11 a1_12)
theorem gharryref07_Same.mono_l : ∀ k, (∀ y0 y1 y2 y3 y4 y5 y6 y7 y8 y9 y10 y11 y12 y13 y14 y15 y16 y17 y18 y19 y20 y21 y22 y23 y24 y25 y26, LeO (gharryref07_Same.j0 k y0 y1 y2 y3 y4 y5 y6 y7 y8 y9 y10 y11 y12 y13 y14 y15 y16 y17 y18 y19 y20 y21 y22 y23 y24 y25 y26) (gharryref07_Same.j0 (k + 1) y0 y1 y2 y3 y4 y5 y6 y7 y8 y9 y10 y11 y12 y13 y14 y15 y16 y17 y18 y19 y20 y21 y22 y23 y24 y25 y26)) ∧ (∀ y0 y1 y2 y3 y4 y5 y6 y7 y8 y9 y10 y11 y12 y13 y14 y15 y16 y17 y18 y19 y20 y21 y22 y23 y24 y25 y26, LeO (gharryref07_Same.j1 k y0 y1 y2 y3 y4 y5 y6 y7 y8 y9 y10 y11 y12 y13 y14 y15 y16 y17 y18 y19 y20 y21 y22 y23 y24 y25 y26) (gharryref07_Same.j1 (k + 1) y0 y1 y2 y3 y4 y5 y6 y7 y8 y9 y10 y11 y12 y13 y14 y15 y16 y17 y18 y19 y20 y21 y22 y23 y24 y25 y26)) ∧ (∀ y0 y1 y2 y3 y4 y5 y6 y7 y8 y9 y10 y11 y12 y13 y14 y15 y16 y17 y18 y19 y20 y21 y22 y23 y24 y25 y26, LeO (gharryref07_Same.l0 k y0 y1 y2 y3 y4 y5 y6 y7 y8 y9 y10 y11 y12 y13 y14 y15 y16 y17 y18 y19 y20 y21 y22 y23 y24 y25 y26) (gharryref07_Same.l0 (k + 1) y0 y1 y2 y3 y4 y5 y6 y7 y8 y9 y10 y11 y12 y13 y14 y15 y16 y17 y18 y19 y20 y21 y22 y23 y24 y25 y26)) ∧ (∀ y0 y1 y2 y3 y4 y5 y6 y7 y8 y9 y10 y11 y12 y13 y14 y15 y16 y17 y18 y19 y20 y21 y22 y23 y24 y25 y26, LeO (gharryref07_Same.l1 k y0 y1 y2 y3 y4 y5 y6 y7 y8 y9 y10 y11 y12 y13 y14 y15 y16 y17 y18 y19 y20 y21 y22 y23 y24 y25 y26) (gharryref07_Same.l1 (k + 1) y0 y1 y2 y3 y4 y5 y6 y7 y8 y9 y10 y11 y12 y13 y14 y15 y16 y17 y18 y19 y20 y21 y22 y23 y24 y25 y26))
  | 0 => ⟨fun _ _ _ _ _ _ _ _ _ _ _ _ _ _ _ _ _ _ _ _ _ _ _ _ _ _ _ r h => by simp [gharryref07_Same.j0] at h, fun _ _ _ _ _ _ _ _ _ _ _ _ _ _ _ _ _ _ _ _ _ _ _ _ _ _ _ r h => by simp [gharryref07_Same.j1] at h, fun _ _ _ _ _ _ _ _ _ _ _ _ _ _ _ _ _ _ _ _ _ _ _ _ _ _ _ r h => by simp [gharryref07_Same.l0] at h, fun _ _ _ _ _ _ _ _ _ _ _ _ _ _ _ _ _ _ _ _ _ _ _ _ _ _ _ r h => by simp [gharryref07_Same.l1] at h⟩
  | k + 1 => by
    obtain ⟨ih0, ih1, ih2, ih3⟩ := gharryref07_Same.mono_l k
    refine ⟨?_, ?_, ?_, ?_⟩
    · intro y0 y1 y2 y3 y4 y5 y6 y7 y8 y9 y10 y11 y12 y13 y14 y15 y16 y17 y18 y19 y20 y21 y22 y23 y24 y25 y26
      unfold gharryref07_Same.j0
      repeat' first
      | (with_reducible exact ih0 _ _ _ _ _ _ _ _ _ _ _ _ _ _ _ _ _ _ _ _ _ _ _ _ _ _ _)
      | (with_reducible exact ih1 _ _ _ _ _ _ _ _ _ _ _ _ _ _ _ _ _ _ _ _ _ _ _ _ _ _ _)
      | (with_reducible exact ih2 _ _ _ _ _ _ _ _ _ _ _ _ _ _ _ _ _ _ _ _ _ _ _ _ _ _ _)
      | (with_reducible exact ih3 _ _ _ _ _ _ _ _ _ _ _ _ _ _ _ _ _ _ _ _ _ _ _ _ _ _ _)
      | (with_reducible exact LeO.refl _)
      | (with_reducible exact LeO.none _)
      | (with_reducible refine LeO.ite ?_ ?_)
      | (with_reducible refine LeO.bind ?_ (fun _ => ?_))
      | exact ih0 _ _ _ _ _ _ _ _ _ _ _ _ _ _ _ _ _ _ _ _ _ _ _ _ _ _ _
      | exact ih1 _ _ _ _ _ _ _ _ _ _ _ _ _ _ _ _ _ _ _ _ _ _ _ _ _ _ _
      | exact ih2 _ _ _ _ _ _ _ _ _ _ _ _ _ _ _ _ _ _ _ _ _ _ _ _ _ _ _
      | exact ih3 _ _ _ _ _ _ _ _ _ _ _ _ _ _ _ _ _ _ _ _ _ _ _ _ _ _ _
      | exact LeO.none _
      | refine LeO.ite ?_ ?_
      | refine LeO.bind ?_ (fun _ => ?_)
    · intro y0 y1 y2 y3 y4 y5 y6 y7 y8 y9 y10 y11 y12 y13 y14 y15 y16 y17 y18 y19 y20 y21 y22 y23 y24 y25 y26
      unfold gharryref07_Same.j1
      repeat' first
      | (with_reducible exact ih0 _ _ _ _ _ _ _ _ _ _ _ _ _ _ _ _ _ _ _ _ _ _ _ _ _ _ _)
      | (with_reducible exact ih1 _ _ _ _ _ _ _ _ _ _ _ _ _ _ _ _ _ _ _ _ _ _ _ _ _ _ _)
      | (with_reducible exact ih2 _ _ _ _ _ _ _ _ _ _ _ _ _ _ _ _ _ _ _ _ _ _ _ _ _ _ _)
      | (with_reducible exact ih3 _ _ _ _ _ _ _ _ _ _ _ _ _ _ _ _ _ _ _ _ _ _ _ _ _ _ _)
      | (with_reducible exact LeO.refl _)
      | (with_reducible exact LeO.none _)
      | (with_reducible refine LeO.ite ?_ ?_)
      | (with_reducible refine LeO.bind ?_ (fun _ => ?_))
      | exact ih0 _ _ _ _ _ _ _ _ _ _ _ _ _ _ _ _ _ _ _ _ _ _ _ _ _ _ _
      | exact ih1 _ _ _ _ _ _ _ _ _ _ _ _ _ _ _ _ _ _ _ _ _ _ _ _ _ _ _
      | exact ih2 _ _ _ _ _ _ _ _ _ _ _ _ _ _ _ _ _ _ _ _ _ _ _ _ _ _ _
      | exact ih3 _ _ _ _ _ _ _ _ _ _ _ _ _ _ _ _ _ _ _ _ _ _ _ _ _ _ _
      | exact LeO.none _
      | refine LeO.ite ?_ ?_
      | refine LeO.bind ?_ (fun _ => ?_)
    · intro y0 y1 y2 y3 y4 y5 y6 y7 y8 y9 y10 y11 y12 y13 y14 y15 y16 y17 y18 y19 y20 y21 y22 y23 y24 y25 y26
      unfold gharryref07_Same.l0
      repeat' first
      | (with_reducible exact ih0 _ _ _ _ _ _ _ _ _ _ _ _ _ _ _ _ _ _ _ _ _ _ _ _ _ _ _)
      | (with_reducible exact ih1 _ _ _ _ _ _ _ _ _ _ _ _ _ _ _ _ _ _ _ _ _ _ _ _ _ _ _)
      | (with_reducible exact ih2 _ _ _ _ _ _ _ _ _ _ _ _ _ _ _ _ _ _ _ _ _ _ _ _ _ _ _)
      | (with_reducible exact ih3 _ _ _ _ _ _ _ _ _ _ _ _ _ _ _ _ _ _ _ _ _ _ _ _ _ _ _)
      | (with_reducible exact LeO.refl _)
      | (with_reducible exact LeO.none _)
      | (with_reducible refine LeO.ite ?_ ?_)
      | (with_reducible refine LeO.bind ?_ (fun _ => ?_))
      | exact ih0 _ _ _ _ _ _ _ _ _ _ _ _ _ _ _ _ _ _ _ _ _ _ _ _ _ _ _
      | exact ih1 _ _ _ _ _ _ _ _ _ _ _ _ _ _ _ _ _ _ _ _ _ _ _ _ _ _ _
      | exact ih2 _ _ _ _ _ _ _ _ _ _ _ _ _ _ _ _ _ _ _ _ _ _ _ _ _ _ _
      | exact ih3 _ _ _ _ _ _ _ _ _ _ _ _ _ _ _ _ _ _ _ _ _ _ _ _ _ _ _
      | exact LeO.none _
      | refine LeO.ite ?_ ?_
      | refine LeO.bind ?_ (fun _ => ?_)
    · intro y0 y1 y2 y3 y4 y5 y6 y7 y8 y9 y10 y11 y12 y13 y14 y15 y16 y17 y18 y19 y20 y21 y22 y23 y24 y25 y26
      unfold gharryref07_Same.l1
      repeat' first
      | (with_reducible exact ih0 _ _ _ _ _ _ _ _ _ _ _ _ _ _ _ _ _ _ _ _ _ _ _ _ _ _ _)
      | (with_reducible exact ih1 _ _ _ _ _ _ _ _ _ _ _ _ _ _ _ _ _ _ _ _ _ _ _ _ _ _ _)
      | (with_reducible exact ih2 _ _ _ _ _ _ _ _ _ _ _ _ _ _ _ _ _ _ _ _ _ _ _ _ _ _ _)
      | (with_reducible exact ih3 _ _ _ _ _ _ _ _ _ _ _ _ _ _ _ _ _ _ _ _ _ _ _ _ _ _ _)
      | (with_reducible exact LeO.refl _)
      | (with_reducible exact LeO.none _)
      | (with_reducible refine LeO.ite ?_ ?_)
      | (with_reducible refine LeO.bind ?_ (fun _ => ?_))
      | exact ih0 _ _ _ _ _ _ _ _ _ _ _ _ _ _ _ _ _ _ _ _ _ _ _ _ _ _ _
      | exact ih1 _ _ _ _ _ _ _ _ _ _ _ _ _ _ _ _ _ _ _ _ _ _ _ _ _ _ _
      | exact ih2 _ _ _ _ _ _ _ _ _ _ _ _ _ _ _ _ _ _ _ _ _ _ _ _ _ _ _
      | exact ih3 _ _ _ _ _ _ _ _ _ _ _ _ _ _ _ _ _ _ _ _ _ _ _ _ _ _ _
      | exact LeO.none _
      | refine LeO.ite ?_ ?_
      | refine LeO.bind ?_ (fun _ => ?_)
theorem gharryref07_Same.mono : ∀ a0 a1 a2 a3 a4 a5 a6 a7 a8 a9 a10 a11 a12 a13 a14 a15 a16 a17 a18 a19 a20 a21 a22 a23 a24 a25 k, LeO (gharryref07_Same.f k a0 a1 a2 a3 a4 a5 a6 a7 a8 a9 a10 a11 a12 a13 a14 a15 a16 a17 a18 a19 a20 a21 a22 a23 a24 a25) (gharryref07_Same.f (k + 1) a0 a1 a2 a3 a4 a5 a6 a7 a8 a9 a10 a11 a12 a13 a14 a15 a16 a17 a18 a19 a20 a21 a22 a23 a24 a25) := by
  intro a0 a1 a2 a3 a4 a5 a6 a7 a8 a9 a10 a11 a12 a13 a14 a15 a16 a17 a18 a19 a20 a21 a22 a23 a24 a25 k
  obtain ⟨ih0, ih1, ih2, ih3⟩ := gharryref07_Same.mono_l k
  unfold gharryref07_Same.f
  repeat' first
      | (with_reducible exact ih0 _ _ _ _ _ _ _ _ _ _ _ _ _ _ _ _ _ _ _ _ _ _ _ _ _ _ _)
      | (with_reducible exact ih1 _ _ _ _ _ _ _ _ _ _ _ _ _ _ _ _ _ _ _ _ _ _ _ _ _ _ _)
      | (with_reducible exact ih2 _ _ _ _ _ _ _ _ _ _ _ _ _ _ _ _ _ _ _ _ _ _ _ _ _ _ _)
      | (with_reducible exact ih3 _ _ _ _ _ _ _ _ _ _ _ _ _ _ _ _ _ _ _ _ _ _ _ _ _ _ _)
      | (with_reducible exact LeO.refl _)
      | (with_reducible exact LeO.none _)
      | (with_reducible refine LeO.ite ?_ ?_)
      | (with_reducible refine LeO.bind ?_ (fun _ => ?_))
      | exact ih0 _ _ _ _ _ _ _ _ _ _ _ _ _ _ _ _ _ _ _ _ _ _ _ _ _ _ _
      | exact ih1 _ _ _ _ _ _ _ _ _ _ _ _ _ _ _ _ _ _ _ _ _ _ _ _ _ _ _
      | exact ih2 _ _ _ _ _ _ _ _ _ _ _ _ _ _ _ _ _ _ _ _ _ _ _ _ _ _ _
      | exact ih3 _ _ _ _ _ _ _ _ _ _ _ _ _ _ _ _ _ _ _ _ _ _ _ _ _ _ _
      | exact LeO.none _
      | refine LeO.ite ?_ ?_
      | refine LeO.bind ?_ (fun _ => ?_)
set_option maxHeartbeats 8000000 in
set_option maxRecDepth 100000 in
theorem gharryref07_Same.calls (k : Nat) (a0_0 : Int) (a0_1 : Int) (a0_2 : Int) (a0_3 : Int) (a0_4 : Int) (a0_5 : ByteArray) (a0_6 : ByteArray) (a0_7 : ByteArray) (a0_8 : Int) (A0_9 : Option Addr) (c0_9 : Nat) (l0_9 : List (S36)) (A0_10 : Option Addr) (c0_10 : Nat) (l0_10 : List (S55)) (a0_11 : Int) (a0_12 : Int) (a1_0 : Int) (a1_1 : Int) (a1_2 : Int) (a1_3 : Int) (a1_4 : Int) (a1_5 : ByteArray) (a1_6 : ByteArray) (a1_7 : ByteArray) (a1_8 : Int) (A1_9 : Option Addr) (c1_9 : Nat) (l1_9 : List (S36)) (A1_10 : Option Addr) (c1_10 : Nat) (l1_10 : List (S55)) (a1_11 : Int) (a1_12 : Int) (r : Bool) (w : World) (hr0_9 : Kd.C k36 w A0_9 l0_9.length l0_9) (hc0_9 : l0_9.length ≤ c0_9) (hr0_10 : Kd.C k55 w A0_10 l0_10.length l0_10) (hc0_10 : l0_10.length ≤ c0_10) (hr1_9 : Kd.C k36 w A1_9 l1_9.length l1_9) (hc1_9 : l1_9.length ≤ c1_9) (hr1_10 : Kd.C k55 w A1_10 l1_10.length l1_10) (hc1_10 : l1_10.length ≤ c1_10) (h : gharryref07_Same.f k a0_0 a0_1 a0_2 a0_3 a0_4 a0_5 a0_6 a0_7 a0_8 l0_9 l0_10 a0_11 a0_12 a1_0 a1_1 a1_2 a1_3 a1_4 a1_5 a1_6 a1_7 a1_8 l1_9 l1_10 a1_11 a1_12 = some r) :
    Calls Try.prog 14 #[.agg #[.int .i64 a0_0, .int .i64 a0_1, .int .i64 a0_2, .int .i64 a0_3, .int .i64 a0_4, .string a0_5, .string a0_6, .string a0_7, .int .i64 a0_8, .slice A0_9 l0_9.length c0_9, .slice A0_10 l0_10.length c0_10, .int .i64 a0_11, .int .i64 a0_12], .agg #[.int .i64 a1_0, .int .i64 a1_1, .int .i64 a1_2, .int .i64 a1_3, .int .i64 a1_4, .string a1_5, .string a1_6, .string a1_7, .int .i64 a1_8, .slice A1_9 l1_9.length c1_9, .slice A1_10 l1_10.length c1_10, .int .i64 a1_11, .int .i64 a1_12]] w fun e w' => e = .returned (.bool r) ∧ Below w.heap.size w w' := by
  have hu25 := Try.underlying25
  have hu36 := Try.underlying36
  have hu55 := Try.underlying55
  have HR0_9 := Aside0.mk hr0_9
  have HC0_9 := Aside0.mk hc0_9
  clear hr0_9 hc0_9
  have HR0_10 := Aside0.mk hr0_10
  have HC0_10 := Aside0.mk hc0_10
  clear hr0_10 hc0_10
  have HR1_9 := Aside0.mk hr1_9
  have HC1_9 := Aside0.mk hc1_9
  clear hr1_9 hc1_9
  have HR1_10 := Aside0.mk hr1_10
  have HC1_10 := Aside0.mk hc1_10
  clear hr1_10 hc1_10
  have HB := Aside0.mk (Below.refl w.heap.size w)
  have H : (if a0_0 = a1_0 then (if a0_1 = a1_1 then (if a0_2 = a1_2 then (if a0_3 = a1_3 then (if a0_4 = a1_4 then (if a0_5.toList = a1_5.toList then (if a0_6.toList = a1_6.toList then (if a0_7.toList = a1_7.toList then (if a0_8 = a1_8 then (if a0_11 = a1_11 then (gharryref07_Same.j0 k (a0_12 != a1_12) a0_0 a0_1 a0_2 a0_3 a0_4 a0_5 a0_6 a0_7 a0_8 l0_9 l0_10 a0_11 a0_12 a1_0 a1_1 a1_2 a1_3 a1_4 a1_5 a1_6 a1_7 a1_8 l1_9 l1_10 a1_11 a1_12) else (gharryref07_Same.j0 k true a0_0 a0_1 a0_2 a0_3 a0_4 a0_5 a0_6 a0_7 a0_8 l0_9 l0_10 a0_11 a0_12 a1_0 a1_1 a1_2 a1_3 a1_4 a1_5 a1_6 a1_7 a1_8 l1_9 l1_10 a1_11 a1_12)) else (gharryref07_Same.j0 k true a0_0 a0_1 a0_2 a0_3 a0_4 a0_5 a0_6 a0_7 a0_8 l0_9 l0_10 a0_11 a0_12 a1_0 a1_1 a1_2 a1_3 a1_4 a1_5 a1_6 a1_7 a1_8 l1_9 l1_10 a1_11 a1_12)) else (gharryref07_Same.j0 k true a0_0 a0_1 a0_2 a0_3 a0_4 a0_5 a0_6 a0_7 a0_8 l0_9 l0_10 a0_11 a0_12 a1_0 a1_1 a1_2 a1_3 a1_4 a1_5 a1_6 a1_7 a1_8 l1_9 l1_10 a1_11 a1_12)) else (gharryref07_Same.j0 k true a0_0 a0_1 a0_2 a0_3 a0_4 a0_5 a0_6 a0_7 a0_8 l0_9 l0_10 a0_11 a0_12 a1_0 a1_1 a1_2 a1_3 a1_4 a1_5 a1_6 a1_7 a1_8 l1_9 l1_10 a1_11 a1_12)) else (gharryref07_Same.j0 k true a0_0 a0_1 a0_2 a0_3 a0_4 a0_5 a0_6 a0_7 a0_8 l0_9 l0_10 a0_11 a0_12 a1_0 a1_1 a1_2 a1_3 a1_4 a1_5 a1_6 a1_7 a1_8 l1_9 l1_10 a1_11 a1_12)) else (gharryref07_Same.j0 k true a0_0 a0_1 a0_2 a0_3 a0_4 a0_5 a0_6 a0_7 a0_8 l0_9 l0_10 a0_11 a0_12 a1_0 a1_1 a1_2 a1_3 a1_4 a1_5 a1_6 a1_7 a1_8 l1_9 l1_10 a1_11 a1_12)) else (gharryref07_Same.j0 k true a0_0 a0_1 a0_2 a0_3 a0_4 a0_5 a0_6 a0_7 a0_8 l0_9 l0_10 a0_11 a0_12 a1_0 a1_1 a1_2 a1_3 a1_4 a1_5 a1_6 a1_7 a1_8 l1_9 l1_10 a1_11 a1_12)) else (gharryref07_Same.j0 k true a0_0 a0_1 a0_2 a0_3 a0_4 a0_5 a0_6 a0_7 a0_8 l0_9 l0_10 a0_11 a0_12 a1_0 a1_1 a1_2 a1_3 a1_4 a1_5 a1_6 a1_7 a1_8 l1_9 l1_10 a1_11 a1_12)) else (gharryref07_Same.j0 k true a0_0 a0_1 a0_2 a0_3 a0_4 a0_5 a0_6 a0_7 a0_8 l0_9 l0_10 a0_11 a0_12 a1_0 a1_1 a1_2 a1_3 a1_4 a1_5 a1_6 a1_7 a1_8 l1_9 l1_10 a1_11 a1_12)) else (gharryref07_Same.j0 k true a0_0 a0_1 a0_2 a0_3 a0_4 a0_5 a0_6 a0_7 a0_8 l0_9 l0_10 a0_11 a0_12 a1_0 a1_1 a1_2 a1_3 a1_4 a1_5 a1_6 a1_7 a1_8 l1_9 l1_10 a1_11 a1_12)) = some r := h
  clear h
  have HC3 := Aside0.mk H
  clear H
  go_enter Try.func14, Try.ntmps14
  go_upto_region 1 with (first | ((with_reducible refine gate_dst (N := 2) rfl ?_); (try (refine gate_guard (by rfl) ?_; dsimp only)); refine box_event ?hg (N := 2) ?hd (cs := #[.int .i64 a0_0, .int .i64 a0_1, .int .i64 a0_2, .int .i64 a0_3, .int .i64 a0_4, .string a0_5, .string a0_6, .string a0_7, .int .i64 a0_8, .slice A0_9 l0_9.length c0_9, .slice A0_10 l0_10.length c0_10, .int .i64 a0_11, .int .i64 a0_12]) (t := 25) ?hr ?_; (case hd => rfl); (case hg => rfl); (case hr => first | (go_simp; done) | (go_simp; rfl)); intro gb143 hg w4 hbox hb; have n0_ := Aside0.mk (below_step (by repeat (first | (with_reducible first | exact HB.out | apply below_alloc | apply pw_below_drewN | apply below_drew1) | exact HB.out)) hb); have n1_ := Aside0.mk (hbox); have n2_ := Aside0.mk ((by rw [hg]; exact (below_size (by repeat (first | (with_reducible first | exact HB.out | apply below_alloc | apply pw_below_drewN | apply below_drew1) | exact HB.out))) : w.heap.size ≤ gb143)); have n3_ := Aside0.mk ((by rw [hg]; exact (below_size (by repeat (first | (with_reducible first | exact HB.out | apply below_alloc | apply pw_below_drewN | apply below_drew1) | exact HB.out))) : w.heap.size ≤ gb143)); clear HB; have HB := n0_; have BK143 := n1_; have GW143 := n2_; have GE143 := n3_; clear n0_ n1_ n2_ n3_; clear hb hbox hg) | ((with_reducible refine gate_dst (N := 3) rfl ?_); (try (refine gate_guard (by rfl) ?_; dsimp only)); refine box_event ?hg (N := 3) ?hd (cs := #[.int .i64 a1_0, .int .i64 a1_1, .int .i64 a1_2, .int .i64 a1_3, .int .i64 a1_4, .string a1_5, .string a1_6, .string a1_7, .int .i64 a1_8, .slice A1_9 l1_9.length c1_9, .slice A1_10 l1_10.length c1_10, .int .i64 a1_11, .int .i64 a1_12]) (t := 25) ?hr ?_; (case hd => rfl); (case hg => rfl); (case hr => first | (go_simp; done) | (go_simp; rfl)); intro gb144 hg w5 hbox hb; have n0_ := Aside0.mk (blk_below (g := gb143) (o := .cells #[.int .i64 a0_0, .int .i64 a0_1, .int .i64 a0_2, .int .i64 a0_3, .int .i64 a0_4, .string a0_5, .string a0_6, .string a0_7, .int .i64 a0_8, .slice A0_9 l0_9.length c0_9, .slice A0_10 l0_10.length c0_10, .int .i64 a0_11, .int .i64 a0_12] 25 (0, 0)) (by (with_reducible repeat (first | refine blk_drewN ?_ _ | refine blk_drew ?_ | refine blk_alloc ?_ _)); exact BK143.out) hb); have n1_ := Aside0.mk (below_step (by repeat (first | (with_reducible first | exact HB.out | apply below_alloc | apply pw_below_drewN | apply below_drew1 | refine below_set ?_ GE143.out) | exact HB.out)) hb); have n2_ := Aside0.mk (hbox); have n3_ := Aside0.mk ((by rw [hg]; exact (below_size (by repeat (first | (with_reducible first | exact HB.out | apply below_alloc | apply pw_below_drewN | apply below_drew1 | refine below_set ?_ GE143.out) | exact HB.out))) : w.heap.size ≤ gb144)); have n4_ := Aside0.mk ((by rw [hg]; exact (below_size (by repeat (first | (with_reducible first | exact HB.out | apply below_alloc | apply pw_below_drewN | apply below_drew1 | refine below_set ?_ GE143.out) | exact HB.out))) : w.heap.size ≤ gb144)); have n5_ := Aside0.mk ((by rw [hg]; exact Nat.ne_of_lt (blk_lt (g := gb143) (o := .cells #[.int .i64 a0_0, .int .i64 a0_1, .int .i64 a0_2, .int .i64 a0_3, .int .i64 a0_4, .string a0_5, .string a0_6, .string a0_7, .int .i64 a0_8, .slice A0_9 l0_9.length c0_9, .slice A0_10 l0_10.length c0_10, .int .i64 a0_11, .int .i64 a0_12] 25 (0, 0)) (by (with_reducible repeat (first | refine blk_drewN ?_ _ | refine blk_drew ?_ | refine blk_alloc ?_ _)); exact BK143.out)) : gb143 ≠ gb144)); have n6_ := Aside0.mk ((by rw [hg]; exact Nat.ne_of_gt (blk_lt (g := gb143) (o := .cells #[.int .i64 a0_0, .int .i64 a0_1, .int .i64 a0_2, .int .i64 a0_3, .int .i64 a0_4, .string a0_5, .string a0_6, .string a0_7, .int .i64 a0_8, .slice A0_9 l0_9.length c0_9, .slice A0_10 l0_10.length c0_10, .int .i64 a0_11, .int .i64 a0_12] 25 (0, 0)) (by (with_reducible repeat (first | refine blk_drewN ?_ _ | refine blk_drew ?_ | refine blk_alloc ?_ _)); exact BK143.out)) : gb144 ≠ gb143)); clear BK143; clear HB; have BK143 := n0_; have HB := n1_; have BK144 := n2_; have GW144 := n3_; have GE144 := n4_; have NB143_144 := n5_; have NB144_143 := n6_; clear n0_ n1_ n2_ n3_ n4_ n5_ n6_; clear hb hbox hg))
  repeat (go_quiet (first | ((with_reducible refine gate_dst (N := 2) rfl ?_); (try (refine gate_guard (by rfl) ?_; dsimp only)); refine box_event ?hg (N := 2) ?hd (cs := #[.int .i64 a0_0, .int .i64 a0_1, .int .i64 a0_2, .int .i64 a0_3, .int .i64 a0_4, .string a0_5, .string a0_6, .string a0_7, .int .i64 a0_8, .slice A0_9 l0_9.length c0_9, .slice A0_10 l0_10.length c0_10, .int .i64 a0_11, .int .i64 a0_12]) (t := 25) ?hr ?_; (case hd => rfl); (case hg => rfl); (case hr => first | (go_simp; done) | (go_simp; rfl)); intro gb143 hg w4 hbox hb; have n0_ := Aside0.mk (below_step (by repeat (first | (with_reducible first | exact HB.out | apply below_alloc | apply pw_below_drewN | apply below_drew1) | exact HB.out)) hb); have n1_ := Aside0.mk (hbox); have n2_ := Aside0.mk ((by rw [hg]; exact (below_size (by repeat (first | (with_reducible first | exact HB.out | apply below_alloc | apply pw_below_drewN | apply below_drew1) | exact HB.out))) : w.heap.size ≤ gb143)); have n3_ := Aside0.mk ((by rw [hg]; exact (below_size (by repeat (first | (with_reducible first | exact HB.out | apply below_alloc | apply pw_below_drewN | apply below_drew1) | exact HB.out))) : w.heap.size ≤ gb143)); clear HB; have HB := n0_; have BK143 := n1_; have GW143 := n2_; have GE143 := n3_; clear n0_ n1_ n2_ n3_; clear hb hbox hg) | ((with_reducible refine gate_dst (N := 3) rfl ?_); (try (refine gate_guard (by rfl) ?_; dsimp only)); refine box_event ?hg (N := 3) ?hd (cs := #[.int .i64 a1_0, .int .i64 a1_1, .int .i64 a1_2, .int .i64 a1_3, .int .i64 a1_4, .string a1_5, .string a1_6, .string a1_7, .int .i64 a1_8, .slice A1_9 l1_9.length c1_9, .slice A1_10 l1_10.length c1_10, .int .i64 a1_11, .int .i64 a1_12]) (t := 25) ?hr ?_; (case hd => rfl); (case hg => rfl); (case hr => first | (go_simp; done) | (go_simp; rfl)); intro gb144 hg w5 hbox hb; have n0_ := Aside0.mk (blk_below (g := gb143) (o := .cells #[.int .i64 a0_0, .int .i64 a0_1, .int .i64 a0_2, .int .i64 a0_3, .int .i64 a0_4, .string a0_5, .string a0_6, .string a0_7, .int .i64 a0_8, .slice A0_9 l0_9.length c0_9, .slice A0_10 l0_10.length c0_10, .int .i64 a0_11, .int .i64 a0_12] 25 (0, 0)) (by (with_reducible repeat (first | refine blk_drewN ?_ _ | refine blk_drew ?_ | refine blk_alloc ?_ _)); exact BK143.out) hb); have n1_ := Aside0.mk (below_step (by repeat (first | (with_reducible first | exact HB.out | apply below_alloc | apply pw_below_drewN | apply below_drew1 | refine below_set ?_ GE143.out) | exact HB.out)) hb); have n2_ := Aside0.mk (hbox); have n3_ := Aside0.mk ((by rw [hg]; exact (below_size (by repeat (first | (with_reducible first | exact HB.out | apply below_alloc | apply pw_below_drewN | apply below_drew1 | refine below_set ?_ GE143.out) | exact HB.out))) : w.heap.size ≤ gb144)); have n4_ := Aside0.mk ((by rw [hg]; exact (below_size (by repeat (first | (with_reducible first | exact HB.out | apply below_alloc | apply pw_below_drewN | apply below_drew1 | refine below_set ?_ GE143.out) | exact HB.out))) : w.heap.size ≤ gb144)); have n5_ := Aside0.mk ((by rw [hg]; exact Nat.ne_of_lt (blk_lt (g := gb143) (o := .cells #[.int .i64 a0_0, .int .i64 a0_1, .int .i64 a0_2, .int .i64 a0_3, .int .i64 a0_4, .string a0_5, .string a0_6, .string a0_7, .int .i64 a0_8, .slice A0_9 l0_9.length c0_9, .slice A0_10 l0_10.length c0_10, .int .i64 a0_11, .int .i64 a0_12] 25 (0, 0)) (by (with_reducible repeat (first | refine blk_drewN ?_ _ | refine blk_drew ?_ | refine blk_alloc ?_ _)); exact BK143.out)) : gb143 ≠ gb144)); have n6_ := Aside0.mk ((by rw [hg]; exact Nat.ne_of_gt (blk_lt (g := gb143) (o := .cells #[.int .i64 a0_0, .int .i64 a0_1, .int .i64 a0_2, .int .i64 a0_3, .int .i64 a0_4, .string a0_5, .string a0_6, .string a0_7, .int .i64 a0_8, .slice A0_9 l0_9.length c0_9, .slice A0_10 l0_10.length c0_10, .int .i64 a0_11, .int .i64 a0_12] 25 (0, 0)) (by (with_reducible repeat (first | refine blk_drewN ?_ _ | refine blk_drew ?_ | refine blk_alloc ?_ _)); exact BK143.out)) : gb144 ≠ gb143)); clear BK143; clear HB; have BK143 := n0_; have HB := n1_; have BK144 := n2_; have GW144 := n3_; have GE144 := n4_; have NB143_144 := n5_; have NB144_143 := n6_; clear n0_ n1_ n2_ n3_ n4_ n5_ n6_; clear hb hbox hg)); go_upto_region 1 with (first | ((with_reducible refine gate_dst (N := 2) rfl ?_); (try (refine gate_guard (by rfl) ?_; dsimp only)); refine box_event ?hg (N := 2) ?hd (cs := #[.int .i64 a0_0, .int .i64 a0_1, .int .i64 a0_2, .int .i64 a0_3, .int .i64 a0_4, .string a0_5, .string a0_6, .string a0_7, .int .i64 a0_8, .slice A0_9 l0_9.length c0_9, .slice A0_10 l0_10.length c0_10, .int .i64 a0_11, .int .i64 a0_12]) (t := 25) ?hr ?_; (case hd => rfl); (case hg => rfl); (case hr => first | (go_simp; done) | (go_simp; rfl)); intro gb143 hg w4 hbox hb; have n0_ := Aside0.mk (below_step (by repeat (first | (with_reducible first | exact HB.out | apply below_alloc | apply pw_below_drewN | apply below_drew1) | exact HB.out)) hb); have n1_ := Aside0.mk (hbox); have n2_ := Aside0.mk ((by rw [hg]; exact (below_size (by repeat (first | (with_reducible first | exact HB.out | apply below_alloc | apply pw_below_drewN | apply below_drew1) | exact HB.out))) : w.heap.size ≤ gb143)); have n3_ := Aside0.mk ((by rw [hg]; exact (below_size (by repeat (first | (with_reducible first | exact HB.out | apply below_alloc | apply pw_below_drewN | apply below_drew1) | exact HB.out))) : w.heap.size ≤ gb143)); clear HB; have HB := n0_; have BK143 := n1_; have GW143 := n2_; have GE143 := n3_; clear n0_ n1_ n2_ n3_; clear hb hbox hg) | ((with_reducible refine gate_dst (N := 3) rfl ?_); (try (refine gate_guard (by rfl) ?_; dsimp only)); refine box_event ?hg (N := 3) ?hd (cs := #[.int .i64 a1_0, .int .i64 a1_1, .int .i64 a1_2, .int .i64 a1_3, .int .i64 a1_4, .string a1_5, .string a1_6, .string a1_7, .int .i64 a1_8, .slice A1_9 l1_9.length c1_9, .slice A1_10 l1_10.length c1_10, .int .i64 a1_11, .int .i64 a1_12]) (t := 25) ?hr ?_; (case hd => rfl); (case hg => rfl); (case hr => first | (go_simp; done) | (go_simp; rfl)); intro gb144 hg w5 hbox hb; have n0_ := Aside0.mk (blk_below (g := gb143) (o := .cells #[.int .i64 a0_0, .int .i64 a0_1, .int .i64 a0_2, .int .i64 a0_3, .int .i64 a0_4, .string a0_5, .string a0_6, .string a0_7, .int .i64 a0_8, .slice A0_9 l0_9.length c0_9, .slice A0_10 l0_10.length c0_10, .int .i64 a0_11, .int .i64 a0_12] 25 (0, 0)) (by (with_reducible repeat (first | refine blk_drewN ?_ _ | refine blk_drew ?_ | refine blk_alloc ?_ _)); exact BK143.out) hb); have n1_ := Aside0.mk (below_step (by repeat (first | (with_reducible first | exact HB.out | apply below_alloc | apply pw_below_drewN | apply below_drew1 | refine below_set ?_ GE143.out) | exact HB.out)) hb); have n2_ := Aside0.mk (hbox); have n3_ := Aside0.mk ((by rw [hg]; exact (below_size (by repeat (first | (with_reducible first | exact HB.out | apply below_alloc | apply pw_below_drewN | apply below_drew1 | refine below_set ?_ GE143.out) | exact HB.out))) : w.heap.size ≤ gb144)); have n4_ := Aside0.mk ((by rw [hg]; exact (below_size (by repeat (first | (with_reducible first | exact HB.out | apply below_alloc | apply pw_below_drewN | apply below_drew1 | refine below_set ?_ GE143.out) | exact HB.out))) : w.heap.size ≤ gb144)); have n5_ := Aside0.mk ((by rw [hg]; exact Nat.ne_of_lt (blk_lt (g := gb143) (o := .cells #[.int .i64 a0_0, .int .i64 a0_1, .int .i64 a0_2, .int .i64 a0_3, .int .i64 a0_4, .string a0_5, .string a0_6, .string a0_7, .int .i64 a0_8, .slice A0_9 l0_9.length c0_9, .slice A0_10 l0_10.length c0_10, .int .i64 a0_11, .int .i64 a0_12] 25 (0, 0)) (by (with_reducible repeat (first | refine blk_drewN ?_ _ | refine blk_drew ?_ | refine blk_alloc ?_ _)); exact BK143.out)) : gb143 ≠ gb144)); have n6_ := Aside0.mk ((by rw [hg]; exact Nat.ne_of_gt (blk_lt (g := gb143) (o := .cells #[.int .i64 a0_0, .int .i64 a0_1, .int .i64 a0_2, .int .i64 a0_3, .int .i64 a0_4, .string a0_5, .string a0_6, .string a0_7, .int .i64 a0_8, .slice A0_9 l0_9.length c0_9, .slice A0_10 l0_10.length c0_10, .int .i64 a0_11, .int .i64 a0_12] 25 (0, 0)) (by (with_reducible repeat (first | refine blk_drewN ?_ _ | refine blk_drew ?_ | refine blk_alloc ?_ _)); exact BK143.out)) : gb144 ≠ gb143)); clear BK143; clear HB; have BK143 := n0_; have HB := n1_; have BK144 := n2_; have GW144 := n3_; have GE144 := n4_; have NB143_144 := n5_; have NB144_143 := n6_; clear n0_ n1_ n2_ n3_ n4_ n5_ n6_; clear hb hbox hg)))
  (try simp only [Act.put, List.setIfInBounds_toArray, List.set_cons_zero, List.set_cons_succ])
  go_cut [81] (fun v81 wc => ∃ (kq : Nat) (x81_2 : Bool), v81 = .bool x81_2 ∧ Aside0 (gharryref07_Same.j0 kq x81_2 a0_0 a0_1 a0_2 a0_3 a0_4 a0_5 a0_6 a0_7 a0_8 l0_9 l0_10 a0_11 a0_12 a1_0 a1_1 a1_2 a1_3 a1_4 a1_5 a1_6 a1_7 a1_8 l1_9 l1_10 a1_11 a1_12 = some r) ∧ Aside0 (kq ≤ k) ∧ Aside0 (wc.heap[gb143]? = some (.cells #[.int .i64 a0_0, .int .i64 a0_1, .int .i64 a0_2, .int .i64 a0_3, .int .i64 a0_4, .string a0_5, .string a0_6, .string a0_7, .int .i64 a0_8, (.slice A0_9 l0_9.length c0_9), (.slice A0_10 l0_10.length c0_10), .int .i64 a0_11, .int .i64 a0_12] 25 (0, 0))) ∧ Aside0 (wc.heap[gb144]? = some (.cells #[.int .i64 a1_0, .int .i64 a1_1, .int .i64 a1_2, .int .i64 a1_3, .int .i64 a1_4, .string a1_5, .string a1_6, .string a1_7, .int .i64 a1_8, (.slice A1_9 l1_9.length c1_9), (.slice A1_10 l1_10.length c1_10), .int .i64 a1_11, .int .i64 a1_12] 25 (0, 0))) ∧ Aside0 (Below w.heap.size w wc))
  case first =>
    have H := HC3.out
    clear HC3
    by_cases c6 : a0_0 = a1_0
    · rw [if_pos c6] at H
      have c6b0 : (a0_0 == a1_0) = true := beq_iff_eq.mpr c6
      have c6b1 : (a0_0 != a1_0) = false := bne_eq_false_iff_eq.mpr c6
      clear c6
      (first | rw [c6b0] | (simp only [i64_w, i32_w]; rw [c6b0]) | skip)
      by_cases c7 : a0_1 = a1_1
      · rw [if_pos c7] at H
        have c7b0 : (a0_1 == a1_1) = true := beq_iff_eq.mpr c7
        have c7b1 : (a0_1 != a1_1) = false := bne_eq_false_iff_eq.mpr c7
        clear c7
        by_cases c8 : a0_2 = a1_2
        · rw [if_pos c8] at H
          have c8b0 : (a0_2 == a1_2) = true := beq_iff_eq.mpr c8
          have c8b1 : (a0_2 != a1_2) = false := bne_eq_false_iff_eq.mpr c8
          clear c8
          by_cases c9 : a0_3 = a1_3
          · rw [if_pos c9] at H
            have c9b0 : (a0_3 == a1_3) = true := beq_iff_eq.mpr c9
            have c9b1 : (a0_3 != a1_3) = false := bne_eq_false_iff_eq.mpr c9
            clear c9
            by_cases c10 : a0_4 = a1_4
            · rw [if_pos c10] at H
              have c10b0 : (a0_4 == a1_4) = true := beq_iff_eq.mpr c10
              have c10b1 : (a0_4 != a1_4) = false := bne_eq_false_iff_eq.mpr c10
              clear c10
              by_cases c11 : a0_5.toList = a1_5.toList
              · rw [if_pos c11] at H
                have c11b0 : (a0_5.toList == a1_5.toList) = true := beq_iff_eq.mpr c11
                have c11b1 : (a0_5.toList != a1_5.toList) = false := bne_eq_false_iff_eq.mpr c11
                clear c11
                by_cases c12 : a0_6.toList = a1_6.toList
                · rw [if_pos c12] at H
                  have c12b0 : (a0_6.toList == a1_6.toList) = true := beq_iff_eq.mpr c12
                  have c12b1 : (a0_6.toList != a1_6.toList) = false := bne_eq_false_iff_eq.mpr c12
                  clear c12
                  by_cases c13 : a0_7.toList = a1_7.toList
                  · rw [if_pos c13] at H
                    have c13b0 : (a0_7.toList == a1_7.toList) = true := beq_iff_eq.mpr c13
                    have c13b1 : (a0_7.toList != a1_7.toList) = false := bne_eq_false_iff_eq.mpr c13
                    clear c13
                    by_cases c14 : a0_8 = a1_8
                    · rw [if_pos c14] at H
                      have c14b0 : (a0_8 == a1_8) = true := beq_iff_eq.mpr c14
                      have c14b1 : (a0_8 != a1_8) = false := bne_eq_false_iff_eq.mpr c14
                      clear c14
                      by_cases c15 : a0_11 = a1_11
                      · rw [if_pos c15] at H
                        have c15b0 : (a0_11 == a1_11) = true := beq_iff_eq.mpr c15
                        have c15b1 : (a0_11 != a1_11) = false := bne_eq_false_iff_eq.mpr c15
                        clear c15
                        have H' := Aside0.mk H
                        clear H
                        have hnb16 := NB143_144.out
                        have hnc16 := NB144_143.out
                        have hcz17_0 : w5.cell? ⟨gb143, 0, none⟩ = some (.int .i64 a0_0) := (blk_cell BK143.out 0).trans rfl
                        have hcz17_1 : w5.cell? ⟨gb143, 1, none⟩ = some (.int .i64 a0_1) := (blk_cell BK143.out 1).trans rfl
                        have hcz17_2 : w5.cell? ⟨gb143, 2, none⟩ = some (.int .i64 a0_2) := (blk_cell BK143.out 2).trans rfl
                        have hcz17_3 : w5.cell? ⟨gb143, 3, none⟩ = some (.int .i64 a0_3) := (blk_cell BK143.out 3).trans rfl
                        have hcz17_4 : w5.cell? ⟨gb143, 4, none⟩ = some (.int .i64 a0_4) := (blk_cell BK143.out 4).trans rfl
                        have hcz17_5 : w5.cell? ⟨gb143, 5, none⟩ = some (.string a0_5) := (blk_cell BK143.out 5).trans rfl
                        have hcz17_6 : w5.cell? ⟨gb143, 6, none⟩ = some (.string a0_6) := (blk_cell BK143.out 6).trans rfl
                        have hcz17_7 : w5.cell? ⟨gb143, 7, none⟩ = some (.string a0_7) := (blk_cell BK143.out 7).trans rfl
                        have hcz17_8 : w5.cell? ⟨gb143, 8, none⟩ = some (.int .i64 a0_8) := (blk_cell BK143.out 8).trans rfl
                        have hcz17_9 : w5.cell? ⟨gb143, 9, none⟩ = some (.slice A0_9 l0_9.length c0_9) := (blk_cell BK143.out 9).trans rfl
                        have hcz17_10 : w5.cell? ⟨gb143, 10, none⟩ = some (.slice A0_10 l0_10.length c0_10) := (blk_cell BK143.out 10).trans rfl
                        have hcz17_11 : w5.cell? ⟨gb143, 11, none⟩ = some (.int .i64 a0_11) := (blk_cell BK143.out 11).trans rfl
                        have hcz17_12 : w5.cell? ⟨gb143, 12, none⟩ = some (.int .i64 a0_12) := (blk_cell BK143.out 12).trans rfl
                        have hfz17_0 := blk_frozen BK143.out 0
                        have hfz17_1 := blk_frozen BK143.out 1
                        have hfz17_2 := blk_frozen BK143.out 2
                        have hfz17_3 := blk_frozen BK143.out 3
                        have hfz17_4 := blk_frozen BK143.out 4
                        have hfz17_5 := blk_frozen BK143.out 5
                        have hfz17_6 := blk_frozen BK143.out 6
                        have hfz17_7 := blk_frozen BK143.out 7
                        have hfz17_8 := blk_frozen BK143.out 8
                        have hfz17_9 := blk_frozen BK143.out 9
                        have hfz17_10 := blk_frozen BK143.out 10
                        have hfz17_11 := blk_frozen BK143.out 11
                        have hfz17_12 := blk_frozen BK143.out 12
                        have hcz18_0 : w5.cell? ⟨gb144, 0, none⟩ = some (.int .i64 a1_0) := (blk_cell BK144.out 0).trans rfl
                        have hcz18_1 : w5.cell? ⟨gb144, 1, none⟩ = some (.int .i64 a1_1) := (blk_cell BK144.out 1).trans rfl
                        have hcz18_2 : w5.cell? ⟨gb144, 2, none⟩ = some (.int .i64 a1_2) := (blk_cell BK144.out 2).trans rfl
                        have hcz18_3 : w5.cell? ⟨gb144, 3, none⟩ = some (.int .i64 a1_3) := (blk_cell BK144.out 3).trans rfl
                        have hcz18_4 : w5.cell? ⟨gb144, 4, none⟩ = some (.int .i64 a1_4) := (blk_cell BK144.out 4).trans rfl
                        have hcz18_5 : w5.cell? ⟨gb144, 5, none⟩ = some (.string a1_5) := (blk_cell BK144.out 5).trans rfl
                        have hcz18_6 : w5.cell? ⟨gb144, 6, none⟩ = some (.string a1_6) := (blk_cell BK144.out 6).trans rfl
                        have hcz18_7 : w5.cell? ⟨gb144, 7, none⟩ = some (.string a1_7) := (blk_cell BK144.out 7).trans rfl
                        have hcz18_8 : w5.cell? ⟨gb144, 8, none⟩ = some (.int .i64 a1_8) := (blk_cell BK144.out 8).trans rfl
                        have hcz18_9 : w5.cell? ⟨gb144, 9, none⟩ = some (.slice A1_9 l1_9.length c1_9) := (blk_cell BK144.out 9).trans rfl
                        have hcz18_10 : w5.cell? ⟨gb144, 10, none⟩ = some (.slice A1_10 l1_10.length c1_10) := (blk_cell BK144.out 10).trans rfl
                        have hcz18_11 : w5.cell? ⟨gb144, 11, none⟩ = some (.int .i64 a1_11) := (blk_cell BK144.out 11).trans rfl
                        have hcz18_12 : w5.cell? ⟨gb144, 12, none⟩ = some (.int .i64 a1_12) := (blk_cell BK144.out 12).trans rfl
                        have hfz18_0 := blk_frozen BK144.out 0
                        have hfz18_1 := blk_frozen BK144.out 1
                        have hfz18_2 := blk_frozen BK144.out 2
                        have hfz18_3 := blk_frozen BK144.out 3
                        have hfz18_4 := blk_frozen BK144.out 4
                        have hfz18_5 := blk_frozen BK144.out 5
                        have hfz18_6 := blk_frozen BK144.out 6
                        have hfz18_7 := blk_frozen BK144.out 7
                        have hfz18_8 := blk_frozen BK144.out 8
                        have hfz18_9 := blk_frozen BK144.out 9
                        have hfz18_10 := blk_frozen BK144.out 10
                        have hfz18_11 := blk_frozen BK144.out 11
                        have hfz18_12 := blk_frozen BK144.out 12
                        go_wp2
                        repeat (go_quiet (fail); try go_wp2)
                        go_meet
                        case rel => exact ⟨_, ((a0_12 != a1_12)), (by first | rfl | (simp; done) | (simp [*]; done)), H', ⟨by first | omega | exact Nat.le_refl _⟩, ⟨by (with_reducible repeat (first | refine blk_drewN ?_ _ | refine blk_drew ?_ | refine blk_alloc ?_ _)); exact BK143.out⟩, ⟨by (with_reducible repeat (first | refine blk_drewN ?_ _ | refine blk_drew ?_ | refine blk_alloc ?_ _)); exact BK144.out⟩, ⟨by repeat (first | (with_reducible first | exact HB.out | apply below_alloc | apply pw_below_drewN | apply below_drew1 | refine below_set ?_ GE143.out | refine below_set ?_ GE144.out) | exact HB.out)⟩⟩
                      · rw [if_neg c15] at H
                        have c15b0 : (a0_11 == a1_11) = false := beq_eq_false_iff_ne.mpr c15
                        have c15b1 : (a0_11 != a1_11) = true := bne_iff_ne.mpr c15
                        have H' := Aside0.mk H
                        clear H
                        have hnb19 := NB143_144.out
                        have hnc19 := NB144_143.out
                        have hcz20_0 : w5.cell? ⟨gb143, 0, none⟩ = some (.int .i64 a0_0) := (blk_cell BK143.out 0).trans rfl
                        have hcz20_1 : w5.cell? ⟨gb143, 1, none⟩ = some (.int .i64 a0_1) := (blk_cell BK143.out 1).trans rfl
                        have hcz20_2 : w5.cell? ⟨gb143, 2, none⟩ = some (.int .i64 a0_2) := (blk_cell BK143.out 2).trans rfl
                        have hcz20_3 : w5.cell? ⟨gb143, 3, none⟩ = some (.int .i64 a0_3) := (blk_cell BK143.out 3).trans rfl
                        have hcz20_4 : w5.cell? ⟨gb143, 4, none⟩ = some (.int .i64 a0_4) := (blk_cell BK143.out 4).trans rfl
                        have hcz20_5 : w5.cell? ⟨gb143, 5, none⟩ = some (.string a0_5) := (blk_cell BK143.out 5).trans rfl
                        have hcz20_6 : w5.cell? ⟨gb143, 6, none⟩ = some (.string a0_6) := (blk_cell BK143.out 6).trans rfl
                        have hcz20_7 : w5.cell? ⟨gb143, 7, none⟩ = some (.string a0_7) := (blk_cell BK143.out 7).trans rfl
                        have hcz20_8 : w5.cell? ⟨gb143, 8, none⟩ = some (.int .i64 a0_8) := (blk_cell BK143.out 8).trans rfl
                        have hcz20_9 : w5.cell? ⟨gb143, 9, none⟩ = some (.slice A0_9 l0_9.length c0_9) := (blk_cell BK143.out 9).trans rfl
                        have hcz20_10 : w5.cell? ⟨gb143, 10, none⟩ = some (.slice A0_10 l0_10.length c0_10) := (blk_cell BK143.out 10).trans rfl
                        have hcz20_11 : w5.cell? ⟨gb143, 11, none⟩ = some (.int .i64 a0_11) := (blk_cell BK143.out 11).trans rfl
                        have hcz20_12 : w5.cell? ⟨gb143, 12, none⟩ = some (.int .i64 a0_12) := (blk_cell BK143.out 12).trans rfl
                        have hfz20_0 := blk_frozen BK143.out 0
                        have hfz20_1 := blk_frozen BK143.out 1
                        have hfz20_2 := blk_frozen BK143.out 2
                        have hfz20_3 := blk_frozen BK143.out 3
                        have hfz20_4 := blk_frozen BK143.out 4
                        have hfz20_5 := blk_frozen BK143.out 5
                        have hfz20_6 := blk_frozen BK143.out 6
                        have hfz20_7 := blk_frozen BK143.out 7
                        have hfz20_8 := blk_frozen BK143.out 8
                        have hfz20_9 := blk_frozen BK143.out 9
                        have hfz20_10 := blk_frozen BK143.out 10
                        have hfz20_11 := blk_frozen BK143.out 11
                        have hfz20_12 := blk_frozen BK143.out 12
                        have hcz21_0 : w5.cell? ⟨gb144, 0, none⟩ = some (.int .i64 a1_0) := (blk_cell BK144.out 0).trans rfl
                        have hcz21_1 : w5.cell? ⟨gb144, 1, none⟩ = some (.int .i64 a1_1) := (blk_cell BK144.out 1).trans rfl
                        have hcz21_2 : w5.cell? ⟨gb144, 2, none⟩ = some (.int .i64 a1_2) := (blk_cell BK144.out 2).trans rfl
                        have hcz21_3 : w5.cell? ⟨gb144, 3, none⟩ = some (.int .i64 a1_3) := (blk_cell BK144.out 3).trans rfl
                        have hcz21_4 : w5.cell? ⟨gb144, 4, none⟩ = some (.int .i64 a1_4) := (blk_cell BK144.out 4).trans rfl
                        have hcz21_5 : w5.cell? ⟨gb144, 5, none⟩ = some (.string a1_5) := (blk_cell BK144.out 5).trans rfl
                        have hcz21_6 : w5.cell? ⟨gb144, 6, none⟩ = some (.string a1_6) := (blk_cell BK144.out 6).trans rfl
                        have hcz21_7 : w5.cell? ⟨gb144, 7, none⟩ = some (.string a1_7) := (blk_cell BK144.out 7).trans rfl
                        have hcz21_8 : w5.cell? ⟨gb144, 8, none⟩ = some (.int .i64 a1_8) := (blk_cell BK144.out 8).trans rfl
                        have hcz21_9 : w5.cell? ⟨gb144, 9, none⟩ = some (.slice A1_9 l1_9.length c1_9) := (blk_cell BK144.out 9).trans rfl
                        have hcz21_10 : w5.cell? ⟨gb144, 10, none⟩ = some (.slice A1_10 l1_10.length c1_10) := (blk_cell BK144.out 10).trans rfl
                        have hcz21_11 : w5.cell? ⟨gb144, 11, none⟩ = some (.int .i64 a1_11) := (blk_cell BK144.out 11).trans rfl
                        have hcz21_12 : w5.cell? ⟨gb144, 12, none⟩ = some (.int .i64 a1_12) := (blk_cell BK144.out 12).trans rfl
                        have hfz21_0 := blk_frozen BK144.out 0
                        have hfz21_1 := blk_frozen BK144.out 1
                        have hfz21_2 := blk_frozen BK144.out 2
                        have hfz21_3 := blk_frozen BK144.out 3
                        have hfz21_4 := blk_frozen BK144.out 4
                        have hfz21_5 := blk_frozen BK144.out 5
                        have hfz21_6 := blk_frozen BK144.out 6
                        have hfz21_7 := blk_frozen BK144.out 7
                        have hfz21_8 := blk_frozen BK144.out 8
                        have hfz21_9 := blk_frozen BK144.out 9
                        have hfz21_10 := blk_frozen BK144.out 10
                        have hfz21_11 := blk_frozen BK144.out 11
                        have hfz21_12 := blk_frozen BK144.out 12
                        go_wp2
                        repeat (go_quiet (fail); try go_wp2)
                        go_meet
                        case rel => exact ⟨_, (true), (by first | rfl | (simp; done) | (simp [*]; done)), H', ⟨by first | omega | exact Nat.le_refl _⟩, ⟨by (with_reducible repeat (first | refine blk_drewN ?_ _ | refine blk_drew ?_ | refine blk_alloc ?_ _)); exact BK143.out⟩, ⟨by (with_reducible repeat (first | refine blk_drewN ?_ _ | refine blk_drew ?_ | refine blk_alloc ?_ _)); exact BK144.out⟩, ⟨by repeat (first | (with_reducible first | exact HB.out | apply below_alloc | apply pw_below_drewN | apply below_drew1 | refine below_set ?_ GE143.out | refine below_set ?_ GE144.out) | exact HB.out)⟩⟩
                    · rw [if_neg c14] at H
                      have c14b0 : (a0_8 == a1_8) = false := beq_eq_false_iff_ne.mpr c14
                      have c14b1 : (a0_8 != a1_8) = true := bne_iff_ne.mpr c14
                      have H' := Aside0.mk H
                      clear H
                      have hnb22 := NB143_144.out
                      have hnc22 := NB144_143.out
                      have hcz23_0 : w5.cell? ⟨gb143, 0, none⟩ = some (.int .i64 a0_0) := (blk_cell BK143.out 0).trans rfl
                      have hcz23_1 : w5.cell? ⟨gb143, 1, none⟩ = some (.int .i64 a0_1) := (blk_cell BK143.out 1).trans rfl
                      have hcz23_2 : w5.cell? ⟨gb143, 2, none⟩ = some (.int .i64 a0_2) := (blk_cell BK143.out 2).trans rfl
                      have hcz23_3 : w5.cell? ⟨gb143, 3, none⟩ = some (.int .i64 a0_3) := (blk_cell BK143.out 3).trans rfl
                      have hcz23_4 : w5.cell? ⟨gb143, 4, none⟩ = some (.int .i64 a0_4) := (blk_cell BK143.out 4).trans rfl
                      have hcz23_5 : w5.cell? ⟨gb143, 5, none⟩ = some (.string a0_5) := (blk_cell BK143.out 5).trans rfl
                      have hcz23_6 : w5.cell? ⟨gb143, 6, none⟩ = some (.string a0_6) := (blk_cell BK143.out 6).trans rfl
                      have hcz23_7 : w5.cell? ⟨gb143, 7, none⟩ = some (.string a0_7) := (blk_cell BK143.out 7).trans rfl
                      have hcz23_8 : w5.cell? ⟨gb143, 8, none⟩ = some (.int .i64 a0_8) := (blk_cell BK143.out 8).trans rfl
                      have hcz23_9 : w5.cell? ⟨gb143, 9, none⟩ = some (.slice A0_9 l0_9.length c0_9) := (blk_cell BK143.out 9).trans rfl
                      have hcz23_10 : w5.cell? ⟨gb143, 10, none⟩ = some (.slice A0_10 l0_10.length c0_10) := (blk_cell BK143.out 10).trans rfl
                      have hcz23_11 : w5.cell? ⟨gb143, 11, none⟩ = some (.int .i64 a0_11) := (blk_cell BK143.out 11).trans rfl
                      have hcz23_12 : w5.cell? ⟨gb143, 12, none⟩ = some (.int .i64 a0_12) := (blk_cell BK143.out 12).trans rfl
                      have hfz23_0 := blk_frozen BK143.out 0
                      have hfz23_1 := blk_frozen BK143.out 1
                      have hfz23_2 := blk_frozen BK143.out 2
                      have hfz23_3 := blk_frozen BK143.out 3
                      have hfz23_4 := blk_frozen BK143.out 4
                      have hfz23_5 := blk_frozen BK143.out 5
                      have hfz23_6 := blk_frozen BK143.out 6
                      have hfz23_7 := blk_frozen BK143.out 7
                      have hfz23_8 := blk_frozen BK143.out 8
                      have hfz23_9 := blk_frozen BK143.out 9
                      have hfz23_10 := blk_frozen BK143.out 10
                      have hfz23_11 := blk_frozen BK143.out 11
                      have hfz23_12 := blk_frozen BK143.out 12
                      have hcz24_0 : w5.cell? ⟨gb144, 0, none⟩ = some (.int .i64 a1_0) := (blk_cell BK144.out 0).trans rfl
                      have hcz24_1 : w5.cell? ⟨gb144, 1, none⟩ = some (.int .i64 a1_1) := (blk_cell BK144.out 1).trans rfl
                      have hcz24_2 : w5.cell? ⟨gb144, 2, none⟩ = some (.int .i64 a1_2) := (blk_cell BK144.out 2).trans rfl
                      have hcz24_3 : w5.cell? ⟨gb144, 3, none⟩ = some (.int .i64 a1_3) := (blk_cell BK144.out 3).trans rfl
                      have hcz24_4 : w5.cell? ⟨gb144, 4, none⟩ = some (.int .i64 a1_4) := (blk_cell BK144.out 4).trans rfl
                      have hcz24_5 : w5.cell? ⟨gb144, 5, none⟩ = some (.string a1_5) := (blk_cell BK144.out 5).trans rfl
                      have hcz24_6 : w5.cell? ⟨gb144, 6, none⟩ = some (.string a1_6) := (blk_cell BK144.out 6).trans rfl
                      have hcz24_7 : w5.cell? ⟨gb144, 7, none⟩ = some (.string a1_7) := (blk_cell BK144.out 7).trans rfl
                      have hcz24_8 : w5.cell? ⟨gb144, 8, none⟩ = some (.int .i64 a1_8) := (blk_cell BK144.out 8).trans rfl
                      have hcz24_9 : w5.cell? ⟨gb144, 9, none⟩ = some (.slice A1_9 l1_9.length c1_9) := (blk_cell BK144.out 9).trans rfl
                      have hcz24_10 : w5.cell? ⟨gb144, 10, none⟩ = some (.slice A1_10 l1_10.length c1_10) := (blk_cell BK144.out 10).trans rfl
                      have hcz24_11 : w5.cell? ⟨gb144, 11, none⟩ = some (.int .i64 a1_11) := (blk_cell BK144.out 11).trans rfl
                      have hcz24_12 : w5.cell? ⟨gb144, 12, none⟩ = some (.int .i64 a1_12) := (blk_cell BK144.out 12).trans rfl
                      have hfz24_0 := blk_frozen BK144.out 0
                      have hfz24_1 := blk_frozen BK144.out 1
                      have hfz24_2 := blk_frozen BK144.out 2
                      have hfz24_3 := blk_frozen BK144.out 3
                      have hfz24_4 := blk_frozen BK144.out 4
                      have hfz24_5 := blk_frozen BK144.out 5
                      have hfz24_6 := blk_frozen BK144.out 6
                      have hfz24_7 := blk_frozen BK144.out 7
                      have hfz24_8 := blk_frozen BK144.out 8
                      have hfz24_9 := blk_frozen BK144.out 9
                      have hfz24_10 := blk_frozen BK144.out 10
                      have hfz24_11 := blk_frozen BK144.out 11
                      have hfz24_12 := blk_frozen BK144.out 12
                      go_wp2
                      repeat (go_quiet (fail); try go_wp2)
                      go_meet
                      case rel => exact ⟨_, (true), (by first | rfl | (simp; done) | (simp [*]; done)), H', ⟨by first | omega | exact Nat.le_refl _⟩, ⟨by (with_reducible repeat (first | refine blk_drewN ?_ _ | refine blk_drew ?_ | refine blk_alloc ?_ _)); exact BK143.out⟩, ⟨by (with_reducible repeat (first | refine blk_drewN ?_ _ | refine blk_drew ?_ | refine blk_alloc ?_ _)); exact BK144.out⟩, ⟨by repeat (first | (with_reducible first | exact HB.out | apply below_alloc | apply pw_below_drewN | apply below_drew1 | refine below_set ?_ GE143.out | refine below_set ?_ GE144.out) | exact HB.out)⟩⟩
                  · rw [if_neg c13] at H
                    have c13b0 : (a0_7.toList == a1_7.toList) = false := beq_eq_false_iff_ne.mpr c13
                    have c13b1 : (a0_7.toList != a1_7.toList) = true := bne_iff_ne.mpr c13
                    have H' := Aside0.mk H
                    clear H
                    have hnb25 := NB143_144.out
                    have hnc25 := NB144_143.out
                    have hcz26_0 : w5.cell? ⟨gb143, 0, none⟩ = some (.int .i64 a0_0) := (blk_cell BK143.out 0).trans rfl
                    have hcz26_1 : w5.cell? ⟨gb143, 1, none⟩ = some (.int .i64 a0_1) := (blk_cell BK143.out 1).trans rfl
                    have hcz26_2 : w5.cell? ⟨gb143, 2, none⟩ = some (.int .i64 a0_2) := (blk_cell BK143.out 2).trans rfl
                    have hcz26_3 : w5.cell? ⟨gb143, 3, none⟩ = some (.int .i64 a0_3) := (blk_cell BK143.out 3).trans rfl
                    have hcz26_4 : w5.cell? ⟨gb143, 4, none⟩ = some (.int .i64 a0_4) := (blk_cell BK143.out 4).trans rfl
                    have hcz26_5 : w5.cell? ⟨gb143, 5, none⟩ = some (.string a0_5) := (blk_cell BK143.out 5).trans rfl
                    have hcz26_6 : w5.cell? ⟨gb143, 6, none⟩ = some (.string a0_6) := (blk_cell BK143.out 6).trans rfl
                    have hcz26_7 : w5.cell? ⟨gb143, 7, none⟩ = some (.string a0_7) := (blk_cell BK143.out 7).trans rfl
                    have hcz26_8 : w5.cell? ⟨gb143, 8, none⟩ = some (.int .i64 a0_8) := (blk_cell BK143.out 8).trans rfl
                    have hcz26_9 : w5.cell? ⟨gb143, 9, none⟩ = some (.slice A0_9 l0_9.length c0_9) := (blk_cell BK143.out 9).trans rfl
                    have hcz26_10 : w5.cell? ⟨gb143, 10, none⟩ = some (.slice A0_10 l0_10.length c0_10) := (blk_cell BK143.out 10).trans rfl
                    have hcz26_11 : w5.cell? ⟨gb143, 11, none⟩ = some (.int .i64 a0_11) := (blk_cell BK143.out 11).trans rfl
                    have hcz26_12 : w5.cell? ⟨gb143, 12, none⟩ = some (.int .i64 a0_12) := (blk_cell BK143.out 12).trans rfl
                    have hfz26_0 := blk_frozen BK143.out 0
                    have hfz26_1 := blk_frozen BK143.out 1
                    have hfz26_2 := blk_frozen BK143.out 2
                    have hfz26_3 := blk_frozen BK143.out 3
                    have hfz26_4 := blk_frozen BK143.out 4
                    have hfz26_5 := blk_frozen BK143.out 5
                    have hfz26_6 := blk_frozen BK143.out 6
                    have hfz26_7 := blk_frozen BK143.out 7
                    have hfz26_8 := blk_frozen BK143.out 8
                    have hfz26_9 := blk_frozen BK143.out 9
                    have hfz26_10 := blk_frozen BK143.out 10
                    have hfz26_11 := blk_frozen BK143.out 11
                    have hfz26_12 := blk_frozen BK143.out 12
                    have hcz27_0 : w5.cell? ⟨gb144, 0, none⟩ = some (.int .i64 a1_0) := (blk_cell BK144.out 0).trans rfl
                    have hcz27_1 : w5.cell? ⟨gb144, 1, none⟩ = some (.int .i64 a1_1) := (blk_cell BK144.out 1).trans rfl
                    have hcz27_2 : w5.cell? ⟨gb144, 2, none⟩ = some (.int .i64 a1_2) := (blk_cell BK144.out 2).trans rfl
                    have hcz27_3 : w5.cell? ⟨gb144, 3, none⟩ = some (.int .i64 a1_3) := (blk_cell BK144.out 3).trans rfl
                    have hcz27_4 : w5.cell? ⟨gb144, 4, none⟩ = some (.int .i64 a1_4) := (blk_cell BK144.out 4).trans rfl
                    have hcz27_5 : w5.cell? ⟨gb144, 5, none⟩ = some (.string a1_5) := (blk_cell BK144.out 5).trans rfl
                    have hcz27_6 : w5.cell? ⟨gb144, 6, none⟩ = some (.string a1_6) := (blk_cell BK144.out 6).trans rfl
                    have hcz27_7 : w5.cell? ⟨gb144, 7, none⟩ = some (.string a1_7) := (blk_cell BK144.out 7).trans rfl
                    have hcz27_8 : w5.cell? ⟨gb144, 8, none⟩ = some (.int .i64 a1_8) := (blk_cell BK144.out 8).trans rfl
                    have hcz27_9 : w5.cell? ⟨gb144, 9, none⟩ = some (.slice A1_9 l1_9.length c1_9) := (blk_cell BK144.out 9).trans rfl
                    have hcz27_10 : w5.cell? ⟨gb144, 10, none⟩ = some (.slice A1_10 l1_10.length c1_10) := (blk_cell BK144.out 10).trans rfl
                    have hcz27_11 : w5.cell? ⟨gb144, 11, none⟩ = some (.int .i64 a1_11) := (blk_cell BK144.out 11).trans rfl
                    have hcz27_12 : w5.cell? ⟨gb144, 12, none⟩ = some (.int .i64 a1_12) := (blk_cell BK144.out 12).trans rfl
                    have hfz27_0 := blk_frozen BK144.out 0
                    have hfz27_1 := blk_frozen BK144.out 1
                    have hfz27_2 := blk_frozen BK144.out 2
                    have hfz27_3 := blk_frozen BK144.out 3
                    have hfz27_4 := blk_frozen BK144.out 4
                    have hfz27_5 := blk_frozen BK144.out 5
                    have hfz27_6 := blk_frozen BK144.out 6
                    have hfz27_7 := blk_frozen BK144.out 7
                    have hfz27_8 := blk_frozen BK144.out 8
                    have hfz27_9 := blk_frozen BK144.out 9
                    have hfz27_10 := blk_frozen BK144.out 10
                    have hfz27_11 := blk_frozen BK144.out 11
                    have hfz27_12 := blk_frozen BK144.out 12
                    go_wp2
                    repeat (go_quiet (fail); try go_wp2)
                    go_meet
                    case rel => exact ⟨_, (true), (by first | rfl | (simp; done) | (simp [*]; done)), H', ⟨by first | omega | exact Nat.le_refl _⟩, ⟨by (with_reducible repeat (first | refine blk_drewN ?_ _ | refine blk_drew ?_ | refine blk_alloc ?_ _)); exact BK143.out⟩, ⟨by (with_reducible repeat (first | refine blk_drewN ?_ _ | refine blk_drew ?_ | refine blk_alloc ?_ _)); exact BK144.out⟩, ⟨by repeat (first | (with_reducible first | exact HB.out | apply below_alloc | apply pw_below_drewN | apply below_drew1 | refine below_set ?_ GE143.out | refine below_set ?_ GE144.out) | exact HB.out)⟩⟩
                · rw [if_neg c12] at H
                  have c12b0 : (a0_6.toList == a1_6.toList) = false := beq_eq_false_iff_ne.mpr c12
                  have c12b1 : (a0_6.toList != a1_6.toList) = true := bne_iff_ne.mpr c12
                  have H' := Aside0.mk H
                  clear H
                  have hnb28 := NB143_144.out
                  have hnc28 := NB144_143.out
                  have hcz29_0 : w5.cell? ⟨gb143, 0, none⟩ = some (.int .i64 a0_0) := (blk_cell BK143.out 0).trans rfl
                  have hcz29_1 : w5.cell? ⟨gb143, 1, none⟩ = some (.int .i64 a0_1) := (blk_cell BK143.out 1).trans rfl
                  have hcz29_2 : w5.cell? ⟨gb143, 2, none⟩ = some (.int .i64 a0_2) := (blk_cell BK143.out 2).trans rfl
                  have hcz29_3 : w5.cell? ⟨gb143, 3, none⟩ = some (.int .i64 a0_3) := (blk_cell BK143.out 3).trans rfl
                  have hcz29_4 : w5.cell? ⟨gb143, 4, none⟩ = some (.int .i64 a0_4) := (blk_cell BK143.out 4).trans rfl
                  have hcz29_5 : w5.cell? ⟨gb143, 5, none⟩ = some (.string a0_5) := (blk_cell BK143.out 5).trans rfl
                  have hcz29_6 : w5.cell? ⟨gb143, 6, none⟩ = some (.string a0_6) := (blk_cell BK143.out 6).trans rfl
                  have hcz29_7 : w5.cell? ⟨gb143, 7, none⟩ = some (.string a0_7) := (blk_cell BK143.out 7).trans rfl
                  have hcz29_8 : w5.cell? ⟨gb143, 8, none⟩ = some (.int .i64 a0_8) := (blk_cell BK143.out 8).trans rfl
                  have hcz29_9 : w5.cell? ⟨gb143, 9, none⟩ = some (.slice A0_9 l0_9.length c0_9) := (blk_cell BK143.out 9).trans rfl
                  have hcz29_10 : w5.cell? ⟨gb143, 10, none⟩ = some (.slice A0_10 l0_10.length c0_10) := (blk_cell BK143.out 10).trans rfl
                  have hcz29_11 : w5.cell? ⟨gb143, 11, none⟩ = some (.int .i64 a0_11) := (blk_cell BK143.out 11).trans rfl
                  have hcz29_12 : w5.cell? ⟨gb143, 12, none⟩ = some (.int .i64 a0_12) := (blk_cell BK143.out 12).trans rfl
                  have hfz29_0 := blk_frozen BK143.out 0
                  have hfz29_1 := blk_frozen BK143.out 1
                  have hfz29_2 := blk_frozen BK143.out 2
                  have hfz29_3 := blk_frozen BK143.out 3
                  have hfz29_4 := blk_frozen BK143.out 4
                  have hfz29_5 := blk_frozen BK143.out 5
                  have hfz29_6 := blk_frozen BK143.out 6
                  have hfz29_7 := blk_frozen BK143.out 7
                  have hfz29_8 := blk_frozen BK143.out 8
                  have hfz29_9 := blk_frozen BK143.out 9
                  have hfz29_10 := blk_frozen BK143.out 10
                  have hfz29_11 := blk_frozen BK143.out 11
                  have hfz29_12 := blk_frozen BK143.out 12
                  have hcz30_0 : w5.cell? ⟨gb144, 0, none⟩ = some (.int .i64 a1_0) := (blk_cell BK144.out 0).trans rfl
                  have hcz30_1 : w5.cell? ⟨gb144, 1, none⟩ = some (.int .i64 a1_1) := (blk_cell BK144.out 1).trans rfl
                  have hcz30_2 : w5.cell? ⟨gb144, 2, none⟩ = some (.int .i64 a1_2) := (blk_cell BK144.out 2).trans rfl
                  have hcz30_3 : w5.cell? ⟨gb144, 3, none⟩ = some (.int .i64 a1_3) := (blk_cell BK144.out 3).trans rfl
                  have hcz30_4 : w5.cell? ⟨gb144, 4, none⟩ = some (.int .i64 a1_4) := (blk_cell BK144.out 4).trans rfl
                  have hcz30_5 : w5.cell? ⟨gb144, 5, none⟩ = some (.string a1_5) := (blk_cell BK144.out 5).trans rfl
                  have hcz30_6 : w5.cell? ⟨gb144, 6, none⟩ = some (.string a1_6) := (blk_cell BK144.out 6).trans rfl
                  have hcz30_7 : w5.cell? ⟨gb144, 7, none⟩ = some (.string a1_7) := (blk_cell BK144.out 7).trans rfl
                  have hcz30_8 : w5.cell? ⟨gb144, 8, none⟩ = some (.int .i64 a1_8) := (blk_cell BK144.out 8).trans rfl
                  have hcz30_9 : w5.cell? ⟨gb144, 9, none⟩ = some (.slice A1_9 l1_9.length c1_9) := (blk_cell BK144.out 9).trans rfl
                  have hcz30_10 : w5.cell? ⟨gb144, 10, none⟩ = some (.slice A1_10 l1_10.length c1_10) := (blk_cell BK144.out 10).trans rfl
                  have hcz30_11 : w5.cell? ⟨gb144, 11, none⟩ = some (.int .i64 a1_11) := (blk_cell BK144.out 11).trans rfl
                  have hcz30_12 : w5.cell? ⟨gb144, 12, none⟩ = some (.int .i64 a1_12) := (blk_cell BK144.out 12).trans rfl
                  have hfz30_0 := blk_frozen BK144.out 0
                  have hfz30_1 := blk_frozen BK144.out 1
                  have hfz30_2 := blk_frozen BK144.out 2
                  have hfz30_3 := blk_frozen BK144.out 3
                  have hfz30_4 := blk_frozen BK144.out 4
                  have hfz30_5 := blk_frozen BK144.out 5
                  have hfz30_6 := blk_frozen BK144.out 6
                  have hfz30_7 := blk_frozen BK144.out 7
                  have hfz30_8 := blk_frozen BK144.out 8
                  have hfz30_9 := blk_frozen BK144.out 9
                  have hfz30_10 := blk_frozen BK144.out 10
                  have hfz30_11 := blk_frozen BK144.out 11
                  have hfz30_12 := blk_frozen BK144.out 12
                  go_wp2
                  repeat (go_quiet (fail); try go_wp2)
                  go_meet
                  case rel => exact ⟨_, (true), (by first | rfl | (simp; done) | (simp [*]; done)), H', ⟨by first | omega | exact Nat.le_refl _⟩, ⟨by (with_reducible repeat (first | refine blk_drewN ?_ _ | refine blk_drew ?_ | refine blk_alloc ?_ _)); exact BK143.out⟩, ⟨by (with_reducible repeat (first | refine blk_drewN ?_ _ | refine blk_drew ?_ | refine blk_alloc ?_ _)); exact BK144.out⟩, ⟨by repeat (first | (with_reducible first | exact HB.out | apply below_alloc | apply pw_below_drewN | apply below_drew1 | refine below_set ?_ GE143.out | refine below_set ?_ GE144.out) | exact HB.out)⟩⟩
              · rw [if_neg c11] at H
                have c11b0 : (a0_5.toList == a1_5.toList) = false := beq_eq_false_iff_ne.mpr c11
                have c11b1 : (a0_5.toList != a1_5.toList) = true := bne_iff_ne.mpr c11
                have H' := Aside0.mk H
                clear H
                have hnb31 := NB143_144.out
                have hnc31 := NB144_143.out
                have hcz32_0 : w5.cell? ⟨gb143, 0, none⟩ = some (.int .i64 a0_0) := (blk_cell BK143.out 0).trans rfl
                have hcz32_1 : w5.cell? ⟨gb143, 1, none⟩ = some (.int .i64 a0_1) := (blk_cell BK143.out 1).trans rfl
                have hcz32_2 : w5.cell? ⟨gb143, 2, none⟩ = some (.int .i64 a0_2) := (blk_cell BK143.out 2).trans rfl
                have hcz32_3 : w5.cell? ⟨gb143, 3, none⟩ = some (.int .i64 a0_3) := (blk_cell BK143.out 3).trans rfl
                have hcz32_4 : w5.cell? ⟨gb143, 4, none⟩ = some (.int .i64 a0_4) := (blk_cell BK143.out 4).trans rfl
                have hcz32_5 : w5.cell? ⟨gb143, 5, none⟩ = some (.string a0_5) := (blk_cell BK143.out 5).trans rfl
                have hcz32_6 : w5.cell? ⟨gb143, 6, none⟩ = some (.string a0_6) := (blk_cell BK143.out 6).trans rfl
                have hcz32_7 : w5.cell? ⟨gb143, 7, none⟩ = some (.string a0_7) := (blk_cell BK143.out 7).trans rfl
                have hcz32_8 : w5.cell? ⟨gb143, 8, none⟩ = some (.int .i64 a0_8) := (blk_cell BK143.out 8).trans rfl
                have hcz32_9 : w5.cell? ⟨gb143, 9, none⟩ = some (.slice A0_9 l0_9.length c0_9) := (blk_cell BK143.out 9).trans rfl
                have hcz32_10 : w5.cell? ⟨gb143, 10, none⟩ = some (.slice A0_10 l0_10.length c0_10) := (blk_cell BK143.out 10).trans rfl
                have hcz32_11 : w5.cell? ⟨gb143, 11, none⟩ = some (.int .i64 a0_11) := (blk_cell BK143.out 11).trans rfl
                have hcz32_12 : w5.cell? ⟨gb143, 12, none⟩ = some (.int .i64 a0_12) := (blk_cell BK143.out 12).trans rfl
                have hfz32_0 := blk_frozen BK143.out 0
                have hfz32_1 := blk_frozen BK143.out 1
                have hfz32_2 := blk_frozen BK143.out 2
                have hfz32_3 := blk_frozen BK143.out 3
                have hfz32_4 := blk_frozen BK143.out 4
                have hfz32_5 := blk_frozen BK143.out 5
                have hfz32_6 := blk_frozen BK143.out 6
                have hfz32_7 := blk_frozen BK143.out 7
                have hfz32_8 := blk_frozen BK143.out 8
                have hfz32_9 := blk_frozen BK143.out 9
                have hfz32_10 := blk_frozen BK143.out 10
                have hfz32_11 := blk_frozen BK143.out 11
                have hfz32_12 := blk_frozen BK143.out 12
                have hcz33_0 : w5.cell? ⟨gb144, 0, none⟩ = some (.int .i64 a1_0) := (blk_cell BK144.out 0).trans rfl
                have hcz33_1 : w5.cell? ⟨gb144, 1, none⟩ = some (.int .i64 a1_1) := (blk_cell BK144.out 1).trans rfl
                have hcz33_2 : w5.cell? ⟨gb144, 2, none⟩ = some (.int .i64 a1_2) := (blk_cell BK144.out 2).trans rfl
                have hcz33_3 : w5.cell? ⟨gb144, 3, none⟩ = some (.int .i64 a1_3) := (blk_cell BK144.out 3).trans rfl
                have hcz33_4 : w5.cell? ⟨gb144, 4, none⟩ = some (.int .i64 a1_4) := (blk_cell BK144.out 4).trans rfl
                have hcz33_5 : w5.cell? ⟨gb144, 5, none⟩ = some (.string a1_5) := (blk_cell BK144.out 5).trans rfl
                have hcz33_6 : w5.cell? ⟨gb144, 6, none⟩ = some (.string a1_6) := (blk_cell BK144.out 6).trans rfl
                have hcz33_7 : w5.cell? ⟨gb144, 7, none⟩ = some (.string a1_7) := (blk_cell BK144.out 7).trans rfl
                have hcz33_8 : w5.cell? ⟨gb144, 8, none⟩ = some (.int .i64 a1_8) := (blk_cell BK144.out 8).trans rfl
                have hcz33_9 : w5.cell? ⟨gb144, 9, none⟩ = some (.slice A1_9 l1_9.length c1_9) := (blk_cell BK144.out 9).trans rfl
                have hcz33_10 : w5.cell? ⟨gb144, 10, none⟩ = some (.slice A1_10 l1_10.length c1_10) := (blk_cell BK144.out 10).trans rfl
                have hcz33_11 : w5.cell? ⟨gb144, 11, none⟩ = some (.int .i64 a1_11) := (blk_cell BK144.out 11).trans rfl
                have hcz33_12 : w5.cell? ⟨gb144, 12, none⟩ = some (.int .i64 a1_12) := (blk_cell BK144.out 12).trans rfl
                have hfz33_0 := blk_frozen BK144.out 0
                have hfz33_1 := blk_frozen BK144.out 1
                have hfz33_2 := blk_frozen BK144.out 2
                have hfz33_3 := blk_frozen BK144.out 3
                have hfz33_4 := blk_frozen BK144.out 4
                have hfz33_5 := blk_frozen BK144.out 5
                have hfz33_6 := blk_frozen BK144.out 6
                have hfz33_7 := blk_frozen BK144.out 7
                have hfz33_8 := blk_frozen BK144.out 8
                have hfz33_9 := blk_frozen BK144.out 9
                have hfz33_10 := blk_frozen BK144.out 10
                have hfz33_11 := blk_frozen BK144.out 11
                have hfz33_12 := blk_frozen BK144.out 12
                go_wp2
                repeat (go_quiet (fail); try go_wp2)
                go_meet
                case rel => exact ⟨_, (true), (by first | rfl | (simp; done) | (simp [*]; done)), H', ⟨by first | omega | exact Nat.le_refl _⟩, ⟨by (with_reducible repeat (first | refine blk_drewN ?_ _ | refine blk_drew ?_ | refine blk_alloc ?_ _)); exact BK143.out⟩, ⟨by (with_reducible repeat (first | refine blk_drewN ?_ _ | refine blk_drew ?_ | refine blk_alloc ?_ _)); exact BK144.out⟩, ⟨by repeat (first | (with_reducible first | exact HB.out | apply below_alloc | apply pw_below_drewN | apply below_drew1 | refine below_set ?_ GE143.out | refine below_set ?_ GE144.out) | exact HB.out)⟩⟩
            · rw [if_neg c10] at H
              have c10b0 : (a0_4 == a1_4) = false := beq_eq_false_iff_ne.mpr c10
              have c10b1 : (a0_4 != a1_4) = true := bne_iff_ne.mpr c10
              have H' := Aside0.mk H
              clear H
              have hnb34 := NB143_144.out
              have hnc34 := NB144_143.out
              have hcz35_0 : w5.cell? ⟨gb143, 0, none⟩ = some (.int .i64 a0_0) := (blk_cell BK143.out 0).trans rfl
              have hcz35_1 : w5.cell? ⟨gb143, 1, none⟩ = some (.int .i64 a0_1) := (blk_cell BK143.out 1).trans rfl
              have hcz35_2 : w5.cell? ⟨gb143, 2, none⟩ = some (.int .i64 a0_2) := (blk_cell BK143.out 2).trans rfl
              have hcz35_3 : w5.cell? ⟨gb143, 3, none⟩ = some (.int .i64 a0_3) := (blk_cell BK143.out 3).trans rfl
              have hcz35_4 : w5.cell? ⟨gb143, 4, none⟩ = some (.int .i64 a0_4) := (blk_cell BK143.out 4).trans rfl
              have hcz35_5 : w5.cell? ⟨gb143, 5, none⟩ = some (.string a0_5) := (blk_cell BK143.out 5).trans rfl
              have hcz35_6 : w5.cell? ⟨gb143, 6, none⟩ = some (.string a0_6) := (blk_cell BK143.out 6).trans rfl
              have hcz35_7 : w5.cell? ⟨gb143, 7, none⟩ = some (.string a0_7) := (blk_cell BK143.out 7).trans rfl
              have hcz35_8 : w5.cell? ⟨gb143, 8, none⟩ = some (.int .i64 a0_8) := (blk_cell BK143.out 8).trans rfl
              have hcz35_9 : w5.cell? ⟨gb143, 9, none⟩ = some (.slice A0_9 l0_9.length c0_9) := (blk_cell BK143.out 9).trans rfl
              have hcz35_10 : w5.cell? ⟨gb143, 10, none⟩ = some (.slice A0_10 l0_10.length c0_10) := (blk_cell BK143.out 10).trans rfl
              have hcz35_11 : w5.cell? ⟨gb143, 11, none⟩ = some (.int .i64 a0_11) := (blk_cell BK143.out 11).trans rfl
              have hcz35_12 : w5.cell? ⟨gb143, 12, none⟩ = some (.int .i64 a0_12) := (blk_cell BK143.out 12).trans rfl
              have hfz35_0 := blk_frozen BK143.out 0
              have hfz35_1 := blk_frozen BK143.out 1
              have hfz35_2 := blk_frozen BK143.out 2
              have hfz35_3 := blk_frozen BK143.out 3
              have hfz35_4 := blk_frozen BK143.out 4
              have hfz35_5 := blk_frozen BK143.out 5
              have hfz35_6 := blk_frozen BK143.out 6
              have hfz35_7 := blk_frozen BK143.out 7
              have hfz35_8 := blk_frozen BK143.out 8
              have hfz35_9 := blk_frozen BK143.out 9
              have hfz35_10 := blk_frozen BK143.out 10
              have hfz35_11 := blk_frozen BK143.out 11
              have hfz35_12 := blk_frozen BK143.out 12
              have hcz36_0 : w5.cell? ⟨gb144, 0, none⟩ = some (.int .i64 a1_0) := (blk_cell BK144.out 0).trans rfl
              have hcz36_1 : w5.cell? ⟨gb144, 1, none⟩ = some (.int .i64 a1_1) := (blk_cell BK144.out 1).trans rfl
              have hcz36_2 : w5.cell? ⟨gb144, 2, none⟩ = some (.int .i64 a1_2) := (blk_cell BK144.out 2).trans rfl
              have hcz36_3 : w5.cell? ⟨gb144, 3, none⟩ = some (.int .i64 a1_3) := (blk_cell BK144.out 3).trans rfl
              have hcz36_4 : w5.cell? ⟨gb144, 4, none⟩ = some (.int .i64 a1_4) := (blk_cell BK144.out 4).trans rfl
              have hcz36_5 : w5.cell? ⟨gb144, 5, none⟩ = some (.string a1_5) := (blk_cell BK144.out 5).trans rfl
              have hcz36_6 : w5.cell? ⟨gb144, 6, none⟩ = some (.string a1_6) := (blk_cell BK144.out 6).trans rfl
              have hcz36_7 : w5.cell? ⟨gb144, 7, none⟩ = some (.string a1_7) := (blk_cell BK144.out 7).trans rfl
              have hcz36_8 : w5.cell? ⟨gb144, 8, none⟩ = some (.int .i64 a1_8) := (blk_cell BK144.out 8).trans rfl
              have hcz36_9 : w5.cell? ⟨gb144, 9, none⟩ = some (.slice A1_9 l1_9.length c1_9) := (blk_cell BK144.out 9).trans rfl
              have hcz36_10 : w5.cell? ⟨gb144, 10, none⟩ = some (.slice A1_10 l1_10.length c1_10) := (blk_cell BK144.out 10).trans rfl
              have hcz36_11 : w5.cell? ⟨gb144, 11, none⟩ = some (.int .i64 a1_11) := (blk_cell BK144.out 11).trans rfl
              have hcz36_12 : w5.cell? ⟨gb144, 12, none⟩ = some (.int .i64 a1_12) := (blk_cell BK144.out 12).trans rfl
              have hfz36_0 := blk_frozen BK144.out 0
              have hfz36_1 := blk_frozen BK144.out 1
              have hfz36_2 := blk_frozen BK144.out 2
              have hfz36_3 := blk_frozen BK144.out 3
              have hfz36_4 := blk_frozen BK144.out 4
              have hfz36_5 := blk_frozen BK144.out 5
              have hfz36_6 := blk_frozen BK144.out 6
              have hfz36_7 := blk_frozen BK144.out 7
              have hfz36_8 := blk_frozen BK144.out 8
              have hfz36_9 := blk_frozen BK144.out 9
              have hfz36_10 := blk_frozen BK144.out 10
              have hfz36_11 := blk_frozen BK144.out 11
              have hfz36_12 := blk_frozen BK144.out 12
              go_wp2
              repeat (go_quiet (fail); try go_wp2)
              go_meet
              case rel => exact ⟨_, (true), (by first | rfl | (simp; done) | (simp [*]; done)), H', ⟨by first | omega | exact Nat.le_refl _⟩, ⟨by (with_reducible repeat (first | refine blk_drewN ?_ _ | refine blk_drew ?_ | refine blk_alloc ?_ _)); exact BK143.out⟩, ⟨by (with_reducible repeat (first | refine blk_drewN ?_ _ | refine blk_drew ?_ | refine blk_alloc ?_ _)); exact BK144.out⟩, ⟨by repeat (first | (with_reducible first | exact HB.out | apply below_alloc | apply pw_below_drewN | apply below_drew1 | refine below_set ?_ GE143.out | refine below_set ?_ GE144.out) | exact HB.out)⟩⟩
          · rw [if_neg c9] at H
            have c9b0 : (a0_3 == a1_3) = false := beq_eq_false_iff_ne.mpr c9
            have c9b1 : (a0_3 != a1_3) = true := bne_iff_ne.mpr c9
            have H' := Aside0.mk H
            clear H
            have hnb37 := NB143_144.out
            have hnc37 := NB144_143.out
            have hcz38_0 : w5.cell? ⟨gb143, 0, none⟩ = some (.int .i64 a0_0) := (blk_cell BK143.out 0).trans rfl
            have hcz38_1 : w5.cell? ⟨gb143, 1, none⟩ = some (.int .i64 a0_1) := (blk_cell BK143.out 1).trans rfl
            have hcz38_2 : w5.cell? ⟨gb143, 2, none⟩ = some (.int .i64 a0_2) := (blk_cell BK143.out 2).trans rfl
            have hcz38_3 : w5.cell? ⟨gb143, 3, none⟩ = some (.int .i64 a0_3) := (blk_cell BK143.out 3).trans rfl
            have hcz38_4 : w5.cell? ⟨gb143, 4, none⟩ = some (.int .i64 a0_4) := (blk_cell BK143.out 4).trans rfl
            have hcz38_5 : w5.cell? ⟨gb143, 5, none⟩ = some (.string a0_5) := (blk_cell BK143.out 5).trans rfl
            have hcz38_6 : w5.cell? ⟨gb143, 6, none⟩ = some (.string a0_6) := (blk_cell BK143.out 6).trans rfl
            have hcz38_7 : w5.cell? ⟨gb143, 7, none⟩ = some (.string a0_7) := (blk_cell BK143.out 7).trans rfl
            have hcz38_8 : w5.cell? ⟨gb143, 8, none⟩ = some (.int .i64 a0_8) := (blk_cell BK143.out 8).trans rfl
            have hcz38_9 : w5.cell? ⟨gb143, 9, none⟩ = some (.slice A0_9 l0_9.length c0_9) := (blk_cell BK143.out 9).trans rfl
            have hcz38_10 : w5.cell? ⟨gb143, 10, none⟩ = some (.slice A0_10 l0_10.length c0_10) := (blk_cell BK143.out 10).trans rfl
            have hcz38_11 : w5.cell? ⟨gb143, 11, none⟩ = some (.int .i64 a0_11) := (blk_cell BK143.out 11).trans rfl
            have hcz38_12 : w5.cell? ⟨gb143, 12, none⟩ = some (.int .i64 a0_12) := (blk_cell BK143.out 12).trans rfl
            have hfz38_0 := blk_frozen BK143.out 0
            have hfz38_1 := blk_frozen BK143.out 1
            have hfz38_2 := blk_frozen BK143.out 2
            have hfz38_3 := blk_frozen BK143.out 3
            have hfz38_4 := blk_frozen BK143.out 4
            have hfz38_5 := blk_frozen BK143.out 5
            have hfz38_6 := blk_frozen BK143.out 6
            have hfz38_7 := blk_frozen BK143.out 7
            have hfz38_8 := blk_frozen BK143.out 8
            have hfz38_9 := blk_frozen BK143.out 9
            have hfz38_10 := blk_frozen BK143.out 10
            have hfz38_11 := blk_frozen BK143.out 11
            have hfz38_12 := blk_frozen BK143.out 12
            have hcz39_0 : w5.cell? ⟨gb144, 0, none⟩ = some (.int .i64 a1_0) := (blk_cell BK144.out 0).trans rfl
            have hcz39_1 : w5.cell? ⟨gb144, 1, none⟩ = some (.int .i64 a1_1) := (blk_cell BK144.out 1).trans rfl
            have hcz39_2 : w5.cell? ⟨gb144, 2, none⟩ = some (.int .i64 a1_2) := (blk_cell BK144.out 2).trans rfl
            have hcz39_3 : w5.cell? ⟨gb144, 3, none⟩ = some (.int .i64 a1_3) := (blk_cell BK144.out 3).trans rfl
            have hcz39_4 : w5.cell? ⟨gb144, 4, none⟩ = some (.int .i64 a1_4) := (blk_cell BK144.out 4).trans rfl
            have hcz39_5 : w5.cell? ⟨gb144, 5, none⟩ = some (.string a1_5) := (blk_cell BK144.out 5).trans rfl
            have hcz39_6 : w5.cell? ⟨gb144, 6, none⟩ = some (.string a1_6) := (blk_cell BK144.out 6).trans rfl
            have hcz39_7 : w5.cell? ⟨gb144, 7, none⟩ = some (.string a1_7) := (blk_cell BK144.out 7).trans rfl
            have hcz39_8 : w5.cell? ⟨gb144, 8, none⟩ = some (.int .i64 a1_8) := (blk_cell BK144.out 8).trans rfl
            have hcz39_9 : w5.cell? ⟨gb144, 9, none⟩ = some (.slice A1_9 l1_9.length c1_9) := (blk_cell BK144.out 9).trans rfl
            have hcz39_10 : w5.cell? ⟨gb144, 10, none⟩ = some (.slice A1_10 l1_10.length c1_10) := (blk_cell BK144.out 10).trans rfl
            have hcz39_11 : w5.cell? ⟨gb144, 11, none⟩ = some (.int .i64 a1_11) := (blk_cell BK144.out 11).trans rfl
            have hcz39_12 : w5.cell? ⟨gb144, 12, none⟩ = some (.int .i64 a1_12) := (blk_cell BK144.out 12).trans rfl
            have hfz39_0 := blk_frozen BK144.out 0
            have hfz39_1 := blk_frozen BK144.out 1
            have hfz39_2 := blk_frozen BK144.out 2
            have hfz39_3 := blk_frozen BK144.out 3
            have hfz39_4 := blk_frozen BK144.out 4
            have hfz39_5 := blk_frozen BK144.out 5
            have hfz39_6 := blk_frozen BK144.out 6
            have hfz39_7 := blk_frozen BK144.out 7
            have hfz39_8 := blk_frozen BK144.out 8
            have hfz39_9 := blk_frozen BK144.out 9
            have hfz39_10 := blk_frozen BK144.out 10
            have hfz39_11 := blk_frozen BK144.out 11
            have hfz39_12 := blk_frozen BK144.out 12
            go_wp2
            repeat (go_quiet (fail); try go_wp2)
            go_meet
            case rel => exact ⟨_, (true), (by first | rfl | (simp; done) | (simp [*]; done)), H', ⟨by first | omega | exact Nat.le_refl _⟩, ⟨by (with_reducible repeat (first | refine blk_drewN ?_ _ | refine blk_drew ?_ | refine blk_alloc ?_ _)); exact BK143.out⟩, ⟨by (with_reducible repeat (first | refine blk_drewN ?_ _ | refine blk_drew ?_ | refine blk_alloc ?_ _)); exact BK144.out⟩, ⟨by repeat (first | (with_reducible first | exact HB.out | apply below_alloc | apply pw_below_drewN | apply below_drew1 | refine below_set ?_ GE143.out | refine below_set ?_ GE144.out) | exact HB.out)⟩⟩
        · rw [if_neg c8] at H
          have c8b0 : (a0_2 == a1_2) = false := beq_eq_false_iff_ne.mpr c8
          have c8b1 : (a0_2 != a1_2) = true := bne_iff_ne.mpr c8
          have H' := Aside0.mk H
          clear H
          have hnb40 := NB143_144.out
          have hnc40 := NB144_143.out
          have hcz41_0 : w5.cell? ⟨gb143, 0, none⟩ = some (.int .i64 a0_0) := (blk_cell BK143.out 0).trans rfl
          have hcz41_1 : w5.cell? ⟨gb143, 1, none⟩ = some (.int .i64 a0_1) := (blk_cell BK143.out 1).trans rfl
          have hcz41_2 : w5.cell? ⟨gb143, 2, none⟩ = some (.int .i64 a0_2) := (blk_cell BK143.out 2).trans rfl
          have hcz41_3 : w5.cell? ⟨gb143, 3, none⟩ = some (.int .i64 a0_3) := (blk_cell BK143.out 3).trans rfl
          have hcz41_4 : w5.cell? ⟨gb143, 4, none⟩ = some (.int .i64 a0_4) := (blk_cell BK143.out 4).trans rfl
          have hcz41_5 : w5.cell? ⟨gb143, 5, none⟩ = some (.string a0_5) := (blk_cell BK143.out 5).trans rfl
          have hcz41_6 : w5.cell? ⟨gb143, 6, none⟩ = some (.string a0_6) := (blk_cell BK143.out 6).trans rfl
          have hcz41_7 : w5.cell? ⟨gb143, 7, none⟩ = some (.string a0_7) := (blk_cell BK143.out 7).trans rfl
          have hcz41_8 : w5.cell? ⟨gb143, 8, none⟩ = some (.int .i64 a0_8) := (blk_cell BK143.out 8).trans rfl
          have hcz41_9 : w5.cell? ⟨gb143, 9, none⟩ = some (.slice A0_9 l0_9.length c0_9) := (blk_cell BK143.out 9).trans rfl
          have hcz41_10 : w5.cell? ⟨gb143, 10, none⟩ = some (.slice A0_10 l0_10.length c0_10) := (blk_cell BK143.out 10).trans rfl
          have hcz41_11 : w5.cell? ⟨gb143, 11, none⟩ = some (.int .i64 a0_11) := (blk_cell BK143.out 11).trans rfl
          have hcz41_12 : w5.cell? ⟨gb143, 12, none⟩ = some (.int .i64 a0_12) := (blk_cell BK143.out 12).trans rfl
          have hfz41_0 := blk_frozen BK143.out 0
          have hfz41_1 := blk_frozen BK143.out 1
          have hfz41_2 := blk_frozen BK143.out 2
          have hfz41_3 := blk_frozen BK143.out 3
          have hfz41_4 := blk_frozen BK143.out 4
          have hfz41_5 := blk_frozen BK143.out 5
          have hfz41_6 := blk_frozen BK143.out 6
          have hfz41_7 := blk_frozen BK143.out 7
          have hfz41_8 := blk_frozen BK143.out 8
          have hfz41_9 := blk_frozen BK143.out 9
          have hfz41_10 := blk_frozen BK143.out 10
          have hfz41_11 := blk_frozen BK143.out 11
          have hfz41_12 := blk_frozen BK143.out 12
          have hcz42_0 : w5.cell? ⟨gb144, 0, none⟩ = some (.int .i64 a1_0) := (blk_cell BK144.out 0).trans rfl
          have hcz42_1 : w5.cell? ⟨gb144, 1, none⟩ = some (.int .i64 a1_1) := (blk_cell BK144.out 1).trans rfl
          have hcz42_2 : w5.cell? ⟨gb144, 2, none⟩ = some (.int .i64 a1_2) := (blk_cell BK144.out 2).trans rfl
          have hcz42_3 : w5.cell? ⟨gb144, 3, none⟩ = some (.int .i64 a1_3) := (blk_cell BK144.out 3).trans rfl
          have hcz42_4 : w5.cell? ⟨gb144, 4, none⟩ = some (.int .i64 a1_4) := (blk_cell BK144.out 4).trans rfl
          have hcz42_5 : w5.cell? ⟨gb144, 5, none⟩ = some (.string a1_5) := (blk_cell BK144.out 5).trans rfl
          have hcz42_6 : w5.cell? ⟨gb144, 6, none⟩ = some (.string a1_6) := (blk_cell BK144.out 6).trans rfl
          have hcz42_7 : w5.cell? ⟨gb144, 7, none⟩ = some (.string a1_7) := (blk_cell BK144.out 7).trans rfl
          have hcz42_8 : w5.cell? ⟨gb144, 8, none⟩ = some (.int .i64 a1_8) := (blk_cell BK144.out 8).trans rfl
          have hcz42_9 : w5.cell? ⟨gb144, 9, none⟩ = some (.slice A1_9 l1_9.length c1_9) := (blk_cell BK144.out 9).trans rfl
          have hcz42_10 : w5.cell? ⟨gb144, 10, none⟩ = some (.slice A1_10 l1_10.length c1_10) := (blk_cell BK144.out 10).trans rfl
          have hcz42_11 : w5.cell? ⟨gb144, 11, none⟩ = some (.int .i64 a1_11) := (blk_cell BK144.out 11).trans rfl
          have hcz42_12 : w5.cell? ⟨gb144, 12, none⟩ = some (.int .i64 a1_12) := (blk_cell BK144.out 12).trans rfl
          have hfz42_0 := blk_frozen BK144.out 0
          have hfz42_1 := blk_frozen BK144.out 1
          have hfz42_2 := blk_frozen BK144.out 2
          have hfz42_3 := blk_frozen BK144.out 3
          have hfz42_4 := blk_frozen BK144.out 4
          have hfz42_5 := blk_frozen BK144.out 5
          have hfz42_6 := blk_frozen BK144.out 6
          have hfz42_7 := blk_frozen BK144.out 7
          have hfz42_8 := blk_frozen BK144.out 8
          have hfz42_9 := blk_frozen BK144.out 9
          have hfz42_10 := blk_frozen BK144.out 10
          have hfz42_11 := blk_frozen BK144.out 11
          have hfz42_12 := blk_frozen BK144.out 12
          go_wp2
          repeat (go_quiet (fail); try go_wp2)
          go_meet
          case rel => exact ⟨_, (true), (by first | rfl | (simp; done) | (simp [*]; done)), H', ⟨by first | omega | exact Nat.le_refl _⟩, ⟨by (with_reducible repeat (first | refine blk_drewN ?_ _ | refine blk_drew ?_ | refine blk_alloc ?_ _)); exact BK143.out⟩, ⟨by (with_reducible repeat (first | refine blk_drewN ?_ _ | refine blk_drew ?_ | refine blk_alloc ?_ _)); exact BK144.out⟩, ⟨by repeat (first | (with_reducible first | exact HB.out | apply below_alloc | apply pw_below_drewN | apply below_drew1 | refine below_set ?_ GE143.out | refine below_set ?_ GE144.out) | exact HB.out)⟩⟩
      · rw [if_neg c7] at H
        have c7b0 : (a0_1 == a1_1) = false := beq_eq_false_iff_ne.mpr c7
        have c7b1 : (a0_1 != a1_1) = true := bne_iff_ne.mpr c7
        have H' := Aside0.mk H
        clear H
        have hnb43 := NB143_144.out
        have hnc43 := NB144_143.out
        have hcz44_0 : w5.cell? ⟨gb143, 0, none⟩ = some (.int .i64 a0_0) := (blk_cell BK143.out 0).trans rfl
        have hcz44_1 : w5.cell? ⟨gb143, 1, none⟩ = some (.int .i64 a0_1) := (blk_cell BK143.out 1).trans rfl
        have hcz44_2 : w5.cell? ⟨gb143, 2, none⟩ = some (.int .i64 a0_2) := (blk_cell BK143.out 2).trans rfl
        have hcz44_3 : w5.cell? ⟨gb143, 3, none⟩ = some (.int .i64 a0_3) := (blk_cell BK143.out 3).trans rfl
        have hcz44_4 : w5.cell? ⟨gb143, 4, none⟩ = some (.int .i64 a0_4) := (blk_cell BK143.out 4).trans rfl
        have hcz44_5 : w5.cell? ⟨gb143, 5, none⟩ = some (.string a0_5) := (blk_cell BK143.out 5).trans rfl
        have hcz44_6 : w5.cell? ⟨gb143, 6, none⟩ = some (.string a0_6) := (blk_cell BK143.out 6).trans rfl
        have hcz44_7 : w5.cell? ⟨gb143, 7, none⟩ = some (.string a0_7) := (blk_cell BK143.out 7).trans rfl
        have hcz44_8 : w5.cell? ⟨gb143, 8, none⟩ = some (.int .i64 a0_8) := (blk_cell BK143.out 8).trans rfl
        have hcz44_9 : w5.cell? ⟨gb143, 9, none⟩ = some (.slice A0_9 l0_9.length c0_9) := (blk_cell BK143.out 9).trans rfl
        have hcz44_10 : w5.cell? ⟨gb143, 10, none⟩ = some (.slice A0_10 l0_10.length c0_10) := (blk_cell BK143.out 10).trans rfl
        have hcz44_11 : w5.cell? ⟨gb143, 11, none⟩ = some (.int .i64 a0_11) := (blk_cell BK143.out 11).trans rfl
        have hcz44_12 : w5.cell? ⟨gb143, 12, none⟩ = some (.int .i64 a0_12) := (blk_cell BK143.out 12).trans rfl
        have hfz44_0 := blk_frozen BK143.out 0
        have hfz44_1 := blk_frozen BK143.out 1
        have hfz44_2 := blk_frozen BK143.out 2
        have hfz44_3 := blk_frozen BK143.out 3
        have hfz44_4 := blk_frozen BK143.out 4
        have hfz44_5 := blk_frozen BK143.out 5
        have hfz44_6 := blk_frozen BK143.out 6
        have hfz44_7 := blk_frozen BK143.out 7
        have hfz44_8 := blk_frozen BK143.out 8
        have hfz44_9 := blk_frozen BK143.out 9
        have hfz44_10 := blk_frozen BK143.out 10
        have hfz44_11 := blk_frozen BK143.out 11
        have hfz44_12 := blk_frozen BK143.out 12
        have hcz45_0 : w5.cell? ⟨gb144, 0, none⟩ = some (.int .i64 a1_0) := (blk_cell BK144.out 0).trans rfl
        have hcz45_1 : w5.cell? ⟨gb144, 1, none⟩ = some (.int .i64 a1_1) := (blk_cell BK144.out 1).trans rfl
        have hcz45_2 : w5.cell? ⟨gb144, 2, none⟩ = some (.int .i64 a1_2) := (blk_cell BK144.out 2).trans rfl
        have hcz45_3 : w5.cell? ⟨gb144, 3, none⟩ = some (.int .i64 a1_3) := (blk_cell BK144.out 3).trans rfl
        have hcz45_4 : w5.cell? ⟨gb144, 4, none⟩ = some (.int .i64 a1_4) := (blk_cell BK144.out 4).trans rfl
        have hcz45_5 : w5.cell? ⟨gb144, 5, none⟩ = some (.string a1_5) := (blk_cell BK144.out 5).trans rfl
        have hcz45_6 : w5.cell? ⟨gb144, 6, none⟩ = some (.string a1_6) := (blk_cell BK144.out 6).trans rfl
        have hcz45_7 : w5.cell? ⟨gb144, 7, none⟩ = some (.string a1_7) := (blk_cell BK144.out 7).trans rfl
        have hcz45_8 : w5.cell? ⟨gb144, 8, none⟩ = some (.int .i64 a1_8) := (blk_cell BK144.out 8).trans rfl
        have hcz45_9 : w5.cell? ⟨gb144, 9, none⟩ = some (.slice A1_9 l1_9.length c1_9) := (blk_cell BK144.out 9).trans rfl
        have hcz45_10 : w5.cell? ⟨gb144, 10, none⟩ = some (.slice A1_10 l1_10.length c1_10) := (blk_cell BK144.out 10).trans rfl
        have hcz45_11 : w5.cell? ⟨gb144, 11, none⟩ = some (.int .i64 a1_11) := (blk_cell BK144.out 11).trans rfl
        have hcz45_12 : w5.cell? ⟨gb144, 12, none⟩ = some (.int .i64 a1_12) := (blk_cell BK144.out 12).trans rfl
        have hfz45_0 := blk_frozen BK144.out 0
        have hfz45_1 := blk_frozen BK144.out 1
        have hfz45_2 := blk_frozen BK144.out 2
        have hfz45_3 := blk_frozen BK144.out 3
        have hfz45_4 := blk_frozen BK144.out 4
        have hfz45_5 := blk_frozen BK144.out 5
        have hfz45_6 := blk_frozen BK144.out 6
        have hfz45_7 := blk_frozen BK144.out 7
        have hfz45_8 := blk_frozen BK144.out 8
        have hfz45_9 := blk_frozen BK144.out 9
        have hfz45_10 := blk_frozen BK144.out 10
        have hfz45_11 := blk_frozen BK144.out 11
        have hfz45_12 := blk_frozen BK144.out 12
        go_wp2
        repeat (go_quiet (fail); try go_wp2)
        go_meet
        case rel => exact ⟨_, (true), (by first | rfl | (simp; done) | (simp [*]; done)), H', ⟨by first | omega | exact Nat.le_refl _⟩, ⟨by (with_reducible repeat (first | refine blk_drewN ?_ _ | refine blk_drew ?_ | refine blk_alloc ?_ _)); exact BK143.out⟩, ⟨by (with_reducible repeat (first | refine blk_drewN ?_ _ | refine blk_drew ?_ | refine blk_alloc ?_ _)); exact BK144.out⟩, ⟨by repeat (first | (with_reducible first | exact HB.out | apply below_alloc | apply pw_below_drewN | apply below_drew1 | refine below_set ?_ GE143.out | refine below_set ?_ GE144.out) | exact HB.out)⟩⟩
    · rw [if_neg c6] at H
      have c6b0 : (a0_0 == a1_0) = false := beq_eq_false_iff_ne.mpr c6
      have c6b1 : (a0_0 != a1_0) = true := bne_iff_ne.mpr c6
      (first | rw [c6b0] | (simp only [i64_w, i32_w]; rw [c6b0]) | skip)
      have H' := Aside0.mk H
      clear H
      have hnb46 := NB143_144.out
      have hnc46 := NB144_143.out
      have hcz47_0 : w5.cell? ⟨gb143, 0, none⟩ = some (.int .i64 a0_0) := (blk_cell BK143.out 0).trans rfl
      have hcz47_1 : w5.cell? ⟨gb143, 1, none⟩ = some (.int .i64 a0_1) := (blk_cell BK143.out 1).trans rfl
      have hcz47_2 : w5.cell? ⟨gb143, 2, none⟩ = some (.int .i64 a0_2) := (blk_cell BK143.out 2).trans rfl
      have hcz47_3 : w5.cell? ⟨gb143, 3, none⟩ = some (.int .i64 a0_3) := (blk_cell BK143.out 3).trans rfl
      have hcz47_4 : w5.cell? ⟨gb143, 4, none⟩ = some (.int .i64 a0_4) := (blk_cell BK143.out 4).trans rfl
      have hcz47_5 : w5.cell? ⟨gb143, 5, none⟩ = some (.string a0_5) := (blk_cell BK143.out 5).trans rfl
      have hcz47_6 : w5.cell? ⟨gb143, 6, none⟩ = some (.string a0_6) := (blk_cell BK143.out 6).trans rfl
      have hcz47_7 : w5.cell? ⟨gb143, 7, none⟩ = some (.string a0_7) := (blk_cell BK143.out 7).trans rfl
      have hcz47_8 : w5.cell? ⟨gb143, 8, none⟩ = some (.int .i64 a0_8) := (blk_cell BK143.out 8).trans rfl
      have hcz47_9 : w5.cell? ⟨gb143, 9, none⟩ = some (.slice A0_9 l0_9.length c0_9) := (blk_cell BK143.out 9).trans rfl
      have hcz47_10 : w5.cell? ⟨gb143, 10, none⟩ = some (.slice A0_10 l0_10.length c0_10) := (blk_cell BK143.out 10).trans rfl
      have hcz47_11 : w5.cell? ⟨gb143, 11, none⟩ = some (.int .i64 a0_11) := (blk_cell BK143.out 11).trans rfl
      have hcz47_12 : w5.cell? ⟨gb143, 12, none⟩ = some (.int .i64 a0_12) := (blk_cell BK143.out 12).trans rfl
      have hfz47_0 := blk_frozen BK143.out 0
      have hfz47_1 := blk_frozen BK143.out 1
      have hfz47_2 := blk_frozen BK143.out 2
      have hfz47_3 := blk_frozen BK143.out 3
      have hfz47_4 := blk_frozen BK143.out 4
      have hfz47_5 := blk_frozen BK143.out 5
      have hfz47_6 := blk_frozen BK143.out 6
      have hfz47_7 := blk_frozen BK143.out 7
      have hfz47_8 := blk_frozen BK143.out 8
      have hfz47_9 := blk_frozen BK143.out 9
      have hfz47_10 := blk_frozen BK143.out 10
      have hfz47_11 := blk_frozen BK143.out 11
      have hfz47_12 := blk_frozen BK143.out 12
      have hcz48_0 : w5.cell? ⟨gb144, 0, none⟩ = some (.int .i64 a1_0) := (blk_cell BK144.out 0).trans rfl
      have hcz48_1 : w5.cell? ⟨gb144, 1, none⟩ = some (.int .i64 a1_1) := (blk_cell BK144.out 1).trans rfl
      have hcz48_2 : w5.cell? ⟨gb144, 2, none⟩ = some (.int .i64 a1_2) := (blk_cell BK144.out 2).trans rfl
      have hcz48_3 : w5.cell? ⟨gb144, 3, none⟩ = some (.int .i64 a1_3) := (blk_cell BK144.out 3).trans rfl
      have hcz48_4 : w5.cell? ⟨gb144, 4, none⟩ = some (.int .i64 a1_4) := (blk_cell BK144.out 4).trans rfl
      have hcz48_5 : w5.cell? ⟨gb144, 5, none⟩ = some (.string a1_5) := (blk_cell BK144.out 5).trans rfl
      have hcz48_6 : w5.cell? ⟨gb144, 6, none⟩ = some (.string a1_6) := (blk_cell BK144.out 6).trans rfl
      have hcz48_7 : w5.cell? ⟨gb144, 7, none⟩ = some (.string a1_7) := (blk_cell BK144.out 7).trans rfl
      have hcz48_8 : w5.cell? ⟨gb144, 8, none⟩ = some (.int .i64 a1_8) := (blk_cell BK144.out 8).trans rfl
      have hcz48_9 : w5.cell? ⟨gb144, 9, none⟩ = some (.slice A1_9 l1_9.length c1_9) := (blk_cell BK144.out 9).trans rfl
      have hcz48_10 : w5.cell? ⟨gb144, 10, none⟩ = some (.slice A1_10 l1_10.length c1_10) := (blk_cell BK144.out 10).trans rfl
      have hcz48_11 : w5.cell? ⟨gb144, 11, none⟩ = some (.int .i64 a1_11) := (blk_cell BK144.out 11).trans rfl
      have hcz48_12 : w5.cell? ⟨gb144, 12, none⟩ = some (.int .i64 a1_12) := (blk_cell BK144.out 12).trans rfl
      have hfz48_0 := blk_frozen BK144.out 0
      have hfz48_1 := blk_frozen BK144.out 1
      have hfz48_2 := blk_frozen BK144.out 2
      have hfz48_3 := blk_frozen BK144.out 3
      have hfz48_4 := blk_frozen BK144.out 4
      have hfz48_5 := blk_frozen BK144.out 5
      have hfz48_6 := blk_frozen BK144.out 6
      have hfz48_7 := blk_frozen BK144.out 7
      have hfz48_8 := blk_frozen BK144.out 8
      have hfz48_9 := blk_frozen BK144.out 9
      have hfz48_10 := blk_frozen BK144.out 10
      have hfz48_11 := blk_frozen BK144.out 11
      have hfz48_12 := blk_frozen BK144.out 12
      go_wp2
      repeat (go_quiet (fail); try go_wp2)
      go_meet
      case rel => exact ⟨_, (true), (by first | rfl | (simp; done) | (simp [*]; done)), H', ⟨by first | omega | exact Nat.le_refl _⟩, ⟨by (with_reducible repeat (first | refine blk_drewN ?_ _ | refine blk_drew ?_ | refine blk_alloc ?_ _)); exact BK143.out⟩, ⟨by (with_reducible repeat (first | refine blk_drewN ?_ _ | refine blk_drew ?_ | refine blk_alloc ?_ _)); exact BK144.out⟩, ⟨by repeat (first | (with_reducible first | exact HB.out | apply below_alloc | apply pw_below_drewN | apply below_drew1 | refine below_set ?_ GE143.out | refine below_set ?_ GE144.out) | exact HB.out)⟩⟩
  case rest =>
    clear HC3
    try clear c1
    try clear c2
    try clear p2
    try clear c3
    try clear c4
    try clear c6
    try clear c6b0
    try clear c6b1
    try clear c7
    try clear c7b0
    try clear c7b1
    try clear c8
    try clear c8b0
    try clear c8b1
    try clear c9
    try clear c9b0
    try clear c9b1
    try clear c10
    try clear c10b0
    try clear c10b1
    try clear c11
    try clear c11b0
    try clear c11b1
    try clear c12
    try clear c12b0
    try clear c12b1
    try clear c13
    try clear c13b0
    try clear c13b1
    try clear c14
    try clear c14b0
    try clear c14b1
    try clear c22
    try clear c25
    try clear c28
    try clear c31
    try clear c34
    try clear c37
    try clear c40
    try clear c43
    try clear c46
    try clear hcz21_0
    try clear hcz21_1
    try clear hcz21_10
    try clear hcz21_11
    try clear hcz21_12
    try clear hcz21_2
    try clear hcz21_3
    try clear hcz21_4
    try clear hcz21_5
    try clear hcz21_6
    try clear hcz21_7
    try clear hcz21_8
    try clear hcz21_9
    try clear hcz23_0
    try clear hcz23_1
    try clear hcz23_10
    try clear hcz23_11
    try clear hcz23_12
    try clear hcz23_2
    try clear hcz23_3
    try clear hcz23_4
    try clear hcz23_5
    try clear hcz23_6
    try clear hcz23_7
    try clear hcz23_8
    try clear hcz23_9
    try clear hcz24_0
    try clear hcz24_1
    try clear hcz24_10
    try clear hcz24_11
    try clear hcz24_12
    try clear hcz24_2
    try clear hcz24_3
    try clear hcz24_4
    try clear hcz24_5
    try clear hcz24_6
    try clear hcz24_7
    try clear hcz24_8
    try clear hcz24_9
    try clear hcz26_0
    try clear hcz26_1
    try clear hcz26_10
    try clear hcz26_11
    try clear hcz26_12
    try clear hcz26_2
    try clear hcz26_3
    try clear hcz26_4
    try clear hcz26_5
    try clear hcz26_6
    try clear hcz26_7
    try clear hcz26_8
    try clear hcz26_9
    try clear hcz27_0
    try clear hcz27_1
    try clear hcz27_10
    try clear hcz27_11
    try clear hcz27_12
    try clear hcz27_2
    try clear hcz27_3
    try clear hcz27_4
    try clear hcz27_5
    try clear hcz27_6
    try clear hcz27_7
    try clear hcz27_8
    try clear hcz27_9
    try clear hcz29_0
    try clear hcz29_1
    try clear hcz29_10
    try clear hcz29_11
    try clear hcz29_12
    try clear hcz29_2
    try clear hcz29_3
    try clear hcz29_4
    try clear hcz29_5
    try clear hcz29_6
    try clear hcz29_7
    try clear hcz29_8
    try clear hcz29_9
    try clear hcz30_0
    try clear hcz30_1
    try clear hcz30_10
    try clear hcz30_11
    try clear hcz30_12
    try clear hcz30_2
    try clear hcz30_3
    try clear hcz30_4
    try clear hcz30_5
    try clear hcz30_6
    try clear hcz30_7
    try clear hcz30_8
    try clear hcz30_9
    try clear hcz32_0
    try clear hcz32_1
    try clear hcz32_10
    try clear hcz32_11
    try clear hcz32_12
    try clear hcz32_2
    try clear hcz32_3
    try clear hcz32_4
    try clear hcz32_5
    try clear hcz32_6
    try clear hcz32_7
    try clear hcz32_8
    try clear hcz32_9
    try clear hcz33_0
    try clear hcz33_1
    try clear hcz33_10
    try clear hcz33_11
    try clear hcz33_12
    try clear hcz33_2
    try clear hcz33_3
    try clear hcz33_4
    try clear hcz33_5
    try clear hcz33_6
    try clear hcz33_7
    try clear hcz33_8
    try clear hcz33_9
    try clear hcz35_0
    try clear hcz35_1
    try clear hcz35_10
    try clear hcz35_11
    try clear hcz35_12
    try clear hcz35_2
    try clear hcz35_3
    try clear hcz35_4
    try clear hcz35_5
    try clear hcz35_6
    try clear hcz35_7
    try clear hcz35_8
    try clear hcz35_9
    try clear hcz36_0
    try clear hcz36_1
    try clear hcz36_10
    try clear hcz36_11
    try clear hcz36_12
    try clear hcz36_2
    try clear hcz36_3
    try clear hcz36_4
    try clear hcz36_5
    try clear hcz36_6
    try clear hcz36_7
    try clear hcz36_8
    try clear hcz36_9
    try clear hcz38_0
    try clear hcz38_1
    try clear hcz38_10
    try clear hcz38_11
    try clear hcz38_12
    try clear hcz38_2
    try clear hcz38_3
    try clear hcz38_4
    try clear hcz38_5
    try clear hcz38_6
    try clear hcz38_7
    try clear hcz38_8
    try clear hcz38_9
    try clear hcz39_0
    try clear hcz39_1
    try clear hcz39_10
    try clear hcz39_11
    try clear hcz39_12
    try clear hcz39_2
    try clear hcz39_3
    try clear hcz39_4
    try clear hcz39_5
    try clear hcz39_6
    try clear hcz39_7
    try clear hcz39_8
    try clear hcz39_9
    try clear hcz41_0
    try clear hcz41_1
    try clear hcz41_10
    try clear hcz41_11
    try clear hcz41_12
    try clear hcz41_2
    try clear hcz41_3
    try clear hcz41_4
    try clear hcz41_5
    try clear hcz41_6
    try clear hcz41_7
    try clear hcz41_8
    try clear hcz41_9
    try clear hcz42_0
    try clear hcz42_1
    try clear hcz42_10
    try clear hcz42_11
    try clear hcz42_12
    try clear hcz42_2
    try clear hcz42_3
    try clear hcz42_4
    try clear hcz42_5
    try clear hcz42_6
    try clear hcz42_7
    try clear hcz42_8
    try clear hcz42_9
    try clear hcz44_0
    try clear hcz44_1
    try clear hcz44_10
    try clear hcz44_11
    try clear hcz44_12
    try clear hcz44_2
    try clear hcz44_3
    try clear hcz44_4
    try clear hcz44_5
    try clear hcz44_6
    try clear hcz44_7
    try clear hcz44_8
    try clear hcz44_9
    try clear hcz45_0
    try clear hcz45_1
    try clear hcz45_10
    try clear hcz45_11
    try clear hcz45_12
    try clear hcz45_2
    try clear hcz45_3
    try clear hcz45_4
    try clear hcz45_5
    try clear hcz45_6
    try clear hcz45_7
    try clear hcz45_8
    try clear hcz45_9
    try clear hcz47_0
    try clear hcz47_1
    try clear hcz47_10
    try clear hcz47_11
    try clear hcz47_12
    try clear hcz47_2
    try clear hcz47_3
    try clear hcz47_4
    try clear hcz47_5
    try clear hcz47_6
    try clear hcz47_7
    try clear hcz47_8
    try clear hcz47_9
    try clear hcz48_0
    try clear hcz48_1
    try clear hcz48_10
    try clear hcz48_11
    try clear hcz48_12
    try clear hcz48_2
    try clear hcz48_3
    try clear hcz48_4
    try clear hcz48_5
    try clear hcz48_6
    try clear hcz48_7
    try clear hcz48_8
    try clear hcz48_9
    try clear hfz21_0
    try clear hfz21_1
    try clear hfz21_10
    try clear hfz21_11
    try clear hfz21_12
    try clear hfz21_2
    try clear hfz21_3
    try clear hfz21_4
    try clear hfz21_5
    try clear hfz21_6
    try clear hfz21_7
    try clear hfz21_8
    try clear hfz21_9
    try clear hfz23_0
    try clear hfz23_1
    try clear hfz23_10
    try clear hfz23_11
    try clear hfz23_12
    try clear hfz23_2
    try clear hfz23_3
    try clear hfz23_4
    try clear hfz23_5
    try clear hfz23_6
    try clear hfz23_7
    try clear hfz23_8
    try clear hfz23_9
    try clear hfz24_0
    try clear hfz24_1
    try clear hfz24_10
    try clear hfz24_11
    try clear hfz24_12
    try clear hfz24_2
    try clear hfz24_3
    try clear hfz24_4
    try clear hfz24_5
    try clear hfz24_6
    try clear hfz24_7
    try clear hfz24_8
    try clear hfz24_9
    try clear hfz26_0
    try clear hfz26_1
    try clear hfz26_10
    try clear hfz26_11
    try clear hfz26_12
    try clear hfz26_2
    try clear hfz26_3
    try clear hfz26_4
    try clear hfz26_5
    try clear hfz26_6
    try clear hfz26_7
    try clear hfz26_8
    try clear hfz26_9
    try clear hfz27_0
    try clear hfz27_1
    try clear hfz27_10
    try clear hfz27_11
    try clear hfz27_12
    try clear hfz27_2
    try clear hfz27_3
    try clear hfz27_4
    try clear hfz27_5
    try clear hfz27_6
    try clear hfz27_7
    try clear hfz27_8
    try clear hfz27_9
    try clear hfz29_0
    try clear hfz29_1
    try clear hfz29_10
    try clear hfz29_11
    try clear hfz29_12
    try clear hfz29_2
    try clear hfz29_3
    try clear hfz29_4
    try clear hfz29_5
    try clear hfz29_6
    try clear hfz29_7
    try clear hfz29_8
    try clear hfz29_9
    try clear hfz30_0
    try clear hfz30_1
    try clear hfz30_10
    try clear hfz30_11
    try clear hfz30_12
    try clear hfz30_2
    try clear hfz30_3
    try clear hfz30_4
    try clear hfz30_5
    try clear hfz30_6
    try clear hfz30_7
    try clear hfz30_8
    try clear hfz30_9
    try clear hfz32_0
    try clear hfz32_1
    try clear hfz32_10
    try clear hfz32_11
    try clear hfz32_12
    try clear hfz32_2
    try clear hfz32_3
    try clear hfz32_4
    try clear hfz32_5
    try clear hfz32_6
    try clear hfz32_7
    try clear hfz32_8
    try clear hfz32_9
    try clear hfz33_0
    try clear hfz33_1
    try clear hfz33_10
    try clear hfz33_11
    try clear hfz33_12
    try clear hfz33_2
    try clear hfz33_3
    try clear hfz33_4
    try clear hfz33_5
    try clear hfz33_6
    try clear hfz33_7
    try clear hfz33_8
    try clear hfz33_9
    try clear hfz35_0
    try clear hfz35_1
    try clear hfz35_10
    try clear hfz35_11
    try clear hfz35_12
    try clear hfz35_2
    try clear hfz35_3
    try clear hfz35_4
    try clear hfz35_5
    try clear hfz35_6
    try clear hfz35_7
    try clear hfz35_8
    try clear hfz35_9
    try clear hfz36_0
    try clear hfz36_1
    try clear hfz36_10
    try clear hfz36_11
    try clear hfz36_12
    try clear hfz36_2
    try clear hfz36_3
    try clear hfz36_4
    try clear hfz36_5
    try clear hfz36_6
    try clear hfz36_7
    try clear hfz36_8
    try clear hfz36_9
    try clear hfz38_0
    try clear hfz38_1
    try clear hfz38_10
    try clear hfz38_11
    try clear hfz38_12
    try clear hfz38_2
    try clear hfz38_3
    try clear hfz38_4
    try clear hfz38_5
    try clear hfz38_6
    try clear hfz38_7
    try clear hfz38_8
    try clear hfz38_9
    try clear hfz39_0
    try clear hfz39_1
    try clear hfz39_10
    try clear hfz39_11
    try clear hfz39_12
    try clear hfz39_2
    try clear hfz39_3
    try clear hfz39_4
    try clear hfz39_5
    try clear hfz39_6
    try clear hfz39_7
    try clear hfz39_8
    try clear hfz39_9
    try clear hfz41_0
    try clear hfz41_1
    try clear hfz41_10
    try clear hfz41_11
    try clear hfz41_12
    try clear hfz41_2
    try clear hfz41_3
    try clear hfz41_4
    try clear hfz41_5
    try clear hfz41_6
    try clear hfz41_7
    try clear hfz41_8
    try clear hfz41_9
    try clear hfz42_0
    try clear hfz42_1
    try clear hfz42_10
    try clear hfz42_11
    try clear hfz42_12
    try clear hfz42_2
    try clear hfz42_3
    try clear hfz42_4
    try clear hfz42_5
    try clear hfz42_6
    try clear hfz42_7
    try clear hfz42_8
    try clear hfz42_9
    try clear hfz44_0
    try clear hfz44_1
    try clear hfz44_10
    try clear hfz44_11
    try clear hfz44_12
    try clear hfz44_2
    try clear hfz44_3
    try clear hfz44_4
    try clear hfz44_5
    try clear hfz44_6
    try clear hfz44_7
    try clear hfz44_8
    try clear hfz44_9
    try clear hfz45_0
    try clear hfz45_1
    try clear hfz45_10
    try clear hfz45_11
    try clear hfz45_12
    try clear hfz45_2
    try clear hfz45_3
    try clear hfz45_4
    try clear hfz45_5
    try clear hfz45_6
    try clear hfz45_7
    try clear hfz45_8
    try clear hfz45_9
    try clear hfz47_0
    try clear hfz47_1
    try clear hfz47_10
    try clear hfz47_11
    try clear hfz47_12
    try clear hfz47_2
    try clear hfz47_3
    try clear hfz47_4
    try clear hfz47_5
    try clear hfz47_6
    try clear hfz47_7
    try clear hfz47_8
    try clear hfz47_9
    try clear hfz48_0
    try clear hfz48_1
    try clear hfz48_10
    try clear hfz48_11
    try clear hfz48_12
    try clear hfz48_2
    try clear hfz48_3
    try clear hfz48_4
    try clear hfz48_5
    try clear hfz48_6
    try clear hfz48_7
    try clear hfz48_8
    try clear hfz48_9
    obtain ⟨kq, x81_2, rfl, HA, HJ2, BK143, BK144, HB⟩ := hcut
    cases kq with
    | zero => exact absurd HA.out (by simp [gharryref07_Same.j0])
    | succ kj2 =>
      have H := HA.out
      clear HA
      simp only [gharryref07_Same.j0] at H
      by_cases c49 : x81_2 = true
      · subst c49
        have H1 : (some false) = some r := by rw [if_pos rfl] at H; exact H
        clear H
        have H := H1
        clear H1
        obtain rfl := Option.some.inj H
        go_wp2
        repeat (go_quiet (fail); try go_wp2)
        go_ret
        exact ⟨by first | rfl | (simp [errW_none, errW_some] <;> rfl) | (simp [*, errW_none, errW_some] <;> rfl), by repeat (first | (with_reducible first | exact HB.out | apply below_alloc | apply pw_below_drewN | apply below_drew1 | refine below_set ?_ GE143.out | refine below_set ?_ GE144.out) | exact HB.out)⟩
      · replace c49 := Bool.eq_false_iff.mpr c49
        subst c49
        have H1 : (if (l0_9.length : Int) = (l1_9.length : Int) then (gharryref07_Same.j1 kj2 ((l0_10.length : Int) != (l1_10.length : Int)) a0_0 a0_1 a0_2 a0_3 a0_4 a0_5 a0_6 a0_7 a0_8 l0_9 l0_10 a0_11 a0_12 a1_0 a1_1 a1_2 a1_3 a1_4 a1_5 a1_6 a1_7 a1_8 l1_9 l1_10 a1_11 a1_12) else (gharryref07_Same.j1 kj2 true a0_0 a0_1 a0_2 a0_3 a0_4 a0_5 a0_6 a0_7 a0_8 l0_9 l0_10 a0_11 a0_12 a1_0 a1_1 a1_2 a1_3 a1_4 a1_5 a1_6 a1_7 a1_8 l1_9 l1_10 a1_11 a1_12)) = some r := by rw [if_neg (show ¬ (false = true) by decide)] at H; exact H
        clear H
        have H := H1
        clear H1
        have HC50 := Aside0.mk H
        clear H
        go_upto_region 3 with (fail)
        repeat (go_quiet (fail); go_upto_region 3 with (fail))
        go_cut [97] (fun v97 wc => ∃ (kq : Nat) (x97_49 : Bool), v97 = .bool x97_49 ∧ Aside0 (gharryref07_Same.j1 kq x97_49 a0_0 a0_1 a0_2 a0_3 a0_4 a0_5 a0_6 a0_7 a0_8 l0_9 l0_10 a0_11 a0_12 a1_0 a1_1 a1_2 a1_3 a1_4 a1_5 a1_6 a1_7 a1_8 l1_9 l1_10 a1_11 a1_12 = some r) ∧ Aside0 (kq ≤ kj2) ∧ Aside0 (wc.heap[gb143]? = some (.cells #[.int .i64 a0_0, .int .i64 a0_1, .int .i64 a0_2, .int .i64 a0_3, .int .i64 a0_4, .string a0_5, .string a0_6, .string a0_7, .int .i64 a0_8, (.slice A0_9 l0_9.length c0_9), (.slice A0_10 l0_10.length c0_10), .int .i64 a0_11, .int .i64 a0_12] 25 (0, 0))) ∧ Aside0 (wc.heap[gb144]? = some (.cells #[.int .i64 a1_0, .int .i64 a1_1, .int .i64 a1_2, .int .i64 a1_3, .int .i64 a1_4, .string a1_5, .string a1_6, .string a1_7, .int .i64 a1_8, (.slice A1_9 l1_9.length c1_9), (.slice A1_10 l1_10.length c1_10), .int .i64 a1_11, .int .i64 a1_12] 25 (0, 0))) ∧ Aside0 (Below w.heap.size w wc))
        case first =>
          have H := HC50.out
          clear HC50
          by_cases c51 : (l0_9.length : Int) = (l1_9.length : Int)
          · rw [if_pos c51] at H
            have c51b0 : ((l0_9.length : Int) == (l1_9.length : Int)) = true := beq_iff_eq.mpr c51
            have c51b1 : ((l0_9.length : Int) != (l1_9.length : Int)) = false := bne_eq_false_iff_eq.mpr c51
            have c51b2 : (l0_9.length == l1_9.length) = true := by first | simpa using c51 | (simp at c51 ⊢; omega)
            clear c51
            (first | rw [c51b0] | (simp only [i64_w, i32_w]; rw [c51b0]) | skip)
            have H' := Aside0.mk H
            clear H
            have hnb52 := NB143_144.out
            have hnc52 := NB144_143.out
            have hcz53_0 : wc.cell? ⟨gb143, 0, none⟩ = some (.int .i64 a0_0) := (blk_cell BK143.out 0).trans rfl
            have hcz53_1 : wc.cell? ⟨gb143, 1, none⟩ = some (.int .i64 a0_1) := (blk_cell BK143.out 1).trans rfl
            have hcz53_2 : wc.cell? ⟨gb143, 2, none⟩ = some (.int .i64 a0_2) := (blk_cell BK143.out 2).trans rfl
            have hcz53_3 : wc.cell? ⟨gb143, 3, none⟩ = some (.int .i64 a0_3) := (blk_cell BK143.out 3).trans rfl
            have hcz53_4 : wc.cell? ⟨gb143, 4, none⟩ = some (.int .i64 a0_4) := (blk_cell BK143.out 4).trans rfl
            have hcz53_5 : wc.cell? ⟨gb143, 5, none⟩ = some (.string a0_5) := (blk_cell BK143.out 5).trans rfl
            have hcz53_6 : wc.cell? ⟨gb143, 6, none⟩ = some (.string a0_6) := (blk_cell BK143.out 6).trans rfl
            have hcz53_7 : wc.cell? ⟨gb143, 7, none⟩ = some (.string a0_7) := (blk_cell BK143.out 7).trans rfl
            have hcz53_8 : wc.cell? ⟨gb143, 8, none⟩ = some (.int .i64 a0_8) := (blk_cell BK143.out 8).trans rfl
            have hcz53_9 : wc.cell? ⟨gb143, 9, none⟩ = some (.slice A0_9 l0_9.length c0_9) := (blk_cell BK143.out 9).trans rfl
            have hcz53_10 : wc.cell? ⟨gb143, 10, none⟩ = some (.slice A0_10 l0_10.length c0_10) := (blk_cell BK143.out 10).trans rfl
            have hcz53_11 : wc.cell? ⟨gb143, 11, none⟩ = some (.int .i64 a0_11) := (blk_cell BK143.out 11).trans rfl
            have hcz53_12 : wc.cell? ⟨gb143, 12, none⟩ = some (.int .i64 a0_12) := (blk_cell BK143.out 12).trans rfl
            have hfz53_0 := blk_frozen BK143.out 0
            have hfz53_1 := blk_frozen BK143.out 1
            have hfz53_2 := blk_frozen BK143.out 2
            have hfz53_3 := blk_frozen BK143.out 3
            have hfz53_4 := blk_frozen BK143.out 4
            have hfz53_5 := blk_frozen BK143.out 5
            have hfz53_6 := blk_frozen BK143.out 6
            have hfz53_7 := blk_frozen BK143.out 7
            have hfz53_8 := blk_frozen BK143.out 8
            have hfz53_9 := blk_frozen BK143.out 9
            have hfz53_10 := blk_frozen BK143.out 10
            have hfz53_11 := blk_frozen BK143.out 11
            have hfz53_12 := blk_frozen BK143.out 12
            have hcz54_0 : wc.cell? ⟨gb144, 0, none⟩ = some (.int .i64 a1_0) := (blk_cell BK144.out 0).trans rfl
            have hcz54_1 : wc.cell? ⟨gb144, 1, none⟩ = some (.int .i64 a1_1) := (blk_cell BK144.out 1).trans rfl
            have hcz54_2 : wc.cell? ⟨gb144, 2, none⟩ = some (.int .i64 a1_2) := (blk_cell BK144.out 2).trans rfl
            have hcz54_3 : wc.cell? ⟨gb144, 3, none⟩ = some (.int .i64 a1_3) := (blk_cell BK144.out 3).trans rfl
            have hcz54_4 : wc.cell? ⟨gb144, 4, none⟩ = some (.int .i64 a1_4) := (blk_cell BK144.out 4).trans rfl
            have hcz54_5 : wc.cell? ⟨gb144, 5, none⟩ = some (.string a1_5) := (blk_cell BK144.out 5).trans rfl
            have hcz54_6 : wc.cell? ⟨gb144, 6, none⟩ = some (.string a1_6) := (blk_cell BK144.out 6).trans rfl
            have hcz54_7 : wc.cell? ⟨gb144, 7, none⟩ = some (.string a1_7) := (blk_cell BK144.out 7).trans rfl
            have hcz54_8 : wc.cell? ⟨gb144, 8, none⟩ = some (.int .i64 a1_8) := (blk_cell BK144.out 8).trans rfl
            have hcz54_9 : wc.cell? ⟨gb144, 9, none⟩ = some (.slice A1_9 l1_9.length c1_9) := (blk_cell BK144.out 9).trans rfl
            have hcz54_10 : wc.cell? ⟨gb144, 10, none⟩ = some (.slice A1_10 l1_10.length c1_10) := (blk_cell BK144.out 10).trans rfl
            have hcz54_11 : wc.cell? ⟨gb144, 11, none⟩ = some (.int .i64 a1_11) := (blk_cell BK144.out 11).trans rfl
            have hcz54_12 : wc.cell? ⟨gb144, 12, none⟩ = some (.int .i64 a1_12) := (blk_cell BK144.out 12).trans rfl
            have hfz54_0 := blk_frozen BK144.out 0
            have hfz54_1 := blk_frozen BK144.out 1
            have hfz54_2 := blk_frozen BK144.out 2
            have hfz54_3 := blk_frozen BK144.out 3
            have hfz54_4 := blk_frozen BK144.out 4
            have hfz54_5 := blk_frozen BK144.out 5
            have hfz54_6 := blk_frozen BK144.out 6
            have hfz54_7 := blk_frozen BK144.out 7
            have hfz54_8 := blk_frozen BK144.out 8
            have hfz54_9 := blk_frozen BK144.out 9
            have hfz54_10 := blk_frozen BK144.out 10
            have hfz54_11 := blk_frozen BK144.out 11
            have hfz54_12 := blk_frozen BK144.out 12
            go_wp2
            repeat (go_quiet (fail); try go_wp2)
            go_meet
            case rel => exact ⟨_, (((l0_10.length : Int) != (l1_10.length : Int))), (by first | rfl | (simp; done) | (simp [*]; done)), H', ⟨by have := HJ2.out; first | omega | exact Nat.le_refl _⟩, ⟨by (with_reducible repeat (first | refine blk_drewN ?_ _ | refine blk_drew ?_ | refine blk_alloc ?_ _)); exact BK143.out⟩, ⟨by (with_reducible repeat (first | refine blk_drewN ?_ _ | refine blk_drew ?_ | refine blk_alloc ?_ _)); exact BK144.out⟩, ⟨by repeat (first | (with_reducible first | exact HB.out | apply below_alloc | apply pw_below_drewN | apply below_drew1 | refine below_set ?_ GE143.out | refine below_set ?_ GE144.out) | exact HB.out)⟩⟩
          · rw [if_neg c51] at H
            have c51b0 : ((l0_9.length : Int) == (l1_9.length : Int)) = false := beq_eq_false_iff_ne.mpr c51
            have c51b1 : ((l0_9.length : Int) != (l1_9.length : Int)) = true := bne_iff_ne.mpr c51
            have c51b2 : (l0_9.length == l1_9.length) = false := by first | simpa using c51 | (simp at c51 ⊢; omega)
            (first | rw [c51b0] | (simp only [i64_w, i32_w]; rw [c51b0]) | skip)
            have H' := Aside0.mk H
            clear H
            have hnb55 := NB143_144.out
            have hnc55 := NB144_143.out
            have hcz56_0 : wc.cell? ⟨gb143, 0, none⟩ = some (.int .i64 a0_0) := (blk_cell BK143.out 0).trans rfl
            have hcz56_1 : wc.cell? ⟨gb143, 1, none⟩ = some (.int .i64 a0_1) := (blk_cell BK143.out 1).trans rfl
            have hcz56_2 : wc.cell? ⟨gb143, 2, none⟩ = some (.int .i64 a0_2) := (blk_cell BK143.out 2).trans rfl
            have hcz56_3 : wc.cell? ⟨gb143, 3, none⟩ = some (.int .i64 a0_3) := (blk_cell BK143.out 3).trans rfl
            have hcz56_4 : wc.cell? ⟨gb143, 4, none⟩ = some (.int .i64 a0_4) := (blk_cell BK143.out 4).trans rfl
            have hcz56_5 : wc.cell? ⟨gb143, 5, none⟩ = some (.string a0_5) := (blk_cell BK143.out 5).trans rfl
            have hcz56_6 : wc.cell? ⟨gb143, 6, none⟩ = some (.string a0_6) := (blk_cell BK143.out 6).trans rfl
            have hcz56_7 : wc.cell? ⟨gb143, 7, none⟩ = some (.string a0_7) := (blk_cell BK143.out 7).trans rfl
            have hcz56_8 : wc.cell? ⟨gb143, 8, none⟩ = some (.int .i64 a0_8) := (blk_cell BK143.out 8).trans rfl
            have hcz56_9 : wc.cell? ⟨gb143, 9, none⟩ = some (.slice A0_9 l0_9.length c0_9) := (blk_cell BK143.out 9).trans rfl
            have hcz56_10 : wc.cell? ⟨gb143, 10, none⟩ = some (.slice A0_10 l0_10.length c0_10) := (blk_cell BK143.out 10).trans rfl
            have hcz56_11 : wc.cell? ⟨gb143, 11, none⟩ = some (.int .i64 a0_11) := (blk_cell BK143.out 11).trans rfl
            have hcz56_12 : wc.cell? ⟨gb143, 12, none⟩ = some (.int .i64 a0_12) := (blk_cell BK143.out 12).trans rfl
            have hfz56_0 := blk_frozen BK143.out 0
            have hfz56_1 := blk_frozen BK143.out 1
            have hfz56_2 := blk_frozen BK143.out 2
            have hfz56_3 := blk_frozen BK143.out 3
            have hfz56_4 := blk_frozen BK143.out 4
            have hfz56_5 := blk_frozen BK143.out 5
            have hfz56_6 := blk_frozen BK143.out 6
            have hfz56_7 := blk_frozen BK143.out 7
            have hfz56_8 := blk_frozen BK143.out 8
            have hfz56_9 := blk_frozen BK143.out 9
            have hfz56_10 := blk_frozen BK143.out 10
            have hfz56_11 := blk_frozen BK143.out 11
            have hfz56_12 := blk_frozen BK143.out 12
            have hcz57_0 : wc.cell? ⟨gb144, 0, none⟩ = some (.int .i64 a1_0) := (blk_cell BK144.out 0).trans rfl
            have hcz57_1 : wc.cell? ⟨gb144, 1, none⟩ = some (.int .i64 a1_1) := (blk_cell BK144.out 1).trans rfl
            have hcz57_2 : wc.cell? ⟨gb144, 2, none⟩ = some (.int .i64 a1_2) := (blk_cell BK144.out 2).trans rfl
            have hcz57_3 : wc.cell? ⟨gb144, 3, none⟩ = some (.int .i64 a1_3) := (blk_cell BK144.out 3).trans rfl
            have hcz57_4 : wc.cell? ⟨gb144, 4, none⟩ = some (.int .i64 a1_4) := (blk_cell BK144.out 4).trans rfl
            have hcz57_5 : wc.cell? ⟨gb144, 5, none⟩ = some (.string a1_5) := (blk_cell BK144.out 5).trans rfl
            have hcz57_6 : wc.cell? ⟨gb144, 6, none⟩ = some (.string a1_6) := (blk_cell BK144.out 6).trans rfl
            have hcz57_7 : wc.cell? ⟨gb144, 7, none⟩ = some (.string a1_7) := (blk_cell BK144.out 7).trans rfl
            have hcz57_8 : wc.cell? ⟨gb144, 8, none⟩ = some (.int .i64 a1_8) := (blk_cell BK144.out 8).trans rfl
            have hcz57_9 : wc.cell? ⟨gb144, 9, none⟩ = some (.slice A1_9 l1_9.length c1_9) := (blk_cell BK144.out 9).trans rfl
            have hcz57_10 : wc.cell? ⟨gb144, 10, none⟩ = some (.slice A1_10 l1_10.length c1_10) := (blk_cell BK144.out 10).trans rfl
            have hcz57_11 : wc.cell? ⟨gb144, 11, none⟩ = some (.int .i64 a1_11) := (blk_cell BK144.out 11).trans rfl
            have hcz57_12 : wc.cell? ⟨gb144, 12, none⟩ = some (.int .i64 a1_12) := (blk_cell BK144.out 12).trans rfl
            have hfz57_0 := blk_frozen BK144.out 0
            have hfz57_1 := blk_frozen BK144.out 1
            have hfz57_2 := blk_frozen BK144.out 2
            have hfz57_3 := blk_frozen BK144.out 3
            have hfz57_4 := blk_frozen BK144.out 4
            have hfz57_5 := blk_frozen BK144.out 5
            have hfz57_6 := blk_frozen BK144.out 6
            have hfz57_7 := blk_frozen BK144.out 7
            have hfz57_8 := blk_frozen BK144.out 8
            have hfz57_9 := blk_frozen BK144.out 9
            have hfz57_10 := blk_frozen BK144.out 10
            have hfz57_11 := blk_frozen BK144.out 11
            have hfz57_12 := blk_frozen BK144.out 12
            go_wp2
            repeat (go_quiet (fail); try go_wp2)
            go_meet
            case rel => exact ⟨_, (true), (by first | rfl | (simp; done) | (simp [*]; done)), H', ⟨by have := HJ2.out; first | omega | exact Nat.le_refl _⟩, ⟨by (with_reducible repeat (first | refine blk_drewN ?_ _ | refine blk_drew ?_ | refine blk_alloc ?_ _)); exact BK143.out⟩, ⟨by (with_reducible repeat (first | refine blk_drewN ?_ _ | refine blk_drew ?_ | refine blk_alloc ?_ _)); exact BK144.out⟩, ⟨by repeat (first | (with_reducible first | exact HB.out | apply below_alloc | apply pw_below_drewN | apply below_drew1 | refine below_set ?_ GE143.out | refine below_set ?_ GE144.out) | exact HB.out)⟩⟩
        case rest =>
          clear HC50
          try clear c1
          try clear p2
          try clear c4
          try clear c5
          try clear c49
          try clear c51
          try clear c51b0
          try clear c51b1
          try clear c51b2
          try clear c52
          try clear c55
          try clear hcz27_5
          try clear hcz27_6
          try clear hcz27_7
          try clear hcz27_8
          try clear hcz27_9
          try clear hcz29_0
          try clear hcz29_1
          try clear hcz29_10
          try clear hcz29_11
          try clear hcz29_12
          try clear hcz29_2
          try clear hcz29_3
          try clear hcz29_4
          try clear hcz29_5
          try clear hcz29_6
          try clear hcz29_7
          try clear hcz29_8
          try clear hcz29_9
          try clear hcz30_0
          try clear hcz30_1
          try clear hcz30_10
          try clear hcz30_11
          try clear hcz30_12
          try clear hcz30_2
          try clear hcz30_3
          try clear hcz30_4
          try clear hcz30_5
          try clear hcz30_6
          try clear hcz30_7
          try clear hcz30_8
          try clear hcz30_9
          try clear hcz32_0
          try clear hcz32_1
          try clear hcz32_10
          try clear hcz32_11
          try clear hcz32_12
          try clear hcz32_2
          try clear hcz32_3
          try clear hcz32_4
          try clear hcz32_5
          try clear hcz32_6
          try clear hcz32_7
          try clear hcz32_8
          try clear hcz32_9
          try clear hcz33_0
          try clear hcz33_1
          try clear hcz33_10
          try clear hcz33_11
          try clear hcz33_12
          try clear hcz33_2
          try clear hcz33_3
          try clear hcz33_4
          try clear hcz33_5
          try clear hcz33_6
          try clear hcz33_7
          try clear hcz33_8
          try clear hcz33_9
          try clear hcz35_0
          try clear hcz35_1
          try clear hcz35_10
          try clear hcz35_11
          try clear hcz35_12
          try clear hcz35_2
          try clear hcz35_3
          try clear hcz35_4
          try clear hcz35_5
          try clear hcz35_6
          try clear hcz35_7
          try clear hcz35_8
          try clear hcz35_9
          try clear hcz36_0
          try clear hcz36_1
          try clear hcz36_10
          try clear hcz36_11
          try clear hcz36_12
          try clear hcz36_2
          try clear hcz36_3
          try clear hcz36_4
          try clear hcz36_5
          try clear hcz36_6
          try clear hcz36_7
          try clear hcz36_8
          try clear hcz36_9
          try clear hcz38_0
          try clear hcz38_1
          try clear hcz38_10
          try clear hcz38_11
          try clear hcz38_12
          try clear hcz38_2
          try clear hcz38_3
          try clear hcz38_4
          try clear hcz38_5
          try clear hcz38_6
          try clear hcz38_7
          try clear hcz38_8
          try clear hcz38_9
          try clear hcz39_0
          try clear hcz39_1
          try clear hcz39_10
          try clear hcz39_11
          try clear hcz39_12
          try clear hcz39_2
          try clear hcz39_3
          try clear hcz39_4
          try clear hcz39_5
          try clear hcz39_6
          try clear hcz39_7
          try clear hcz39_8
          try clear hcz39_9
          try clear hcz41_0
          try clear hcz41_1
          try clear hcz41_10
          try clear hcz41_11
          try clear hcz41_12
          try clear hcz41_2
          try clear hcz41_3
          try clear hcz41_4
          try clear hcz41_5
          try clear hcz41_6
          try clear hcz41_7
          try clear hcz41_8
          try clear hcz41_9
          try clear hcz42_0
          try clear hcz42_1
          try clear hcz42_10
          try clear hcz42_11
          try clear hcz42_12
          try clear hcz42_2
          try clear hcz42_3
          try clear hcz42_4
          try clear hcz42_5
          try clear hcz42_6
          try clear hcz42_7
          try clear hcz42_8
          try clear hcz42_9
          try clear hcz44_0
          try clear hcz44_1
          try clear hcz44_10
          try clear hcz44_11
          try clear hcz44_12
          try clear hcz44_2
          try clear hcz44_3
          try clear hcz44_4
          try clear hcz44_5
          try clear hcz44_6
          try clear hcz44_7
          try clear hcz44_8
          try clear hcz44_9
          try clear hcz45_0
          try clear hcz45_1
          try clear hcz45_10
          try clear hcz45_11
          try clear hcz45_12
          try clear hcz45_2
          try clear hcz45_3
          try clear hcz45_4
          try clear hcz45_5
          try clear hcz45_6
          try clear hcz45_7
          try clear hcz45_8
          try clear hcz45_9
          try clear hcz47_0
          try clear hcz47_1
          try clear hcz47_10
          try clear hcz47_11
          try clear hcz47_12
          try clear hcz47_2
          try clear hcz47_3
          try clear hcz47_4
          try clear hcz47_5
          try clear hcz47_6
          try clear hcz47_7
          try clear hcz47_8
          try clear hcz47_9
          try clear hcz48_0
          try clear hcz48_1
          try clear hcz48_10
          try clear hcz48_11
          try clear hcz48_12
          try clear hcz48_2
          try clear hcz48_3
          try clear hcz48_4
          try clear hcz48_5
          try clear hcz48_6
          try clear hcz48_7
          try clear hcz48_8
          try clear hcz48_9
          try clear hcz53_0
          try clear hcz53_1
          try clear hcz53_10
          try clear hcz53_11
          try clear hcz53_12
          try clear hcz53_2
          try clear hcz53_3
          try clear hcz53_4
          try clear hcz53_5
          try clear hcz53_6
          try clear hcz53_7
          try clear hcz53_8
          try clear hcz53_9
          try clear hcz54_0
          try clear hcz54_1
          try clear hcz54_10
          try clear hcz54_11
          try clear hcz54_12
          try clear hcz54_2
          try clear hcz54_3
          try clear hcz54_4
          try clear hcz54_5
          try clear hcz54_6
          try clear hcz54_7
          try clear hcz54_8
          try clear hcz54_9
          try clear hcz56_0
          try clear hcz56_1
          try clear hcz56_10
          try clear hcz56_11
          try clear hcz56_12
          try clear hcz56_2
          try clear hcz56_3
          try clear hcz56_4
          try clear hcz56_5
          try clear hcz56_6
          try clear hcz56_7
          try clear hcz56_8
          try clear hcz56_9
          try clear hcz57_0
          try clear hcz57_1
          try clear hcz57_10
          try clear hcz57_11
          try clear hcz57_12
          try clear hcz57_2
          try clear hcz57_3
          try clear hcz57_4
          try clear hcz57_5
          try clear hcz57_6
          try clear hcz57_7
          try clear hcz57_8
          try clear hcz57_9
          try clear hfz21_0
          try clear hfz21_1
          try clear hfz21_10
          try clear hfz21_11
          try clear hfz21_12
          try clear hfz21_2
          try clear hfz21_3
          try clear hfz21_4
          try clear hfz21_5
          try clear hfz21_6
          try clear hfz21_7
          try clear hfz21_8
          try clear hfz21_9
          try clear hfz23_0
          try clear hfz23_1
          try clear hfz23_10
          try clear hfz23_11
          try clear hfz23_12
          try clear hfz23_2
          try clear hfz23_3
          try clear hfz23_4
          try clear hfz23_5
          try clear hfz23_6
          try clear hfz23_7
          try clear hfz23_8
          try clear hfz23_9
          try clear hfz24_0
          try clear hfz24_1
          try clear hfz24_10
          try clear hfz24_11
          try clear hfz24_12
          try clear hfz24_2
          try clear hfz24_3
          try clear hfz24_4
          try clear hfz24_5
          try clear hfz24_6
          try clear hfz24_7
          try clear hfz24_8
          try clear hfz24_9
          try clear hfz26_0
          try clear hfz26_1
          try clear hfz26_10
          try clear hfz26_11
          try clear hfz26_12
          try clear hfz26_2
          try clear hfz26_3
          try clear hfz26_4
          try clear hfz26_5
          try clear hfz26_6
          try clear hfz26_7
          try clear hfz26_8
          try clear hfz26_9
          try clear hfz27_0
          try clear hfz27_1
          try clear hfz27_10
          try clear hfz27_11
          try clear hfz27_12
          try clear hfz27_2
          try clear hfz27_3
          try clear hfz27_4
          try clear hfz27_5
          try clear hfz27_6
          try clear hfz27_7
          try clear hfz27_8
          try clear hfz27_9
          try clear hfz29_0
          try clear hfz29_1
          try clear hfz29_10
          try clear hfz29_11
          try clear hfz29_12
          try clear hfz29_2
          try clear hfz29_3
          try clear hfz29_4
          try clear hfz29_5
          try clear hfz29_6
          try clear hfz29_7
          try clear hfz29_8
          try clear hfz29_9
          try clear hfz30_0
          try clear hfz30_1
          try clear hfz30_10
          try clear hfz30_11
          try clear hfz30_12
          try clear hfz30_2
          try clear hfz30_3
          try clear hfz30_4
          try clear hfz30_5
          try clear hfz30_6
          try clear hfz30_7
          try clear hfz30_8
          try clear hfz30_9
          try clear hfz32_0
          try clear hfz32_1
          try clear hfz32_10
          try clear hfz32_11
          try clear hfz32_12
          try clear hfz32_2
          try clear hfz32_3
          try clear hfz32_4
          try clear hfz32_5
          try clear hfz32_6
          try clear hfz32_7
          try clear hfz32_8
          try clear hfz32_9
          try clear hfz33_0
          try clear hfz33_1
          try clear hfz33_10
          try clear hfz33_11
          try clear hfz33_12
          try clear hfz33_2
          try clear hfz33_3
          try clear hfz33_4
          try clear hfz33_5
          try clear hfz33_6
          try clear hfz33_7
          try clear hfz33_8
          try clear hfz33_9
          try clear hfz35_0
          try clear hfz35_1
          try clear hfz35_10
          try clear hfz35_11
          try clear hfz35_12
          try clear hfz35_2
          try clear hfz35_3
          try clear hfz35_4
          try clear hfz35_5
          try clear hfz35_6
          try clear hfz35_7
          try clear hfz35_8
          try clear hfz35_9
          try clear hfz36_0
          try clear hfz36_1
          try clear hfz36_10
          try clear hfz36_11
          try clear hfz36_12
          try clear hfz36_2
          try clear hfz36_3
          try clear hfz36_4
          try clear hfz36_5
          try clear hfz36_6
          try clear hfz36_7
          try clear hfz36_8
          try clear hfz36_9
          try clear hfz38_0
          try clear hfz38_1
          try clear hfz38_10
          try clear hfz38_11
          try clear hfz38_12
          try clear hfz38_2
          try clear hfz38_3
          try clear hfz38_4
          try clear hfz38_5
          try clear hfz38_6
          try clear hfz38_7
          try clear hfz38_8
          try clear hfz38_9
          try clear hfz39_0
          try clear hfz39_1
          try clear hfz39_10
          try clear hfz39_11
          try clear hfz39_12
          try clear hfz39_2
          try clear hfz39_3
          try clear hfz39_4
          try clear hfz39_5
          try clear hfz39_6
          try clear hfz39_7
          try clear hfz39_8
          try clear hfz39_9
          try clear hfz41_0
          try clear hfz41_1
          try clear hfz41_10
          try clear hfz41_11
          try clear hfz41_12
          try clear hfz41_2
          try clear hfz41_3
          try clear hfz41_4
          try clear hfz41_5
          try clear hfz41_6
          try clear hfz41_7
          try clear hfz41_8
          try clear hfz41_9
          try clear hfz42_0
          try clear hfz42_1
          try clear hfz42_10
          try clear hfz42_11
          try clear hfz42_12
          try clear hfz42_2
          try clear hfz42_3
          try clear hfz42_4
          try clear hfz42_5
          try clear hfz42_6
          try clear hfz42_7
          try clear hfz42_8
          try clear hfz42_9
          try clear hfz44_0
          try clear hfz44_1
          try clear hfz44_10
          try clear hfz44_11
          try clear hfz44_12
          try clear hfz44_2
          try clear hfz44_3
          try clear hfz44_4
          try clear hfz44_5
          try clear hfz44_6
          try clear hfz44_7
          try clear hfz44_8
          try clear hfz44_9
          try clear hfz45_0
          try clear hfz45_1
          try clear hfz45_10
          try clear hfz45_11
          try clear hfz45_12
          try clear hfz45_2
          try clear hfz45_3
          try clear hfz45_4
          try clear hfz45_5
          try clear hfz45_6
          try clear hfz45_7
          try clear hfz45_8
          try clear hfz45_9
          try clear hfz47_0
          try clear hfz47_1
          try clear hfz47_10
          try clear hfz47_11
          try clear hfz47_12
          try clear hfz47_2
          try clear hfz47_3
          try clear hfz47_4
          try clear hfz47_5
          try clear hfz47_6
          try clear hfz47_7
          try clear hfz47_8
          try clear hfz47_9
          try clear hfz48_0
          try clear hfz48_1
          try clear hfz48_10
          try clear hfz48_11
          try clear hfz48_12
          try clear hfz48_2
          try clear hfz48_3
          try clear hfz48_4
          try clear hfz48_5
          try clear hfz48_6
          try clear hfz48_7
          try clear hfz48_8
          try clear hfz48_9
          try clear hfz53_0
          try clear hfz53_1
          try clear hfz53_10
          try clear hfz53_11
          try clear hfz53_12
          try clear hfz53_2
          try clear hfz53_3
          try clear hfz53_4
          try clear hfz53_5
          try clear hfz53_6
          try clear hfz53_7
          try clear hfz53_8
          try clear hfz53_9
          try clear hfz54_0
          try clear hfz54_1
          try clear hfz54_10
          try clear hfz54_11
          try clear hfz54_12
          try clear hfz54_2
          try clear hfz54_3
          try clear hfz54_4
          try clear hfz54_5
          try clear hfz54_6
          try clear hfz54_7
          try clear hfz54_8
          try clear hfz54_9
          try clear hfz56_0
          try clear hfz56_1
          try clear hfz56_10
          try clear hfz56_11
          try clear hfz56_12
          try clear hfz56_2
          try clear hfz56_3
          try clear hfz56_4
          try clear hfz56_5
          try clear hfz56_6
          try clear hfz56_7
          try clear hfz56_8
          try clear hfz56_9
          try clear hfz57_0
          try clear hfz57_1
          try clear hfz57_10
          try clear hfz57_11
          try clear hfz57_12
          try clear hfz57_2
          try clear hfz57_3
          try clear hfz57_4
          try clear hfz57_5
          try clear hfz57_6
          try clear hfz57_7
          try clear hfz57_8
          try clear hfz57_9
          obtain ⟨kq, x97_49, rfl, HA, HJ49, BK143, BK144, HB⟩ := hcut
          cases kq with
          | zero => exact absurd HA.out (by simp [gharryref07_Same.j1])
          | succ kj49 =>
            have H := HA.out
            clear HA
            simp only [gharryref07_Same.j1] at H
            by_cases c58 : x97_49 = true
            · subst c58
              have H1 : (some false) = some r := by rw [if_pos rfl] at H; exact H
              clear H
              have H := H1
              clear H1
              obtain rfl := Option.some.inj H
              go_wp2
              repeat (go_quiet (fail); try go_wp2)
              go_ret
              exact ⟨by first | rfl | (simp [errW_none, errW_some] <;> rfl) | (simp [*, errW_none, errW_some] <;> rfl), by repeat (first | (with_reducible first | exact HB.out | apply below_alloc | apply pw_below_drewN | apply below_drew1 | refine below_set ?_ GE143.out | refine below_set ?_ GE144.out) | exact HB.out)⟩
            · replace c58 := Bool.eq_false_iff.mpr c58
              subst c58
              have H1 : (gharryref07_Same.l0 kj49 0 a0_0 a0_1 a0_2 a0_3 a0_4 a0_5 a0_6 a0_7 a0_8 l0_9 l0_10 a0_11 a0_12 a1_0 a1_1 a1_2 a1_3 a1_4 a1_5 a1_6 a1_7 a1_8 l1_9 l1_10 a1_11 a1_12) = some r := by rw [if_neg (show ¬ (false = true) by decide)] at H; exact H
              clear H
              have H := H1
              clear H1
              have H' := Aside0.mk H
              clear H
              go_wp2
              repeat (go_quiet (fail); try go_wp2)
              go_loopg [5] kj49 (fun kq v5 w' => ∃ (x5_3 : Int), v5 = .int .i64 x5_3 ∧ Aside0 (gharryref07_Same.l0 kq x5_3 a0_0 a0_1 a0_2 a0_3 a0_4 a0_5 a0_6 a0_7 a0_8 l0_9 l0_10 a0_11 a0_12 a1_0 a1_1 a1_2 a1_3 a1_4 a1_5 a1_6 a1_7 a1_8 l1_9 l1_10 a1_11 a1_12 = some r) ∧ Aside0 (kq ≤ kj49) ∧ Aside0 (w'.heap[gb143]? = some (.cells #[.int .i64 a0_0, .int .i64 a0_1, .int .i64 a0_2, .int .i64 a0_3, .int .i64 a0_4, .string a0_5, .string a0_6, .string a0_7, .int .i64 a0_8, (.slice A0_9 l0_9.length c0_9), (.slice A0_10 l0_10.length c0_10), .int .i64 a0_11, .int .i64 a0_12] 25 (0, 0))) ∧ Aside0 (w'.heap[gb144]? = some (.cells #[.int .i64 a1_0, .int .i64 a1_1, .int .i64 a1_2, .int .i64 a1_3, .int .i64 a1_4, .string a1_5, .string a1_6, .string a1_7, .int .i64 a1_8, (.slice A1_9 l1_9.length c1_9), (.slice A1_10 l1_10.length c1_10), .int .i64 a1_11, .int .i64 a1_12] 25 (0, 0))) ∧ Aside0 (Below w.heap.size w w'))
              case atStart => exact ⟨(0), (by first | rfl | (simp; done) | (simp [*]; done)), H', ⟨Nat.le_refl _⟩, ⟨by (with_reducible repeat (first | refine blk_drewN ?_ _ | refine blk_drew ?_ | refine blk_alloc ?_ _)); exact BK143.out⟩, ⟨by (with_reducible repeat (first | refine blk_drewN ?_ _ | refine blk_drew ?_ | refine blk_alloc ?_ _)); exact BK144.out⟩, ⟨by repeat (first | (with_reducible first | exact HB.out | apply below_alloc | apply pw_below_drewN | apply below_drew1 | refine below_set ?_ GE143.out | refine below_set ?_ GE144.out) | exact HB.out)⟩⟩
              case round =>
                clear H'
                try clear c1
                try clear p2
                try clear c4
                try clear c5
                try clear c49
                try clear c51
                try clear c51b0
                try clear c51b1
                try clear c51b2
                try clear c52
                try clear c55
                try clear c58
                try clear hcz27_5
                try clear hcz27_6
                try clear hcz27_7
                try clear hcz27_8
                try clear hcz27_9
                try clear hcz29_0
                try clear hcz29_1
                try clear hcz29_10
                try clear hcz29_11
                try clear hcz29_12
                try clear hcz29_2
                try clear hcz29_3
                try clear hcz29_4
                try clear hcz29_5
                try clear hcz29_6
                try clear hcz29_7
                try clear hcz29_8
                try clear hcz29_9
                try clear hcz30_0
                try clear hcz30_1
                try clear hcz30_10
                try clear hcz30_11
                try clear hcz30_12
                try clear hcz30_2
                try clear hcz30_3
                try clear hcz30_4
                try clear hcz30_5
                try clear hcz30_6
                try clear hcz30_7
                try clear hcz30_8
                try clear hcz30_9
                try clear hcz32_0
                try clear hcz32_1
                try clear hcz32_10
                try clear hcz32_11
                try clear hcz32_12
                try clear hcz32_2
                try clear hcz32_3
                try clear hcz32_4
                try clear hcz32_5
                try clear hcz32_6
                try clear hcz32_7
                try clear hcz32_8
                try clear hcz32_9
                try clear hcz33_0
                try clear hcz33_1
                try clear hcz33_10
                try clear hcz33_11
                try clear hcz33_12
                try clear hcz33_2
                try clear hcz33_3
                try clear hcz33_4
                try clear hcz33_5
                try clear hcz33_6
                try clear hcz33_7
                try clear hcz33_8
                try clear hcz33_9
                try clear hcz35_0
                try clear hcz35_1
                try clear hcz35_10
                try clear hcz35_11
                try clear hcz35_12
                try clear hcz35_2
                try clear hcz35_3
                try clear hcz35_4
                try clear hcz35_5
                try clear hcz35_6
                try clear hcz35_7
                try clear hcz35_8
                try clear hcz35_9
                try clear hcz36_0
                try clear hcz36_1
                try clear hcz36_10
                try clear hcz36_11
                try clear hcz36_12
                try clear hcz36_2
                try clear hcz36_3
                try clear hcz36_4
                try clear hcz36_5
                try clear hcz36_6
                try clear hcz36_7
                try clear hcz36_8
                try clear hcz36_9
                try clear hcz38_0
                try clear hcz38_1
                try clear hcz38_10
                try clear hcz38_11
                try clear hcz38_12
                try clear hcz38_2
                try clear hcz38_3
                try clear hcz38_4
                try clear hcz38_5
                try clear hcz38_6
                try clear hcz38_7
                try clear hcz38_8
                try clear hcz38_9
                try clear hcz39_0
                try clear hcz39_1
                try clear hcz39_10
                try clear hcz39_11
                try clear hcz39_12
                try clear hcz39_2
                try clear hcz39_3
                try clear hcz39_4
                try clear hcz39_5
                try clear hcz39_6
                try clear hcz39_7
                try clear hcz39_8
                try clear hcz39_9
                try clear hcz41_0
                try clear hcz41_1
                try clear hcz41_10
                try clear hcz41_11
                try clear hcz41_12
                try clear hcz41_2
                try clear hcz41_3
                try clear hcz41_4
                try clear hcz41_5
                try clear hcz41_6
                try clear hcz41_7
                try clear hcz41_8
                try clear hcz41_9
                try clear hcz42_0
                try clear hcz42_1
                try clear hcz42_10
                try clear hcz42_11
                try clear hcz42_12
                try clear hcz42_2
                try clear hcz42_3
                try clear hcz42_4
                try clear hcz42_5
                try clear hcz42_6
                try clear hcz42_7
                try clear hcz42_8
                try clear hcz42_9
                try clear hcz44_0
                try clear hcz44_1
                try clear hcz44_10
                try clear hcz44_11
                try clear hcz44_12
                try clear hcz44_2
                try clear hcz44_3
                try clear hcz44_4
                try clear hcz44_5
                try clear hcz44_6
                try clear hcz44_7
                try clear hcz44_8
                try clear hcz44_9
                try clear hcz45_0
                try clear hcz45_1
                try clear hcz45_10
                try clear hcz45_11
                try clear hcz45_12
                try clear hcz45_2
                try clear hcz45_3
                try clear hcz45_4
                try clear hcz45_5
                try clear hcz45_6
                try clear hcz45_7
                try clear hcz45_8
                try clear hcz45_9
                try clear hcz47_0
                try clear hcz47_1
                try clear hcz47_10
                try clear hcz47_11
                try clear hcz47_12
                try clear hcz47_2
                try clear hcz47_3
                try clear hcz47_4
                try clear hcz47_5
                try clear hcz47_6
                try clear hcz47_7
                try clear hcz47_8
                try clear hcz47_9
                try clear hcz48_0
                try clear hcz48_1
                try clear hcz48_10
                try clear hcz48_11
                try clear hcz48_12
                try clear hcz48_2
                try clear hcz48_3
                try clear hcz48_4
                try clear hcz48_5
                try clear hcz48_6
                try clear hcz48_7
                try clear hcz48_8
                try clear hcz48_9
                try clear hcz53_0
                try clear hcz53_1
                try clear hcz53_10
                try clear hcz53_11
                try clear hcz53_12
                try clear hcz53_2
                try clear hcz53_3
                try clear hcz53_4
                try clear hcz53_5
                try clear hcz53_6
                try clear hcz53_7
                try clear hcz53_8
                try clear hcz53_9
                try clear hcz54_0
                try clear hcz54_1
                try clear hcz54_10
                try clear hcz54_11
                try clear hcz54_12
                try clear hcz54_2
                try clear hcz54_3
                try clear hcz54_4
                try clear hcz54_5
                try clear hcz54_6
                try clear hcz54_7
                try clear hcz54_8
                try clear hcz54_9
                try clear hcz56_0
                try clear hcz56_1
                try clear hcz56_10
                try clear hcz56_11
                try clear hcz56_12
                try clear hcz56_2
                try clear hcz56_3
                try clear hcz56_4
                try clear hcz56_5
                try clear hcz56_6
                try clear hcz56_7
                try clear hcz56_8
                try clear hcz56_9
                try clear hcz57_0
                try clear hcz57_1
                try clear hcz57_10
                try clear hcz57_11
                try clear hcz57_12
                try clear hcz57_2
                try clear hcz57_3
                try clear hcz57_4
                try clear hcz57_5
                try clear hcz57_6
                try clear hcz57_7
                try clear hcz57_8
                try clear hcz57_9
                try clear hfz21_0
                try clear hfz21_1
                try clear hfz21_10
                try clear hfz21_11
                try clear hfz21_12
                try clear hfz21_2
                try clear hfz21_3
                try clear hfz21_4
                try clear hfz21_5
                try clear hfz21_6
                try clear hfz21_7
                try clear hfz21_8
                try clear hfz21_9
                try clear hfz23_0
                try clear hfz23_1
                try clear hfz23_10
                try clear hfz23_11
                try clear hfz23_12
                try clear hfz23_2
                try clear hfz23_3
                try clear hfz23_4
                try clear hfz23_5
                try clear hfz23_6
                try clear hfz23_7
                try clear hfz23_8
                try clear hfz23_9
                try clear hfz24_0
                try clear hfz24_1
                try clear hfz24_10
                try clear hfz24_11
                try clear hfz24_12
                try clear hfz24_2
                try clear hfz24_3
                try clear hfz24_4
                try clear hfz24_5
                try clear hfz24_6
                try clear hfz24_7
                try clear hfz24_8
                try clear hfz24_9
                try clear hfz26_0
                try clear hfz26_1
                try clear hfz26_10
                try clear hfz26_11
                try clear hfz26_12
                try clear hfz26_2
                try clear hfz26_3
                try clear hfz26_4
                try clear hfz26_5
                try clear hfz26_6
                try clear hfz26_7
                try clear hfz26_8
                try clear hfz26_9
                try clear hfz27_0
                try clear hfz27_1
                try clear hfz27_10
                try clear hfz27_11
                try clear hfz27_12
                try clear hfz27_2
                try clear hfz27_3
                try clear hfz27_4
                try clear hfz27_5
                try clear hfz27_6
                try clear hfz27_7
                try clear hfz27_8
                try clear hfz27_9
                try clear hfz29_0
                try clear hfz29_1
                try clear hfz29_10
                try clear hfz29_11
                try clear hfz29_12
                try clear hfz29_2
                try clear hfz29_3
                try clear hfz29_4
                try clear hfz29_5
                try clear hfz29_6
                try clear hfz29_7
                try clear hfz29_8
                try clear hfz29_9
                try clear hfz30_0
                try clear hfz30_1
                try clear hfz30_10
                try clear hfz30_11
                try clear hfz30_12
                try clear hfz30_2
                try clear hfz30_3
                try clear hfz30_4
                try clear hfz30_5
                try clear hfz30_6
                try clear hfz30_7
                try clear hfz30_8
                try clear hfz30_9
                try clear hfz32_0
                try clear hfz32_1
                try clear hfz32_10
                try clear hfz32_11
                try clear hfz32_12
                try clear hfz32_2
                try clear hfz32_3
                try clear hfz32_4
                try clear hfz32_5
                try clear hfz32_6
                try clear hfz32_7
                try clear hfz32_8
                try clear hfz32_9
                try clear hfz33_0
                try clear hfz33_1
                try clear hfz33_10
                try clear hfz33_11
                try clear hfz33_12
                try clear hfz33_2
                try clear hfz33_3
                try clear hfz33_4
                try clear hfz33_5
                try clear hfz33_6
                try clear hfz33_7
                try clear hfz33_8
                try clear hfz33_9
                try clear hfz35_0
                try clear hfz35_1
                try clear hfz35_10
                try clear hfz35_11
                try clear hfz35_12
                try clear hfz35_2
                try clear hfz35_3
                try clear hfz35_4
                try clear hfz35_5
                try clear hfz35_6
                try clear hfz35_7
                try clear hfz35_8
                try clear hfz35_9
                try clear hfz36_0
                try clear hfz36_1
                try clear hfz36_10
                try clear hfz36_11
                try clear hfz36_12
                try clear hfz36_2
                try clear hfz36_3
                try clear hfz36_4
                try clear hfz36_5
                try clear hfz36_6
                try clear hfz36_7
                try clear hfz36_8
                try clear hfz36_9
                try clear hfz38_0
                try clear hfz38_1
                try clear hfz38_10
                try clear hfz38_11
                try clear hfz38_12
                try clear hfz38_2
                try clear hfz38_3
                try clear hfz38_4
                try clear hfz38_5
                try clear hfz38_6
                try clear hfz38_7
                try clear hfz38_8
                try clear hfz38_9
                try clear hfz39_0
                try clear hfz39_1
                try clear hfz39_10
                try clear hfz39_11
                try clear hfz39_12
                try clear hfz39_2
                try clear hfz39_3
                try clear hfz39_4
                try clear hfz39_5
                try clear hfz39_6
                try clear hfz39_7
                try clear hfz39_8
                try clear hfz39_9
                try clear hfz41_0
                try clear hfz41_1
                try clear hfz41_10
                try clear hfz41_11
                try clear hfz41_12
                try clear hfz41_2
                try clear hfz41_3
                try clear hfz41_4
                try clear hfz41_5
                try clear hfz41_6
                try clear hfz41_7
                try clear hfz41_8
                try clear hfz41_9
                try clear hfz42_0
                try clear hfz42_1
                try clear hfz42_10
                try clear hfz42_11
                try clear hfz42_12
                try clear hfz42_2
                try clear hfz42_3
                try clear hfz42_4
                try clear hfz42_5
                try clear hfz42_6
                try clear hfz42_7
                try clear hfz42_8
                try clear hfz42_9
                try clear hfz44_0
                try clear hfz44_1
                try clear hfz44_10
                try clear hfz44_11
                try clear hfz44_12
                try clear hfz44_2
                try clear hfz44_3
                try clear hfz44_4
                try clear hfz44_5
                try clear hfz44_6
                try clear hfz44_7
                try clear hfz44_8
                try clear hfz44_9
                try clear hfz45_0
                try clear hfz45_1
                try clear hfz45_10
                try clear hfz45_11
                try clear hfz45_12
                try clear hfz45_2
                try clear hfz45_3
                try clear hfz45_4
                try clear hfz45_5
                try clear hfz45_6
                try clear hfz45_7
                try clear hfz45_8
                try clear hfz45_9
                try clear hfz47_0
                try clear hfz47_1
                try clear hfz47_10
                try clear hfz47_11
                try clear hfz47_12
                try clear hfz47_2
                try clear hfz47_3
                try clear hfz47_4
                try clear hfz47_5
                try clear hfz47_6
                try clear hfz47_7
                try clear hfz47_8
                try clear hfz47_9
                try clear hfz48_0
                try clear hfz48_1
                try clear hfz48_10
                try clear hfz48_11
                try clear hfz48_12
                try clear hfz48_2
                try clear hfz48_3
                try clear hfz48_4
                try clear hfz48_5
                try clear hfz48_6
                try clear hfz48_7
                try clear hfz48_8
                try clear hfz48_9
                try clear hfz53_0
                try clear hfz53_1
                try clear hfz53_10
                try clear hfz53_11
                try clear hfz53_12
                try clear hfz53_2
                try clear hfz53_3
                try clear hfz53_4
                try clear hfz53_5
                try clear hfz53_6
                try clear hfz53_7
                try clear hfz53_8
                try clear hfz53_9
                try clear hfz54_0
                try clear hfz54_1
                try clear hfz54_10
                try clear hfz54_11
                try clear hfz54_12
                try clear hfz54_2
                try clear hfz54_3
                try clear hfz54_4
                try clear hfz54_5
                try clear hfz54_6
                try clear hfz54_7
                try clear hfz54_8
                try clear hfz54_9
                try clear hfz56_0
                try clear hfz56_1
                try clear hfz56_10
                try clear hfz56_11
                try clear hfz56_12
                try clear hfz56_2
                try clear hfz56_3
                try clear hfz56_4
                try clear hfz56_5
                try clear hfz56_6
                try clear hfz56_7
                try clear hfz56_8
                try clear hfz56_9
                try clear hfz57_0
                try clear hfz57_1
                try clear hfz57_10
                try clear hfz57_11
                try clear hfz57_12
                try clear hfz57_2
                try clear hfz57_3
                try clear hfz57_4
                try clear hfz57_5
                try clear hfz57_6
                try clear hfz57_7
                try clear hfz57_8
                try clear hfz57_9
                try clear p2
                obtain ⟨x5_3, rfl, HA, HK3, BK143, BK144, HB⟩ := hrel
                cases gk with
                | zero => exact absurd HA.out (by simp [gharryref07_Same.l0])
                | succ k3 =>
                  have H := HA.out
                  clear HA
                  simp only [gharryref07_Same.l0] at H
                  by_cases c59 : x5_3 < (l0_9.length : Int)
                  · rw [if_pos c59] at H
                    have c59b0 : decide (x5_3 < (l0_9.length : Int)) = true := decide_eq_true c59
                    clear c59
                    by_cases c60 : 0 ≤ x5_3
                    · rw [if_pos c60] at H
                      have c60b0 : decide (0 ≤ x5_3) = true := decide_eq_true c60
                      clear c60
                      by_cases c61 : x5_3 < (l1_9.length : Int)
                      · rw [if_pos c61] at H
                        have c61b0 : decide (x5_3 < (l1_9.length : Int)) = true := decide_eq_true c61
                        clear c61
                        by_cases c62 : (!(((rd_T36 l0_9 x5_3).f0) == ((rd_T36 l1_9 x5_3).f0)) || (!((((rd_T36 l0_9 x5_3).f1).toList) == (((rd_T36 l1_9 x5_3).f1).toList)))) = true
                        · rw [if_pos c62] at H
                          have c62b0 : (!(((rd_T36 l0_9 x5_3).f0) == ((rd_T36 l1_9 x5_3).f0)) || (!((((rd_T36 l0_9 x5_3).f1).toList) == (((rd_T36 l1_9 x5_3).f1).toList)))) = true := c62
                          clear c62
                          obtain rfl := Option.some.inj H
                          have hnb63 := NB143_144.out
                          have hnc63 := NB144_143.out
                          have hcz64_0 : wr.cell? ⟨gb143, 0, none⟩ = some (.int .i64 a0_0) := (blk_cell BK143.out 0).trans rfl
                          have hcz64_1 : wr.cell? ⟨gb143, 1, none⟩ = some (.int .i64 a0_1) := (blk_cell BK143.out 1).trans rfl
                          have hcz64_2 : wr.cell? ⟨gb143, 2, none⟩ = some (.int .i64 a0_2) := (blk_cell BK143.out 2).trans rfl
                          have hcz64_3 : wr.cell? ⟨gb143, 3, none⟩ = some (.int .i64 a0_3) := (blk_cell BK143.out 3).trans rfl
                          have hcz64_4 : wr.cell? ⟨gb143, 4, none⟩ = some (.int .i64 a0_4) := (blk_cell BK143.out 4).trans rfl
                          have hcz64_5 : wr.cell? ⟨gb143, 5, none⟩ = some (.string a0_5) := (blk_cell BK143.out 5).trans rfl
                          have hcz64_6 : wr.cell? ⟨gb143, 6, none⟩ = some (.string a0_6) := (blk_cell BK143.out 6).trans rfl
                          have hcz64_7 : wr.cell? ⟨gb143, 7, none⟩ = some (.string a0_7) := (blk_cell BK143.out 7).trans rfl
                          have hcz64_8 : wr.cell? ⟨gb143, 8, none⟩ = some (.int .i64 a0_8) := (blk_cell BK143.out 8).trans rfl
                          have hcz64_9 : wr.cell? ⟨gb143, 9, none⟩ = some (.slice A0_9 l0_9.length c0_9) := (blk_cell BK143.out 9).trans rfl
                          have hcz64_10 : wr.cell? ⟨gb143, 10, none⟩ = some (.slice A0_10 l0_10.length c0_10) := (blk_cell BK143.out 10).trans rfl
                          have hcz64_11 : wr.cell? ⟨gb143, 11, none⟩ = some (.int .i64 a0_11) := (blk_cell BK143.out 11).trans rfl
                          have hcz64_12 : wr.cell? ⟨gb143, 12, none⟩ = some (.int .i64 a0_12) := (blk_cell BK143.out 12).trans rfl
                          have hfz64_0 := blk_frozen BK143.out 0
                          have hfz64_1 := blk_frozen BK143.out 1
                          have hfz64_2 := blk_frozen BK143.out 2
                          have hfz64_3 := blk_frozen BK143.out 3
                          have hfz64_4 := blk_frozen BK143.out 4
                          have hfz64_5 := blk_frozen BK143.out 5
                          have hfz64_6 := blk_frozen BK143.out 6
                          have hfz64_7 := blk_frozen BK143.out 7
                          have hfz64_8 := blk_frozen BK143.out 8
                          have hfz64_9 := blk_frozen BK143.out 9
                          have hfz64_10 := blk_frozen BK143.out 10
                          have hfz64_11 := blk_frozen BK143.out 11
                          have hfz64_12 := blk_frozen BK143.out 12
                          have p145 : 0 ≤ (x5_3 : Int) := of_decide_eq_true (by first | (with_reducible assumption) | assumption)
                          have q145 : x5_3 < (l0_9.length : Int) := of_decide_eq_true (by first | (with_reducible assumption) | assumption)
                          obtain ⟨ad145, e145, hx145_0, hx145_1⟩ := at_T36 HR0_9.out x5_3 p145 q145
                          cases e145
                          replace hx145_0 := (HB.out.cell (World.block_lt_of_cell? w _ hx145_0)).trans hx145_0
                          replace hx145_1 := (HB.out.cell (World.block_lt_of_cell? w _ hx145_1)).trans hx145_1
                          replace p145 := eq_true p145
                          replace q145 := eq_true q145
                          have hcz65_0 : wr.cell? ⟨gb144, 0, none⟩ = some (.int .i64 a1_0) := (blk_cell BK144.out 0).trans rfl
                          have hcz65_1 : wr.cell? ⟨gb144, 1, none⟩ = some (.int .i64 a1_1) := (blk_cell BK144.out 1).trans rfl
                          have hcz65_2 : wr.cell? ⟨gb144, 2, none⟩ = some (.int .i64 a1_2) := (blk_cell BK144.out 2).trans rfl
                          have hcz65_3 : wr.cell? ⟨gb144, 3, none⟩ = some (.int .i64 a1_3) := (blk_cell BK144.out 3).trans rfl
                          have hcz65_4 : wr.cell? ⟨gb144, 4, none⟩ = some (.int .i64 a1_4) := (blk_cell BK144.out 4).trans rfl
                          have hcz65_5 : wr.cell? ⟨gb144, 5, none⟩ = some (.string a1_5) := (blk_cell BK144.out 5).trans rfl
                          have hcz65_6 : wr.cell? ⟨gb144, 6, none⟩ = some (.string a1_6) := (blk_cell BK144.out 6).trans rfl
                          have hcz65_7 : wr.cell? ⟨gb144, 7, none⟩ = some (.string a1_7) := (blk_cell BK144.out 7).trans rfl
                          have hcz65_8 : wr.cell? ⟨gb144, 8, none⟩ = some (.int .i64 a1_8) := (blk_cell BK144.out 8).trans rfl
                          have hcz65_9 : wr.cell? ⟨gb144, 9, none⟩ = some (.slice A1_9 l1_9.length c1_9) := (blk_cell BK144.out 9).trans rfl
                          have hcz65_10 : wr.cell? ⟨gb144, 10, none⟩ = some (.slice A1_10 l1_10.length c1_10) := (blk_cell BK144.out 10).trans rfl
                          have hcz65_11 : wr.cell? ⟨gb144, 11, none⟩ = some (.int .i64 a1_11) := (blk_cell BK144.out 11).trans rfl
                          have hcz65_12 : wr.cell? ⟨gb144, 12, none⟩ = some (.int .i64 a1_12) := (blk_cell BK144.out 12).trans rfl
                          have hfz65_0 := blk_frozen BK144.out 0
                          have hfz65_1 := blk_frozen BK144.out 1
                          have hfz65_2 := blk_frozen BK144.out 2
                          have hfz65_3 := blk_frozen BK144.out 3
                          have hfz65_4 := blk_frozen BK144.out 4
                          have hfz65_5 := blk_frozen BK144.out 5
                          have hfz65_6 := blk_frozen BK144.out 6
                          have hfz65_7 := blk_frozen BK144.out 7
                          have hfz65_8 := blk_frozen BK144.out 8
                          have hfz65_9 := blk_frozen BK144.out 9
                          have hfz65_10 := blk_frozen BK144.out 10
                          have hfz65_11 := blk_frozen BK144.out 11
                          have hfz65_12 := blk_frozen BK144.out 12
                          have p146 : 0 ≤ (x5_3 : Int) := of_decide_eq_true (by first | (with_reducible assumption) | assumption)
                          have q146 : x5_3 < (l1_9.length : Int) := of_decide_eq_true (by first | (with_reducible assumption) | assumption)
                          obtain ⟨ad146, e146, hx146_0, hx146_1⟩ := at_T36 HR1_9.out x5_3 p146 q146
                          cases e146
                          replace hx146_0 := (HB.out.cell (World.block_lt_of_cell? w _ hx146_0)).trans hx146_0
                          replace hx146_1 := (HB.out.cell (World.block_lt_of_cell? w _ hx146_1)).trans hx146_1
                          replace p146 := eq_true p146
                          replace q146 := eq_true q146
                          go_wp2
                          repeat (go_quiet (fail); try go_wp2)
                          go_ret
                          exact ⟨by first | rfl | (simp [errW_none, errW_some] <;> rfl) | (simp [*, errW_none, errW_some] <;> rfl), by repeat (first | (with_reducible first | exact HB.out | apply below_alloc | apply pw_below_drewN | apply below_drew1 | refine below_set ?_ GE143.out | refine below_set ?_ GE144.out) | exact HB.out)⟩
                        · rw [if_neg c62] at H
                          have c62b0 : (!(((rd_T36 l0_9 x5_3).f0) == ((rd_T36 l1_9 x5_3).f0)) || (!((((rd_T36 l0_9 x5_3).f1).toList) == (((rd_T36 l1_9 x5_3).f1).toList)))) = false := by simpa using c62
                          clear c62
                          have H' := Aside0.mk H
                          clear H
                          have hnb66 := NB143_144.out
                          have hnc66 := NB144_143.out
                          have hcz67_0 : wr.cell? ⟨gb143, 0, none⟩ = some (.int .i64 a0_0) := (blk_cell BK143.out 0).trans rfl
                          have hcz67_1 : wr.cell? ⟨gb143, 1, none⟩ = some (.int .i64 a0_1) := (blk_cell BK143.out 1).trans rfl
                          have hcz67_2 : wr.cell? ⟨gb143, 2, none⟩ = some (.int .i64 a0_2) := (blk_cell BK143.out 2).trans rfl
                          have hcz67_3 : wr.cell? ⟨gb143, 3, none⟩ = some (.int .i64 a0_3) := (blk_cell BK143.out 3).trans rfl
                          have hcz67_4 : wr.cell? ⟨gb143, 4, none⟩ = some (.int .i64 a0_4) := (blk_cell BK143.out 4).trans rfl
                          have hcz67_5 : wr.cell? ⟨gb143, 5, none⟩ = some (.string a0_5) := (blk_cell BK143.out 5).trans rfl
                          have hcz67_6 : wr.cell? ⟨gb143, 6, none⟩ = some (.string a0_6) := (blk_cell BK143.out 6).trans rfl
                          have hcz67_7 : wr.cell? ⟨gb143, 7, none⟩ = some (.string a0_7) := (blk_cell BK143.out 7).trans rfl
                          have hcz67_8 : wr.cell? ⟨gb143, 8, none⟩ = some (.int .i64 a0_8) := (blk_cell BK143.out 8).trans rfl
                          have hcz67_9 : wr.cell? ⟨gb143, 9, none⟩ = some (.slice A0_9 l0_9.length c0_9) := (blk_cell BK143.out 9).trans rfl
                          have hcz67_10 : wr.cell? ⟨gb143, 10, none⟩ = some (.slice A0_10 l0_10.length c0_10) := (blk_cell BK143.out 10).trans rfl
                          have hcz67_11 : wr.cell? ⟨gb143, 11, none⟩ = some (.int .i64 a0_11) := (blk_cell BK143.out 11).trans rfl
                          have hcz67_12 : wr.cell? ⟨gb143, 12, none⟩ = some (.int .i64 a0_12) := (blk_cell BK143.out 12).trans rfl
                          have hfz67_0 := blk_frozen BK143.out 0
                          have hfz67_1 := blk_frozen BK143.out 1
                          have hfz67_2 := blk_frozen BK143.out 2
                          have hfz67_3 := blk_frozen BK143.out 3
                          have hfz67_4 := blk_frozen BK143.out 4
                          have hfz67_5 := blk_frozen BK143.out 5
                          have hfz67_6 := blk_frozen BK143.out 6
                          have hfz67_7 := blk_frozen BK143.out 7
                          have hfz67_8 := blk_frozen BK143.out 8
                          have hfz67_9 := blk_frozen BK143.out 9
                          have hfz67_10 := blk_frozen BK143.out 10
                          have hfz67_11 := blk_frozen BK143.out 11
                          have hfz67_12 := blk_frozen BK143.out 12
                          have p145 : 0 ≤ (x5_3 : Int) := of_decide_eq_true (by first | (with_reducible assumption) | assumption)
                          have q145 : x5_3 < (l0_9.length : Int) := of_decide_eq_true (by first | (with_reducible assumption) | assumption)
                          obtain ⟨ad145, e145, hx145_0, hx145_1⟩ := at_T36 HR0_9.out x5_3 p145 q145
                          cases e145
                          replace hx145_0 := (HB.out.cell (World.block_lt_of_cell? w _ hx145_0)).trans hx145_0
                          replace hx145_1 := (HB.out.cell (World.block_lt_of_cell? w _ hx145_1)).trans hx145_1
                          replace p145 := eq_true p145
                          replace q145 := eq_true q145
                          have hcz68_0 : wr.cell? ⟨gb144, 0, none⟩ = some (.int .i64 a1_0) := (blk_cell BK144.out 0).trans rfl
                          have hcz68_1 : wr.cell? ⟨gb144, 1, none⟩ = some (.int .i64 a1_1) := (blk_cell BK144.out 1).trans rfl
                          have hcz68_2 : wr.cell? ⟨gb144, 2, none⟩ = some (.int .i64 a1_2) := (blk_cell BK144.out 2).trans rfl
                          have hcz68_3 : wr.cell? ⟨gb144, 3, none⟩ = some (.int .i64 a1_3) := (blk_cell BK144.out 3).trans rfl
                          have hcz68_4 : wr.cell? ⟨gb144, 4, none⟩ = some (.int .i64 a1_4) := (blk_cell BK144.out 4).trans rfl
                          have hcz68_5 : wr.cell? ⟨gb144, 5, none⟩ = some (.string a1_5) := (blk_cell BK144.out 5).trans rfl
                          have hcz68_6 : wr.cell? ⟨gb144, 6, none⟩ = some (.string a1_6) := (blk_cell BK144.out 6).trans rfl
                          have hcz68_7 : wr.cell? ⟨gb144, 7, none⟩ = some (.string a1_7) := (blk_cell BK144.out 7).trans rfl
                          have hcz68_8 : wr.cell? ⟨gb144, 8, none⟩ = some (.int .i64 a1_8) := (blk_cell BK144.out 8).trans rfl
                          have hcz68_9 : wr.cell? ⟨gb144, 9, none⟩ = some (.slice A1_9 l1_9.length c1_9) := (blk_cell BK144.out 9).trans rfl
                          have hcz68_10 : wr.cell? ⟨gb144, 10, none⟩ = some (.slice A1_10 l1_10.length c1_10) := (blk_cell BK144.out 10).trans rfl
                          have hcz68_11 : wr.cell? ⟨gb144, 11, none⟩ = some (.int .i64 a1_11) := (blk_cell BK144.out 11).trans rfl
                          have hcz68_12 : wr.cell? ⟨gb144, 12, none⟩ = some (.int .i64 a1_12) := (blk_cell BK144.out 12).trans rfl
                          have hfz68_0 := blk_frozen BK144.out 0
                          have hfz68_1 := blk_frozen BK144.out 1
                          have hfz68_2 := blk_frozen BK144.out 2
                          have hfz68_3 := blk_frozen BK144.out 3
                          have hfz68_4 := blk_frozen BK144.out 4
                          have hfz68_5 := blk_frozen BK144.out 5
                          have hfz68_6 := blk_frozen BK144.out 6
                          have hfz68_7 := blk_frozen BK144.out 7
                          have hfz68_8 := blk_frozen BK144.out 8
                          have hfz68_9 := blk_frozen BK144.out 9
                          have hfz68_10 := blk_frozen BK144.out 10
                          have hfz68_11 := blk_frozen BK144.out 11
                          have hfz68_12 := blk_frozen BK144.out 12
                          have p146 : 0 ≤ (x5_3 : Int) := of_decide_eq_true (by first | (with_reducible assumption) | assumption)
                          have q146 : x5_3 < (l1_9.length : Int) := of_decide_eq_true (by first | (with_reducible assumption) | assumption)
                          obtain ⟨ad146, e146, hx146_0, hx146_1⟩ := at_T36 HR1_9.out x5_3 p146 q146
                          cases e146
                          replace hx146_0 := (HB.out.cell (World.block_lt_of_cell? w _ hx146_0)).trans hx146_0
                          replace hx146_1 := (HB.out.cell (World.block_lt_of_cell? w _ hx146_1)).trans hx146_1
                          replace p146 := eq_true p146
                          replace q146 := eq_true q146
                          go_wp2
                          repeat (go_quiet (fail); try go_wp2)
                          go_roundg k3
                          case measure => have := HJ2.out; have := HJ49.out; have := HK3.out; omega
                          case rel => exact ⟨(wrap64 (x5_3 + 1)), (by first | rfl | (simp; done) | (simp [*]; done)), H', ⟨by have := HJ2.out; have := HJ49.out; have := HK3.out; omega⟩, ⟨by (with_reducible repeat (first | refine blk_drewN ?_ _ | refine blk_drew ?_ | refine blk_alloc ?_ _)); exact BK143.out⟩, ⟨by (with_reducible repeat (first | refine blk_drewN ?_ _ | refine blk_drew ?_ | refine blk_alloc ?_ _)); exact BK144.out⟩, ⟨by repeat (first | (with_reducible first | exact HB.out | apply below_alloc | apply pw_below_drewN | apply below_drew1 | refine below_set ?_ GE143.out | refine below_set ?_ GE144.out) | exact HB.out)⟩⟩
                      · rw [if_neg c61] at H
                        exact absurd H (by simp)
                    · rw [if_neg c60] at H
                      exact absurd H (by simp)
                  · rw [if_neg c59] at H
                    have c59b0 : decide (x5_3 < (l0_9.length : Int)) = false := decide_eq_false c59
                    clear c59
                    have H' := Aside0.mk H
                    clear H
                    have hnb69 := NB143_144.out
                    have hnc69 := NB144_143.out
                    have hcz70_0 : wr.cell? ⟨gb143, 0, none⟩ = some (.int .i64 a0_0) := (blk_cell BK143.out 0).trans rfl
                    have hcz70_1 : wr.cell? ⟨gb143, 1, none⟩ = some (.int .i64 a0_1) := (blk_cell BK143.out 1).trans rfl
                    have hcz70_2 : wr.cell? ⟨gb143, 2, none⟩ = some (.int .i64 a0_2) := (blk_cell BK143.out 2).trans rfl
                    have hcz70_3 : wr.cell? ⟨gb143, 3, none⟩ = some (.int .i64 a0_3) := (blk_cell BK143.out 3).trans rfl
                    have hcz70_4 : wr.cell? ⟨gb143, 4, none⟩ = some (.int .i64 a0_4) := (blk_cell BK143.out 4).trans rfl
                    have hcz70_5 : wr.cell? ⟨gb143, 5, none⟩ = some (.string a0_5) := (blk_cell BK143.out 5).trans rfl
                    have hcz70_6 : wr.cell? ⟨gb143, 6, none⟩ = some (.string a0_6) := (blk_cell BK143.out 6).trans rfl
                    have hcz70_7 : wr.cell? ⟨gb143, 7, none⟩ = some (.string a0_7) := (blk_cell BK143.out 7).trans rfl
                    have hcz70_8 : wr.cell? ⟨gb143, 8, none⟩ = some (.int .i64 a0_8) := (blk_cell BK143.out 8).trans rfl
                    have hcz70_9 : wr.cell? ⟨gb143, 9, none⟩ = some (.slice A0_9 l0_9.length c0_9) := (blk_cell BK143.out 9).trans rfl
                    have hcz70_10 : wr.cell? ⟨gb143, 10, none⟩ = some (.slice A0_10 l0_10.length c0_10) := (blk_cell BK143.out 10).trans rfl
                    have hcz70_11 : wr.cell? ⟨gb143, 11, none⟩ = some (.int .i64 a0_11) := (blk_cell BK143.out 11).trans rfl
                    have hcz70_12 : wr.cell? ⟨gb143, 12, none⟩ = some (.int .i64 a0_12) := (blk_cell BK143.out 12).trans rfl
                    have hfz70_0 := blk_frozen BK143.out 0
                    have hfz70_1 := blk_frozen BK143.out 1
                    have hfz70_2 := blk_frozen BK143.out 2
                    have hfz70_3 := blk_frozen BK143.out 3
                    have hfz70_4 := blk_frozen BK143.out 4
                    have hfz70_5 := blk_frozen BK143.out 5
                    have hfz70_6 := blk_frozen BK143.out 6
                    have hfz70_7 := blk_frozen BK143.out 7
                    have hfz70_8 := blk_frozen BK143.out 8
                    have hfz70_9 := blk_frozen BK143.out 9
                    have hfz70_10 := blk_frozen BK143.out 10
                    have hfz70_11 := blk_frozen BK143.out 11
                    have hfz70_12 := blk_frozen BK143.out 12
                    go_wp2
                    repeat (go_quiet (fail); try go_wp2)
                    go_loopg [6] k3 (fun kq v6 w' => ∃ (x6_4 : Int), v6 = .int .i64 x6_4 ∧ Aside0 (gharryref07_Same.l1 kq x6_4 a0_0 a0_1 a0_2 a0_3 a0_4 a0_5 a0_6 a0_7 a0_8 l0_9 l0_10 a0_11 a0_12 a1_0 a1_1 a1_2 a1_3 a1_4 a1_5 a1_6 a1_7 a1_8 l1_9 l1_10 a1_11 a1_12 = some r) ∧ Aside0 (kq ≤ k3) ∧ Aside0 (w'.heap[gb143]? = some (.cells #[.int .i64 a0_0, .int .i64 a0_1, .int .i64 a0_2, .int .i64 a0_3, .int .i64 a0_4, .string a0_5, .string a0_6, .string a0_7, .int .i64 a0_8, (.slice A0_9 l0_9.length c0_9), (.slice A0_10 l0_10.length c0_10), .int .i64 a0_11, .int .i64 a0_12] 25 (0, 0))) ∧ Aside0 (w'.heap[gb144]? = some (.cells #[.int .i64 a1_0, .int .i64 a1_1, .int .i64 a1_2, .int .i64 a1_3, .int .i64 a1_4, .string a1_5, .string a1_6, .string a1_7, .int .i64 a1_8, (.slice A1_9 l1_9.length c1_9), (.slice A1_10 l1_10.length c1_10), .int .i64 a1_11, .int .i64 a1_12] 25 (0, 0))) ∧ Aside0 (Below w.heap.size w w'))
                    case atStart => exact ⟨(0), (by first | rfl | (simp; done) | (simp [*]; done)), H', ⟨Nat.le_refl _⟩, ⟨by (with_reducible repeat (first | refine blk_drewN ?_ _ | refine blk_drew ?_ | refine blk_alloc ?_ _)); exact BK143.out⟩, ⟨by (with_reducible repeat (first | refine blk_drewN ?_ _ | refine blk_drew ?_ | refine blk_alloc ?_ _)); exact BK144.out⟩, ⟨by repeat (first | (with_reducible first | exact HB.out | apply below_alloc | apply pw_below_drewN | apply below_drew1 | refine below_set ?_ GE143.out | refine below_set ?_ GE144.out) | exact HB.out)⟩⟩
                    case round =>
                      clear H'
                      try clear c1
                      try clear p1
                      try clear q1
                      try clear hx1
                      try clear p2
                      try clear c5
                      try clear c6
                      try clear p6
                      try clear p14
                      try clear q14
                      try clear hx14
                      try clear c59
                      try clear c59b0
                      try clear c60
                      try clear c60b0
                      try clear c61
                      try clear c61b0
                      try clear c62
                      try clear c62b0
                      try clear c63
                      try clear p64
                      try clear c66
                      try clear c69
                      try clear hcz45_9
                      try clear hcz47_0
                      try clear hcz47_1
                      try clear hcz47_10
                      try clear hcz47_11
                      try clear hcz47_12
                      try clear hcz47_2
                      try clear hcz47_3
                      try clear hcz47_4
                      try clear hcz47_5
                      try clear hcz47_6
                      try clear hcz47_7
                      try clear hcz47_8
                      try clear hcz47_9
                      try clear hcz48_0
                      try clear hcz48_1
                      try clear hcz48_10
                      try clear hcz48_11
                      try clear hcz48_12
                      try clear hcz48_2
                      try clear hcz48_3
                      try clear hcz48_4
                      try clear hcz48_5
                      try clear hcz48_6
                      try clear hcz48_7
                      try clear hcz48_8
                      try clear hcz48_9
                      try clear hcz53_0
                      try clear hcz53_1
                      try clear hcz53_10
                      try clear hcz53_11
                      try clear hcz53_12
                      try clear hcz53_2
                      try clear hcz53_3
                      try clear hcz53_4
                      try clear hcz53_5
                      try clear hcz53_6
                      try clear hcz53_7
                      try clear hcz53_8
                      try clear hcz53_9
                      try clear hcz54_0
                      try clear hcz54_1
                      try clear hcz54_10
                      try clear hcz54_11
                      try clear hcz54_12
                      try clear hcz54_2
                      try clear hcz54_3
                      try clear hcz54_4
                      try clear hcz54_5
                      try clear hcz54_6
                      try clear hcz54_7
                      try clear hcz54_8
                      try clear hcz54_9
                      try clear hcz56_0
                      try clear hcz56_1
                      try clear hcz56_10
                      try clear hcz56_11
                      try clear hcz56_12
                      try clear hcz56_2
                      try clear hcz56_3
                      try clear hcz56_4
                      try clear hcz56_5
                      try clear hcz56_6
                      try clear hcz56_7
                      try clear hcz56_8
                      try clear hcz56_9
                      try clear hcz57_0
                      try clear hcz57_1
                      try clear hcz57_10
                      try clear hcz57_11
                      try clear hcz57_12
                      try clear hcz57_2
                      try clear hcz57_3
                      try clear hcz57_4
                      try clear hcz57_5
                      try clear hcz57_6
                      try clear hcz57_7
                      try clear hcz57_8
                      try clear hcz57_9
                      try clear hcz64_0
                      try clear hcz64_1
                      try clear hcz64_10
                      try clear hcz64_11
                      try clear hcz64_12
                      try clear hcz64_2
                      try clear hcz64_3
                      try clear hcz64_4
                      try clear hcz64_5
                      try clear hcz64_6
                      try clear hcz64_7
                      try clear hcz64_8
                      try clear hcz64_9
                      try clear hcz65_0
                      try clear hcz65_1
                      try clear hcz65_10
                      try clear hcz65_11
                      try clear hcz65_12
                      try clear hcz65_2
                      try clear hcz65_3
                      try clear hcz65_4
                      try clear hcz65_5
                      try clear hcz65_6
                      try clear hcz65_7
                      try clear hcz65_8
                      try clear hcz65_9
                      try clear hcz67_0
                      try clear hcz67_1
                      try clear hcz67_10
                      try clear hcz67_11
                      try clear hcz67_12
                      try clear hcz67_2
                      try clear hcz67_3
                      try clear hcz67_4
                      try clear hcz67_5
                      try clear hcz67_6
                      try clear hcz67_7
                      try clear hcz67_8
                      try clear hcz67_9
                      try clear hcz68_0
                      try clear hcz68_1
                      try clear hcz68_10
                      try clear hcz68_11
                      try clear hcz68_12
                      try clear hcz68_2
                      try clear hcz68_3
                      try clear hcz68_4
                      try clear hcz68_5
                      try clear hcz68_6
                      try clear hcz68_7
                      try clear hcz68_8
                      try clear hcz68_9
                      try clear hcz70_0
                      try clear hcz70_1
                      try clear hcz70_10
                      try clear hcz70_11
                      try clear hcz70_12
                      try clear hcz70_2
                      try clear hcz70_3
                      try clear hcz70_4
                      try clear hcz70_5
                      try clear hcz70_6
                      try clear hcz70_7
                      try clear hcz70_8
                      try clear hcz70_9
                      try clear hfz21_0
                      try clear hfz21_1
                      try clear hfz21_10
                      try clear hfz21_11
                      try clear hfz21_12
                      try clear hfz21_2
                      try clear hfz21_3
                      try clear hfz21_4
                      try clear hfz21_5
                      try clear hfz21_6
                      try clear hfz21_7
                      try clear hfz21_8
                      try clear hfz21_9
                      try clear hfz23_0
                      try clear hfz23_1
                      try clear hfz23_10
                      try clear hfz23_11
                      try clear hfz23_12
                      try clear hfz23_2
                      try clear hfz23_3
                      try clear hfz23_4
                      try clear hfz23_5
                      try clear hfz23_6
                      try clear hfz23_7
                      try clear hfz23_8
                      try clear hfz23_9
                      try clear hfz24_0
                      try clear hfz24_1
                      try clear hfz24_10
                      try clear hfz24_11
                      try clear hfz24_12
                      try clear hfz24_2
                      try clear hfz24_3
                      try clear hfz24_4
                      try clear hfz24_5
                      try clear hfz24_6
                      try clear hfz24_7
                      try clear hfz24_8
                      try clear hfz24_9
                      try clear hfz26_0
                      try clear hfz26_1
                      try clear hfz26_10
                      try clear hfz26_11
                      try clear hfz26_12
                      try clear hfz26_2
                      try clear hfz26_3
                      try clear hfz26_4
                      try clear hfz26_5
                      try clear hfz26_6
                      try clear hfz26_7
                      try clear hfz26_8
                      try clear hfz26_9
                      try clear hfz27_0
                      try clear hfz27_1
                      try clear hfz27_10
                      try clear hfz27_11
                      try clear hfz27_12
                      try clear hfz27_2
                      try clear hfz27_3
                      try clear hfz27_4
                      try clear hfz27_5
                      try clear hfz27_6
                      try clear hfz27_7
                      try clear hfz27_8
                      try clear hfz27_9
                      try clear hfz29_0
                      try clear hfz29_1
                      try clear hfz29_10
                      try clear hfz29_11
                      try clear hfz29_12
                      try clear hfz29_2
                      try clear hfz29_3
                      try clear hfz29_4
                      try clear hfz29_5
                      try clear hfz29_6
                      try clear hfz29_7
                      try clear hfz29_8
                      try clear hfz29_9
                      try clear hfz30_0
                      try clear hfz30_1
                      try clear hfz30_10
                      try clear hfz30_11
                      try clear hfz30_12
                      try clear hfz30_2
                      try clear hfz30_3
                      try clear hfz30_4
                      try clear hfz30_5
                      try clear hfz30_6
                      try clear hfz30_7
                      try clear hfz30_8
                      try clear hfz30_9
                      try clear hfz32_0
                      try clear hfz32_1
                      try clear hfz32_10
                      try clear hfz32_11
                      try clear hfz32_12
                      try clear hfz32_2
                      try clear hfz32_3
                      try clear hfz32_4
                      try clear hfz32_5
                      try clear hfz32_6
                      try clear hfz32_7
                      try clear hfz32_8
                      try clear hfz32_9
                      try clear hfz33_0
                      try clear hfz33_1
                      try clear hfz33_10
                      try clear hfz33_11
                      try clear hfz33_12
                      try clear hfz33_2
                      try clear hfz33_3
                      try clear hfz33_4
                      try clear hfz33_5
                      try clear hfz33_6
                      try clear hfz33_7
                      try clear hfz33_8
                      try clear hfz33_9
                      try clear hfz35_0
                      try clear hfz35_1
                      try clear hfz35_10
                      try clear hfz35_11
                      try clear hfz35_12
                      try clear hfz35_2
                      try clear hfz35_3
                      try clear hfz35_4
                      try clear hfz35_5
                      try clear hfz35_6
                      try clear hfz35_7
                      try clear hfz35_8
                      try clear hfz35_9
                      try clear hfz36_0
                      try clear hfz36_1
                      try clear hfz36_10
                      try clear hfz36_11
                      try clear hfz36_12
                      try clear hfz36_2
                      try clear hfz36_3
                      try clear hfz36_4
                      try clear hfz36_5
                      try clear hfz36_6
                      try clear hfz36_7
                      try clear hfz36_8
                      try clear hfz36_9
                      try clear hfz38_0
                      try clear hfz38_1
                      try clear hfz38_10
                      try clear hfz38_11
                      try clear hfz38_12
                      try clear hfz38_2
                      try clear hfz38_3
                      try clear hfz38_4
                      try clear hfz38_5
                      try clear hfz38_6
                      try clear hfz38_7
                      try clear hfz38_8
                      try clear hfz38_9
                      try clear hfz39_0
                      try clear hfz39_1
                      try clear hfz39_10
                      try clear hfz39_11
                      try clear hfz39_12
                      try clear hfz39_2
                      try clear hfz39_3
                      try clear hfz39_4
                      try clear hfz39_5
                      try clear hfz39_6
                      try clear hfz39_7
                      try clear hfz39_8
                      try clear hfz39_9
                      try clear hfz41_0
                      try clear hfz41_1
                      try clear hfz41_10
                      try clear hfz41_11
                      try clear hfz41_12
                      try clear hfz41_2
                      try clear hfz41_3
                      try clear hfz41_4
                      try clear hfz41_5
                      try clear hfz41_6
                      try clear hfz41_7
                      try clear hfz41_8
                      try clear hfz41_9
                      try clear hfz42_0
                      try clear hfz42_1
                      try clear hfz42_10
                      try clear hfz42_11
                      try clear hfz42_12
                      try clear hfz42_2
                      try clear hfz42_3
                      try clear hfz42_4
                      try clear hfz42_5
                      try clear hfz42_6
                      try clear hfz42_7
                      try clear hfz42_8
                      try clear hfz42_9
                      try clear hfz44_0
                      try clear hfz44_1
                      try clear hfz44_10
                      try clear hfz44_11
                      try clear hfz44_12
                      try clear hfz44_2
                      try clear hfz44_3
                      try clear hfz44_4
                      try clear hfz44_5
                      try clear hfz44_6
                      try clear hfz44_7
                      try clear hfz44_8
                      try clear hfz44_9
                      try clear hfz45_0
                      try clear hfz45_1
                      try clear hfz45_10
                      try clear hfz45_11
                      try clear hfz45_12
                      try clear hfz45_2
                      try clear hfz45_3
                      try clear hfz45_4
                      try clear hfz45_5
                      try clear hfz45_6
                      try clear hfz45_7
                      try clear hfz45_8
                      try clear hfz45_9
                      try clear hfz47_0
                      try clear hfz47_1
                      try clear hfz47_10
                      try clear hfz47_11
                      try clear hfz47_12
                      try clear hfz47_2
                      try clear hfz47_3
                      try clear hfz47_4
                      try clear hfz47_5
                      try clear hfz47_6
                      try clear hfz47_7
                      try clear hfz47_8
                      try clear hfz47_9
                      try clear hfz48_0
                      try clear hfz48_1
                      try clear hfz48_10
                      try clear hfz48_11
                      try clear hfz48_12
                      try clear hfz48_2
                      try clear hfz48_3
                      try clear hfz48_4
                      try clear hfz48_5
                      try clear hfz48_6
                      try clear hfz48_7
                      try clear hfz48_8
                      try clear hfz48_9
                      try clear hfz53_0
                      try clear hfz53_1
                      try clear hfz53_10
                      try clear hfz53_11
                      try clear hfz53_12
                      try clear hfz53_2
                      try clear hfz53_3
                      try clear hfz53_4
                      try clear hfz53_5
                      try clear hfz53_6
                      try clear hfz53_7
                      try clear hfz53_8
                      try clear hfz53_9
                      try clear hfz54_0
                      try clear hfz54_1
                      try clear hfz54_10
                      try clear hfz54_11
                      try clear hfz54_12
                      try clear hfz54_2
                      try clear hfz54_3
                      try clear hfz54_4
                      try clear hfz54_5
                      try clear hfz54_6
                      try clear hfz54_7
                      try clear hfz54_8
                      try clear hfz54_9
                      try clear hfz56_0
                      try clear hfz56_1
                      try clear hfz56_10
                      try clear hfz56_11
                      try clear hfz56_12
                      try clear hfz56_2
                      try clear hfz56_3
                      try clear hfz56_4
                      try clear hfz56_5
                      try clear hfz56_6
                      try clear hfz56_7
                      try clear hfz56_8
                      try clear hfz56_9
                      try clear hfz57_0
                      try clear hfz57_1
                      try clear hfz57_10
                      try clear hfz57_11
                      try clear hfz57_12
                      try clear hfz57_2
                      try clear hfz57_3
                      try clear hfz57_4
                      try clear hfz57_5
                      try clear hfz57_6
                      try clear hfz57_7
                      try clear hfz57_8
                      try clear hfz57_9
                      try clear hfz64_0
                      try clear hfz64_1
                      try clear hfz64_10
                      try clear hfz64_11
                      try clear hfz64_12
                      try clear hfz64_2
                      try clear hfz64_3
                      try clear hfz64_4
                      try clear hfz64_5
                      try clear hfz64_6
                      try clear hfz64_7
                      try clear hfz64_8
                      try clear hfz64_9
                      try clear hfz65_0
                      try clear hfz65_1
                      try clear hfz65_10
                      try clear hfz65_11
                      try clear hfz65_12
                      try clear hfz65_2
                      try clear hfz65_3
                      try clear hfz65_4
                      try clear hfz65_5
                      try clear hfz65_6
                      try clear hfz65_7
                      try clear hfz65_8
                      try clear hfz65_9
                      try clear hfz67_0
                      try clear hfz67_1
                      try clear hfz67_10
                      try clear hfz67_11
                      try clear hfz67_12
                      try clear hfz67_2
                      try clear hfz67_3
                      try clear hfz67_4
                      try clear hfz67_5
                      try clear hfz67_6
                      try clear hfz67_7
                      try clear hfz67_8
                      try clear hfz67_9
                      try clear hfz68_0
                      try clear hfz68_1
                      try clear hfz68_10
                      try clear hfz68_11
                      try clear hfz68_12
                      try clear hfz68_2
                      try clear hfz68_3
                      try clear hfz68_4
                      try clear hfz68_5
                      try clear hfz68_6
                      try clear hfz68_7
                      try clear hfz68_8
                      try clear hfz68_9
                      try clear hfz70_0
                      try clear hfz70_1
                      try clear hfz70_10
                      try clear hfz70_11
                      try clear hfz70_12
                      try clear hfz70_2
                      try clear hfz70_3
                      try clear hfz70_4
                      try clear hfz70_5
                      try clear hfz70_6
                      try clear hfz70_7
                      try clear hfz70_8
                      try clear hfz70_9
                      try clear hx145_0
                      try clear hx145_1
                      try clear hx146_0
                      try clear hx146_1
                      try clear p145
                      try clear p146
                      try clear p2
                      try clear q145
                      try clear q146
                      obtain ⟨x6_4, rfl, HA, HK4, BK143, BK144, HB⟩ := hrel
                      cases gk with
                      | zero => exact absurd HA.out (by simp [gharryref07_Same.l1])
                      | succ k4 =>
                        have H := HA.out
                        clear HA
                        simp only [gharryref07_Same.l1] at H
                        by_cases c71 : x6_4 < (l0_10.length : Int)
                        · rw [if_pos c71] at H
                          have c71b0 : decide (x6_4 < (l0_10.length : Int)) = true := decide_eq_true c71
                          clear c71
                          by_cases c72 : 0 ≤ x6_4
                          · rw [if_pos c72] at H
                            have c72b0 : decide (0 ≤ x6_4) = true := decide_eq_true c72
                            clear c72
                            by_cases c73 : x6_4 < (l1_10.length : Int)
                            · rw [if_pos c73] at H
                              have c73b0 : decide (x6_4 < (l1_10.length : Int)) = true := decide_eq_true c73
                              clear c73
                              by_cases c74 : (!(((rd_T55 l0_10 x6_4).f0) == ((rd_T55 l1_10 x6_4).f0)) || (!(((rd_T55 l0_10 x6_4).f1) == ((rd_T55 l1_10 x6_4).f1)))) = true
                              · rw [if_pos c74] at H
                                have c74b0 : (!(((rd_T55 l0_10 x6_4).f0) == ((rd_T55 l1_10 x6_4).f0)) || (!(((rd_T55 l0_10 x6_4).f1) == ((rd_T55 l1_10 x6_4).f1)))) = true := c74
                                clear c74
                                obtain rfl := Option.some.inj H
                                have hnb75 := NB143_144.out
                                have hnc75 := NB144_143.out
                                have hcz76_0 : wr.cell? ⟨gb143, 0, none⟩ = some (.int .i64 a0_0) := (blk_cell BK143.out 0).trans rfl
                                have hcz76_1 : wr.cell? ⟨gb143, 1, none⟩ = some (.int .i64 a0_1) := (blk_cell BK143.out 1).trans rfl
                                have hcz76_2 : wr.cell? ⟨gb143, 2, none⟩ = some (.int .i64 a0_2) := (blk_cell BK143.out 2).trans rfl
                                have hcz76_3 : wr.cell? ⟨gb143, 3, none⟩ = some (.int .i64 a0_3) := (blk_cell BK143.out 3).trans rfl
                                have hcz76_4 : wr.cell? ⟨gb143, 4, none⟩ = some (.int .i64 a0_4) := (blk_cell BK143.out 4).trans rfl
                                have hcz76_5 : wr.cell? ⟨gb143, 5, none⟩ = some (.string a0_5) := (blk_cell BK143.out 5).trans rfl
                                have hcz76_6 : wr.cell? ⟨gb143, 6, none⟩ = some (.string a0_6) := (blk_cell BK143.out 6).trans rfl
                                have hcz76_7 : wr.cell? ⟨gb143, 7, none⟩ = some (.string a0_7) := (blk_cell BK143.out 7).trans rfl
                                have hcz76_8 : wr.cell? ⟨gb143, 8, none⟩ = some (.int .i64 a0_8) := (blk_cell BK143.out 8).trans rfl
                                have hcz76_9 : wr.cell? ⟨gb143, 9, none⟩ = some (.slice A0_9 l0_9.length c0_9) := (blk_cell BK143.out 9).trans rfl
                                have hcz76_10 : wr.cell? ⟨gb143, 10, none⟩ = some (.slice A0_10 l0_10.length c0_10) := (blk_cell BK143.out 10).trans rfl
                                have hcz76_11 : wr.cell? ⟨gb143, 11, none⟩ = some (.int .i64 a0_11) := (blk_cell BK143.out 11).trans rfl
                                have hcz76_12 : wr.cell? ⟨gb143, 12, none⟩ = some (.int .i64 a0_12) := (blk_cell BK143.out 12).trans rfl
                                have hfz76_0 := blk_frozen BK143.out 0
                                have hfz76_1 := blk_frozen BK143.out 1
                                have hfz76_2 := blk_frozen BK143.out 2
                                have hfz76_3 := blk_frozen BK143.out 3
                                have hfz76_4 := blk_frozen BK143.out 4
                                have hfz76_5 := blk_frozen BK143.out 5
                                have hfz76_6 := blk_frozen BK143.out 6
                                have hfz76_7 := blk_frozen BK143.out 7
                                have hfz76_8 := blk_frozen BK143.out 8
                                have hfz76_9 := blk_frozen BK143.out 9
                                have hfz76_10 := blk_frozen BK143.out 10
                                have hfz76_11 := blk_frozen BK143.out 11
                                have hfz76_12 := blk_frozen BK143.out 12
                                have p147 : 0 ≤ (x6_4 : Int) := of_decide_eq_true (by first | (with_reducible assumption) | assumption)
                                have q147 : x6_4 < (l0_10.length : Int) := of_decide_eq_true (by first | (with_reducible assumption) | assumption)
                                obtain ⟨ad147, e147, hx147_0, hx147_1⟩ := at_T55 HR0_10.out x6_4 p147 q147
                                cases e147
                                replace hx147_0 := (HB.out.cell (World.block_lt_of_cell? w _ hx147_0)).trans hx147_0
                                replace hx147_1 := (HB.out.cell (World.block_lt_of_cell? w _ hx147_1)).trans hx147_1
                                replace p147 := eq_true p147
                                replace q147 := eq_true q147
                                have hcz77_0 : wr.cell? ⟨gb144, 0, none⟩ = some (.int .i64 a1_0) := (blk_cell BK144.out 0).trans rfl
                                have hcz77_1 : wr.cell? ⟨gb144, 1, none⟩ = some (.int .i64 a1_1) := (blk_cell BK144.out 1).trans rfl
                                have hcz77_2 : wr.cell? ⟨gb144, 2, none⟩ = some (.int .i64 a1_2) := (blk_cell BK144.out 2).trans rfl
                                have hcz77_3 : wr.cell? ⟨gb144, 3, none⟩ = some (.int .i64 a1_3) := (blk_cell BK144.out 3).trans rfl
                                have hcz77_4 : wr.cell? ⟨gb144, 4, none⟩ = some (.int .i64 a1_4) := (blk_cell BK144.out 4).trans rfl
                                have hcz77_5 : wr.cell? ⟨gb144, 5, none⟩ = some (.string a1_5) := (blk_cell BK144.out 5).trans rfl
                                have hcz77_6 : wr.cell? ⟨gb144, 6, none⟩ = some (.string a1_6) := (blk_cell BK144.out 6).trans rfl
                                have hcz77_7 : wr.cell? ⟨gb144, 7, none⟩ = some (.string a1_7) := (blk_cell BK144.out 7).trans rfl
                                have hcz77_8 : wr.cell? ⟨gb144, 8, none⟩ = some (.int .i64 a1_8) := (blk_cell BK144.out 8).trans rfl
                                have hcz77_9 : wr.cell? ⟨gb144, 9, none⟩ = some (.slice A1_9 l1_9.length c1_9) := (blk_cell BK144.out 9).trans rfl
                                have hcz77_10 : wr.cell? ⟨gb144, 10, none⟩ = some (.slice A1_10 l1_10.length c1_10) := (blk_cell BK144.out 10).trans rfl
                                have hcz77_11 : wr.cell? ⟨gb144, 11, none⟩ = some (.int .i64 a1_11) := (blk_cell BK144.out 11).trans rfl
                                have hcz77_12 : wr.cell? ⟨gb144, 12, none⟩ = some (.int .i64 a1_12) := (blk_cell BK144.out 12).trans rfl
                                have hfz77_0 := blk_frozen BK144.out 0
                                have hfz77_1 := blk_frozen BK144.out 1
                                have hfz77_2 := blk_frozen BK144.out 2
                                have hfz77_3 := blk_frozen BK144.out 3
                                have hfz77_4 := blk_frozen BK144.out 4
                                have hfz77_5 := blk_frozen BK144.out 5
                                have hfz77_6 := blk_frozen BK144.out 6
                                have hfz77_7 := blk_frozen BK144.out 7
                                have hfz77_8 := blk_frozen BK144.out 8
                                have hfz77_9 := blk_frozen BK144.out 9
                                have hfz77_10 := blk_frozen BK144.out 10
                                have hfz77_11 := blk_frozen BK144.out 11
                                have hfz77_12 := blk_frozen BK144.out 12
                                have p148 : 0 ≤ (x6_4 : Int) := of_decide_eq_true (by first | (with_reducible assumption) | assumption)
                                have q148 : x6_4 < (l1_10.length : Int) := of_decide_eq_true (by first | (with_reducible assumption) | assumption)
                                obtain ⟨ad148, e148, hx148_0, hx148_1⟩ := at_T55 HR1_10.out x6_4 p148 q148
                                cases e148
                                replace hx148_0 := (HB.out.cell (World.block_lt_of_cell? w _ hx148_0)).trans hx148_0
                                replace hx148_1 := (HB.out.cell (World.block_lt_of_cell? w _ hx148_1)).trans hx148_1
                                replace p148 := eq_true p148
                                replace q148 := eq_true q148
                                go_wp2
                                repeat (go_quiet (fail); try go_wp2)
                                go_ret
                                exact ⟨by first | rfl | (simp [errW_none, errW_some] <;> rfl) | (simp [*, errW_none, errW_some] <;> rfl), by repeat (first | (with_reducible first | exact HB.out | apply below_alloc | apply pw_below_drewN | apply below_drew1 | refine below_set ?_ GE143.out | refine below_set ?_ GE144.out) | exact HB.out)⟩
                              · rw [if_neg c74] at H
                                have c74b0 : (!(((rd_T55 l0_10 x6_4).f0) == ((rd_T55 l1_10 x6_4).f0)) || (!(((rd_T55 l0_10 x6_4).f1) == ((rd_T55 l1_10 x6_4).f1)))) = false := by simpa using c74
                                clear c74
                                have H' := Aside0.mk H
                                clear H
                                have hnb78 := NB143_144.out
                                have hnc78 := NB144_143.out
                                have hcz79_0 : wr.cell? ⟨gb143, 0, none⟩ = some (.int .i64 a0_0) := (blk_cell BK143.out 0).trans rfl
                                have hcz79_1 : wr.cell? ⟨gb143, 1, none⟩ = some (.int .i64 a0_1) := (blk_cell BK143.out 1).trans rfl
                                have hcz79_2 : wr.cell? ⟨gb143, 2, none⟩ = some (.int .i64 a0_2) := (blk_cell BK143.out 2).trans rfl
                                have hcz79_3 : wr.cell? ⟨gb143, 3, none⟩ = some (.int .i64 a0_3) := (blk_cell BK143.out 3).trans rfl
                                have hcz79_4 : wr.cell? ⟨gb143, 4, none⟩ = some (.int .i64 a0_4) := (blk_cell BK143.out 4).trans rfl
                                have hcz79_5 : wr.cell? ⟨gb143, 5, none⟩ = some (.string a0_5) := (blk_cell BK143.out 5).trans rfl
                                have hcz79_6 : wr.cell? ⟨gb143, 6, none⟩ = some (.string a0_6) := (blk_cell BK143.out 6).trans rfl
                                have hcz79_7 : wr.cell? ⟨gb143, 7, none⟩ = some (.string a0_7) := (blk_cell BK143.out 7).trans rfl
                                have hcz79_8 : wr.cell? ⟨gb143, 8, none⟩ = some (.int .i64 a0_8) := (blk_cell BK143.out 8).trans rfl
                                have hcz79_9 : wr.cell? ⟨gb143, 9, none⟩ = some (.slice A0_9 l0_9.length c0_9) := (blk_cell BK143.out 9).trans rfl
                                have hcz79_10 : wr.cell? ⟨gb143, 10, none⟩ = some (.slice A0_10 l0_10.length c0_10) := (blk_cell BK143.out 10).trans rfl
                                have hcz79_11 : wr.cell? ⟨gb143, 11, none⟩ = some (.int .i64 a0_11) := (blk_cell BK143.out 11).trans rfl
                                have hcz79_12 : wr.cell? ⟨gb143, 12, none⟩ = some (.int .i64 a0_12) := (blk_cell BK143.out 12).trans rfl
                                have hfz79_0 := blk_frozen BK143.out 0
                                have hfz79_1 := blk_frozen BK143.out 1
                                have hfz79_2 := blk_frozen BK143.out 2
                                have hfz79_3 := blk_frozen BK143.out 3
                                have hfz79_4 := blk_frozen BK143.out 4
                                have hfz79_5 := blk_frozen BK143.out 5
                                have hfz79_6 := blk_frozen BK143.out 6
                                have hfz79_7 := blk_frozen BK143.out 7
                                have hfz79_8 := blk_frozen BK143.out 8
                                have hfz79_9 := blk_frozen BK143.out 9
                                have hfz79_10 := blk_frozen BK143.out 10
                                have hfz79_11 := blk_frozen BK143.out 11
                                have hfz79_12 := blk_frozen BK143.out 12
                                have p147 : 0 ≤ (x6_4 : Int) := of_decide_eq_true (by first | (with_reducible assumption) | assumption)
                                have q147 : x6_4 < (l0_10.length : Int) := of_decide_eq_true (by first | (with_reducible assumption) | assumption)
                                obtain ⟨ad147, e147, hx147_0, hx147_1⟩ := at_T55 HR0_10.out x6_4 p147 q147
                                cases e147
                                replace hx147_0 := (HB.out.cell (World.block_lt_of_cell? w _ hx147_0)).trans hx147_0
                                replace hx147_1 := (HB.out.cell (World.block_lt_of_cell? w _ hx147_1)).trans hx147_1
                                replace p147 := eq_true p147
                                replace q147 := eq_true q147
                                have hcz80_0 : wr.cell? ⟨gb144, 0, none⟩ = some (.int .i64 a1_0) := (blk_cell BK144.out 0).trans rfl
                                have hcz80_1 : wr.cell? ⟨gb144, 1, none⟩ = some (.int .i64 a1_1) := (blk_cell BK144.out 1).trans rfl
                                have hcz80_2 : wr.cell? ⟨gb144, 2, none⟩ = some (.int .i64 a1_2) := (blk_cell BK144.out 2).trans rfl
                                have hcz80_3 : wr.cell? ⟨gb144, 3, none⟩ = some (.int .i64 a1_3) := (blk_cell BK144.out 3).trans rfl
                                have hcz80_4 : wr.cell? ⟨gb144, 4, none⟩ = some (.int .i64 a1_4) := (blk_cell BK144.out 4).trans rfl
                                have hcz80_5 : wr.cell? ⟨gb144, 5, none⟩ = some (.string a1_5) := (blk_cell BK144.out 5).trans rfl
                                have hcz80_6 : wr.cell? ⟨gb144, 6, none⟩ = some (.string a1_6) := (blk_cell BK144.out 6).trans rfl
                                have hcz80_7 : wr.cell? ⟨gb144, 7, none⟩ = some (.string a1_7) := (blk_cell BK144.out 7).trans rfl
                                have hcz80_8 : wr.cell? ⟨gb144, 8, none⟩ = some (.int .i64 a1_8) := (blk_cell BK144.out 8).trans rfl
                                have hcz80_9 : wr.cell? ⟨gb144, 9, none⟩ = some (.slice A1_9 l1_9.length c1_9) := (blk_cell BK144.out 9).trans rfl
                                have hcz80_10 : wr.cell? ⟨gb144, 10, none⟩ = some (.slice A1_10 l1_10.length c1_10) := (blk_cell BK144.out 10).trans rfl
                                have hcz80_11 : wr.cell? ⟨gb144, 11, none⟩ = some (.int .i64 a1_11) := (blk_cell BK144.out 11).trans rfl
                                have hcz80_12 : wr.cell? ⟨gb144, 12, none⟩ = some (.int .i64 a1_12) := (blk_cell BK144.out 12).trans rfl
                                have hfz80_0 := blk_frozen BK144.out 0
                                have hfz80_1 := blk_frozen BK144.out 1
                                have hfz80_2 := blk_frozen BK144.out 2
                                have hfz80_3 := blk_frozen BK144.out 3
                                have hfz80_4 := blk_frozen BK144.out 4
                                have hfz80_5 := blk_frozen BK144.out 5
                                have hfz80_6 := blk_frozen BK144.out 6
                                have hfz80_7 := blk_frozen BK144.out 7
                                have hfz80_8 := blk_frozen BK144.out 8
                                have hfz80_9 := blk_frozen BK144.out 9
                                have hfz80_10 := blk_frozen BK144.out 10
                                have hfz80_11 := blk_frozen BK144.out 11
                                have hfz80_12 := blk_frozen BK144.out 12
                                have p148 : 0 ≤ (x6_4 : Int) := of_decide_eq_true (by first | (with_reducible assumption) | assumption)
                                have q148 : x6_4 < (l1_10.length : Int) := of_decide_eq_true (by first | (with_reducible assumption) | assumption)
                                obtain ⟨ad148, e148, hx148_0, hx148_1⟩ := at_T55 HR1_10.out x6_4 p148 q148
                                cases e148
                                replace hx148_0 := (HB.out.cell (World.block_lt_of_cell? w _ hx148_0)).trans hx148_0
                                replace hx148_1 := (HB.out.cell (World.block_lt_of_cell? w _ hx148_1)).trans hx148_1
                                replace p148 := eq_true p148
                                replace q148 := eq_true q148
                                go_wp2
                                repeat (go_quiet (fail); try go_wp2)
                                go_roundg k4
                                case measure => have := HJ2.out; have := HJ49.out; have := HK3.out; have := HK4.out; omega
                                case rel => exact ⟨(wrap64 (x6_4 + 1)), (by first | rfl | (simp; done) | (simp [*]; done)), H', ⟨by have := HJ2.out; have := HJ49.out; have := HK3.out; have := HK4.out; omega⟩, ⟨by (with_reducible repeat (first | refine blk_drewN ?_ _ | refine blk_drew ?_ | refine blk_alloc ?_ _)); exact BK143.out⟩, ⟨by (with_reducible repeat (first | refine blk_drewN ?_ _ | refine blk_drew ?_ | refine blk_alloc ?_ _)); exact BK144.out⟩, ⟨by repeat (first | (with_reducible first | exact HB.out | apply below_alloc | apply pw_below_drewN | apply below_drew1 | refine below_set ?_ GE143.out | refine below_set ?_ GE144.out) | exact HB.out)⟩⟩
                            · rw [if_neg c73] at H
                              exact absurd H (by simp)
                          · rw [if_neg c72] at H
                            exact absurd H (by simp)
                        · rw [if_neg c71] at H
                          have c71b0 : decide (x6_4 < (l0_10.length : Int)) = false := decide_eq_false c71
                          clear c71
                          obtain rfl := Option.some.inj H
                          have hnb81 := NB143_144.out
                          have hnc81 := NB144_143.out
                          have hcz82_0 : wr.cell? ⟨gb143, 0, none⟩ = some (.int .i64 a0_0) := (blk_cell BK143.out 0).trans rfl
                          have hcz82_1 : wr.cell? ⟨gb143, 1, none⟩ = some (.int .i64 a0_1) := (blk_cell BK143.out 1).trans rfl
                          have hcz82_2 : wr.cell? ⟨gb143, 2, none⟩ = some (.int .i64 a0_2) := (blk_cell BK143.out 2).trans rfl
                          have hcz82_3 : wr.cell? ⟨gb143, 3, none⟩ = some (.int .i64 a0_3) := (blk_cell BK143.out 3).trans rfl
                          have hcz82_4 : wr.cell? ⟨gb143, 4, none⟩ = some (.int .i64 a0_4) := (blk_cell BK143.out 4).trans rfl
                          have hcz82_5 : wr.cell? ⟨gb143, 5, none⟩ = some (.string a0_5) := (blk_cell BK143.out 5).trans rfl
                          have hcz82_6 : wr.cell? ⟨gb143, 6, none⟩ = some (.string a0_6) := (blk_cell BK143.out 6).trans rfl
                          have hcz82_7 : wr.cell? ⟨gb143, 7, none⟩ = some (.string a0_7) := (blk_cell BK143.out 7).trans rfl
                          have hcz82_8 : wr.cell? ⟨gb143, 8, none⟩ = some (.int .i64 a0_8) := (blk_cell BK143.out 8).trans rfl
                          have hcz82_9 : wr.cell? ⟨gb143, 9, none⟩ = some (.slice A0_9 l0_9.length c0_9) := (blk_cell BK143.out 9).trans rfl
                          have hcz82_10 : wr.cell? ⟨gb143, 10, none⟩ = some (.slice A0_10 l0_10.length c0_10) := (blk_cell BK143.out 10).trans rfl
                          have hcz82_11 : wr.cell? ⟨gb143, 11, none⟩ = some (.int .i64 a0_11) := (blk_cell BK143.out 11).trans rfl
                          have hcz82_12 : wr.cell? ⟨gb143, 12, none⟩ = some (.int .i64 a0_12) := (blk_cell BK143.out 12).trans rfl
                          have hfz82_0 := blk_frozen BK143.out 0
                          have hfz82_1 := blk_frozen BK143.out 1
                          have hfz82_2 := blk_frozen BK143.out 2
                          have hfz82_3 := blk_frozen BK143.out 3
                          have hfz82_4 := blk_frozen BK143.out 4
                          have hfz82_5 := blk_frozen BK143.out 5
                          have hfz82_6 := blk_frozen BK143.out 6
                          have hfz82_7 := blk_frozen BK143.out 7
                          have hfz82_8 := blk_frozen BK143.out 8
                          have hfz82_9 := blk_frozen BK143.out 9
                          have hfz82_10 := blk_frozen BK143.out 10
                          have hfz82_11 := blk_frozen BK143.out 11
                          have hfz82_12 := blk_frozen BK143.out 12
                          go_wp2
                          repeat (go_quiet (fail); try go_wp2)
                          go_ret
                          exact ⟨by first | rfl | (simp [errW_none, errW_some] <;> rfl) | (simp [*, errW_none, errW_some] <;> rfl), by repeat (first | (with_reducible first | exact HB.out | apply below_alloc | apply pw_below_drewN | apply below_drew1 | refine below_set ?_ GE143.out | refine below_set ?_ GE144.out) | exact HB.out)⟩

end Go.Proofs.Ytdphikbkknkhiaa.PAll
