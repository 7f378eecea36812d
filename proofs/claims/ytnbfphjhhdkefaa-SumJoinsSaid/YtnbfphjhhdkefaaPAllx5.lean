-- Written by a program of this session out of the seat's translation; Lean checks it.
import Derived.Test.YtnbfphjhhdkefaaPAllx0
import Derived.Test.YtnbfphjhhdkefaaPAllx1
import Derived.Test.YtnbfphjhhdkefaaPAllx2
import Derived.Test.YtnbfphjhhdkefaaSumJoin
namespace Go.Proofs.Ytnbfphjhhdkefaa.PAll
open Go.RowKit Go.Proofs.YtnbfphjhhdkefaaW.PrintWords Go.Proofs.YtnbfphjhhdkefaaW.PrintLast Go.Proofs.YtnbfphjhhdkefaaW.PrintMore
attribute [local go_sem] max2_int min2_int max_two min_two max_three min_three max_four min_four   -- for this text's walks alone
set_option linter.unusedVariables false
set_option linter.unusedSimpArgs false

/-! ### gharrylaw02_SumJoins: function 6 -/
mutual
def gharrylaw02_SumJoins.j0 : Nat → Int → Int → Int → Bool → Option (Bool)
  | 0, _, _, _, _ => none
  | k + 1, x2, x3, x4, x40 => if x40 = true then (some false) else (if x4 > 400 then ((gharrylaw02_awake.f).bind fun t170 => (some t170)) else ((sum_Join.f x2 x3 x4).bind fun bt171 => (if x2 < 0 then (gharrylaw02_SumJoins.j1 k x2 x3 x4 bt171.1 bt171.2 true) else (if x2 > 4294967295 then (gharrylaw02_SumJoins.j1 k x2 x3 x4 bt171.1 bt171.2 true) else (if x3 < 0 then (gharrylaw02_SumJoins.j1 k x2 x3 x4 bt171.1 bt171.2 true) else (if x3 > 4294967295 then (gharrylaw02_SumJoins.j1 k x2 x3 x4 bt171.1 bt171.2 true) else (gharrylaw02_SumJoins.j1 k x2 x3 x4 bt171.1 bt171.2 (decide (x4 < 0)))))))))
def gharrylaw02_SumJoins.j1 : Nat → Int → Int → Int → Int → Int → Bool → Option (Bool)
  | 0, _, _, _, _, _, _ => none
  | k + 1, x2, x3, x4, x13, x14, x68 => if x68 = true then (if x13 = 0 then (if x14 = 1 then ((gharrylaw02_awake.f).bind fun t173 => (some t173)) else (some false)) else (some false)) else (if 0 ≤ x4 then (if (x4 : Int).toNat ≤ 281474976710656 then ((some (List.replicate (x4 : Int).toNat 0 : List Int)).bind fun y174 => ((gharrylaw02_run.f k (Go.bits .xor .i64 x2 4294967295) (strOfNums y174)).bind fun t177 => ((gharrylaw02_of.f k (strOfNums y174)).bind fun t178 => (if x13 = (Go.bits .xor .i64 (Go.bits .xor .i64 (Go.bits .xor .i64 t177 4294967295) t178) x3) then (if x14 = 0 then ((gharrylaw02_awake.f).bind fun t179 => (some t179)) else (some false)) else (some false))))) else (none)) else (none))
end
def gharrylaw02_SumJoins.f (k : Nat) (a0 : ByteArray) (a1 : ByteArray) (a2 : Int) (a3 : Int) (a4 : Int) : Option (Bool) := (gharrylaw02_cut.f a0).bind fun t163 => ((gharrylaw02_cut.f a1).bind fun t164 => ((sum_Sum.f t163).bind fun t165 => ((sum_Sum.f t164).bind fun t166 => ((sum_Join.f t165 t166 (t164.size : Int)).bind fun bt167 => (if bt167.2 = 0 then (if t163.size + t164.size ≤ 9223372036854775807 then ((gharrylaw02_of.f k (t163 ++ t164)).bind fun t169 => (gharrylaw02_SumJoins.j0 k a2 a3 a4 (bt167.1 != t169))) else (none)) else (gharrylaw02_SumJoins.j0 k a2 a3 a4 true))))))
theorem gharrylaw02_SumJoins.mono_l : ∀ k, (∀ y0 y1 y2 y3, LeO (gharrylaw02_SumJoins.j0 k y0 y1 y2 y3) (gharrylaw02_SumJoins.j0 (k + 1) y0 y1 y2 y3)) ∧ (∀ y0 y1 y2 y3 y4 y5, LeO (gharrylaw02_SumJoins.j1 k y0 y1 y2 y3 y4 y5) (gharrylaw02_SumJoins.j1 (k + 1) y0 y1 y2 y3 y4 y5))
  | 0 => ⟨fun _ _ _ _ r h => by simp [gharrylaw02_SumJoins.j0] at h, fun _ _ _ _ _ _ r h => by simp [gharrylaw02_SumJoins.j1] at h⟩
  | k + 1 => by
    obtain ⟨ih0, ih1⟩ := gharrylaw02_SumJoins.mono_l k
    refine ⟨?_, ?_⟩
    · intro y0 y1 y2 y3
      unfold gharrylaw02_SumJoins.j0
      repeat' first
      | (with_reducible exact ih0 _ _ _ _)
      | (with_reducible exact ih1 _ _ _ _ _ _)
      | (with_reducible exact gharrylaw02_of.mono _ _)
      | (with_reducible exact gharrylaw02_run.mono _ _ _)
      | (with_reducible exact LeO.refl _)
      | (with_reducible exact LeO.none _)
      | (with_reducible refine LeO.ite ?_ ?_)
      | (with_reducible refine LeO.bind ?_ (fun _ => ?_))
      | exact ih0 _ _ _ _
      | exact ih1 _ _ _ _ _ _
      | exact gharrylaw02_of.mono _ _
      | exact gharrylaw02_run.mono _ _ _
      | exact LeO.none _
      | refine LeO.ite ?_ ?_
      | refine LeO.bind ?_ (fun _ => ?_)
    · intro y0 y1 y2 y3 y4 y5
      unfold gharrylaw02_SumJoins.j1
      repeat' first
      | (with_reducible exact ih0 _ _ _ _)
      | (with_reducible exact ih1 _ _ _ _ _ _)
      | (with_reducible exact gharrylaw02_of.mono _ _)
      | (with_reducible exact gharrylaw02_run.mono _ _ _)
      | (with_reducible exact LeO.refl _)
      | (with_reducible exact LeO.none _)
      | (with_reducible refine LeO.ite ?_ ?_)
      | (with_reducible refine LeO.bind ?_ (fun _ => ?_))
      | exact ih0 _ _ _ _
      | exact ih1 _ _ _ _ _ _
      | exact gharrylaw02_of.mono _ _
      | exact gharrylaw02_run.mono _ _ _
      | exact LeO.none _
      | refine LeO.ite ?_ ?_
      | refine LeO.bind ?_ (fun _ => ?_)
theorem gharrylaw02_SumJoins.mono : ∀ a0 a1 a2 a3 a4 k, LeO (gharrylaw02_SumJoins.f k a0 a1 a2 a3 a4) (gharrylaw02_SumJoins.f (k + 1) a0 a1 a2 a3 a4) := by
  intro a0 a1 a2 a3 a4 k
  obtain ⟨ih0, ih1⟩ := gharrylaw02_SumJoins.mono_l k
  unfold gharrylaw02_SumJoins.f
  repeat' first
      | (with_reducible exact ih0 _ _ _ _)
      | (with_reducible exact ih1 _ _ _ _ _ _)
      | (with_reducible exact gharrylaw02_of.mono _ _)
      | (with_reducible exact gharrylaw02_run.mono _ _ _)
      | (with_reducible exact LeO.refl _)
      | (with_reducible exact LeO.none _)
      | (with_reducible refine LeO.ite ?_ ?_)
      | (with_reducible refine LeO.bind ?_ (fun _ => ?_))
      | exact ih0 _ _ _ _
      | exact ih1 _ _ _ _ _ _
      | exact gharrylaw02_of.mono _ _
      | exact gharrylaw02_run.mono _ _ _
      | exact LeO.none _
      | refine LeO.ite ?_ ?_
      | refine LeO.bind ?_ (fun _ => ?_)
set_option maxHeartbeats 8000000 in
set_option maxRecDepth 100000 in
theorem gharrylaw02_SumJoins.calls (k : Nat) (a0 : ByteArray) (a1 : ByteArray) (a2 : Int) (a3 : Int) (a4 : Int) (r : Bool) (w : World) (h : gharrylaw02_SumJoins.f k a0 a1 a2 a3 a4 = some r) :
    Calls Try.prog 6 #[.string a0, .string a1, .int .i64 a2, .int .i64 a3, .int .i64 a4] w fun e w' => e = .returned (.bool r) ∧ Below w.heap.size w w' := by
  have HB := Aside0.mk (Below.refl w.heap.size w)
  have H : ((gharrylaw02_cut.f a0).bind fun t163 => ((gharrylaw02_cut.f a1).bind fun t164 => ((sum_Sum.f t163).bind fun t165 => ((sum_Sum.f t164).bind fun t166 => ((sum_Join.f t165 t166 (t164.size : Int)).bind fun bt167 => (if bt167.2 = 0 then (if t163.size + t164.size ≤ 9223372036854775807 then ((gharrylaw02_of.f k (t163 ++ t164)).bind fun t169 => (gharrylaw02_SumJoins.j0 k a2 a3 a4 (bt167.1 != t169))) else (none)) else (gharrylaw02_SumJoins.j0 k a2 a3 a4 true))))))) = some r := h
  clear h
  replace H := Option.bind_eq_some_iff.mp H
  obtain ⟨t163, A60, H⟩ := H
  replace H : ((gharrylaw02_cut.f a1).bind fun t164 => ((sum_Sum.f t163).bind fun t165 => ((sum_Sum.f t164).bind fun t166 => ((sum_Join.f t165 t166 (t164.size : Int)).bind fun bt167 => (if bt167.2 = 0 then (if t163.size + t164.size ≤ 9223372036854775807 then ((gharrylaw02_of.f k (t163 ++ t164)).bind fun t169 => (gharrylaw02_SumJoins.j0 k a2 a3 a4 (bt167.1 != t169))) else (none)) else (gharrylaw02_SumJoins.j0 k a2 a3 a4 true)))))) = some r := H
  have A6 := Aside0.mk A60
  clear A60
  replace H := Option.bind_eq_some_iff.mp H
  obtain ⟨t164, A70, H⟩ := H
  replace H : ((sum_Sum.f t163).bind fun t165 => ((sum_Sum.f t164).bind fun t166 => ((sum_Join.f t165 t166 (t164.size : Int)).bind fun bt167 => (if bt167.2 = 0 then (if t163.size + t164.size ≤ 9223372036854775807 then ((gharrylaw02_of.f k (t163 ++ t164)).bind fun t169 => (gharrylaw02_SumJoins.j0 k a2 a3 a4 (bt167.1 != t169))) else (none)) else (gharrylaw02_SumJoins.j0 k a2 a3 a4 true))))) = some r := H
  have A7 := Aside0.mk A70
  clear A70
  replace H := Option.bind_eq_some_iff.mp H
  obtain ⟨t165, A80, H⟩ := H
  replace H : ((sum_Sum.f t164).bind fun t166 => ((sum_Join.f t165 t166 (t164.size : Int)).bind fun bt167 => (if bt167.2 = 0 then (if t163.size + t164.size ≤ 9223372036854775807 then ((gharrylaw02_of.f k (t163 ++ t164)).bind fun t169 => (gharrylaw02_SumJoins.j0 k a2 a3 a4 (bt167.1 != t169))) else (none)) else (gharrylaw02_SumJoins.j0 k a2 a3 a4 true)))) = some r := H
  have A8 := Aside0.mk A80
  clear A80
  replace H := Option.bind_eq_some_iff.mp H
  obtain ⟨t166, A90, H⟩ := H
  replace H : ((sum_Join.f t165 t166 (t164.size : Int)).bind fun bt167 => (if bt167.2 = 0 then (if t163.size + t164.size ≤ 9223372036854775807 then ((gharrylaw02_of.f k (t163 ++ t164)).bind fun t169 => (gharrylaw02_SumJoins.j0 k a2 a3 a4 (bt167.1 != t169))) else (none)) else (gharrylaw02_SumJoins.j0 k a2 a3 a4 true))) = some r := H
  have A9 := Aside0.mk A90
  clear A90
  replace H := Option.bind_eq_some_iff.mp H
  obtain ⟨⟨t167, t168⟩, A100, H⟩ := H
  replace H : (if t168 = 0 then (if t163.size + t164.size ≤ 9223372036854775807 then ((gharrylaw02_of.f k (t163 ++ t164)).bind fun t169 => (gharrylaw02_SumJoins.j0 k a2 a3 a4 (t167 != t169))) else (none)) else (gharrylaw02_SumJoins.j0 k a2 a3 a4 true)) = some r := H
  have A10 := Aside0.mk A100
  clear A100
  have HC11 := Aside0.mk H
  clear H
  go_enter Try.func6, Try.ntmps6
  go_upto_region 4 with (first | ((with_reducible refine gate_callee (f := 9) rfl ?_); refine goesL_ (some 18) rfl rfl Try.func9 (by kernel_rfl) rfl #[.string a0] rfl (by (try simp only [List.map_toArray, List.map_cons, List.map_nil]); first | done | rfl | (simp only [List.length_drop, List.length_take]; rfl)) ?_; (with_reducible refine (gharrylaw02_cut.calls a0 t163 _ A6.out).mono ?_); rintro e w' ⟨rfl, ⟨nd, rfl⟩⟩; refine ⟨_, rfl, ?_⟩) | ((with_reducible refine gate_callee (f := 9) rfl ?_); refine goesL_ (some 20) rfl rfl Try.func9 (by kernel_rfl) rfl #[.string a1] rfl (by (try simp only [List.map_toArray, List.map_cons, List.map_nil]); first | done | rfl | (simp only [List.length_drop, List.length_take]; rfl)) ?_; (with_reducible refine (gharrylaw02_cut.calls a1 t164 _ A7.out).mono ?_); rintro e w' ⟨rfl, ⟨nd, rfl⟩⟩; refine ⟨_, rfl, ?_⟩) | ((with_reducible refine gate_callee (f := 10) rfl ?_); refine goesL_ (some 23) rfl rfl Try.func10 (by kernel_rfl) rfl #[.string t163] rfl (by (try simp only [List.map_toArray, List.map_cons, List.map_nil]); first | done | rfl | (simp only [List.length_drop, List.length_take]; rfl)) ?_; (with_reducible refine (sum_Sum.calls t163 t165 _ A8.out).mono ?_); rintro e w12 ⟨rfl, hb⟩; refine ⟨_, rfl, ?_⟩; have n0_ := Aside0.mk (below_step (by repeat (first | (with_reducible first | exact HB.out | apply below_alloc | apply pw_below_drewN | apply below_drew1) | exact HB.out)) hb); clear HB; have HB := n0_; clear n0_; (try clear hb); (try clear hb2); (try clear hk); (try clear hi)) | ((with_reducible refine gate_callee (f := 10) rfl ?_); refine goesL_ (some 25) rfl rfl Try.func10 (by kernel_rfl) rfl #[.string t164] rfl (by (try simp only [List.map_toArray, List.map_cons, List.map_nil]); first | done | rfl | (simp only [List.length_drop, List.length_take]; rfl)) ?_; (with_reducible refine (sum_Sum.calls t164 t166 _ A9.out).mono ?_); rintro e w13 ⟨rfl, hb⟩; refine ⟨_, rfl, ?_⟩; have n0_ := Aside0.mk (below_step (by repeat (first | (with_reducible first | exact HB.out | apply below_alloc | apply pw_below_drewN | apply below_drew1) | exact HB.out)) hb); clear HB; have HB := n0_; clear n0_; (try clear hb); (try clear hb2); (try clear hk); (try clear hi)) | ((with_reducible refine gate_callee (f := 15) rfl ?_); refine goesL_ (some 28) rfl rfl Try.func15 (by kernel_rfl) rfl #[.int .i64 t165, .int .i64 t166, .int .i64 (t164.size : Int)] rfl (by (try simp only [List.map_toArray, List.map_cons, List.map_nil]); first | done | rfl | (simp only [List.length_drop, List.length_take]; rfl)) ?_; (with_reducible refine (sum_Join.calls t165 t166 (t164.size : Int) t167 t168 _ A10.out).mono ?_); rintro e w14 ⟨rfl, hb⟩; refine ⟨_, rfl, ?_⟩; have n0_ := Aside0.mk (below_step (by repeat (first | (with_reducible first | exact HB.out | apply below_alloc | apply pw_below_drewN | apply below_drew1) | exact HB.out)) hb); clear HB; have HB := n0_; clear n0_; (try clear hb); (try clear hb2); (try clear hk); (try clear hi)))
  (try simp only [Act.put, List.setIfInBounds_toArray, List.set_cons_zero, List.set_cons_succ])
  go_cut [40] (fun v40 wc => ∃ (kq : Nat) (x40_10 : Bool), v40 = .bool x40_10 ∧ Aside0 (gharrylaw02_SumJoins.j0 kq a2 a3 a4 x40_10 = some r) ∧ Aside0 (kq ≤ k) ∧ Aside0 (Below w.heap.size w wc))
  case first =>
    have H := HC11.out
    clear HC11
    by_cases c15 : t168 = 0
    · rw [if_pos c15] at H
      have c15b0 : (t168 == 0) = true := beq_iff_eq.mpr c15
      have c15b1 : (t168 != 0) = false := bne_eq_false_iff_eq.mpr c15
      clear c15
      (first | rw [c15b0] | (simp only [i64_w, i32_w]; rw [c15b0]) | skip)
      by_cases c16 : t163.size + t164.size ≤ 9223372036854775807
      · rw [if_pos c16] at H
        have c16b0 := eq_true c16
        have c16b1 : decide (t163.size + t164.size ≤ 9223372036854775807) = true := decide_eq_true c16
        try have c16b2 : (9223372036854775807 < t163.size + t164.size) = False := eq_false (Nat.not_lt.2 c16)
        replace H := Option.bind_eq_some_iff.mp H
        obtain ⟨t169, A170, H⟩ := H
        replace H : (gharrylaw02_SumJoins.j0 k a2 a3 a4 (t167 != t169)) = some r := H
        have A17 := Aside0.mk A170
        clear A170
        have H' := Aside0.mk H
        clear H
        go_wp2_with (first | (go_at_call 11; (with_reducible refine (gharrylaw02_of.calls k (t163 ++ t164) t169 _ A17.out).mono ?_); rintro e w' ⟨rfl, ⟨nd, rfl⟩⟩))
        go_meet
        case rel => exact ⟨_, ((t167 != t169)), (by first | rfl | (simp; done) | (simp [*]; done)), H', ⟨by first | omega | exact Nat.le_refl _⟩, ⟨by repeat (first | (with_reducible first | exact HB.out | apply below_alloc | apply pw_below_drewN | apply below_drew1) | exact HB.out)⟩⟩
      · rw [if_neg c16] at H
        exact absurd H (by simp)
    · rw [if_neg c15] at H
      have c15b0 : (t168 == 0) = false := beq_eq_false_iff_ne.mpr c15
      have c15b1 : (t168 != 0) = true := bne_iff_ne.mpr c15
      (first | rw [c15b0] | (simp only [i64_w, i32_w]; rw [c15b0]) | skip)
      have H' := Aside0.mk H
      clear H
      go_wp2
      go_meet
      case rel => exact ⟨_, (true), (by first | rfl | (simp; done) | (simp [*]; done)), H', ⟨by first | omega | exact Nat.le_refl _⟩, ⟨by repeat (first | (with_reducible first | exact HB.out | apply below_alloc | apply pw_below_drewN | apply below_drew1) | exact HB.out)⟩⟩
  case rest =>
    clear HC11
    try clear c1
    try clear p2
    try clear c6
    try clear c9
    try clear c10
    try clear c15
    try clear c15b0
    try clear c15b1
    try clear c16
    try clear c16b0
    try clear c16b1
    try clear c16b2
    obtain ⟨kq, x40_10, rfl, HA, HJ10, HB⟩ := hcut
    cases kq with
    | zero => exact absurd HA.out (by simp [gharrylaw02_SumJoins.j0])
    | succ kj10 =>
      have H := HA.out
      clear HA
      simp only [gharrylaw02_SumJoins.j0] at H
      by_cases c18 : x40_10 = true
      · subst c18
        have H1 : (some false) = some r := by rw [if_pos rfl] at H; exact H
        clear H
        have H := H1
        clear H1
        obtain rfl := Option.some.inj H
        go_wp2
        go_ret
        exact ⟨by first | rfl | (simp [errW_none, errW_some] <;> rfl) | (simp [*, errW_none, errW_some] <;> rfl), by repeat (first | (with_reducible first | exact HB.out | apply below_alloc | apply pw_below_drewN | apply below_drew1) | exact HB.out)⟩
      · replace c18 := Bool.eq_false_iff.mpr c18
        subst c18
        have H1 : (if a4 > 400 then ((gharrylaw02_awake.f).bind fun t170 => (some t170)) else ((sum_Join.f a2 a3 a4).bind fun bt171 => (if a2 < 0 then (gharrylaw02_SumJoins.j1 kj10 a2 a3 a4 bt171.1 bt171.2 true) else (if a2 > 4294967295 then (gharrylaw02_SumJoins.j1 kj10 a2 a3 a4 bt171.1 bt171.2 true) else (if a3 < 0 then (gharrylaw02_SumJoins.j1 kj10 a2 a3 a4 bt171.1 bt171.2 true) else (if a3 > 4294967295 then (gharrylaw02_SumJoins.j1 kj10 a2 a3 a4 bt171.1 bt171.2 true) else (gharrylaw02_SumJoins.j1 kj10 a2 a3 a4 bt171.1 bt171.2 (decide (a4 < 0))))))))) = some r := by rw [if_neg (show ¬ (false = true) by decide)] at H; exact H
        clear H
        have H := H1
        clear H1
        by_cases c19 : a4 > 400
        · rw [if_pos c19] at H
          have c19b0 : decide (400 < a4) = true := decide_eq_true c19
          clear c19
          replace H := Option.bind_eq_some_iff.mp H
          obtain ⟨t170, A200, H⟩ := H
          replace H : (some t170) = some r := H
          have A20 := Aside0.mk A200
          clear A200
          obtain rfl := Option.some.inj H
          go_wp2_with (first | ((with_reducible refine gate_callee (f := 12) rfl ?_); refine goesL_ (some 43) rfl rfl Try.func12 (by kernel_rfl) rfl #[] rfl (by (try simp only [List.map_toArray, List.map_cons, List.map_nil]); first | done | rfl | (simp only [List.length_drop, List.length_take]; rfl)) ?_; (with_reducible refine (gharrylaw02_awake.calls  t170 _ A20.out).mono ?_); rintro e w21 ⟨rfl, hb⟩; refine ⟨_, rfl, ?_⟩; have n0_ := Aside0.mk (below_step (by repeat (first | (with_reducible first | exact HB.out | apply below_alloc | apply pw_below_drewN | apply below_drew1) | exact HB.out)) hb); clear HB; have HB := n0_; clear n0_; (try clear hb); (try clear hb2); (try clear hk); (try clear hi)))
          go_ret
          exact ⟨by first | rfl | (simp [errW_none, errW_some] <;> rfl) | (simp [*, errW_none, errW_some] <;> rfl), by repeat (first | (with_reducible first | exact HB.out | apply below_alloc | apply pw_below_drewN | apply below_drew1) | exact HB.out)⟩
        · rw [if_neg c19] at H
          have c19b0 : decide (400 < a4) = false := decide_eq_false c19
          clear c19
          replace H := Option.bind_eq_some_iff.mp H
          obtain ⟨⟨t171, t172⟩, A220, H⟩ := H
          replace H : (if a2 < 0 then (gharrylaw02_SumJoins.j1 kj10 a2 a3 a4 t171 t172 true) else (if a2 > 4294967295 then (gharrylaw02_SumJoins.j1 kj10 a2 a3 a4 t171 t172 true) else (if a3 < 0 then (gharrylaw02_SumJoins.j1 kj10 a2 a3 a4 t171 t172 true) else (if a3 > 4294967295 then (gharrylaw02_SumJoins.j1 kj10 a2 a3 a4 t171 t172 true) else (gharrylaw02_SumJoins.j1 kj10 a2 a3 a4 t171 t172 (decide (a4 < 0))))))) = some r := H
          have A22 := Aside0.mk A220
          clear A220
          have HC23 := Aside0.mk H
          clear H
          go_upto_region 9 with (first | ((with_reducible refine gate_callee (f := 15) rfl ?_); refine goesL_ (some 48) rfl rfl Try.func15 (by kernel_rfl) rfl #[.int .i64 a2, .int .i64 a3, .int .i64 a4] rfl (by (try simp only [List.map_toArray, List.map_cons, List.map_nil]); first | done | rfl | (simp only [List.length_drop, List.length_take]; rfl)) ?_; (with_reducible refine (sum_Join.calls a2 a3 a4 t171 t172 _ A22.out).mono ?_); rintro e w24 ⟨rfl, hb⟩; refine ⟨_, rfl, ?_⟩; have n0_ := Aside0.mk (below_step (by repeat (first | (with_reducible first | exact HB.out | apply below_alloc | apply pw_below_drewN | apply below_drew1) | exact HB.out)) hb); clear HB; have HB := n0_; clear n0_; (try clear hb); (try clear hb2); (try clear hk); (try clear hi)))
          (try simp only [Act.put, List.setIfInBounds_toArray, List.set_cons_zero, List.set_cons_succ])
          go_cut [68] (fun v68 wc => ∃ (kq : Nat) (x68_22 : Bool), v68 = .bool x68_22 ∧ Aside0 (gharrylaw02_SumJoins.j1 kq a2 a3 a4 t171 t172 x68_22 = some r) ∧ Aside0 (kq ≤ kj10) ∧ Aside0 (Below w.heap.size w wc))
          case first =>
            have H := HC23.out
            clear HC23
            by_cases c25 : a2 < 0
            · rw [if_pos c25] at H
              have c25b0 : decide (a2 < 0) = true := decide_eq_true c25
              clear c25
              (first | rw [c25b0] | (simp only [i64_w, i32_w]; rw [c25b0]) | skip)
              have H' := Aside0.mk H
              clear H
              go_wp2
              go_meet
              case rel => exact ⟨_, (true), (by first | rfl | (simp; done) | (simp [*]; done)), H', ⟨by have := HJ10.out; first | omega | exact Nat.le_refl _⟩, ⟨by repeat (first | (with_reducible first | exact HB.out | apply below_alloc | apply pw_below_drewN | apply below_drew1) | exact HB.out)⟩⟩
            · rw [if_neg c25] at H
              have c25b0 : decide (a2 < 0) = false := decide_eq_false c25
              clear c25
              (first | rw [c25b0] | (simp only [i64_w, i32_w]; rw [c25b0]) | skip)
              by_cases c26 : a2 > 4294967295
              · rw [if_pos c26] at H
                have c26b0 : decide (4294967295 < a2) = true := decide_eq_true c26
                clear c26
                have H' := Aside0.mk H
                clear H
                go_wp2
                go_meet
                case rel => exact ⟨_, (true), (by first | rfl | (simp; done) | (simp [*]; done)), H', ⟨by have := HJ10.out; first | omega | exact Nat.le_refl _⟩, ⟨by repeat (first | (with_reducible first | exact HB.out | apply below_alloc | apply pw_below_drewN | apply below_drew1) | exact HB.out)⟩⟩
              · rw [if_neg c26] at H
                have c26b0 : decide (4294967295 < a2) = false := decide_eq_false c26
                clear c26
                by_cases c27 : a3 < 0
                · rw [if_pos c27] at H
                  have c27b0 : decide (a3 < 0) = true := decide_eq_true c27
                  clear c27
                  have H' := Aside0.mk H
                  clear H
                  go_wp2
                  go_meet
                  case rel => exact ⟨_, (true), (by first | rfl | (simp; done) | (simp [*]; done)), H', ⟨by have := HJ10.out; first | omega | exact Nat.le_refl _⟩, ⟨by repeat (first | (with_reducible first | exact HB.out | apply below_alloc | apply pw_below_drewN | apply below_drew1) | exact HB.out)⟩⟩
                · rw [if_neg c27] at H
                  have c27b0 : decide (a3 < 0) = false := decide_eq_false c27
                  clear c27
                  by_cases c28 : a3 > 4294967295
                  · rw [if_pos c28] at H
                    have c28b0 : decide (4294967295 < a3) = true := decide_eq_true c28
                    clear c28
                    have H' := Aside0.mk H
                    clear H
                    go_wp2
                    go_meet
                    case rel => exact ⟨_, (true), (by first | rfl | (simp; done) | (simp [*]; done)), H', ⟨by have := HJ10.out; first | omega | exact Nat.le_refl _⟩, ⟨by repeat (first | (with_reducible first | exact HB.out | apply below_alloc | apply pw_below_drewN | apply below_drew1) | exact HB.out)⟩⟩
                  · rw [if_neg c28] at H
                    have c28b0 : decide (4294967295 < a3) = false := decide_eq_false c28
                    clear c28
                    have H' := Aside0.mk H
                    clear H
                    go_wp2
                    go_meet
                    case rel => exact ⟨_, (decide (a4 < 0)), (by first | rfl | (simp; done) | (simp [*]; done)), H', ⟨by have := HJ10.out; first | omega | exact Nat.le_refl _⟩, ⟨by repeat (first | (with_reducible first | exact HB.out | apply below_alloc | apply pw_below_drewN | apply below_drew1) | exact HB.out)⟩⟩
          case rest =>
            clear HC23
            try clear c1
            try clear c2
            try clear p2
            try clear c6
            try clear c9
            try clear c10
            try clear c12
            try clear c15
            try clear c15b0
            try clear c15b1
            try clear c16
            try clear c16b0
            try clear c16b1
            try clear c16b2
            try clear c18
            try clear c19
            try clear c19b0
            try clear c25
            try clear c25b0
            try clear c26
            try clear c26b0
            try clear c27
            try clear c27b0
            try clear c28
            try clear c28b0
            try clear p2
            obtain ⟨kq, x68_22, rfl, HA, HJ22, HB⟩ := hcut
            cases kq with
            | zero => exact absurd HA.out (by simp [gharrylaw02_SumJoins.j1])
            | succ kj22 =>
              have H := HA.out
              clear HA
              simp only [gharrylaw02_SumJoins.j1] at H
              by_cases c29 : x68_22 = true
              · subst c29
                have H1 : (if t171 = 0 then (if t172 = 1 then ((gharrylaw02_awake.f).bind fun t173 => (some t173)) else (some false)) else (some false)) = some r := by rw [if_pos rfl] at H; exact H
                clear H
                have H := H1
                clear H1
                by_cases c30 : t171 = 0
                · rw [if_pos c30] at H
                  have c30b0 : (t171 == 0) = true := beq_iff_eq.mpr c30
                  have c30b1 : (t171 != 0) = false := bne_eq_false_iff_eq.mpr c30
                  clear c30
                  by_cases c31 : t172 = 1
                  · rw [if_pos c31] at H
                    have c31b0 : (t172 == 1) = true := beq_iff_eq.mpr c31
                    have c31b1 : (t172 != 1) = false := bne_eq_false_iff_eq.mpr c31
                    clear c31
                    replace H := Option.bind_eq_some_iff.mp H
                    obtain ⟨t173, A320, H⟩ := H
                    replace H : (some t173) = some r := H
                    have A32 := Aside0.mk A320
                    clear A320
                    obtain rfl := Option.some.inj H
                    go_wp2_with (first | (go_at_call 12; (with_reducible refine (gharrylaw02_awake.calls  t173 _ A32.out).mono ?_); rintro e w33 ⟨rfl, hb⟩; have n0_ := Aside0.mk (below_step (by repeat (first | (with_reducible first | exact HB.out | apply below_alloc | apply pw_below_drewN | apply below_drew1) | exact HB.out)) hb); clear HB; have HB := n0_; clear n0_; (try clear hb); (try clear hb2); (try clear hk); (try clear hi)))
                    go_ret
                    exact ⟨by first | rfl | (simp [errW_none, errW_some] <;> rfl) | (simp [*, errW_none, errW_some] <;> rfl), by repeat (first | (with_reducible first | exact HB.out | apply below_alloc | apply pw_below_drewN | apply below_drew1) | exact HB.out)⟩
                  · rw [if_neg c31] at H
                    have c31b0 : (t172 == 1) = false := beq_eq_false_iff_ne.mpr c31
                    have c31b1 : (t172 != 1) = true := bne_iff_ne.mpr c31
                    obtain rfl := Option.some.inj H
                    go_wp2
                    go_ret
                    exact ⟨by first | rfl | (simp [errW_none, errW_some] <;> rfl) | (simp [*, errW_none, errW_some] <;> rfl), by repeat (first | (with_reducible first | exact HB.out | apply below_alloc | apply pw_below_drewN | apply below_drew1) | exact HB.out)⟩
                · rw [if_neg c30] at H
                  have c30b0 : (t171 == 0) = false := beq_eq_false_iff_ne.mpr c30
                  have c30b1 : (t171 != 0) = true := bne_iff_ne.mpr c30
                  obtain rfl := Option.some.inj H
                  go_wp2
                  go_ret
                  exact ⟨by first | rfl | (simp [errW_none, errW_some] <;> rfl) | (simp [*, errW_none, errW_some] <;> rfl), by repeat (first | (with_reducible first | exact HB.out | apply below_alloc | apply pw_below_drewN | apply below_drew1) | exact HB.out)⟩
              · replace c29 := Bool.eq_false_iff.mpr c29
                subst c29
                have H1 : (if 0 ≤ a4 then (if (a4 : Int).toNat ≤ 281474976710656 then ((some (List.replicate (a4 : Int).toNat 0 : List Int)).bind fun y174 => ((gharrylaw02_run.f kj22 (Go.bits .xor .i64 a2 4294967295) (strOfNums y174)).bind fun t177 => ((gharrylaw02_of.f kj22 (strOfNums y174)).bind fun t178 => (if t171 = (Go.bits .xor .i64 (Go.bits .xor .i64 (Go.bits .xor .i64 t177 4294967295) t178) a3) then (if t172 = 0 then ((gharrylaw02_awake.f).bind fun t179 => (some t179)) else (some false)) else (some false))))) else (none)) else (none)) = some r := by rw [if_neg (show ¬ (false = true) by decide)] at H; exact H
                clear H
                have H := H1
                clear H1
                by_cases c34 : 0 ≤ a4
                · rw [if_pos c34] at H
                  have c34b0 := eq_true c34
                  have c34b1 : decide (0 ≤ a4) = true := decide_eq_true c34
                  clear c34
                  by_cases c35 : (a4 : Int).toNat ≤ 281474976710656
                  · rw [if_pos c35] at H
                    have c35b0 := eq_true c35
                    have c35b1 : decide ((a4 : Int).toNat ≤ 281474976710656) = true := decide_eq_true c35
                    clear c35
                    obtain ⟨y174, hy174⟩ : ∃ y_ : List Int, y_ = (List.replicate (a4 : Int).toNat 0) := ⟨_, rfl⟩
                    replace H : ((gharrylaw02_run.f kj22 (Go.bits .xor .i64 a2 4294967295) (strOfNums y174)).bind fun t177 => ((gharrylaw02_of.f kj22 (strOfNums y174)).bind fun t178 => (if t171 = (Go.bits .xor .i64 (Go.bits .xor .i64 (Go.bits .xor .i64 t177 4294967295) t178) a3) then (if t172 = 0 then ((gharrylaw02_awake.f).bind fun t179 => (some t179)) else (some false)) else (some false)))) = some r := by first | (rw [hy174]; with_reducible exact H) | (have H2_ := (Option.bind_some _ _).symm.trans H; rw [hy174]; with_reducible exact H2_) | (have H2_ := (Option.bind_some _ _).symm.trans H; with_reducible exact H2_) | with_reducible exact H | (rw [hy174]; exact H) | exact H
                    have Ny174 := Aside0.mk hy174
                    clear hy174
                    replace H := Option.bind_eq_some_iff.mp H
                    obtain ⟨t177, A360, H⟩ := H
                    replace H : ((gharrylaw02_of.f kj22 (strOfNums y174)).bind fun t178 => (if t171 = (Go.bits .xor .i64 (Go.bits .xor .i64 (Go.bits .xor .i64 t177 4294967295) t178) a3) then (if t172 = 0 then ((gharrylaw02_awake.f).bind fun t179 => (some t179)) else (some false)) else (some false))) = some r := H
                    have A36 := Aside0.mk A360
                    clear A360
                    replace H := Option.bind_eq_some_iff.mp H
                    obtain ⟨t178, A370, H⟩ := H
                    replace H : (if t171 = (Go.bits .xor .i64 (Go.bits .xor .i64 (Go.bits .xor .i64 t177 4294967295) t178) a3) then (if t172 = 0 then ((gharrylaw02_awake.f).bind fun t179 => (some t179)) else (some false)) else (some false)) = some r := H
                    have A37 := Aside0.mk A370
                    clear A370
                    by_cases c38 : t171 = (Go.bits .xor .i64 (Go.bits .xor .i64 (Go.bits .xor .i64 t177 4294967295) t178) a3)
                    · rw [if_pos c38] at H
                      have c38b0 : (t171 == (Go.bits .xor .i64 (Go.bits .xor .i64 (Go.bits .xor .i64 t177 4294967295) t178) a3)) = true := beq_iff_eq.mpr c38
                      have c38b1 : (t171 != (Go.bits .xor .i64 (Go.bits .xor .i64 (Go.bits .xor .i64 t177 4294967295) t178) a3)) = false := bne_eq_false_iff_eq.mpr c38
                      clear c38
                      by_cases c39 : t172 = 0
                      · rw [if_pos c39] at H
                        have c39b0 : (t172 == 0) = true := beq_iff_eq.mpr c39
                        have c39b1 : (t172 != 0) = false := bne_eq_false_iff_eq.mpr c39
                        clear c39
                        replace H := Option.bind_eq_some_iff.mp H
                        obtain ⟨t179, A400, H⟩ := H
                        replace H : (some t179) = some r := H
                        have A40 := Aside0.mk A400
                        clear A400
                        obtain rfl := Option.some.inj H
                        go_wp2_with (first | ((with_reducible refine gate_dst (N := 79) rfl ?_); refine Kd.R_make (Kd.int .u8) _ 5 rfl (N := 79) rfl 26 _ _ rfl a4 rfl rfl Try.underlying26 (.int .u8 0) 1 info5 rfl (by decide) (by omega) 0 (ok := fun _ => True) (okp := fun _ => True) rfl (fun _ hk => hk) trivial (of_decide_eq_true (by first | (with_reducible assumption) | assumption)) (Nat.le_trans (Nat.mul_le_mul_right _ (of_decide_eq_true (by first | (with_reducible assumption) | assumption) : a4.toNat ≤ 281474976710656)) (by omega)) (Below.refl _ _) (Nat.le_refl _) ?_; intro v175 w41 ho42 hb hg_ hnew_; clear hg_ hnew_; (first | rw [← Ny174.out] at ho42 | (simp only [Int.reduceToNat] at ho42; rw [← Ny174.out] at ho42)); have n0_ := Aside0.mk (Kd.R_lower ho42 (below_size (by repeat (first | (with_reducible first | exact HB.out | apply below_alloc | apply pw_below_drewN | apply below_drew1) | exact HB.out)))); have n1_ := Aside0.mk (below_step (by repeat (first | (with_reducible first | exact HB.out | apply below_alloc | apply pw_below_drewN | apply below_drew1) | exact HB.out)) hb); clear HB; have HO176 := n0_; have HB := n1_; clear n0_ n1_; clear hb ho42; have hcv43 := own_string (P := Try.prog) Try.underlying26 Try.underlying5 Try.underlying9 (Kd.own_of_R HO176.out)) | ((with_reducible refine gate_callee (f := 14) rfl ?_); refine goesL_ (some 84) rfl rfl Try.func14 (by kernel_rfl) rfl #[.int .i64 (Go.bits .xor .i64 a2 4294967295), .string (strOfNums y174)] rfl (by (try simp only [List.map_toArray, List.map_cons, List.map_nil]); first | done | rfl | (simp only [List.length_drop, List.length_take]; rfl)) ?_; (with_reducible refine (gharrylaw02_run.calls kj22 (Go.bits .xor .i64 a2 4294967295) (strOfNums y174) t177 _ A36.out).mono ?_); rintro e w' ⟨rfl, ⟨nd, rfl⟩⟩; refine ⟨_, rfl, ?_⟩) | ((with_reducible refine gate_callee (f := 11) rfl ?_); refine goesL_ (some 87) rfl rfl Try.func11 (by kernel_rfl) rfl #[.string (strOfNums y174)] rfl (by (try simp only [List.map_toArray, List.map_cons, List.map_nil]); first | done | rfl | (simp only [List.length_drop, List.length_take]; rfl)) ?_; (with_reducible refine (gharrylaw02_of.calls kj22 (strOfNums y174) t178 _ A37.out).mono ?_); rintro e w' ⟨rfl, ⟨nd, rfl⟩⟩; refine ⟨_, rfl, ?_⟩) | (go_at_call 12; (with_reducible refine (gharrylaw02_awake.calls  t179 _ A40.out).mono ?_); rintro e w44 ⟨rfl, hb⟩; have n0_ := Aside0.mk (Kd.R_below (by (with_reducible repeat (first | apply Kd.R_alloc | apply Kd.R_drewN | apply Kd.R_drew)); exact HO176.out) hb); have n1_ := Aside0.mk (below_step (by repeat (first | (with_reducible first | exact HB.out | apply below_alloc | apply pw_below_drewN | apply below_drew1) | exact HB.out)) hb); clear HO176; clear HB; have HO176 := n0_; have HB := n1_; clear n0_ n1_; (try clear hb); (try clear hb2); (try clear hk); (try clear hi)))
                        go_ret
                        exact ⟨by first | rfl | (simp [errW_none, errW_some] <;> rfl) | (simp [*, errW_none, errW_some] <;> rfl), by repeat (first | (with_reducible first | exact HB.out | apply below_alloc | apply pw_below_drewN | apply below_drew1) | exact HB.out)⟩
                      · rw [if_neg c39] at H
                        have c39b0 : (t172 == 0) = false := beq_eq_false_iff_ne.mpr c39
                        have c39b1 : (t172 != 0) = true := bne_iff_ne.mpr c39
                        obtain rfl := Option.some.inj H
                        go_wp2_with (first | ((with_reducible refine gate_dst (N := 79) rfl ?_); refine Kd.R_make (Kd.int .u8) _ 5 rfl (N := 79) rfl 26 _ _ rfl a4 rfl rfl Try.underlying26 (.int .u8 0) 1 info5 rfl (by decide) (by omega) 0 (ok := fun _ => True) (okp := fun _ => True) rfl (fun _ hk => hk) trivial (of_decide_eq_true (by first | (with_reducible assumption) | assumption)) (Nat.le_trans (Nat.mul_le_mul_right _ (of_decide_eq_true (by first | (with_reducible assumption) | assumption) : a4.toNat ≤ 281474976710656)) (by omega)) (Below.refl _ _) (Nat.le_refl _) ?_; intro v175 w45 ho46 hb hg_ hnew_; clear hg_ hnew_; (first | rw [← Ny174.out] at ho46 | (simp only [Int.reduceToNat] at ho46; rw [← Ny174.out] at ho46)); have n0_ := Aside0.mk (Kd.R_lower ho46 (below_size (by repeat (first | (with_reducible first | exact HB.out | apply below_alloc | apply pw_below_drewN | apply below_drew1) | exact HB.out)))); have n1_ := Aside0.mk (below_step (by repeat (first | (with_reducible first | exact HB.out | apply below_alloc | apply pw_below_drewN | apply below_drew1) | exact HB.out)) hb); clear HB; have HO176 := n0_; have HB := n1_; clear n0_ n1_; clear hb ho46; have hcv47 := own_string (P := Try.prog) Try.underlying26 Try.underlying5 Try.underlying9 (Kd.own_of_R HO176.out)) | ((with_reducible refine gate_callee (f := 14) rfl ?_); refine goesL_ (some 84) rfl rfl Try.func14 (by kernel_rfl) rfl #[.int .i64 (Go.bits .xor .i64 a2 4294967295), .string (strOfNums y174)] rfl (by (try simp only [List.map_toArray, List.map_cons, List.map_nil]); first | done | rfl | (simp only [List.length_drop, List.length_take]; rfl)) ?_; (with_reducible refine (gharrylaw02_run.calls kj22 (Go.bits .xor .i64 a2 4294967295) (strOfNums y174) t177 _ A36.out).mono ?_); rintro e w' ⟨rfl, ⟨nd, rfl⟩⟩; refine ⟨_, rfl, ?_⟩) | ((with_reducible refine gate_callee (f := 11) rfl ?_); refine goesL_ (some 87) rfl rfl Try.func11 (by kernel_rfl) rfl #[.string (strOfNums y174)] rfl (by (try simp only [List.map_toArray, List.map_cons, List.map_nil]); first | done | rfl | (simp only [List.length_drop, List.length_take]; rfl)) ?_; (with_reducible refine (gharrylaw02_of.calls kj22 (strOfNums y174) t178 _ A37.out).mono ?_); rintro e w' ⟨rfl, ⟨nd, rfl⟩⟩; refine ⟨_, rfl, ?_⟩))
                        go_ret
                        exact ⟨by first | rfl | (simp [errW_none, errW_some] <;> rfl) | (simp [*, errW_none, errW_some] <;> rfl), by repeat (first | (with_reducible first | exact HB.out | apply below_alloc | apply pw_below_drewN | apply below_drew1) | exact HB.out)⟩
                    · rw [if_neg c38] at H
                      have c38b0 : (t171 == (Go.bits .xor .i64 (Go.bits .xor .i64 (Go.bits .xor .i64 t177 4294967295) t178) a3)) = false := beq_eq_false_iff_ne.mpr c38
                      have c38b1 : (t171 != (Go.bits .xor .i64 (Go.bits .xor .i64 (Go.bits .xor .i64 t177 4294967295) t178) a3)) = true := bne_iff_ne.mpr c38
                      obtain rfl := Option.some.inj H
                      go_wp2_with (first | ((with_reducible refine gate_dst (N := 79) rfl ?_); refine Kd.R_make (Kd.int .u8) _ 5 rfl (N := 79) rfl 26 _ _ rfl a4 rfl rfl Try.underlying26 (.int .u8 0) 1 info5 rfl (by decide) (by omega) 0 (ok := fun _ => True) (okp := fun _ => True) rfl (fun _ hk => hk) trivial (of_decide_eq_true (by first | (with_reducible assumption) | assumption)) (Nat.le_trans (Nat.mul_le_mul_right _ (of_decide_eq_true (by first | (with_reducible assumption) | assumption) : a4.toNat ≤ 281474976710656)) (by omega)) (Below.refl _ _) (Nat.le_refl _) ?_; intro v175 w48 ho49 hb hg_ hnew_; clear hg_ hnew_; (first | rw [← Ny174.out] at ho49 | (simp only [Int.reduceToNat] at ho49; rw [← Ny174.out] at ho49)); have n0_ := Aside0.mk (Kd.R_lower ho49 (below_size (by repeat (first | (with_reducible first | exact HB.out | apply below_alloc | apply pw_below_drewN | apply below_drew1) | exact HB.out)))); have n1_ := Aside0.mk (below_step (by repeat (first | (with_reducible first | exact HB.out | apply below_alloc | apply pw_below_drewN | apply below_drew1) | exact HB.out)) hb); clear HB; have HO176 := n0_; have HB := n1_; clear n0_ n1_; clear hb ho49; have hcv50 := own_string (P := Try.prog) Try.underlying26 Try.underlying5 Try.underlying9 (Kd.own_of_R HO176.out)) | ((with_reducible refine gate_callee (f := 14) rfl ?_); refine goesL_ (some 84) rfl rfl Try.func14 (by kernel_rfl) rfl #[.int .i64 (Go.bits .xor .i64 a2 4294967295), .string (strOfNums y174)] rfl (by (try simp only [List.map_toArray, List.map_cons, List.map_nil]); first | done | rfl | (simp only [List.length_drop, List.length_take]; rfl)) ?_; (with_reducible refine (gharrylaw02_run.calls kj22 (Go.bits .xor .i64 a2 4294967295) (strOfNums y174) t177 _ A36.out).mono ?_); rintro e w' ⟨rfl, ⟨nd, rfl⟩⟩; refine ⟨_, rfl, ?_⟩) | ((with_reducible refine gate_callee (f := 11) rfl ?_); refine goesL_ (some 87) rfl rfl Try.func11 (by kernel_rfl) rfl #[.string (strOfNums y174)] rfl (by (try simp only [List.map_toArray, List.map_cons, List.map_nil]); first | done | rfl | (simp only [List.length_drop, List.length_take]; rfl)) ?_; (with_reducible refine (gharrylaw02_of.calls kj22 (strOfNums y174) t178 _ A37.out).mono ?_); rintro e w' ⟨rfl, ⟨nd, rfl⟩⟩; refine ⟨_, rfl, ?_⟩))
                      go_ret
                      exact ⟨by first | rfl | (simp [errW_none, errW_some] <;> rfl) | (simp [*, errW_none, errW_some] <;> rfl), by repeat (first | (with_reducible first | exact HB.out | apply below_alloc | apply pw_below_drewN | apply below_drew1) | exact HB.out)⟩
                  · rw [if_neg c35] at H
                    exact absurd H (by simp)
                · rw [if_neg c34] at H
                  exact absurd H (by simp)

/-- THE ONE PURE STATEMENT of gharrylaw02_SumJoins: yours. -/
def gharrylaw02_SumJoins.Pure : Prop := ∀ (a0 : ByteArray) (a1 : ByteArray) (a2 : Int) (a3 : Int) (a4 : Int), a0.size ≤ 140737488351232 → a1.size ≤ 140737488351232 → (Lit.int .i64 a2).wf = true → (Lit.int .i64 a3).wf = true → (Lit.int .i64 a4).wf = true → ∃ k, gharrylaw02_SumJoins.f k a0 a1 a2 a3 a4 = some true
theorem gharrylaw02_SumJoins.walk (P : gharrylaw02_SumJoins.Pure) (a0 : ByteArray) (a1 : ByteArray) (a2 : Int) (a3 : Int) (a4 : Int) (w : World) (w0 : a0.size ≤ 140737488351232) (w1 : a1.size ≤ 140737488351232) (w2 : (Lit.int .i64 a2).wf = true) (w3 : (Lit.int .i64 a3).wf = true) (w4 : (Lit.int .i64 a4).wf = true) :
    Calls Try.prog 6 #[.string a0, .string a1, .int .i64 a2, .int .i64 a3, .int .i64 a4] w fun e w' => e = .returned (.bool true) ∧ Below w.heap.size w w' := by
  obtain ⟨k, h⟩ := P a0 a1 a2 a3 a4 w0 w1 w2 w3 w4
  refine (gharrylaw02_SumJoins.calls k a0 a1 a2 a3 a4 true w h).mono ?_
  rintro e w' ⟨rfl, hd⟩
  exact ⟨rfl, hd⟩

end Go.Proofs.Ytnbfphjhhdkefaa.PAll
