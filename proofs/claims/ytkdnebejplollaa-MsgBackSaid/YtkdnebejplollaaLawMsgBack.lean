/- The row of the law MsgBack: for every input it returns true and its arguments read as before; no condition. -/
import Derived.Test.YtkdnebejplollaaRows
import Derived.Test.YtkdnebejplollaaMsgBack
import Derived.WalkKit
import Derived.ProofKit
import Derived.OpenShut
import Derived.ShutString
import Derived.ChangeOld
import Derived.Below
import Derived.SizedLaws
import Derived.Test.YtkdnebejplollaaRowFields
namespace Go.Proofs.Ytkdnebejplollaa.msgBack
open Go.ChangeShapes Go.WideShapes Go.ChangeAt Go.RowKit
open Go.ChangeMaps (open_string shut_string)
set_option linter.unusedVariables false
theorem own : ownKnob Try.prog.godebug = none := by kernel_rfl
theorem laidOut : laidOutB Try.prog = true := by kernel_rfl
set_option maxRecDepth 100000 in
theorem lifted (os : Os) (started : os.Started) (H : Type) (enc : TypeId × Value → H) :
    ReturnsInHanded {} Try.checked os 5 .any (Rows.msgBackSpec.pre6 enc Try.prog Try.f5 Rows.msgBackRow.domain false) (Rows.msgBackSpec.post enc Try.prog Try.f5 false true false false) := by
  refine returnsInHanded_of_change_sized (C := Try.checked) own started (by kernel_rfl) Try.func5
    (ChangeSpec.witness6 (enc := enc) (C := Try.checked) false ⟨#[], #[.agg #[.int .i64 0, .int .i64 0, .int .i64 0, .int .i64 0, .int .i64 0, .int .i64 0, .int .i64 0, .int .i64 0, .int .i64 0, .string ByteArray.empty]], []⟩ 8 (by kernel_rfl) (by kernel_rfl) (by kernel_rfl) (by kernel_rfl)) ?_
  intro W base args ds gs before hval0 hW hcnd hsz0 _
  have hsz : (DataW.weightsEach Try.prog (Try.f5.params.toList ++ Rows.msgBackSpec.plain.varTypes Try.prog) (ds ++ gs)).all (· ≤ reachBytes) = true := hsz0
  have hval : ∀ (j : Nat) t v, Try.f5.params[j]? = some t → args[j]? = some v → Value.okWide Try.prog W .any base t v := hval0
  have hW' := hW
  obtain ⟨p, q, hA0, hV, rfl, hfz, hnd⟩ := hW
  have hA : DataW.TrodAll enc Try.prog W 0 (fun _ => true) true Try.f5.params.toList args.toList ds p := hA0
  rw [Try.params5] at hA hval hsz
  obtain ⟨v0, vs0, d0, ds0, p0, q0, hargs, rfl, rfl, h0, r0⟩ := trodAll_cons hA
  obtain ⟨rfl, rfl, rfl⟩ := trodAll_nil r0
  obtain rfl : args = #[v0] := by cases args; simp_all
  obtain ⟨rfl, rfl⟩ := trodVars_none hV
  have k0 := h0
  have lt0 : ∀ x ∈ p0, x.block < W.heap.size := by obtain ⟨m, hm⟩ := k0; exact DataW.trod_lt m _ _ _ hm
  obtain ⟨cs0, rfl, hz0, hf0⟩ := RowFields.open_agg Try.underlying23 (by kernel_rfl) (by kernel_rfl) (hval 0 23 v0 rfl rfl) h0
  obtain ⟨b0_0, c0_0, _⟩ := RowFields.int_val Try.underlying3 (hf0 0 _ rfl)
  obtain ⟨b0_1, c0_1, _⟩ := RowFields.int_val Try.underlying3 (hf0 1 _ rfl)
  obtain ⟨b0_2, c0_2, _⟩ := RowFields.int_val Try.underlying3 (hf0 2 _ rfl)
  obtain ⟨b0_3, c0_3, _⟩ := RowFields.int_val Try.underlying3 (hf0 3 _ rfl)
  obtain ⟨b0_4, c0_4, _⟩ := RowFields.int_val Try.underlying3 (hf0 4 _ rfl)
  obtain ⟨b0_5, c0_5, _⟩ := RowFields.int_val Try.underlying3 (hf0 5 _ rfl)
  obtain ⟨b0_6, c0_6, _⟩ := RowFields.int_val Try.underlying3 (hf0 6 _ rfl)
  obtain ⟨b0_7, c0_7, _⟩ := RowFields.int_val Try.underlying3 (hf0 7 _ rfl)
  obtain ⟨b0_8, c0_8, _⟩ := RowFields.int_val Try.underlying3 (hf0 8 _ rfl)
  obtain ⟨b0_9, c0_9, _⟩ := RowFields.str_val Try.underlying9 (hf0 9 _ rfl)
  obtain rfl : cs0 = #[.int .i64 b0_0, .int .i64 b0_1, .int .i64 b0_2, .int .i64 b0_3, .int .i64 b0_4, .int .i64 b0_5, .int .i64 b0_6, .int .i64 b0_7, .int .i64 b0_8, .string b0_9] := by
    apply Array.ext_getElem?
    intro j
    match j with
    | 0 => exact c0_0.trans rfl
    | 1 => exact c0_1.trans rfl
    | 2 => exact c0_2.trans rfl
    | 3 => exact c0_3.trans rfl
    | 4 => exact c0_4.trans rfl
    | 5 => exact c0_5.trans rfl
    | 6 => exact c0_6.trans rfl
    | 7 => exact c0_7.trans rfl
    | 8 => exact c0_8.trans rfl
    | 9 => exact c0_9.trans rfl
    | j + 10 => rw [Array.getElem?_eq_none (by rw [hz0]; show 10 ≤ _; omega), Array.getElem?_eq_none (by show 10 ≤ _; omega)]
  clear hA0 hval0 hsz0 hsz
  refine (PAll.MsgBack.walk b0_0 b0_1 b0_2 b0_3 b0_4 b0_5 b0_6 b0_7 b0_8 b0_9 W ).mono fun e W' ⟨he, bel⟩ => ?_
  subst he
  exact ⟨_, rfl, _, _, _, [], _, [], hW', trodAll_mk1 (shut_bool Try.underlying4 _), (trodAll_cons_mk (Below.trod laidOut (by kernel_rfl) (of_decide_eq_true (by kernel_rfl)) k0 bel lt0) trodAll_mk0), rfl, bel.frame _, fun h => by cases h⟩
theorem over : Rows.msgBackRow.holds Try.pinned (OpenSpec.ofChange Rows.msgBackSpec) :=
  OpenClaim.holds_of_wide 5 Try.f5 rfl rfl rfl rfl rfl rfl rfl ⟨rfl, rfl, rfl, rfl, rfl⟩ rfl rfl rfl rfl rfl (by kernel_rfl) Try.func5 (by kernel_rfl)
    (of_decide_eq_true (by kernel_rfl)) (by unfold Func.isWrapper; first | (rw [if_pos (by decide +kernel)]; kernel_rfl) | (rw [if_neg (by decide +kernel)]; exact ⟨rfl, rfl⟩))
    (fun os started H enc _ => lifted os started H enc)
theorem proved : Rows.MsgBackSaid := over
#print axioms proved
end Go.Proofs.Ytkdnebejplollaa.msgBack
namespace Go.Proofs.Ytkdnebejplollaa
/-- The row, under a short name, for the claim. -/
theorem msgBack_holds : Rows.MsgBackSaid := msgBack.proved
end Go.Proofs.Ytkdnebejplollaa
