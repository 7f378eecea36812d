/- The row of the law NetComes: for every input it returns true and its arguments read as before; no condition. -/
import Derived.Test.YtfipchighkpobaaRows
import Derived.Test.YtfipchighkpobaaNetComes
import Derived.WalkKit
import Derived.ProofKit
import Derived.OpenShut
import Derived.ShutString
import Derived.ChangeOld
import Derived.Below
import Derived.SizedLaws
import Derived.Test.YtfipchighkpobaaRowFields
namespace Go.Proofs.Ytfipchighkpobaa.netComes
open Go.ChangeShapes Go.WideShapes Go.ChangeAt Go.RowKit
open Go.ChangeMaps (open_string shut_string)
set_option linter.unusedVariables false
theorem own : ownKnob Try.prog.godebug = none := by kernel_rfl
theorem laidOut : laidOutB Try.prog = true := by kernel_rfl
set_option maxRecDepth 100000 in
theorem lifted (os : Os) (started : os.Started) (H : Type) (enc : TypeId × Value → H) :
    ReturnsInHanded {} Try.checked os 3 .any (Rows.netComesSpec.pre6 enc Try.prog Try.f3 Rows.netComesRow.domain false) (Rows.netComesSpec.post enc Try.prog Try.f3 false true false false) := by
  refine returnsInHanded_of_change_sized (C := Try.checked) own started (by kernel_rfl) Try.func3
    (ChangeSpec.witness6 (enc := enc) (C := Try.checked) false ⟨#[], #[.slice none 0 0], []⟩ 8 (by kernel_rfl) (by kernel_rfl) (by kernel_rfl) (by kernel_rfl)) ?_
  intro W base args ds gs before hval0 hW hcnd hsz0 _
  have hsz : (DataW.weightsEach Try.prog (Try.f3.params.toList ++ Rows.netComesSpec.plain.varTypes Try.prog) (ds ++ gs)).all (· ≤ reachBytes) = true := hsz0
  have hval : ∀ (j : Nat) t v, Try.f3.params[j]? = some t → args[j]? = some v → Value.okWide Try.prog W .any base t v := hval0
  have hW' := hW
  obtain ⟨p, q, hA0, hV, rfl, hfz, hnd⟩ := hW
  have hA : DataW.TrodAll enc Try.prog W 0 (fun _ => true) true Try.f3.params.toList args.toList ds p := hA0
  rw [Try.params3] at hA hval hsz
  obtain ⟨v0, vs0, d0, ds0, p0, q0, hargs, rfl, rfl, h0, r0⟩ := trodAll_cons hA
  obtain ⟨rfl, rfl, rfl⟩ := trodAll_nil r0
  obtain rfl : args = #[v0] := by cases args; simp_all
  obtain ⟨rfl, rfl⟩ := trodVars_none hV
  obtain ⟨a0, len0, cap0, rfl⟩ := okWide_slice Try.underlying22 (hval 0 22 v0 rfl rfl)
  have k0 := h0
  have lt0 : ∀ x ∈ p0, x.block < W.heap.size := by obtain ⟨m, hm⟩ := k0; exact DataW.trod_lt m _ _ _ hm
  have w0 : (a0 = none ∧ len0 = 0 ∧ cap0 = 0) ∨ ∃ x, a0 = some x ∧ len0 ≤ cap0 ∧ cap0 ≤ maxLen ∧ ∀ k, k < len0 → ∃ (n0 : Int) (n1 : Int) (n2 : Int) (n3 : ByteArray), W.cell? (x.add (k * 4)) = some (.int .i64 n0) ∧ W.cell? (⟨(x.add (k * 4)).block, (x.add (k * 4)).off + 1, none⟩) = some (.int .i64 n1) ∧ W.cell? (⟨(x.add (k * 4)).block, (x.add (k * 4)).off + 2, none⟩) = some (.int .i64 n2) ∧ W.cell? (⟨(x.add (k * 4)).block, (x.add (k * 4)).off + 3, none⟩) = some (.string n3) := by
    obtain ⟨fuel, hf⟩ := h0
    rcases RowFields.open_row Try.underlying22 Try.underlying27 (by kernel_rfl) (by kernel_rfl) (by simpa [Value.cells] using hf) with z | ⟨x, hx, hl, hm, hc⟩
    · exact .inl z
    · refine .inr ⟨x, hx, hl, hm, fun k hk => ?_⟩
      obtain ⟨n0, c0, _⟩ := RowFields.int_at Try.underlying3 (hc k hk 0 _ rfl)
      obtain ⟨n1, c1, _⟩ := RowFields.int_at Try.underlying3 (hc k hk 1 _ rfl)
      obtain ⟨n2, c2, _⟩ := RowFields.int_at Try.underlying3 (hc k hk 2 _ rfl)
      obtain ⟨n3, c3, _⟩ := RowFields.str_at Try.underlying9 (hc k hk 3 _ rfl)
      have e0 : W.cell? (x.add (k * 4 + 0)) = some (.int .i64 n0) := c0
      rw [Nat.add_zero] at e0
      have e1 : W.cell? (x.add (k * 4 + 1)) = some (.int .i64 n1) := c1
      rw [RowFields.off_at _ _ _ (by omega)] at e1
      have e2 : W.cell? (x.add (k * 4 + 2)) = some (.int .i64 n2) := c2
      rw [RowFields.off_at _ _ _ (by omega)] at e2
      have e3 : W.cell? (x.add (k * 4 + 3)) = some (.string n3) := c3
      rw [RowFields.off_at _ _ _ (by omega)] at e3
      exact ⟨n0, n1, n2, n3, e0, e1, e2, e3⟩
  clear hA0 hval0 hsz0 hsz
  refine (PAll.NetComes.walk a0 len0 cap0 W w0).mono fun e W' ⟨he, bel⟩ => ?_
  subst he
  exact ⟨_, rfl, _, _, _, [], _, [], hW', trodAll_mk1 (shut_bool Try.underlying4 _), (trodAll_cons_mk (Below.trod laidOut (by kernel_rfl) (of_decide_eq_true (by kernel_rfl)) k0 bel lt0) trodAll_mk0), rfl, bel.frame _, fun h => by cases h⟩
theorem over : Rows.netComesRow.holds Try.pinned (OpenSpec.ofChange Rows.netComesSpec) :=
  OpenClaim.holds_of_wide 3 Try.f3 rfl rfl rfl rfl rfl rfl rfl ⟨rfl, rfl, rfl, rfl, rfl⟩ rfl rfl rfl rfl rfl (by kernel_rfl) Try.func3 (by kernel_rfl)
    (of_decide_eq_true (by kernel_rfl)) (by unfold Func.isWrapper; first | (rw [if_pos (by decide +kernel)]; kernel_rfl) | (rw [if_neg (by decide +kernel)]; exact ⟨rfl, rfl⟩))
    (fun os started H enc _ => lifted os started H enc)
theorem proved : Rows.NetComesSaid := over
#print axioms proved
end Go.Proofs.Ytfipchighkpobaa.netComes
namespace Go.Proofs.Ytfipchighkpobaa
/-- The row, under a short name, for the claim. -/
theorem netComes_holds : Rows.NetComesSaid := netComes.proved
end Go.Proofs.Ytfipchighkpobaa
