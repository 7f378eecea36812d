/- The net's example, and a nil net, walked by hand. -/
import Derived.Test.YtfipchighkpobaaNetParts
import Derived.Deep.RegionHeld3
import Derived.Deep.Upon
namespace Go.Proofs.Ytfipchighkpobaa.PAll
open Go.RowKit Go.Proofs.YtfipchighkpobaaW.PrintWords Go.Proofs.YtfipchighkpobaaW.PrintLast Go.Proofs.YtfipchighkpobaaW.PrintMore
set_option linter.unusedVariables false
set_option linter.unusedSimpArgs false

/-- Nothing is appended. -/
theorem app0 (a : Addr) (n c : Nat) (hn : n ≤ c) (o : Option Addr) (c2 : Nat) (W : World) : (Builtin.append_ #[25, 25] 25 #[.slice (some a) n c, .slice o 0 c2]).run Try.prog W = .ok (.slice (some a) n c) W := by
  obtain ⟨i, hi, _⟩ := Option.map_eq_some_iff.1 info9
  refine run_append_nothing W 25 25 25 9 i Try.underlying25 hi (some a) n c hn _ ?_
  cases o with
  | none => exact Src.ofNil W Try.underlying25 c2
  | some a2 => exact Src.ofSlice W Try.underlying25 a2 0 c2 [] (by simp) (by simp) (by simp)

theorem append_step {P : Program} {ops : Array Oper} {o : Oper} {a : Act} {W W' : World} {Kc : Act → World → Prop} {Q : Exit → Act → World → Prop} (hw : Region.wanted o (yielded ops a.tmps) = true) (s x : Operand)
    (hop : o.op = .call { callee := .builtin .append, args := #[s, x], argTypes := #[25, 25] }) (hty : o.type = 25) (v y r : Value) (hs : a.eval s = v) (hx : a.eval x = y)
    (hrun : (Builtin.append_ #[25, 25] 25 #[v, y]).run P W = .ok r W') (hK : Kc (a.put o.dst r) W') : if Region.wanted o (yielded ops a.tmps) = true then Oper.wp P o a W Kc Q else Kc (a.put o.dst undef) W :=
  event_step hw (by simp [execOp, hop, resolve, invoke, builtin, hs, hx, hty, hrun, Result.andThen]) hK

/-- One is left. -/
def Took (w0 w' : World) (g : Nat) (lost sent : Int) : Prop := ∃ A' c', w'.heap[g]? = some (.cells #[.slice A' 1 c', .int .i64 lost, .int .i64 sent] 49 (0, 0)) ∧ Below w0.heap.size w0 w'

set_option maxHeartbeats 2000000 in
theorem take_awake {w0 w : World} {g : Nat} {A : Option Addr} {c : Nat} {a b : ByteArray} {lost sent : Int} (h : NW w0 w g A c [a, b] lost sent) :
    Calls Try.prog 12 #[.pointer (some ⟨g, 0, none⟩), .int .i64 1] w fun e w' => e = .returned (.tuple #[.string b, .int .i64 0]) ∧ Took w0 w' g lost sent := by
  have hu49 := Try.underlying49
  have hu25 := Try.underlying25
  obtain ⟨_, hlc, _⟩ := Kd.R_reads' h.row
  obtain ⟨ad, rfl, hx⟩ := row_str h.row 1 (by simp)
  have hc2 : (2 : Int) ≤ (c : Int) := by have : ([a, b] : List ByteArray).length = 2 := rfl; omega
  have hc2n : 2 ≤ c := by omega
  have HH := Lib.hid h
  have HA := Lib.hid (show Calls Try.prog 16 #[.pointer (some ⟨g, 0, none⟩), .int .i64 1] w fun e w' => e = .returned (.tuple #[.string b, .int .i64 0]) ∧ w' = w from at_ok h 1 (by simp) (by simp))
  have hc1 : (1 : Int) ≤ (c : Int) := by omega
  have hc1n : 1 ≤ c := by omega
  have hw2 : IntKind.i64.wrap 2 = 2 := by decide
  have h0 : w.cell? ⟨g, 0, none⟩ = some (.slice (some ad) 2 c) := (blk_cell h.rec_ 0).trans rfl
  have hf0 := blk_frozen h.rec_ 0
  clear h hlc
  go_enter Try.func12, Try.ntmps12
  go_wp2_with (go_at_call 16; (with_reducible refine HA.out.mono ?_); rintro e' w1 ⟨rfl, rfl⟩)
  refine wp_region_held_drew (S := fun w' => True) (by kernel_rfl) trivial (fun hH0 => ?_)
  refine wpAnyH_take (i := 0) (oi := { dst := some 17, op := Go.Op.move (Go.Operand.tmp 0), type := 23, pos := "net.go:71", after := #[], guard := none }) (v := ?_) rfl (by kernel_rfl) (by kernel_rfl) (by kernel_rfl) (fun _ _ _ h => h) (Or.inl ⟨by rfl, ?_⟩) hH0 ?_
  rotate_left
  · intro w' hSw
    go_simp
    try with_reducible rfl
  (try simp only [Act.put, List.setIfInBounds_toArray, List.set_cons_zero, List.set_cons_succ])
  refine wpAnyH_take (i := 1) (oi := { dst := some 18, op := Go.Op.move (Go.Operand.tmp 0), type := 23, pos := "net.go:71", after := #[], guard := none }) (v := ?_) rfl (by kernel_rfl) (by kernel_rfl) (by kernel_rfl) (fun _ _ _ h => h) (Or.inl ⟨by rfl, ?_⟩) hH0 ?_
  rotate_left
  · intro w' hSw
    go_simp
    try with_reducible rfl
  (try simp only [Act.put, List.setIfInBounds_toArray, List.set_cons_zero, List.set_cons_succ])
  refine wpAnyH_take (i := 2) (oi := { dst := some 19, op := Go.Op.nilCheck (Go.Operand.tmp 18), type := 0, pos := "net.go:71", after := #[{ on := 1, ground := Go.Ground.data }], guard := none }) (v := ?_) rfl (by kernel_rfl) (by kernel_rfl) (by kernel_rfl) (fun _ _ _ h => h) (Or.inl ⟨by rfl, ?_⟩) hH0 ?_
  rotate_left
  · intro w' hSw
    go_simp
    try with_reducible rfl
  (try simp only [Act.put, List.setIfInBounds_toArray, List.set_cons_zero, List.set_cons_succ])
  refine wpAnyH_take (i := 3) (oi := { dst := some 20, op := Go.Op.fieldAddr 49 (Go.Operand.tmp 19) 0, type := 0, pos := "net.go:71", after := #[{ on := 2, ground := Go.Ground.data }], guard := none }) (v := ?_) rfl (by kernel_rfl) (by kernel_rfl) (by kernel_rfl) (fun _ _ _ h => h) (Or.inl ⟨by rfl, ?_⟩) hH0 ?_
  rotate_left
  · intro w' hSw
    go_simp
    try with_reducible rfl
  (try simp only [Act.put, List.setIfInBounds_toArray, List.set_cons_zero, List.set_cons_succ])
  refine wpAnyH_take (i := 5) (oi := { dst := some 22, op := Go.Op.move (Go.Operand.tmp 1), type := 3, pos := "net.go:71", after := #[], guard := none }) (v := ?_) rfl (by kernel_rfl) (by kernel_rfl) (by kernel_rfl) (fun _ _ _ h => h) (Or.inl ⟨by rfl, ?_⟩) hH0 ?_
  rotate_left
  · intro w' hSw
    go_simp
    try with_reducible rfl
  (try simp only [Act.put, List.setIfInBounds_toArray, List.set_cons_zero, List.set_cons_succ])
  refine wpAnyH_take (i := 6) (oi := { dst := some 23, op := Go.Op.move (Go.Operand.tmp 1), type := 3, pos := "net.go:71", after := #[], guard := none }) (v := ?_) rfl (by kernel_rfl) (by kernel_rfl) (by kernel_rfl) (fun _ _ _ h => h) (Or.inl ⟨by rfl, ?_⟩) hH0 ?_
  rotate_left
  · intro w' hSw
    go_simp
    try with_reducible rfl
  (try simp only [Act.put, List.setIfInBounds_toArray, List.set_cons_zero, List.set_cons_succ])
  refine wpAnyH_take (i := 8) (oi := { dst := some 25, op := Go.Op.move (Go.Operand.tmp 0), type := 23, pos := "net.go:71", after := #[], guard := none }) (v := ?_) rfl (by kernel_rfl) (by kernel_rfl) (by kernel_rfl) (fun _ _ _ h => h) (Or.inl ⟨by rfl, ?_⟩) hH0 ?_
  rotate_left
  · intro w' hSw
    go_simp
    try with_reducible rfl
  (try simp only [Act.put, List.setIfInBounds_toArray, List.set_cons_zero, List.set_cons_succ])
  refine wpAnyH_take (i := 9) (oi := { dst := some 26, op := Go.Op.nilCheck (Go.Operand.tmp 25), type := 0, pos := "net.go:71", after := #[{ on := 8, ground := Go.Ground.data }], guard := none }) (v := ?_) rfl (by kernel_rfl) (by kernel_rfl) (by kernel_rfl) (fun _ _ _ h => h) (Or.inl ⟨by rfl, ?_⟩) hH0 ?_
  rotate_left
  · intro w' hSw
    go_simp
    try with_reducible rfl
  (try simp only [Act.put, List.setIfInBounds_toArray, List.set_cons_zero, List.set_cons_succ])
  refine wpAnyH_take (i := 10) (oi := { dst := some 27, op := Go.Op.fieldAddr 49 (Go.Operand.tmp 26) 0, type := 0, pos := "net.go:71", after := #[{ on := 9, ground := Go.Ground.data }], guard := none }) (v := ?_) rfl (by kernel_rfl) (by kernel_rfl) (by kernel_rfl) (fun _ _ _ h => h) (Or.inl ⟨by rfl, ?_⟩) hH0 ?_
  rotate_left
  · intro w' hSw
    go_simp
    try with_reducible rfl
  (try simp only [Act.put, List.setIfInBounds_toArray, List.set_cons_zero, List.set_cons_succ])
  refine wpAnyH_take (i := 12) (oi := { dst := some 29, op := Go.Op.move (Go.Operand.tmp 1), type := 3, pos := "net.go:71", after := #[], guard := none }) (v := ?_) rfl (by kernel_rfl) (by kernel_rfl) (by kernel_rfl) (fun _ _ _ h => h) (Or.inl ⟨by rfl, ?_⟩) hH0 ?_
  rotate_left
  · intro w' hSw
    go_simp
    try with_reducible rfl
  (try simp only [Act.put, List.setIfInBounds_toArray, List.set_cons_zero, List.set_cons_succ])
  refine wpAnyH_take (i := 13) (oi := { dst := some 30, op := Go.Op.binOp Go.BinOp.add 3 (Go.Operand.tmp 29) (Go.Operand.const (Go.Value.int Go.IntKind.i64 1)) 3, type := 3, pos := "net.go:71", after := #[{ on := 12, ground := Go.Ground.data }], guard := none }) (v := ?_) rfl (by kernel_rfl) (by kernel_rfl) (by kernel_rfl) (fun _ _ _ h => h) (Or.inl ⟨by rfl, ?_⟩) hH0 ?_
  rotate_left
  · intro w' hSw
    go_simp
    try with_reducible rfl
  (try simp only [Act.put, List.setIfInBounds_toArray, List.set_cons_zero, List.set_cons_succ])
  refine wpAnyH_ready (rs := [4, 11]) (by kernel_rfl) (by simp) ?_
  refine AllReadyH.cons (o := { dst := some 21, op := Go.Op.load 25 (Go.Operand.tmp 20), type := 25, pos := "net.go:71", after := #[{ on := 3, ground := Go.Ground.data }], guard := none }) rfl (fun K hK => ?_) ?_
  · go_simp
    refine hK.out _ _ ?_ (fun hH1 => ?_)
    · trivial
    clear hK K
    (try simp only [Act.put, List.setIfInBounds_toArray, List.set_cons_zero, List.set_cons_succ])
    refine wpAnyH_take (i := 7) (oi := { dst := some 24, op := Go.Op.slice 25 (Go.Operand.tmp 21) none (some (Go.Operand.tmp 22)) (some (Go.Operand.tmp 23)), type := 25, pos := "net.go:71", after := #[{ on := 4, ground := Go.Ground.data }, { on := 5, ground := Go.Ground.data }, { on := 6, ground := Go.Ground.data }], guard := none }) (v := ?_) rfl (by kernel_rfl) (by kernel_rfl) (by kernel_rfl) (fun _ _ _ h => h) (Or.inl ⟨by rfl, ?_⟩) hH1 ?_
    rotate_left
    · intro w' hSw
      go_simp
      try with_reducible rfl
    (try simp only [Act.put, List.setIfInBounds_toArray, List.set_cons_zero, List.set_cons_succ])
    refine wpAnyH_ready (rs := [11]) (by kernel_rfl) (by simp) ?_
    refine AllReadyH.cons (o := { dst := some 28, op := Go.Op.load 25 (Go.Operand.tmp 27), type := 25, pos := "net.go:71", after := #[{ on := 10, ground := Go.Ground.data }], guard := none }) rfl (fun K hK => ?_) ?_
    · go_simp
      refine hK.out _ _ ?_ (fun hH2 => ?_)
      · trivial
      clear hK K
      (try simp only [Act.put, List.setIfInBounds_toArray, List.set_cons_zero, List.set_cons_succ])
      refine wpAnyH_take (i := 14) (oi := { dst := some 31, op := Go.Op.slice 25 (Go.Operand.tmp 28) (some (Go.Operand.tmp 30)) none none, type := 25, pos := "net.go:71", after := #[{ on := 11, ground := Go.Ground.data }, { on := 13, ground := Go.Ground.data }], guard := none }) (v := ?_) rfl (by kernel_rfl) (by kernel_rfl) (by kernel_rfl) (fun _ _ _ h => h) (Or.inl ⟨by rfl, ?_⟩) hH2 ?_
      rotate_left
      · intro w' hSw
        go_simp
        try with_reducible rfl
      (try simp only [Act.put, List.setIfInBounds_toArray, List.set_cons_zero, List.set_cons_succ])
      refine wpAnyH_ready (rs := [15]) (by kernel_rfl) (by simp) ?_
      refine AllReadyH.cons (o := { dst := some 32, op := Go.Op.call { callee := Go.Callee.builtin Go.Builtin.append, args := #[Go.Operand.tmp 24, Go.Operand.tmp 31], argTypes := #[25, 25] }, type := 25, pos := "net.go:71", after := #[{ on := 7, ground := Go.Ground.data }, { on := 14, ground := Go.Ground.data }], guard := none }) rfl (fun K hK => ?_) ?_
      · skip
        refine append_step (by rfl) (.tmp 24) (.tmp 31) rfl rfl (.slice (some ad) 1 1) _ _ rfl rfl (app0 ad 1 1 (Nat.le_refl _) _ _ _) ?_
        refine hK.out _ _ ?_ (fun hH3 => ?_)
        · trivial
        clear hK K
        (try simp only [Act.put, List.setIfInBounds_toArray, List.set_cons_zero, List.set_cons_succ])
        refine wpAnyH_take (i := 16) (oi := { dst := some 33, op := Go.Op.nilCheck (Go.Operand.tmp 17), type := 0, pos := "net.go:71", after := #[{ on := 0, ground := Go.Ground.data }, { on := 0, ground := Go.Ground.phase }, { on := 1, ground := Go.Ground.phase }, { on := 2, ground := Go.Ground.phase }, { on := 3, ground := Go.Ground.phase }, { on := 4, ground := Go.Ground.phase }, { on := 5, ground := Go.Ground.phase }, { on := 6, ground := Go.Ground.phase }, { on := 7, ground := Go.Ground.phase }, { on := 8, ground := Go.Ground.phase }, { on := 9, ground := Go.Ground.phase }, { on := 10, ground := Go.Ground.phase }, { on := 11, ground := Go.Ground.phase }, { on := 12, ground := Go.Ground.phase }, { on := 13, ground := Go.Ground.phase }, { on := 14, ground := Go.Ground.phase }, { on := 15, ground := Go.Ground.phase }], guard := none }) (v := ?_) rfl (by kernel_rfl) (by kernel_rfl) (by kernel_rfl) (fun _ _ _ h => h) (Or.inl ⟨by rfl, ?_⟩) hH3 ?_
        rotate_left
        · intro w' hSw
          go_simp
          try with_reducible rfl
        (try simp only [Act.put, List.setIfInBounds_toArray, List.set_cons_zero, List.set_cons_succ])
        refine wpAnyH_take (i := 17) (oi := { dst := some 34, op := Go.Op.fieldAddr 49 (Go.Operand.tmp 33) 0, type := 0, pos := "net.go:71", after := #[{ on := 16, ground := Go.Ground.data }, { on := 0, ground := Go.Ground.phase }, { on := 1, ground := Go.Ground.phase }, { on := 2, ground := Go.Ground.phase }, { on := 3, ground := Go.Ground.phase }, { on := 4, ground := Go.Ground.phase }, { on := 5, ground := Go.Ground.phase }, { on := 6, ground := Go.Ground.phase }, { on := 7, ground := Go.Ground.phase }, { on := 8, ground := Go.Ground.phase }, { on := 9, ground := Go.Ground.phase }, { on := 10, ground := Go.Ground.phase }, { on := 11, ground := Go.Ground.phase }, { on := 12, ground := Go.Ground.phase }, { on := 13, ground := Go.Ground.phase }, { on := 14, ground := Go.Ground.phase }, { on := 15, ground := Go.Ground.phase }], guard := none }) (v := ?_) rfl (by kernel_rfl) (by kernel_rfl) (by kernel_rfl) (fun _ _ _ h => h) (Or.inl ⟨by rfl, ?_⟩) hH3 ?_
        rotate_left
        · intro w' hSw
          go_simp
          try with_reducible rfl
        (try simp only [Act.put, List.setIfInBounds_toArray, List.set_cons_zero, List.set_cons_succ])
        refine wpAnyH_ready (rs := [18]) (by kernel_rfl) (by simp) ?_
        refine AllReadyH.cons (o := { dst := none, op := Go.Op.store 25 (Go.Operand.tmp 34) (Go.Operand.tmp 32), type := 0, pos := "net.go:71", after := #[{ on := 17, ground := Go.Ground.data }, { on := 15, ground := Go.Ground.data }, { on := 15, ground := Go.Ground.chain }, { on := 0, ground := Go.Ground.phase }, { on := 1, ground := Go.Ground.phase }, { on := 2, ground := Go.Ground.phase }, { on := 3, ground := Go.Ground.phase }, { on := 4, ground := Go.Ground.phase }, { on := 5, ground := Go.Ground.phase }, { on := 6, ground := Go.Ground.phase }, { on := 7, ground := Go.Ground.phase }, { on := 8, ground := Go.Ground.phase }, { on := 9, ground := Go.Ground.phase }, { on := 10, ground := Go.Ground.phase }, { on := 11, ground := Go.Ground.phase }, { on := 12, ground := Go.Ground.phase }, { on := 13, ground := Go.Ground.phase }, { on := 14, ground := Go.Ground.phase }, { on := 15, ground := Go.Ground.phase }], guard := none }) rfl (fun K hK => ?_) ?_
        · go_simp
          refine hK.out _ _ ?_ (fun hH4 => ?_)
          · trivial
          clear hK K
          (try simp only [Act.put, List.setIfInBounds_toArray, List.set_cons_zero, List.set_cons_succ])
          refine wpAnyH_done (by kernel_rfl) ?_ _
          go_wp2
          all_goals (go_ret2; exact ⟨rfl, some ad, 1, blk_put (blk_drew HH.out.rec_) 0 _ rfl, below_set (below_drew HH.out.b) HH.out.ge⟩)
        exact AllReadyH.nil
      exact AllReadyH.nil
    exact AllReadyH.nil
  refine AllReadyH.cons (o := { dst := some 28, op := Go.Op.load 25 (Go.Operand.tmp 27), type := 25, pos := "net.go:71", after := #[{ on := 10, ground := Go.Ground.data }], guard := none }) rfl (fun K hK => ?_) ?_
  · go_simp
    refine hK.out _ _ ?_ (fun hH5 => ?_)
    · trivial
    clear hK K
    (try simp only [Act.put, List.setIfInBounds_toArray, List.set_cons_zero, List.set_cons_succ])
    refine wpAnyH_take (i := 14) (oi := { dst := some 31, op := Go.Op.slice 25 (Go.Operand.tmp 28) (some (Go.Operand.tmp 30)) none none, type := 25, pos := "net.go:71", after := #[{ on := 11, ground := Go.Ground.data }, { on := 13, ground := Go.Ground.data }], guard := none }) (v := ?_) rfl (by kernel_rfl) (by kernel_rfl) (by kernel_rfl) (fun _ _ _ h => h) (Or.inl ⟨by rfl, ?_⟩) hH5 ?_
    rotate_left
    · intro w' hSw
      go_simp
      try with_reducible rfl
    (try simp only [Act.put, List.setIfInBounds_toArray, List.set_cons_zero, List.set_cons_succ])
    refine wpAnyH_ready (rs := [4]) (by kernel_rfl) (by simp) ?_
    refine AllReadyH.cons (o := { dst := some 21, op := Go.Op.load 25 (Go.Operand.tmp 20), type := 25, pos := "net.go:71", after := #[{ on := 3, ground := Go.Ground.data }], guard := none }) rfl (fun K hK => ?_) ?_
    · go_simp
      refine hK.out _ _ ?_ (fun hH6 => ?_)
      · trivial
      clear hK K
      (try simp only [Act.put, List.setIfInBounds_toArray, List.set_cons_zero, List.set_cons_succ])
      refine wpAnyH_take (i := 7) (oi := { dst := some 24, op := Go.Op.slice 25 (Go.Operand.tmp 21) none (some (Go.Operand.tmp 22)) (some (Go.Operand.tmp 23)), type := 25, pos := "net.go:71", after := #[{ on := 4, ground := Go.Ground.data }, { on := 5, ground := Go.Ground.data }, { on := 6, ground := Go.Ground.data }], guard := none }) (v := ?_) rfl (by kernel_rfl) (by kernel_rfl) (by kernel_rfl) (fun _ _ _ h => h) (Or.inl ⟨by rfl, ?_⟩) hH6 ?_
      rotate_left
      · intro w' hSw
        go_simp
        try with_reducible rfl
      (try simp only [Act.put, List.setIfInBounds_toArray, List.set_cons_zero, List.set_cons_succ])
      refine wpAnyH_ready (rs := [15]) (by kernel_rfl) (by simp) ?_
      refine AllReadyH.cons (o := { dst := some 32, op := Go.Op.call { callee := Go.Callee.builtin Go.Builtin.append, args := #[Go.Operand.tmp 24, Go.Operand.tmp 31], argTypes := #[25, 25] }, type := 25, pos := "net.go:71", after := #[{ on := 7, ground := Go.Ground.data }, { on := 14, ground := Go.Ground.data }], guard := none }) rfl (fun K hK => ?_) ?_
      · skip
        refine append_step (by rfl) (.tmp 24) (.tmp 31) rfl rfl (.slice (some ad) 1 1) _ _ rfl rfl (app0 ad 1 1 (Nat.le_refl _) _ _ _) ?_
        refine hK.out _ _ ?_ (fun hH7 => ?_)
        · trivial
        clear hK K
        (try simp only [Act.put, List.setIfInBounds_toArray, List.set_cons_zero, List.set_cons_succ])
        refine wpAnyH_take (i := 16) (oi := { dst := some 33, op := Go.Op.nilCheck (Go.Operand.tmp 17), type := 0, pos := "net.go:71", after := #[{ on := 0, ground := Go.Ground.data }, { on := 0, ground := Go.Ground.phase }, { on := 1, ground := Go.Ground.phase }, { on := 2, ground := Go.Ground.phase }, { on := 3, ground := Go.Ground.phase }, { on := 4, ground := Go.Ground.phase }, { on := 5, ground := Go.Ground.phase }, { on := 6, ground := Go.Ground.phase }, { on := 7, ground := Go.Ground.phase }, { on := 8, ground := Go.Ground.phase }, { on := 9, ground := Go.Ground.phase }, { on := 10, ground := Go.Ground.phase }, { on := 11, ground := Go.Ground.phase }, { on := 12, ground := Go.Ground.phase }, { on := 13, ground := Go.Ground.phase }, { on := 14, ground := Go.Ground.phase }, { on := 15, ground := Go.Ground.phase }], guard := none }) (v := ?_) rfl (by kernel_rfl) (by kernel_rfl) (by kernel_rfl) (fun _ _ _ h => h) (Or.inl ⟨by rfl, ?_⟩) hH7 ?_
        rotate_left
        · intro w' hSw
          go_simp
          try with_reducible rfl
        (try simp only [Act.put, List.setIfInBounds_toArray, List.set_cons_zero, List.set_cons_succ])
        refine wpAnyH_take (i := 17) (oi := { dst := some 34, op := Go.Op.fieldAddr 49 (Go.Operand.tmp 33) 0, type := 0, pos := "net.go:71", after := #[{ on := 16, ground := Go.Ground.data }, { on := 0, ground := Go.Ground.phase }, { on := 1, ground := Go.Ground.phase }, { on := 2, ground := Go.Ground.phase }, { on := 3, ground := Go.Ground.phase }, { on := 4, ground := Go.Ground.phase }, { on := 5, ground := Go.Ground.phase }, { on := 6, ground := Go.Ground.phase }, { on := 7, ground := Go.Ground.phase }, { on := 8, ground := Go.Ground.phase }, { on := 9, ground := Go.Ground.phase }, { on := 10, ground := Go.Ground.phase }, { on := 11, ground := Go.Ground.phase }, { on := 12, ground := Go.Ground.phase }, { on := 13, ground := Go.Ground.phase }, { on := 14, ground := Go.Ground.phase }, { on := 15, ground := Go.Ground.phase }], guard := none }) (v := ?_) rfl (by kernel_rfl) (by kernel_rfl) (by kernel_rfl) (fun _ _ _ h => h) (Or.inl ⟨by rfl, ?_⟩) hH7 ?_
        rotate_left
        · intro w' hSw
          go_simp
          try with_reducible rfl
        (try simp only [Act.put, List.setIfInBounds_toArray, List.set_cons_zero, List.set_cons_succ])
        refine wpAnyH_ready (rs := [18]) (by kernel_rfl) (by simp) ?_
        refine AllReadyH.cons (o := { dst := none, op := Go.Op.store 25 (Go.Operand.tmp 34) (Go.Operand.tmp 32), type := 0, pos := "net.go:71", after := #[{ on := 17, ground := Go.Ground.data }, { on := 15, ground := Go.Ground.data }, { on := 15, ground := Go.Ground.chain }, { on := 0, ground := Go.Ground.phase }, { on := 1, ground := Go.Ground.phase }, { on := 2, ground := Go.Ground.phase }, { on := 3, ground := Go.Ground.phase }, { on := 4, ground := Go.Ground.phase }, { on := 5, ground := Go.Ground.phase }, { on := 6, ground := Go.Ground.phase }, { on := 7, ground := Go.Ground.phase }, { on := 8, ground := Go.Ground.phase }, { on := 9, ground := Go.Ground.phase }, { on := 10, ground := Go.Ground.phase }, { on := 11, ground := Go.Ground.phase }, { on := 12, ground := Go.Ground.phase }, { on := 13, ground := Go.Ground.phase }, { on := 14, ground := Go.Ground.phase }, { on := 15, ground := Go.Ground.phase }], guard := none }) rfl (fun K hK => ?_) ?_
        · go_simp
          refine hK.out _ _ ?_ (fun hH8 => ?_)
          · trivial
          clear hK K
          (try simp only [Act.put, List.setIfInBounds_toArray, List.set_cons_zero, List.set_cons_succ])
          refine wpAnyH_done (by kernel_rfl) ?_ _
          go_wp2
          all_goals (go_ret2; exact ⟨rfl, some ad, 1, blk_put (blk_drew HH.out.rec_) 0 _ rfl, below_set (below_drew HH.out.b) HH.out.ge⟩)
        exact AllReadyH.nil
      exact AllReadyH.nil
    exact AllReadyH.nil
  exact AllReadyH.nil
set_option maxHeartbeats 2000000 in
theorem awake_calls (w : World) : Calls Try.prog 13 #[] w fun e w' => e = .returned (.bool true) ∧ Below w.heap.size w w' := by
  go_enter Try.func13, Try.ntmps13
  go_wp2_with (first
    | (go_at_call 7; (with_reducible refine (new_calls w).mono ?_); rintro e' w1 ⟨rfl, h1⟩; have H1 := Lib.hid h1; clear h1)
    | (go_at_call 8; (with_reducible refine (send_ok H1.out (by decide) ⟨#[97]⟩).mono ?_); rintro e' w2 ⟨rfl, A2, c2, h2⟩; have H2 := Lib.hid h2; clear h2)
    | (go_at_call 8; (with_reducible refine (send_ok H2.out (by decide) ⟨#[98]⟩).mono ?_); rintro e' w3 ⟨rfl, A3, c3, h3⟩; have H3 := Lib.hid (show NW w w3 w.heap.size A3 c3 [⟨#[97]⟩, ⟨#[98]⟩] 0 (wrap64 (wrap64 (0 + 1) + 1)) from h3); clear h3)
    | (go_at_call 12; (with_reducible refine (take_awake H3.out).mono ?_); rintro e' w4 ⟨rfl, h4⟩; obtain ⟨A4, c4, h5, h6⟩ := h4; have H5 := Lib.hid h5; have H6 := Lib.hid h6; clear h5 h6)
    | (go_at_call 18; (with_reducible refine (len_ok (w0 := w) (n := 1) H5.out).mono ?_); rintro e' w5 ⟨rfl, hw5⟩; have H7 := Lib.hid (show Below w.heap.size w w5 from hw5 ▸ H6.out); clear hw5))
  go_ret
  exact ⟨rfl, H7.out⟩
theorem nil_16 (i : Int) (w : World) : Calls Try.prog 16 #[.pointer none, .int .i64 i] w fun e w' => e = .returned (.tuple #[.string ⟨#[]⟩, .int .i64 11]) ∧ w' = w := by
  have hu49 := Try.underlying49
  have hu25 := Try.underlying25
  go_enter Try.func16, Try.ntmps16
  go_wp2
  go_ret2
  exact ⟨rfl, rfl⟩
theorem nil_12 (i : Int) (w : World) : Calls Try.prog 12 #[.pointer none, .int .i64 i] w fun e w' => e = .returned (.tuple #[.string ⟨#[]⟩, .int .i64 11]) ∧ w' = w := by
  have hu49 := Try.underlying49
  have hu25 := Try.underlying25
  go_enter Try.func12, Try.ntmps12
  go_wp2_with (go_at_call 16; (with_reducible refine (nil_16 i _).mono ?_); rintro e' w1 ⟨rfl, rfl⟩)
  go_ret2
  exact ⟨rfl, rfl⟩
theorem nil_17 (w : World) : Calls Try.prog 17 #[.pointer none] w fun e w' => e = .returned (.tuple #[.int .i64 0, .int .i64 0]) ∧ w' = w := by
  have hu49 := Try.underlying49
  have hu25 := Try.underlying25
  go_enter Try.func17, Try.ntmps17
  go_wp2
  go_ret2
  exact ⟨rfl, rfl⟩
theorem nil_8 (s : ByteArray) (w : World) : Calls Try.prog 8 #[.pointer none, .string s] w fun e w' => e = .returned (.bool false) ∧ w' = w := by
  have hu49 := Try.underlying49
  have hu25 := Try.underlying25
  go_enter Try.func8, Try.ntmps8
  go_wp2
  go_ret
  exact ⟨rfl, rfl⟩
theorem nil_18 (w : World) : Calls Try.prog 18 #[.pointer none] w fun e w' => e = .returned (.int .i64 0) ∧ w' = w := by
  have hu49 := Try.underlying49
  have hu25 := Try.underlying25
  go_enter Try.func18, Try.ntmps18
  go_wp2
  go_ret
  exact ⟨rfl, rfl⟩
theorem nil_19 (w : World) : Calls Try.prog 19 #[.pointer none] w fun e w' => e = .returned (.slice none 0 0) ∧ w' = w := by
  have hu49 := Try.underlying49
  have hu25 := Try.underlying25
  go_enter Try.func19, Try.ntmps19
  go_wp2
  go_ret
  exact ⟨rfl, rfl⟩
theorem nil_9 (i : Int) (w : World) : Calls Try.prog 9 #[.pointer none, .int .i64 i] w fun e w' => e = .returned (.int .i64 11) ∧ w' = w := by
  have hu49 := Try.underlying49
  have hu25 := Try.underlying25
  go_enter Try.func9, Try.ntmps9
  go_wp2_with (go_at_call 12; (with_reducible refine (nil_12 i _).mono ?_); rintro e' w1 ⟨rfl, rfl⟩)
  go_ret
  exact ⟨rfl, rfl⟩
theorem nil_10 (i : Int) (w : World) : Calls Try.prog 10 #[.pointer none, .int .i64 i] w fun e w' => e = .returned (.int .i64 11) ∧ w' = w := by
  have hu49 := Try.underlying49
  have hu25 := Try.underlying25
  go_enter Try.func10, Try.ntmps10
  go_wp2_with (go_at_call 16; (with_reducible refine (nil_16 i _).mono ?_); rintro e' w1 ⟨rfl, rfl⟩)
  go_ret
  exact ⟨rfl, rfl⟩
theorem nil_11 (i k : Int) (w : World) : Calls Try.prog 11 #[.pointer none, .int .i64 i, .int .i64 k] w fun e w' => e = .returned (.int .i64 11) ∧ w' = w := by
  have hu49 := Try.underlying49
  have hu25 := Try.underlying25
  go_enter Try.func11, Try.ntmps11
  go_wp2_with (go_at_call 16; (with_reducible refine (nil_16 i _).mono ?_); rintro e' w1 ⟨rfl, rfl⟩)
  go_ret
  exact ⟨rfl, rfl⟩

set_option maxHeartbeats 4000000 in
theorem NetNobody.walk (i : Int) (s : ByteArray) (w : World) (hi : (Lit.int .i64 i).wf = true) (hs : s.size ≤ 140737488351232) :
    Calls Try.prog 6 #[.int .i64 i, .string s] w fun e w' => e = .returned (.bool true) ∧ Below w.heap.size w w' := by
  have hu25 := Try.underlying25
  clear hi hs
  go_enter Try.func6, Try.ntmps6
  go_wp2_with (first
    | (go_at_call 16; (with_reducible refine (nil_16 i _).mono ?_); rintro e' w1 ⟨rfl, hw⟩; cases hw)
    | (go_at_call 12; (with_reducible refine (nil_12 i _).mono ?_); rintro e' w1 ⟨rfl, hw⟩; cases hw)
    | (go_at_call 17; (with_reducible refine (nil_17 _).mono ?_); rintro e' w1 ⟨rfl, hw⟩; cases hw)
    | (go_at_call 8; (with_reducible refine (nil_8 s _).mono ?_); rintro e' w1 ⟨rfl, hw⟩; cases hw)
    | (go_at_call 18; (with_reducible refine (nil_18 _).mono ?_); rintro e' w1 ⟨rfl, hw⟩; cases hw)
    | (go_at_call 19; (with_reducible refine (nil_19 _).mono ?_); rintro e' w1 ⟨rfl, hw⟩; cases hw)
    | (go_at_call 9; (with_reducible refine (nil_9 i _).mono ?_); rintro e' w1 ⟨rfl, hw⟩; cases hw)
    | (go_at_call 10; (with_reducible refine (nil_10 i _).mono ?_); rintro e' w1 ⟨rfl, hw⟩; cases hw)
    | (go_at_call 11; (with_reducible refine (nil_11 i i _).mono ?_); rintro e' w1 ⟨rfl, hw⟩; cases hw)
    | (go_at_call 13; (with_reducible refine (awake_calls _).mono ?_); rintro e' w9 ⟨rfl, hB9⟩; have HB9 := Lib.hid hB9; clear hB9))
  go_ret
  exact ⟨rfl, HB9.out⟩
end Go.Proofs.Ytfipchighkpobaa.PAll
