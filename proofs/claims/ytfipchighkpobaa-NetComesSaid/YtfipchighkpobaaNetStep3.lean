/- The law's step: swapping. -/
import Derived.Test.YtfipchighkpobaaNetState
namespace Go.Proofs.Ytfipchighkpobaa.PAll
open Go.RowKit Go.Proofs.YtfipchighkpobaaW.PrintWords Go.Proofs.YtfipchighkpobaaW.PrintLast Go.Proofs.YtfipchighkpobaaW.PrintMore
set_option linter.unusedVariables false
set_option linter.unusedSimpArgs false

theorem PT.setRow {B : Nat} {w : World} {p r : Nat} {c : Nat} {way : List ByteArray} {lost sent : Int} (h : PT B w p (some ⟨r, 0, none⟩) c way lost sent) (j : Nat) (hj : j < way.length) (y : ByteArray) :
    PT B (w.setCell ⟨r, j, none⟩ (.string y)) p (some ⟨r, 0, none⟩) c (way.set j y) lost sent ∧ Moved w (w.setCell ⟨r, j, none⟩ (.string y)) p (some ⟨r, 0, none⟩) (some ⟨r, 0, none⟩) := by
  have hne : r ≠ p := fun e => h.ne (by simp [ablk, e])
  refine ⟨⟨?_, h.row.setAt j hj y, h.ge⟩, (Only.set w r j _).mono (fun k e => .inr (by subst e; rfl)), fun r hr => .inl hr⟩
  rw [(Only.set w r j (.string y)).hold h.rec_ (fun e => hne e.symm), List.length_set]
theorem Moved.drew {w w' : World} {g : Nat} {A A' : Option Addr} (h : Moved w w' g A A') : Moved w w'.drew g A A' := ⟨h.1.trans (Only.drew w') (fun _ _ e => e.elim), h.2⟩

set_option maxRecDepth 10000 in
set_option maxHeartbeats 4000000 in
theorem step_swap_out1 {B : Nat} {w : World} {g p : Nat} {A A' : Option Addr} {c c' : Nat} {way : List ByteArray} {lost sent : Int} (h : LS B w g p A A' c c' way lost sent way lost sent) (kind : Int) (hk0 : kind ≠ 0) (hk1 : kind ≠ 1) (hk2 : kind ≠ 2) (hk3 : kind ≠ 3) (I K : Int) (hi : ¬ (0 ≤ I ∧ I < way.length)) (s : ByteArray) :
    Calls Try.prog 14 #[.pointer (some ⟨g, 0, none⟩), .pointer (some ⟨p, 0, none⟩), .agg #[.int .i64 kind, .int .i64 I, .int .i64 K, .string s]] w fun e w' => e = .returned (.bool true) ∧ Stepped B w w' g p way lost sent := by
  have hu38 := Try.underlying38
  have hu27 := Try.underlying27
  have hu25 := Try.underlying25
  generalize hO : Obj.cells #[.int .i64 kind, .int .i64 I, .int .i64 K, .string s] 27 (0, 0) = O
  have ob : OB (w.alloc O) w.heap.size kind I K s := hO ▸ OB.new w kind I K s
  have h1 := h.alloc O
  have HB0 := Lib.hid (show Below B w (w.alloc O) from (Only.alloc w O).below (fun _ e => e.elim) h.n.bound)
  have k0 := ob.c0
  have k1 := ob.c1
  have k2 := ob.c2
  have k3 := ob.c3
  have n0 : decide (kind = 0) = false := by simpa using hk0
  have n1 : decide (kind = 1) = false := by simpa using hk1
  have n2 : decide (kind = 2) = false := by simpa using hk2
  have n3 : decide (kind = 3) = false := by simpa using hk3
  have m0 : (kind == 0) = false := by simpa using hk0
  have m1 : (kind == 1) = false := by simpa using hk1
  have m2 : (kind == 2) = false := by simpa using hk2
  have m3 : (kind == 3) = false := by simpa using hk3
  have HT := Lib.hid (there_out h1.q I hi)
  have HD := Lib.hid (swap_out1 h1.n I K hi)
  have H1 := Lib.hid h1
  subst hO
  clear h hi ob h1 hk0 hk1 hk2 hk3
  go_enter Try.func14, Try.ntmps14
  go_wp2_with (first
    | (go_at_call 22; (with_reducible refine HT.out.mono ?_); rintro e' w1 ⟨rfl, hw1⟩; cases hw1)
    | (go_at_call 11; (with_reducible refine HD.out.mono ?_); rintro e' w1 ⟨rfl, hw1⟩; cases hw1))
  go_ret
  exact ⟨rfl, HB0.out, A, A', c, c', H1.out⟩

set_option maxRecDepth 10000 in
set_option maxHeartbeats 4000000 in
theorem step_swap_out2 {B : Nat} {w : World} {g p : Nat} {A A' : Option Addr} {c c' : Nat} {way : List ByteArray} {lost sent : Int} (h : LS B w g p A A' c c' way lost sent way lost sent) (kind : Int) (hk0 : kind ≠ 0) (hk1 : kind ≠ 1) (hk2 : kind ≠ 2) (hk3 : kind ≠ 3) (i : Nat) (K : Int) (hi : i < way.length) (hK : ¬ (0 ≤ K ∧ K < way.length)) (s : ByteArray) :
    Calls Try.prog 14 #[.pointer (some ⟨g, 0, none⟩), .pointer (some ⟨p, 0, none⟩), .agg #[.int .i64 kind, .int .i64 i, .int .i64 K, .string s]] w fun e w' => e = .returned (.bool true) ∧ Stepped B w w' g p way lost sent := by
  have hu38 := Try.underlying38
  have hu27 := Try.underlying27
  have hu25 := Try.underlying25
  generalize hO : Obj.cells #[.int .i64 kind, .int .i64 i, .int .i64 K, .string s] 27 (0, 0) = O
  have ob : OB (w.alloc O) w.heap.size kind i K s := hO ▸ OB.new w kind i K s
  have h1 := h.alloc O
  have HB0 := Lib.hid (show Below B w (w.alloc O) from (Only.alloc w O).below (fun _ e => e.elim) h.n.bound)
  have k0 := ob.c0
  have k1 := ob.c1
  have k2 := ob.c2
  have k3 := ob.c3
  have n0 : decide (kind = 0) = false := by simpa using hk0
  have n1 : decide (kind = 1) = false := by simpa using hk1
  have n2 : decide (kind = 2) = false := by simpa using hk2
  have n3 : decide (kind = 3) = false := by simpa using hk3
  have m0 : (kind == 0) = false := by simpa using hk0
  have m1 : (kind == 1) = false := by simpa using hk1
  have m2 : (kind == 2) = false := by simpa using hk2
  have m3 : (kind == 3) = false := by simpa using hk3
  have HT := Lib.hid (there_in h1.q i hi)
  have HU := Lib.hid (there_out h1.q K hK)
  have HD := Lib.hid (swap_out2 h1.n i hi K hK)
  have H1 := Lib.hid h1
  subst hO
  clear h hi hK ob h1 hk0 hk1 hk2 hk3
  go_enter Try.func14, Try.ntmps14
  go_wp2_with (first
    | (go_at_call 22; (with_reducible refine HT.out.mono ?_); rintro e' w1 ⟨rfl, hw1⟩; cases hw1)
    | (go_at_call 22; (with_reducible refine HU.out.mono ?_); rintro e' w1 ⟨rfl, hw1⟩; cases hw1)
    | (go_at_call 11; (with_reducible refine HD.out.mono ?_); rintro e' w1 ⟨rfl, hw1⟩; cases hw1))
  go_ret
  exact ⟨rfl, HB0.out, A, A', c, c', H1.out⟩

set_option maxRecDepth 10000 in
set_option maxHeartbeats 4000000 in
theorem step_swap_in {B : Nat} {w : World} {g p : Nat} {A A' : Option Addr} {c c' : Nat} {way : List ByteArray} {lost sent : Int} (h : LS B w g p A A' c c' way lost sent way lost sent) (kind : Int) (hk0 : kind ≠ 0) (hk1 : kind ≠ 1) (hk2 : kind ≠ 2) (hk3 : kind ≠ 3) (i k : Nat) (hi : i < way.length) (hk : k < way.length) (hl : way.length ≤ 128) (x y : ByteArray) (hx : way[i] = x) (hy : way[k] = y) (s : ByteArray) :
    Calls Try.prog 14 #[.pointer (some ⟨g, 0, none⟩), .pointer (some ⟨p, 0, none⟩), .agg #[.int .i64 kind, .int .i64 i, .int .i64 k, .string s]] w fun e w' => e = .returned (.bool true) ∧ Stepped B w w' g p (swapped way x y i k) lost sent := by
  have hu38 := Try.underlying38
  have hu27 := Try.underlying27
  have hu25 := Try.underlying25
  generalize hO : Obj.cells #[.int .i64 kind, .int .i64 i, .int .i64 k, .string s] 27 (0, 0) = O
  have ob : OB (w.alloc O) w.heap.size kind i k s := hO ▸ OB.new w kind i k s
  have h1 := h.alloc O
  have HB0 := Lib.hid (show Below B w (w.alloc O) from (Only.alloc w O).below (fun _ e => e.elim) h.n.bound)
  have k0 := ob.c0
  have k1 := ob.c1
  have k2 := ob.c2
  have k3 := ob.c3
  have n0 : decide (kind = 0) = false := by simpa using hk0
  have n1 : decide (kind = 1) = false := by simpa using hk1
  have n2 : decide (kind = 2) = false := by simpa using hk2
  have n3 : decide (kind = 3) = false := by simpa using hk3
  have m0 : (kind == 0) = false := by simpa using hk0
  have m1 : (kind == 1) = false := by simpa using hk1
  have m2 : (kind == 2) = false := by simpa using hk2
  have m3 : (kind == 3) = false := by simpa using hk3
  have HD := Lib.hid (swap_in h1.n i hi k hk hl x y hx hy)
  have HI := Lib.hid hi
  have HK := Lib.hid hk
  have H1 := Lib.hid h1
  have HO := Lib.hid ob
  have HX := Lib.hid (show ∀ w1 : World, SR w1 B A' c' way → ∃ r, A' = some ⟨r, 0, none⟩ ∧ w1.cell? ⟨r, i, none⟩ = some (.string x) ∧ w1.cell? ⟨r, k, none⟩ = some (.string y) ∧ w1.frozen? ⟨r, i, none⟩ = false ∧ w1.frozen? ⟨r, k, none⟩ = false from fun w1 hs => by
    obtain ⟨r, e1, _, e2, e3⟩ := hs.get i hi
    obtain ⟨r', e4, _, e5, e6⟩ := hs.get k hk
    rw [e1] at e4
    cases e4
    exact ⟨r, e1, hx ▸ e2, hy ▸ e5, e3, e6⟩)
  have HZ := Lib.hid (show ∀ (w1 : World) (r : Nat), SR w1 B (some ⟨r, 0, none⟩) c' (way.set i y) → (∃ u, w1.cell? ⟨r, k, none⟩ = some (.string u)) ∧ w1.frozen? ⟨r, k, none⟩ = false from fun w1 r hs => by
    obtain ⟨r', e4, _, e5, e6⟩ := hs.get k (by simpa using hk)
    cases e4
    exact ⟨⟨_, e5⟩, e6⟩)
  subst hO
  clear hl ob h1 hx hy hk0 hk1 hk2 hk3
  clear hi hk h
  go_enter Try.func14, Try.ntmps14
  go_wp2_with (first
    | (go_at_call 11; (with_reducible refine HD.out.mono ?_); rintro e' w1 ⟨rfl, A1, c1, hn1, hm1⟩; have L1 := H1.out.net hn1 hm1; have ob1 := HO.out.net H1.out.n hm1; have p0 := L1.q.c0; have o1 := ob1.c1; have o2 := ob1.c2; have HL1 := Lib.hid L1; have HO1 := Lib.hid ob1; have HB1 := Lib.hid (HB0.out.trans (H1.out.belowN hm1)); clear hn1 hm1 L1 ob1)
    | (go_at_call 22; (with_reducible refine (there_in HL1.out.q i HI.out).mono ?_); rintro e' w2 ⟨rfl, hw1⟩; cases hw1)
    | (go_at_call 22; (with_reducible refine (there_in HL1.out.q k HK.out).mono ?_); rintro e' w2 ⟨rfl, hw1⟩; cases hw1))
  obtain ⟨r, rfl, ri, rk, fi, fk⟩ := HX.out w1 HL1.out.q.row
  have e1 : (0 : Int) ≤ (i : Int) := by omega
  have e2 : (i : Int) < (way.length : Int) := by have := HI.out; omega
  have e3 : (0 : Int) ≤ (k : Int) := by omega
  have e4 : (k : Int) < (way.length : Int) := by have := HK.out; omega
  go_region_held3 (fun w' => w'.cell? ⟨p, 0, none⟩ = some (.slice (some ⟨r, 0, none⟩) way.length c') ∧ w'.cell? ⟨w.heap.size, 1, none⟩ = some (.int .i64 i) ∧ w'.cell? ⟨r, i, none⟩ = some (.string x)) (first | assumption | exact ⟨p0, o1, ri⟩) (fail)
  all_goals (
    go_wp2
    have L2 := HL1.out.drew
    have ob2 := HO1.out.hold (Only.drew w1) (fun h => h)
    have b2 := HB1.out.trans ((Only.drew w1).below (fun _ e => e.elim) HL1.out.n.bound : Below B w1 w1.drew)
    have fi2 : w1.drew.frozen? ⟨r, i, none⟩ = false := fi
    have rk2 : w1.drew.cell? ⟨r, k, none⟩ = some (.string y) := rk
    have ri2 : w1.drew.cell? ⟨r, i, none⟩ = some (.string x) := ri
    clear p0 o1 o2 ri rk fi fk HL1 HO1 HB1
    generalize w1.drew = W at *
    have p0 := L2.q.c0
    have o1 := ob2.c1
    have o2 := ob2.c2
    have hs := L2.q.setRow i HI.out y
    have L3 := (L2.plain hs.1 hs.2)
    have ob3 := ob2.plain L2.q hs.2
    have b3 := b2.trans (L2.belowP hs.2)
    have p3 := L3.q.c0
    rw [List.length_set] at p3
    have o13 := ob3.c1
    have o23 := ob3.c2
    refine wp_region_held_drew (S := fun w' => w'.cell? ⟨p, 0, none⟩ = some (.slice (some ⟨r, 0, none⟩) way.length c') ∧ w'.cell? ⟨w.heap.size, 1, none⟩ = some (.int .i64 i) ∧ w'.cell? ⟨w.heap.size, 2, none⟩ = some (.int .i64 k)) (by kernel_rfl) ⟨p0, o1, o2⟩ (fun hH0 => ?_)
    refine wpAnyH_take (i := 0) (oi := { dst := some 40, op := Go.Op.move (Go.Operand.tmp 1), type := 36, pos := "law.go:95", after := #[], guard := none }) (v := ?_) rfl (by kernel_rfl) (by kernel_rfl) (by kernel_rfl) (fun _ _ _ h => h) (Or.inl ⟨by rfl, ?_⟩) hH0 ?_
    rotate_left
    · intro w' hSw; (try dsimp only at hSw)
      go_simp
      try with_reducible rfl
    (try simp only [Act.put, List.setIfInBounds_toArray, List.set_cons_zero, List.set_cons_succ])
    refine wpAnyH_take (i := 1) (oi := { dst := some 41, op := Go.Op.nilCheck (Go.Operand.tmp 40), type := 0, pos := "law.go:95", after := #[{ on := 0, ground := Go.Ground.data }], guard := none }) (v := ?_) rfl (by kernel_rfl) (by kernel_rfl) (by kernel_rfl) (fun _ _ _ h => h) (Or.inl ⟨by rfl, ?_⟩) hH0 ?_
    rotate_left
    · intro w' hSw; (try dsimp only at hSw)
      go_simp
      try with_reducible rfl
    (try simp only [Act.put, List.setIfInBounds_toArray, List.set_cons_zero, List.set_cons_succ])
    refine wpAnyH_take (i := 2) (oi := { dst := some 42, op := Go.Op.fieldAddr 38 (Go.Operand.tmp 41) 0, type := 0, pos := "law.go:95", after := #[{ on := 1, ground := Go.Ground.data }], guard := none }) (v := ?_) rfl (by kernel_rfl) (by kernel_rfl) (by kernel_rfl) (fun _ _ _ h => h) (Or.inl ⟨by rfl, ?_⟩) hH0 ?_
    rotate_left
    · intro w' hSw; (try dsimp only at hSw)
      go_simp
      try with_reducible rfl
    (try simp only [Act.put, List.setIfInBounds_toArray, List.set_cons_zero, List.set_cons_succ])
    refine wpAnyH_take (i := 3) (oi := { dst := some 43, op := Go.Op.load 25 (Go.Operand.tmp 42), type := 25, pos := "law.go:95", after := #[{ on := 2, ground := Go.Ground.data }], guard := none }) (v := ?_) rfl (by kernel_rfl) (by kernel_rfl) (by kernel_rfl) (fun _ _ _ h => h) (Or.inl ⟨by rfl, ?_⟩) hH0 ?_
    rotate_left
    · intro w' hSw; (try dsimp only at hSw)
      go_simp
      try with_reducible rfl
    (try simp only [Act.put, List.setIfInBounds_toArray, List.set_cons_zero, List.set_cons_succ])
    refine wpAnyH_take (i := 4) (oi := { dst := some 44, op := Go.Op.fieldAddr 27 (Go.Operand.tmp 5) 1, type := 0, pos := "law.go:95", after := #[], guard := none }) (v := ?_) rfl (by kernel_rfl) (by kernel_rfl) (by kernel_rfl) (fun _ _ _ h => h) (Or.inl ⟨by rfl, ?_⟩) hH0 ?_
    rotate_left
    · intro w' hSw; (try dsimp only at hSw)
      go_simp
      try with_reducible rfl
    (try simp only [Act.put, List.setIfInBounds_toArray, List.set_cons_zero, List.set_cons_succ])
    refine wpAnyH_take (i := 5) (oi := { dst := some 45, op := Go.Op.load 3 (Go.Operand.tmp 44), type := 3, pos := "law.go:95", after := #[{ on := 4, ground := Go.Ground.data }], guard := none }) (v := ?_) rfl (by kernel_rfl) (by kernel_rfl) (by kernel_rfl) (fun _ _ _ h => h) (Or.inl ⟨by rfl, ?_⟩) hH0 ?_
    rotate_left
    · intro w' hSw; (try dsimp only at hSw)
      go_simp
      try with_reducible rfl
    (try simp only [Act.put, List.setIfInBounds_toArray, List.set_cons_zero, List.set_cons_succ])
    refine wpAnyH_take (i := 6) (oi := { dst := some 46, op := Go.Op.move (Go.Operand.tmp 1), type := 36, pos := "law.go:95", after := #[], guard := none }) (v := ?_) rfl (by kernel_rfl) (by kernel_rfl) (by kernel_rfl) (fun _ _ _ h => h) (Or.inl ⟨by rfl, ?_⟩) hH0 ?_
    rotate_left
    · intro w' hSw; (try dsimp only at hSw)
      go_simp
      try with_reducible rfl
    (try simp only [Act.put, List.setIfInBounds_toArray, List.set_cons_zero, List.set_cons_succ])
    refine wpAnyH_take (i := 7) (oi := { dst := some 47, op := Go.Op.nilCheck (Go.Operand.tmp 46), type := 0, pos := "law.go:95", after := #[{ on := 6, ground := Go.Ground.data }], guard := none }) (v := ?_) rfl (by kernel_rfl) (by kernel_rfl) (by kernel_rfl) (fun _ _ _ h => h) (Or.inl ⟨by rfl, ?_⟩) hH0 ?_
    rotate_left
    · intro w' hSw; (try dsimp only at hSw)
      go_simp
      try with_reducible rfl
    (try simp only [Act.put, List.setIfInBounds_toArray, List.set_cons_zero, List.set_cons_succ])
    refine wpAnyH_take (i := 8) (oi := { dst := some 48, op := Go.Op.fieldAddr 38 (Go.Operand.tmp 47) 0, type := 0, pos := "law.go:95", after := #[{ on := 7, ground := Go.Ground.data }], guard := none }) (v := ?_) rfl (by kernel_rfl) (by kernel_rfl) (by kernel_rfl) (fun _ _ _ h => h) (Or.inl ⟨by rfl, ?_⟩) hH0 ?_
    rotate_left
    · intro w' hSw; (try dsimp only at hSw)
      go_simp
      try with_reducible rfl
    (try simp only [Act.put, List.setIfInBounds_toArray, List.set_cons_zero, List.set_cons_succ])
    refine wpAnyH_take (i := 9) (oi := { dst := some 49, op := Go.Op.load 25 (Go.Operand.tmp 48), type := 25, pos := "law.go:95", after := #[{ on := 8, ground := Go.Ground.data }], guard := none }) (v := ?_) rfl (by kernel_rfl) (by kernel_rfl) (by kernel_rfl) (fun _ _ _ h => h) (Or.inl ⟨by rfl, ?_⟩) hH0 ?_
    rotate_left
    · intro w' hSw; (try dsimp only at hSw)
      go_simp
      try with_reducible rfl
    (try simp only [Act.put, List.setIfInBounds_toArray, List.set_cons_zero, List.set_cons_succ])
    refine wpAnyH_take (i := 10) (oi := { dst := some 50, op := Go.Op.fieldAddr 27 (Go.Operand.tmp 5) 2, type := 0, pos := "law.go:95", after := #[], guard := none }) (v := ?_) rfl (by kernel_rfl) (by kernel_rfl) (by kernel_rfl) (fun _ _ _ h => h) (Or.inl ⟨by rfl, ?_⟩) hH0 ?_
    rotate_left
    · intro w' hSw; (try dsimp only at hSw)
      go_simp
      try with_reducible rfl
    (try simp only [Act.put, List.setIfInBounds_toArray, List.set_cons_zero, List.set_cons_succ])
    refine wpAnyH_take (i := 11) (oi := { dst := some 51, op := Go.Op.load 3 (Go.Operand.tmp 50), type := 3, pos := "law.go:95", after := #[{ on := 10, ground := Go.Ground.data }], guard := none }) (v := ?_) rfl (by kernel_rfl) (by kernel_rfl) (by kernel_rfl) (fun _ _ _ h => h) (Or.inl ⟨by rfl, ?_⟩) hH0 ?_
    rotate_left
    · intro w' hSw; (try dsimp only at hSw)
      go_simp
      try with_reducible rfl
    (try simp only [Act.put, List.setIfInBounds_toArray, List.set_cons_zero, List.set_cons_succ])
    refine wpAnyH_take (i := 12) (oi := { dst := some 52, op := Go.Op.indexAddr 25 (Go.Operand.tmp 49) (Go.Operand.tmp 51), type := 0, pos := "law.go:95", after := #[{ on := 9, ground := Go.Ground.data }, { on := 11, ground := Go.Ground.data }], guard := none }) (v := ?_) rfl (by kernel_rfl) (by kernel_rfl) (by kernel_rfl) (fun _ _ _ h => h) (Or.inl ⟨by rfl, ?_⟩) hH0 ?_
    rotate_left
    · intro w' hSw; (try dsimp only at hSw)
      go_simp
      try with_reducible rfl
    (try simp only [Act.put, List.setIfInBounds_toArray, List.set_cons_zero, List.set_cons_succ])
    refine wpAnyH_ready (rs := [13]) (by kernel_rfl) (by simp) ?_
    refine AllReadyH.cons (o := { dst := some 53, op := Go.Op.load 9 (Go.Operand.tmp 52), type := 9, pos := "law.go:95", after := #[{ on := 12, ground := Go.Ground.data }], guard := none }) rfl (fun K hK => ?_) ?_
    · go_simp
      refine hK.out _ _ ?_ (fun hH1 => ?_)
      · first | exact ⟨p0, o1, o2⟩ | exact ⟨p3, o13, o23⟩
      clear hK K
      (try simp only [Act.put, List.setIfInBounds_toArray, List.set_cons_zero, List.set_cons_succ])
      refine wpAnyH_take (i := 14) (oi := { dst := some 54, op := Go.Op.indexAddr 25 (Go.Operand.tmp 43) (Go.Operand.tmp 45), type := 0, pos := "law.go:95", after := #[{ on := 3, ground := Go.Ground.data }, { on := 5, ground := Go.Ground.data }, { on := 0, ground := Go.Ground.phase }, { on := 1, ground := Go.Ground.phase }, { on := 2, ground := Go.Ground.phase }, { on := 3, ground := Go.Ground.phase }, { on := 4, ground := Go.Ground.phase }, { on := 5, ground := Go.Ground.phase }, { on := 6, ground := Go.Ground.phase }, { on := 7, ground := Go.Ground.phase }, { on := 8, ground := Go.Ground.phase }, { on := 9, ground := Go.Ground.phase }, { on := 10, ground := Go.Ground.phase }, { on := 11, ground := Go.Ground.phase }, { on := 12, ground := Go.Ground.phase }, { on := 13, ground := Go.Ground.phase }], guard := none }) (v := ?_) rfl (by kernel_rfl) (by kernel_rfl) (by kernel_rfl) (fun _ _ _ h => h) (Or.inl ⟨by rfl, ?_⟩) hH1 ?_
      rotate_left
      · intro w' hSw; (try dsimp only at hSw)
        go_simp
        try with_reducible rfl
      (try simp only [Act.put, List.setIfInBounds_toArray, List.set_cons_zero, List.set_cons_succ])
      refine wpAnyH_ready (rs := [15]) (by kernel_rfl) (by simp) ?_
      refine AllReadyH.cons (o := { dst := none, op := Go.Op.store 9 (Go.Operand.tmp 54) (Go.Operand.tmp 53), type := 0, pos := "law.go:95", after := #[{ on := 14, ground := Go.Ground.data }, { on := 13, ground := Go.Ground.data }, { on := 0, ground := Go.Ground.phase }, { on := 1, ground := Go.Ground.phase }, { on := 2, ground := Go.Ground.phase }, { on := 3, ground := Go.Ground.phase }, { on := 4, ground := Go.Ground.phase }, { on := 5, ground := Go.Ground.phase }, { on := 6, ground := Go.Ground.phase }, { on := 7, ground := Go.Ground.phase }, { on := 8, ground := Go.Ground.phase }, { on := 9, ground := Go.Ground.phase }, { on := 10, ground := Go.Ground.phase }, { on := 11, ground := Go.Ground.phase }, { on := 12, ground := Go.Ground.phase }, { on := 13, ground := Go.Ground.phase }], guard := none }) rfl (fun K hK => ?_) ?_
      · go_simp
        refine hK.out _ _ ?_ (fun hH2 => ?_)
        · first | exact ⟨p0, o1, o2⟩ | exact ⟨p3, o13, o23⟩
        clear hK K
        (try simp only [Act.put, List.setIfInBounds_toArray, List.set_cons_zero, List.set_cons_succ])
        refine wpAnyH_done (by kernel_rfl) ?_ _
        go_wp2
        have L4 := L3.drew
        have ob4 := ob3.hold (Only.drew _) (fun h => h)
        have b4 := b3.trans ((Only.drew _).below (fun _ e => e.elim) L3.n.bound)
        obtain ⟨⟨u, ru⟩, fu⟩ := HZ.out _ r L4.q.row
        clear p0 o1 o2 hs L3 ob3 b3 p3 o13 o23 fi2 rk2 ri2 L2 ob2 b2 hH0
        generalize (W.setCell ⟨r, i, none⟩ (.string y)).drew = W4 at *
        have p0 := L4.q.c0
        rw [List.length_set] at p0
        have o2 := ob4.c2
        have hs := L4.q.setRow k (by rw [List.length_set]; exact HK.out) x
        have L5 := (L4.plain hs.1 hs.2).drew
        have b5 := b4.trans ((L4.belowP hs.2).trans ((Only.drew _).below (fun _ e => e.elim) (L4.plain hs.1 hs.2).n.bound))
        have p5 := (L4.plain hs.1 hs.2).q.c0
        rw [List.length_set, List.length_set] at p5
        have o5 := (ob4.plain L4.q hs.2).c2
        go_region_held3 (fun w' => w'.cell? ⟨p, 0, none⟩ = some (.slice (some ⟨r, 0, none⟩) way.length c') ∧ w'.cell? ⟨w.heap.size, 2, none⟩ = some (.int .i64 k)) (first | assumption | exact ⟨p0, o2⟩ | exact ⟨p5, o5⟩) (fail)
        all_goals (
          go_wp2
          go_ret
          exact ⟨rfl, b5, A1, some ⟨r, 0, none⟩, c1, c', L5⟩)
      exact AllReadyH.nil
    exact AllReadyH.nil)
end Go.Proofs.Ytfipchighkpobaa.PAll
