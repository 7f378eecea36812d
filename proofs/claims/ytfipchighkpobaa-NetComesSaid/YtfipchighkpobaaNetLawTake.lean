/- The law's take, way for way. -/
import Derived.Test.YtfipchighkpobaaNetState
namespace Go.Proofs.Ytfipchighkpobaa.PAll
open Go.RowKit Go.Proofs.YtfipchighkpobaaW.PrintWords Go.Proofs.YtfipchighkpobaaW.PrintLast Go.Proofs.YtfipchighkpobaaW.PrintMore
set_option linter.unusedVariables false
set_option linter.unusedSimpArgs false

theorem made_plain {B : Nat} {W w3 : World} {p : Nat} {A A' : Option Addr} {c c' : Nat} {way ys : List ByteArray} {lost sent : Int} (h : PT B W p A c way lost sent) (hM : Made W.drew w3 B A' c' ys) :
    PT B (w3.setCell ⟨p, 0, none⟩ (.slice A' ys.length c')) p A' c' ys lost sent ∧ Moved W (w3.setCell ⟨p, 0, none⟩ (.slice A' ys.length c')) p A A' :=
  pt_app h hM.1 (((Only.drew W).trans hM.2.1 (fun _ _ h => h)).mono (fun _ h => h.elim)) (fun r hr => .inr (hM.2.2 r hr)) _ rfl
theorem made_cell {B : Nat} {W w3 : World} {p : Nat} {A A' : Option Addr} {c c' : Nat} {way ys : List ByteArray} {lost sent : Int} (h : PT B W p A c way lost sent) (hM : Made W.drew w3 B A' c' ys) :
    w3.cell? ⟨p, 0, none⟩ = some (.slice A way.length c) ∧ w3.frozen? ⟨p, 0, none⟩ = false := by
  have hb := hM.2.1.hold (show W.drew.heap[p]? = _ from h.rec_) (fun h => h)
  exact ⟨(blk_cell hb 0).trans rfl, blk_frozen hb 0⟩

set_option maxRecDepth 10000 in
set_option maxHeartbeats 4000000 in
theorem take2_out {B : Nat} {w : World} {g p : Nat} {A A' : Option Addr} {c c' : Nat} {way : List ByteArray} {lost sent : Int} (h : LS B w g p A A' c c' way lost sent way lost sent) (I K : Int) (hi : ¬ (0 ≤ I ∧ I < way.length)) (s : ByteArray) :
    Calls Try.prog 21 #[.pointer (some ⟨g, 0, none⟩), .pointer (some ⟨p, 0, none⟩), .agg #[.int .i64 2, .int .i64 I, .int .i64 K, .string s]] w fun e w' => e = .returned (.bool true) ∧ Stepped B w w' g p way lost sent := by
  have hu38 := Try.underlying38
  have hu27 := Try.underlying27
  have hu25 := Try.underlying25
  generalize hO : Obj.cells #[.int .i64 2, .int .i64 I, .int .i64 K, .string s] 27 (0, 0) = O
  have ob : OB (w.alloc O) w.heap.size 2 I K s := hO ▸ OB.new w 2 I K s
  have h1 := h.alloc O
  have HB0 := Lib.hid (show Below B w (w.alloc O) from (Only.alloc w O).below (fun _ e => e.elim) h.n.bound)
  have k0 := ob.c0
  have k1 := ob.c1
  have HT := Lib.hid (there_out h1.q I hi)
  have HD := Lib.hid (drop_out h1.n I hi)
  have H1 := Lib.hid h1
  subst hO
  clear h hi ob h1
  go_enter Try.func21, Try.ntmps21
  go_wp2_with (first
    | (go_at_call 22; (with_reducible refine HT.out.mono ?_); rintro e' w1 ⟨rfl, hw1⟩; cases hw1)
    | (go_at_call 9; (with_reducible refine HD.out.mono ?_); rintro e' w1 ⟨rfl, hw1⟩; cases hw1))
  go_ret
  exact ⟨rfl, HB0.out, A, A', c, c', H1.out⟩

set_option maxRecDepth 10000 in
set_option maxHeartbeats 4000000 in
theorem take1_out {B : Nat} {w : World} {g p : Nat} {A A' : Option Addr} {c c' : Nat} {way : List ByteArray} {lost sent : Int} (h : LS B w g p A A' c c' way lost sent way lost sent) (I K : Int) (hi : ¬ (0 ≤ I ∧ I < way.length)) (s : ByteArray) :
    Calls Try.prog 21 #[.pointer (some ⟨g, 0, none⟩), .pointer (some ⟨p, 0, none⟩), .agg #[.int .i64 1, .int .i64 I, .int .i64 K, .string s]] w fun e w' => e = .returned (.bool true) ∧ Stepped B w w' g p way lost sent := by
  have hu38 := Try.underlying38
  have hu27 := Try.underlying27
  have hu25 := Try.underlying25
  generalize hO : Obj.cells #[.int .i64 1, .int .i64 I, .int .i64 K, .string s] 27 (0, 0) = O
  have ob : OB (w.alloc O) w.heap.size 1 I K s := hO ▸ OB.new w 1 I K s
  have h1 := h.alloc O
  have HB0 := Lib.hid (show Below B w (w.alloc O) from (Only.alloc w O).below (fun _ e => e.elim) h.n.bound)
  have k0 := ob.c0
  have k1 := ob.c1
  have HT := Lib.hid (there_out h1.q I hi)
  have HD := Lib.hid (take_out h1.n I hi)
  have H1 := Lib.hid h1
  subst hO
  clear h hi ob h1
  go_enter Try.func21, Try.ntmps21
  go_wp2_with (first
    | (go_at_call 22; (with_reducible refine HT.out.mono ?_); rintro e' w1 ⟨rfl, hw1⟩; cases hw1)
    | (go_at_call 12; (with_reducible refine HD.out.mono ?_); rintro e' w1 ⟨rfl, hw1⟩; cases hw1))
  go_ret
  exact ⟨rfl, HB0.out, A, A', c, c', H1.out⟩

set_option maxRecDepth 10000 in
set_option maxHeartbeats 4000000 in
theorem take2_in {B : Nat} {w : World} {g p : Nat} {A A' : Option Addr} {c c' : Nat} {way : List ByteArray} {lost sent : Int} (h : LS B w g p A A' c c' way lost sent way lost sent) (i : Nat) (K : Int) (hi : i < way.length) (hl : way.length ≤ 128) (s : ByteArray) :
    Calls Try.prog 21 #[.pointer (some ⟨g, 0, none⟩), .pointer (some ⟨p, 0, none⟩), .agg #[.int .i64 2, .int .i64 i, .int .i64 K, .string s]] w fun e w' => e = .returned (.bool true) ∧ Stepped B w w' g p (cutAt way i) (wrap64 (lost + 1)) sent := by
  have hu38 := Try.underlying38
  have hu27 := Try.underlying27
  have hu25 := Try.underlying25
  generalize hO : Obj.cells #[.int .i64 2, .int .i64 i, .int .i64 K, .string s] 27 (0, 0) = O
  have ob : OB (w.alloc O) w.heap.size 2 i K s := hO ▸ OB.new w 2 i K s
  have h1 := h.alloc O
  have HB0 := Lib.hid (show Below B w (w.alloc O) from (Only.alloc w O).below (fun _ e => e.elim) h.n.bound)
  have k0 := ob.c0
  have k1 := ob.c1
  have HT := Lib.hid (there_in h1.q i hi)
  have HD := Lib.hid (drop_in h1.n i hi hl)
  have H1 := Lib.hid h1
  have HO := Lib.hid ob
  have HLn := Lib.hid hl
  have hw : IntKind.i64.wrap (lost + 1) = wrap64 (lost + 1) := i64_w _
  subst hO
  clear h hi hl ob h1
  go_enter Try.func21, Try.ntmps21
  go_wp2_with (first
    | (go_at_call 22; (with_reducible refine HT.out.mono ?_); rintro e' w1 ⟨rfl, hw1⟩; cases hw1)
    | (go_at_call 9; (with_reducible refine HD.out.mono ?_); rintro e' w1 ⟨rfl, A1, c1, hn1, hm1⟩; have L1 := H1.out.net hn1 hm1; have ob1 := HO.out.net H1.out.n hm1; have p2 := L1.q.c2; have f2 := L1.q.fz 2; have HL1 := Lib.hid L1; have HO1 := Lib.hid ob1; have HB1 := Lib.hid (HB0.out.trans (H1.out.belowN hm1)); clear hn1 hm1 L1 ob1))
  have m2 := Moved.set w1 p 2 (.int .i64 (wrap64 (lost + 1))) A'
  have L2 := HL1.out.plain (HL1.out.q.set 2 (.int .i64 (wrap64 (lost + 1))) (wrap64 (lost + 1)) sent rfl) m2
  have ob2 := HO1.out.plain HL1.out.q m2
  have b2 := HB1.out.trans (HL1.out.belowP m2)
  clear m2 p2 f2 HL1 HO1 HB1
  generalize w1.setCell ⟨p, 2, none⟩ (.int .i64 (wrap64 (lost + 1))) = W at *
  have q0 := L2.q.c0
  have q1 := ob2.c1
  refine wp_region_held_drew (S := fun w' => True) (by kernel_rfl) trivial (fun hH0 => ?_)
  refine wpAnyH_take (i := 0) (oi := { dst := some 35, op := Go.Op.move (Go.Operand.tmp 1), type := 36, pos := "law.go:53", after := #[], guard := none }) (v := ?_) rfl (by kernel_rfl) (by kernel_rfl) (by kernel_rfl) (fun _ _ _ h => h) (Or.inl ⟨by rfl, ?_⟩) hH0 ?_
  rotate_left
  · intro w' hSw; (try dsimp only at hSw)
    go_simp
    try with_reducible rfl
  (try simp only [Act.put, List.setIfInBounds_toArray, List.set_cons_zero, List.set_cons_succ])
  refine wpAnyH_take (i := 1) (oi := { dst := some 36, op := Go.Op.move (Go.Operand.tmp 1), type := 36, pos := "law.go:53", after := #[], guard := none }) (v := ?_) rfl (by kernel_rfl) (by kernel_rfl) (by kernel_rfl) (fun _ _ _ h => h) (Or.inl ⟨by rfl, ?_⟩) hH0 ?_
  rotate_left
  · intro w' hSw; (try dsimp only at hSw)
    go_simp
    try with_reducible rfl
  (try simp only [Act.put, List.setIfInBounds_toArray, List.set_cons_zero, List.set_cons_succ])
  refine wpAnyH_take (i := 2) (oi := { dst := some 37, op := Go.Op.nilCheck (Go.Operand.tmp 36), type := 0, pos := "law.go:53", after := #[{ on := 1, ground := Go.Ground.data }], guard := none }) (v := ?_) rfl (by kernel_rfl) (by kernel_rfl) (by kernel_rfl) (fun _ _ _ h => h) (Or.inl ⟨by rfl, ?_⟩) hH0 ?_
  rotate_left
  · intro w' hSw; (try dsimp only at hSw)
    go_simp
    try with_reducible rfl
  (try simp only [Act.put, List.setIfInBounds_toArray, List.set_cons_zero, List.set_cons_succ])
  refine wpAnyH_take (i := 3) (oi := { dst := some 38, op := Go.Op.fieldAddr 38 (Go.Operand.tmp 37) 0, type := 0, pos := "law.go:53", after := #[{ on := 2, ground := Go.Ground.data }], guard := none }) (v := ?_) rfl (by kernel_rfl) (by kernel_rfl) (by kernel_rfl) (fun _ _ _ h => h) (Or.inl ⟨by rfl, ?_⟩) hH0 ?_
  rotate_left
  · intro w' hSw; (try dsimp only at hSw)
    go_simp
    try with_reducible rfl
  (try simp only [Act.put, List.setIfInBounds_toArray, List.set_cons_zero, List.set_cons_succ])
  refine wpAnyH_take (i := 5) (oi := { dst := some 40, op := Go.Op.fieldAddr 27 (Go.Operand.tmp 5) 1, type := 0, pos := "law.go:53", after := #[], guard := none }) (v := ?_) rfl (by kernel_rfl) (by kernel_rfl) (by kernel_rfl) (fun _ _ _ h => h) (Or.inl ⟨by rfl, ?_⟩) hH0 ?_
  rotate_left
  · intro w' hSw; (try dsimp only at hSw)
    go_simp
    try with_reducible rfl
  (try simp only [Act.put, List.setIfInBounds_toArray, List.set_cons_zero, List.set_cons_succ])
  refine wpAnyH_ready (rs := [4, 6]) (by kernel_rfl) (by simp) ?_
  refine AllReadyH.cons (o := { dst := some 39, op := Go.Op.load 25 (Go.Operand.tmp 38), type := 25, pos := "law.go:53", after := #[{ on := 3, ground := Go.Ground.data }], guard := none }) rfl (fun K hK => ?_) ?_
  · go_simp
    refine hK.out _ _ ?_ (fun hH1 => ?_)
    · trivial
    clear hK K
    (try simp only [Act.put, List.setIfInBounds_toArray, List.set_cons_zero, List.set_cons_succ])
    refine wpAnyH_ready (rs := [6]) (by kernel_rfl) (by simp) ?_
    refine AllReadyH.cons (o := { dst := some 41, op := Go.Op.load 3 (Go.Operand.tmp 40), type := 3, pos := "law.go:53", after := #[{ on := 5, ground := Go.Ground.data }], guard := none }) rfl (fun K hK => ?_) ?_
    · go_simp
      refine hK.out _ _ ?_ (fun hH2 => ?_)
      · trivial
      clear hK K
      (try simp only [Act.put, List.setIfInBounds_toArray, List.set_cons_zero, List.set_cons_succ])
      refine wpAnyH_ready (rs := [7]) (by kernel_rfl) (by simp) ?_
      refine AllReadyH.cons (o := { dst := some 42, op := Go.Op.call { callee := Go.Callee.value (Go.Operand.func 23), args := #[Go.Operand.tmp 39, Go.Operand.tmp 41], argTypes := #[25, 3] }, type := 25, pos := "law.go:53", after := #[{ on := 4, ground := Go.Ground.data }, { on := 6, ground := Go.Ground.data }], guard := none }) rfl (fun K hK => ?_) ?_
      · go_simp
        go_at_call 23
        refine (without_ok L2.drew.q.row L2.drew.n.bound i HLn.out).mono ?_
        rintro e' w3 ⟨A3, c3, rfl, hM3⟩
        have hst := made_plain L2.q hM3
        obtain ⟨q3, f3⟩ := made_cell L2.q hM3
        have HR3 := Lib.hid (show LS B (w3.setCell ⟨p, 0, none⟩ (.slice A3 (cutAt way i).length c3)) g p A1 A3 c1 c3 (cutAt way i) (wrap64 (lost + 1)) sent (cutAt way i) (wrap64 (lost + 1)) sent from L2.plain hst.1 hst.2)
        have HB3 := Lib.hid (b2.trans (L2.belowP hst.2))
        clear hst hM3
        go_simp
        refine hK.out _ _ ?_ (fun hH3 => ?_)
        · trivial
        clear hK K
        (try simp only [Act.put, List.setIfInBounds_toArray, List.set_cons_zero, List.set_cons_succ])
        refine wpAnyH_take (i := 8) (oi := { dst := some 43, op := Go.Op.nilCheck (Go.Operand.tmp 35), type := 0, pos := "law.go:53", after := #[{ on := 0, ground := Go.Ground.data }, { on := 0, ground := Go.Ground.phase }, { on := 1, ground := Go.Ground.phase }, { on := 2, ground := Go.Ground.phase }, { on := 3, ground := Go.Ground.phase }, { on := 4, ground := Go.Ground.phase }, { on := 5, ground := Go.Ground.phase }, { on := 6, ground := Go.Ground.phase }, { on := 7, ground := Go.Ground.phase }], guard := none }) (v := ?_) rfl (by kernel_rfl) (by kernel_rfl) (by kernel_rfl) (fun _ _ _ h => h) (Or.inl ⟨by rfl, ?_⟩) hH3 ?_
        rotate_left
        · intro w' hSw; (try dsimp only at hSw)
          go_simp
          try with_reducible rfl
        (try simp only [Act.put, List.setIfInBounds_toArray, List.set_cons_zero, List.set_cons_succ])
        refine wpAnyH_take (i := 9) (oi := { dst := some 44, op := Go.Op.fieldAddr 38 (Go.Operand.tmp 43) 0, type := 0, pos := "law.go:53", after := #[{ on := 8, ground := Go.Ground.data }, { on := 0, ground := Go.Ground.phase }, { on := 1, ground := Go.Ground.phase }, { on := 2, ground := Go.Ground.phase }, { on := 3, ground := Go.Ground.phase }, { on := 4, ground := Go.Ground.phase }, { on := 5, ground := Go.Ground.phase }, { on := 6, ground := Go.Ground.phase }, { on := 7, ground := Go.Ground.phase }], guard := none }) (v := ?_) rfl (by kernel_rfl) (by kernel_rfl) (by kernel_rfl) (fun _ _ _ h => h) (Or.inl ⟨by rfl, ?_⟩) hH3 ?_
        rotate_left
        · intro w' hSw; (try dsimp only at hSw)
          go_simp
          try with_reducible rfl
        (try simp only [Act.put, List.setIfInBounds_toArray, List.set_cons_zero, List.set_cons_succ])
        refine wpAnyH_ready (rs := [10]) (by kernel_rfl) (by simp) ?_
        refine AllReadyH.cons (o := { dst := none, op := Go.Op.store 25 (Go.Operand.tmp 44) (Go.Operand.tmp 42), type := 0, pos := "law.go:53", after := #[{ on := 9, ground := Go.Ground.data }, { on := 7, ground := Go.Ground.data }, { on := 7, ground := Go.Ground.chain }, { on := 0, ground := Go.Ground.phase }, { on := 1, ground := Go.Ground.phase }, { on := 2, ground := Go.Ground.phase }, { on := 3, ground := Go.Ground.phase }, { on := 4, ground := Go.Ground.phase }, { on := 5, ground := Go.Ground.phase }, { on := 6, ground := Go.Ground.phase }, { on := 7, ground := Go.Ground.phase }], guard := none }) rfl (fun K hK => ?_) ?_
        · go_simp
          refine hK.out _ _ ?_ (fun hH4 => ?_)
          · trivial
          clear hK K
          (try simp only [Act.put, List.setIfInBounds_toArray, List.set_cons_zero, List.set_cons_succ])
          refine wpAnyH_done (by kernel_rfl) ?_ _
          go_wp2
          go_ret
          exact ⟨rfl, HB3.out, A1, A3, c1, c3, HR3.out⟩
        exact AllReadyH.nil
      exact AllReadyH.nil
    exact AllReadyH.nil
  refine AllReadyH.cons (o := { dst := some 41, op := Go.Op.load 3 (Go.Operand.tmp 40), type := 3, pos := "law.go:53", after := #[{ on := 5, ground := Go.Ground.data }], guard := none }) rfl (fun K hK => ?_) ?_
  · go_simp
    refine hK.out _ _ ?_ (fun hH5 => ?_)
    · trivial
    clear hK K
    (try simp only [Act.put, List.setIfInBounds_toArray, List.set_cons_zero, List.set_cons_succ])
    refine wpAnyH_ready (rs := [4]) (by kernel_rfl) (by simp) ?_
    refine AllReadyH.cons (o := { dst := some 39, op := Go.Op.load 25 (Go.Operand.tmp 38), type := 25, pos := "law.go:53", after := #[{ on := 3, ground := Go.Ground.data }], guard := none }) rfl (fun K hK => ?_) ?_
    · go_simp
      refine hK.out _ _ ?_ (fun hH6 => ?_)
      · trivial
      clear hK K
      (try simp only [Act.put, List.setIfInBounds_toArray, List.set_cons_zero, List.set_cons_succ])
      refine wpAnyH_ready (rs := [7]) (by kernel_rfl) (by simp) ?_
      refine AllReadyH.cons (o := { dst := some 42, op := Go.Op.call { callee := Go.Callee.value (Go.Operand.func 23), args := #[Go.Operand.tmp 39, Go.Operand.tmp 41], argTypes := #[25, 3] }, type := 25, pos := "law.go:53", after := #[{ on := 4, ground := Go.Ground.data }, { on := 6, ground := Go.Ground.data }], guard := none }) rfl (fun K hK => ?_) ?_
      · go_simp
        go_at_call 23
        refine (without_ok L2.drew.q.row L2.drew.n.bound i HLn.out).mono ?_
        rintro e' w3 ⟨A3, c3, rfl, hM3⟩
        have hst := made_plain L2.q hM3
        obtain ⟨q3, f3⟩ := made_cell L2.q hM3
        have HR3 := Lib.hid (show LS B (w3.setCell ⟨p, 0, none⟩ (.slice A3 (cutAt way i).length c3)) g p A1 A3 c1 c3 (cutAt way i) (wrap64 (lost + 1)) sent (cutAt way i) (wrap64 (lost + 1)) sent from L2.plain hst.1 hst.2)
        have HB3 := Lib.hid (b2.trans (L2.belowP hst.2))
        clear hst hM3
        go_simp
        refine hK.out _ _ ?_ (fun hH7 => ?_)
        · trivial
        clear hK K
        (try simp only [Act.put, List.setIfInBounds_toArray, List.set_cons_zero, List.set_cons_succ])
        refine wpAnyH_take (i := 8) (oi := { dst := some 43, op := Go.Op.nilCheck (Go.Operand.tmp 35), type := 0, pos := "law.go:53", after := #[{ on := 0, ground := Go.Ground.data }, { on := 0, ground := Go.Ground.phase }, { on := 1, ground := Go.Ground.phase }, { on := 2, ground := Go.Ground.phase }, { on := 3, ground := Go.Ground.phase }, { on := 4, ground := Go.Ground.phase }, { on := 5, ground := Go.Ground.phase }, { on := 6, ground := Go.Ground.phase }, { on := 7, ground := Go.Ground.phase }], guard := none }) (v := ?_) rfl (by kernel_rfl) (by kernel_rfl) (by kernel_rfl) (fun _ _ _ h => h) (Or.inl ⟨by rfl, ?_⟩) hH7 ?_
        rotate_left
        · intro w' hSw; (try dsimp only at hSw)
          go_simp
          try with_reducible rfl
        (try simp only [Act.put, List.setIfInBounds_toArray, List.set_cons_zero, List.set_cons_succ])
        refine wpAnyH_take (i := 9) (oi := { dst := some 44, op := Go.Op.fieldAddr 38 (Go.Operand.tmp 43) 0, type := 0, pos := "law.go:53", after := #[{ on := 8, ground := Go.Ground.data }, { on := 0, ground := Go.Ground.phase }, { on := 1, ground := Go.Ground.phase }, { on := 2, ground := Go.Ground.phase }, { on := 3, ground := Go.Ground.phase }, { on := 4, ground := Go.Ground.phase }, { on := 5, ground := Go.Ground.phase }, { on := 6, ground := Go.Ground.phase }, { on := 7, ground := Go.Ground.phase }], guard := none }) (v := ?_) rfl (by kernel_rfl) (by kernel_rfl) (by kernel_rfl) (fun _ _ _ h => h) (Or.inl ⟨by rfl, ?_⟩) hH7 ?_
        rotate_left
        · intro w' hSw; (try dsimp only at hSw)
          go_simp
          try with_reducible rfl
        (try simp only [Act.put, List.setIfInBounds_toArray, List.set_cons_zero, List.set_cons_succ])
        refine wpAnyH_ready (rs := [10]) (by kernel_rfl) (by simp) ?_
        refine AllReadyH.cons (o := { dst := none, op := Go.Op.store 25 (Go.Operand.tmp 44) (Go.Operand.tmp 42), type := 0, pos := "law.go:53", after := #[{ on := 9, ground := Go.Ground.data }, { on := 7, ground := Go.Ground.data }, { on := 7, ground := Go.Ground.chain }, { on := 0, ground := Go.Ground.phase }, { on := 1, ground := Go.Ground.phase }, { on := 2, ground := Go.Ground.phase }, { on := 3, ground := Go.Ground.phase }, { on := 4, ground := Go.Ground.phase }, { on := 5, ground := Go.Ground.phase }, { on := 6, ground := Go.Ground.phase }, { on := 7, ground := Go.Ground.phase }], guard := none }) rfl (fun K hK => ?_) ?_
        · go_simp
          refine hK.out _ _ ?_ (fun hH8 => ?_)
          · trivial
          clear hK K
          (try simp only [Act.put, List.setIfInBounds_toArray, List.set_cons_zero, List.set_cons_succ])
          refine wpAnyH_done (by kernel_rfl) ?_ _
          go_wp2
          go_ret
          exact ⟨rfl, HB3.out, A1, A3, c1, c3, HR3.out⟩
        exact AllReadyH.nil
      exact AllReadyH.nil
    exact AllReadyH.nil
  exact AllReadyH.nil

set_option maxRecDepth 10000 in
set_option maxHeartbeats 4000000 in
theorem take1_in {B : Nat} {w : World} {g p : Nat} {A A' : Option Addr} {c c' : Nat} {way : List ByteArray} {lost sent : Int} (h : LS B w g p A A' c c' way lost sent way lost sent) (i : Nat) (K : Int) (hi : i < way.length) (hl : way.length ≤ 128) (s : ByteArray) :
    Calls Try.prog 21 #[.pointer (some ⟨g, 0, none⟩), .pointer (some ⟨p, 0, none⟩), .agg #[.int .i64 1, .int .i64 i, .int .i64 K, .string s]] w fun e w' => e = .returned (.bool true) ∧ Stepped B w w' g p (cutAt way i) lost sent := by
  have hu38 := Try.underlying38
  have hu27 := Try.underlying27
  have hu25 := Try.underlying25
  generalize hO : Obj.cells #[.int .i64 1, .int .i64 i, .int .i64 K, .string s] 27 (0, 0) = O
  have ob : OB (w.alloc O) w.heap.size 1 i K s := hO ▸ OB.new w 1 i K s
  have h1 := h.alloc O
  have HB0 := Lib.hid (show Below B w (w.alloc O) from (Only.alloc w O).below (fun _ e => e.elim) h.n.bound)
  have k0 := ob.c0
  have k1 := ob.c1
  generalize hx : way[i] = x
  have HT := Lib.hid (there_in h1.q i hi)
  have HD := Lib.hid (take_in h1.n i hi hl x hx)
  have H1 := Lib.hid h1
  have HO := Lib.hid ob
  have HLn := Lib.hid hl
  have HI := Lib.hid hi
  have HX := Lib.hid (show ∀ w1 : World, SR w1 B A' c' way → ∃ r, A' = some ⟨r, 0, none⟩ ∧ w1.cell? ⟨r, i, none⟩ = some (.string x) from fun w1 hs => by
    obtain ⟨r, e1, _, e2, _⟩ := hs.get i hi
    exact ⟨r, e1, hx ▸ e2⟩)
  subst hO
  clear hl ob h1 hx
  clear hi
  go_enter Try.func21, Try.ntmps21
  go_wp2_with (first
    | (go_at_call 22; (with_reducible refine HT.out.mono ?_); rintro e' w1 ⟨rfl, hw1⟩; cases hw1)
    | (go_at_call 12; (with_reducible refine HD.out.mono ?_); rintro e' w1 ⟨rfl, A1, c1, hn1, hm1⟩; have HL1 := Lib.hid (H1.out.net hn1 hm1); have HO1 := Lib.hid (HO.out.net H1.out.n hm1); have HB1 := Lib.hid (HB0.out.trans (H1.out.belowN hm1)); clear hn1 hm1))
  have p0 := HL1.out.q.c0
  have o1 := HO1.out.c1
  obtain ⟨r, rfl, hr⟩ := HX.out w1 HL1.out.q.row
  have e1 : (0 : Int) ≤ (i : Int) := by omega
  have e2 : (i : Int) < (way.length : Int) := by have := HI.out; omega
  go_region_held3 (fun w' => w'.cell? ⟨p, 0, none⟩ = some (.slice (some ⟨r, 0, none⟩) way.length c') ∧ w'.cell? ⟨w.heap.size, 1, none⟩ = some (.int .i64 i) ∧ w'.cell? ⟨r, i, none⟩ = some (.string x)) (first | assumption | exact ⟨p0, o1, hr⟩) (fail)
  all_goals (
    have L2 := HL1.out.drew
    have ob2 := HO1.out.hold (Only.drew w1) (fun h => h)
    have b2 := HB1.out.trans ((Only.drew w1).below (fun _ e => e.elim) HL1.out.n.bound : Below B w1 w1.drew)
    clear p0 o1 hr HL1 HO1 HB1
    go_wp2
    generalize w1.drew = W at *
    have q0 := L2.q.c0
    have q1 := ob2.c1
    refine wp_region_held_drew (S := fun w' => True) (by kernel_rfl) trivial (fun hH0 => ?_)
    refine wpAnyH_take (i := 0) (oi := { dst := some 70, op := Go.Op.move (Go.Operand.tmp 1), type := 36, pos := "law.go:61", after := #[], guard := none }) (v := ?_) rfl (by kernel_rfl) (by kernel_rfl) (by kernel_rfl) (fun _ _ _ h => h) (Or.inl ⟨by rfl, ?_⟩) hH0 ?_
    rotate_left
    · intro w' hSw; (try dsimp only at hSw)
      go_simp
      try with_reducible rfl
    (try simp only [Act.put, List.setIfInBounds_toArray, List.set_cons_zero, List.set_cons_succ])
    refine wpAnyH_take (i := 1) (oi := { dst := some 71, op := Go.Op.move (Go.Operand.tmp 1), type := 36, pos := "law.go:61", after := #[], guard := none }) (v := ?_) rfl (by kernel_rfl) (by kernel_rfl) (by kernel_rfl) (fun _ _ _ h => h) (Or.inl ⟨by rfl, ?_⟩) hH0 ?_
    rotate_left
    · intro w' hSw; (try dsimp only at hSw)
      go_simp
      try with_reducible rfl
    (try simp only [Act.put, List.setIfInBounds_toArray, List.set_cons_zero, List.set_cons_succ])
    refine wpAnyH_take (i := 2) (oi := { dst := some 72, op := Go.Op.nilCheck (Go.Operand.tmp 71), type := 0, pos := "law.go:61", after := #[{ on := 1, ground := Go.Ground.data }], guard := none }) (v := ?_) rfl (by kernel_rfl) (by kernel_rfl) (by kernel_rfl) (fun _ _ _ h => h) (Or.inl ⟨by rfl, ?_⟩) hH0 ?_
    rotate_left
    · intro w' hSw; (try dsimp only at hSw)
      go_simp
      try with_reducible rfl
    (try simp only [Act.put, List.setIfInBounds_toArray, List.set_cons_zero, List.set_cons_succ])
    refine wpAnyH_take (i := 3) (oi := { dst := some 73, op := Go.Op.fieldAddr 38 (Go.Operand.tmp 72) 0, type := 0, pos := "law.go:61", after := #[{ on := 2, ground := Go.Ground.data }], guard := none }) (v := ?_) rfl (by kernel_rfl) (by kernel_rfl) (by kernel_rfl) (fun _ _ _ h => h) (Or.inl ⟨by rfl, ?_⟩) hH0 ?_
    rotate_left
    · intro w' hSw; (try dsimp only at hSw)
      go_simp
      try with_reducible rfl
    (try simp only [Act.put, List.setIfInBounds_toArray, List.set_cons_zero, List.set_cons_succ])
    refine wpAnyH_take (i := 5) (oi := { dst := some 75, op := Go.Op.fieldAddr 27 (Go.Operand.tmp 5) 1, type := 0, pos := "law.go:61", after := #[], guard := none }) (v := ?_) rfl (by kernel_rfl) (by kernel_rfl) (by kernel_rfl) (fun _ _ _ h => h) (Or.inl ⟨by rfl, ?_⟩) hH0 ?_
    rotate_left
    · intro w' hSw; (try dsimp only at hSw)
      go_simp
      try with_reducible rfl
    (try simp only [Act.put, List.setIfInBounds_toArray, List.set_cons_zero, List.set_cons_succ])
    refine wpAnyH_ready (rs := [4, 6]) (by kernel_rfl) (by simp) ?_
    refine AllReadyH.cons (o := { dst := some 74, op := Go.Op.load 25 (Go.Operand.tmp 73), type := 25, pos := "law.go:61", after := #[{ on := 3, ground := Go.Ground.data }], guard := none }) rfl (fun K hK => ?_) ?_
    · go_simp
      refine hK.out _ _ ?_ (fun hH1 => ?_)
      · trivial
      clear hK K
      (try simp only [Act.put, List.setIfInBounds_toArray, List.set_cons_zero, List.set_cons_succ])
      refine wpAnyH_ready (rs := [6]) (by kernel_rfl) (by simp) ?_
      refine AllReadyH.cons (o := { dst := some 76, op := Go.Op.load 3 (Go.Operand.tmp 75), type := 3, pos := "law.go:61", after := #[{ on := 5, ground := Go.Ground.data }], guard := none }) rfl (fun K hK => ?_) ?_
      · go_simp
        refine hK.out _ _ ?_ (fun hH2 => ?_)
        · trivial
        clear hK K
        (try simp only [Act.put, List.setIfInBounds_toArray, List.set_cons_zero, List.set_cons_succ])
        refine wpAnyH_ready (rs := [7]) (by kernel_rfl) (by simp) ?_
        refine AllReadyH.cons (o := { dst := some 77, op := Go.Op.call { callee := Go.Callee.value (Go.Operand.func 23), args := #[Go.Operand.tmp 74, Go.Operand.tmp 76], argTypes := #[25, 3] }, type := 25, pos := "law.go:61", after := #[{ on := 4, ground := Go.Ground.data }, { on := 6, ground := Go.Ground.data }], guard := none }) rfl (fun K hK => ?_) ?_
        · go_simp
          go_at_call 23
          refine (without_ok L2.drew.q.row L2.drew.n.bound i HLn.out).mono ?_
          rintro e' w3 ⟨A3, c3, rfl, hM3⟩
          have hst := made_plain L2.q hM3
          obtain ⟨q3, f3⟩ := made_cell L2.q hM3
          have HR3 := Lib.hid (show LS B (w3.setCell ⟨p, 0, none⟩ (.slice A3 (cutAt way i).length c3)) g p A1 A3 c1 c3 (cutAt way i) lost sent (cutAt way i) lost sent from L2.plain hst.1 hst.2)
          have HB3 := Lib.hid (b2.trans (L2.belowP hst.2))
          clear hst hM3
          go_simp
          refine hK.out _ _ ?_ (fun hH3 => ?_)
          · trivial
          clear hK K
          (try simp only [Act.put, List.setIfInBounds_toArray, List.set_cons_zero, List.set_cons_succ])
          refine wpAnyH_take (i := 8) (oi := { dst := some 78, op := Go.Op.nilCheck (Go.Operand.tmp 70), type := 0, pos := "law.go:61", after := #[{ on := 0, ground := Go.Ground.data }, { on := 0, ground := Go.Ground.phase }, { on := 1, ground := Go.Ground.phase }, { on := 2, ground := Go.Ground.phase }, { on := 3, ground := Go.Ground.phase }, { on := 4, ground := Go.Ground.phase }, { on := 5, ground := Go.Ground.phase }, { on := 6, ground := Go.Ground.phase }, { on := 7, ground := Go.Ground.phase }], guard := none }) (v := ?_) rfl (by kernel_rfl) (by kernel_rfl) (by kernel_rfl) (fun _ _ _ h => h) (Or.inl ⟨by rfl, ?_⟩) hH3 ?_
          rotate_left
          · intro w' hSw; (try dsimp only at hSw)
            go_simp
            try with_reducible rfl
          (try simp only [Act.put, List.setIfInBounds_toArray, List.set_cons_zero, List.set_cons_succ])
          refine wpAnyH_take (i := 9) (oi := { dst := some 79, op := Go.Op.fieldAddr 38 (Go.Operand.tmp 78) 0, type := 0, pos := "law.go:61", after := #[{ on := 8, ground := Go.Ground.data }, { on := 0, ground := Go.Ground.phase }, { on := 1, ground := Go.Ground.phase }, { on := 2, ground := Go.Ground.phase }, { on := 3, ground := Go.Ground.phase }, { on := 4, ground := Go.Ground.phase }, { on := 5, ground := Go.Ground.phase }, { on := 6, ground := Go.Ground.phase }, { on := 7, ground := Go.Ground.phase }], guard := none }) (v := ?_) rfl (by kernel_rfl) (by kernel_rfl) (by kernel_rfl) (fun _ _ _ h => h) (Or.inl ⟨by rfl, ?_⟩) hH3 ?_
          rotate_left
          · intro w' hSw; (try dsimp only at hSw)
            go_simp
            try with_reducible rfl
          (try simp only [Act.put, List.setIfInBounds_toArray, List.set_cons_zero, List.set_cons_succ])
          refine wpAnyH_ready (rs := [10]) (by kernel_rfl) (by simp) ?_
          refine AllReadyH.cons (o := { dst := none, op := Go.Op.store 25 (Go.Operand.tmp 79) (Go.Operand.tmp 77), type := 0, pos := "law.go:61", after := #[{ on := 9, ground := Go.Ground.data }, { on := 7, ground := Go.Ground.data }, { on := 7, ground := Go.Ground.chain }, { on := 0, ground := Go.Ground.phase }, { on := 1, ground := Go.Ground.phase }, { on := 2, ground := Go.Ground.phase }, { on := 3, ground := Go.Ground.phase }, { on := 4, ground := Go.Ground.phase }, { on := 5, ground := Go.Ground.phase }, { on := 6, ground := Go.Ground.phase }, { on := 7, ground := Go.Ground.phase }], guard := none }) rfl (fun K hK => ?_) ?_
          · go_simp
            refine hK.out _ _ ?_ (fun hH4 => ?_)
            · trivial
            clear hK K
            (try simp only [Act.put, List.setIfInBounds_toArray, List.set_cons_zero, List.set_cons_succ])
            refine wpAnyH_done (by kernel_rfl) ?_ _
            go_wp2
            go_ret
            exact ⟨rfl, HB3.out, A1, A3, c1, c3, HR3.out⟩
          exact AllReadyH.nil
        exact AllReadyH.nil
      exact AllReadyH.nil
    refine AllReadyH.cons (o := { dst := some 76, op := Go.Op.load 3 (Go.Operand.tmp 75), type := 3, pos := "law.go:61", after := #[{ on := 5, ground := Go.Ground.data }], guard := none }) rfl (fun K hK => ?_) ?_
    · go_simp
      refine hK.out _ _ ?_ (fun hH5 => ?_)
      · trivial
      clear hK K
      (try simp only [Act.put, List.setIfInBounds_toArray, List.set_cons_zero, List.set_cons_succ])
      refine wpAnyH_ready (rs := [4]) (by kernel_rfl) (by simp) ?_
      refine AllReadyH.cons (o := { dst := some 74, op := Go.Op.load 25 (Go.Operand.tmp 73), type := 25, pos := "law.go:61", after := #[{ on := 3, ground := Go.Ground.data }], guard := none }) rfl (fun K hK => ?_) ?_
      · go_simp
        refine hK.out _ _ ?_ (fun hH6 => ?_)
        · trivial
        clear hK K
        (try simp only [Act.put, List.setIfInBounds_toArray, List.set_cons_zero, List.set_cons_succ])
        refine wpAnyH_ready (rs := [7]) (by kernel_rfl) (by simp) ?_
        refine AllReadyH.cons (o := { dst := some 77, op := Go.Op.call { callee := Go.Callee.value (Go.Operand.func 23), args := #[Go.Operand.tmp 74, Go.Operand.tmp 76], argTypes := #[25, 3] }, type := 25, pos := "law.go:61", after := #[{ on := 4, ground := Go.Ground.data }, { on := 6, ground := Go.Ground.data }], guard := none }) rfl (fun K hK => ?_) ?_
        · go_simp
          go_at_call 23
          refine (without_ok L2.drew.q.row L2.drew.n.bound i HLn.out).mono ?_
          rintro e' w3 ⟨A3, c3, rfl, hM3⟩
          have hst := made_plain L2.q hM3
          obtain ⟨q3, f3⟩ := made_cell L2.q hM3
          have HR3 := Lib.hid (show LS B (w3.setCell ⟨p, 0, none⟩ (.slice A3 (cutAt way i).length c3)) g p A1 A3 c1 c3 (cutAt way i) lost sent (cutAt way i) lost sent from L2.plain hst.1 hst.2)
          have HB3 := Lib.hid (b2.trans (L2.belowP hst.2))
          clear hst hM3
          go_simp
          refine hK.out _ _ ?_ (fun hH7 => ?_)
          · trivial
          clear hK K
          (try simp only [Act.put, List.setIfInBounds_toArray, List.set_cons_zero, List.set_cons_succ])
          refine wpAnyH_take (i := 8) (oi := { dst := some 78, op := Go.Op.nilCheck (Go.Operand.tmp 70), type := 0, pos := "law.go:61", after := #[{ on := 0, ground := Go.Ground.data }, { on := 0, ground := Go.Ground.phase }, { on := 1, ground := Go.Ground.phase }, { on := 2, ground := Go.Ground.phase }, { on := 3, ground := Go.Ground.phase }, { on := 4, ground := Go.Ground.phase }, { on := 5, ground := Go.Ground.phase }, { on := 6, ground := Go.Ground.phase }, { on := 7, ground := Go.Ground.phase }], guard := none }) (v := ?_) rfl (by kernel_rfl) (by kernel_rfl) (by kernel_rfl) (fun _ _ _ h => h) (Or.inl ⟨by rfl, ?_⟩) hH7 ?_
          rotate_left
          · intro w' hSw; (try dsimp only at hSw)
            go_simp
            try with_reducible rfl
          (try simp only [Act.put, List.setIfInBounds_toArray, List.set_cons_zero, List.set_cons_succ])
          refine wpAnyH_take (i := 9) (oi := { dst := some 79, op := Go.Op.fieldAddr 38 (Go.Operand.tmp 78) 0, type := 0, pos := "law.go:61", after := #[{ on := 8, ground := Go.Ground.data }, { on := 0, ground := Go.Ground.phase }, { on := 1, ground := Go.Ground.phase }, { on := 2, ground := Go.Ground.phase }, { on := 3, ground := Go.Ground.phase }, { on := 4, ground := Go.Ground.phase }, { on := 5, ground := Go.Ground.phase }, { on := 6, ground := Go.Ground.phase }, { on := 7, ground := Go.Ground.phase }], guard := none }) (v := ?_) rfl (by kernel_rfl) (by kernel_rfl) (by kernel_rfl) (fun _ _ _ h => h) (Or.inl ⟨by rfl, ?_⟩) hH7 ?_
          rotate_left
          · intro w' hSw; (try dsimp only at hSw)
            go_simp
            try with_reducible rfl
          (try simp only [Act.put, List.setIfInBounds_toArray, List.set_cons_zero, List.set_cons_succ])
          refine wpAnyH_ready (rs := [10]) (by kernel_rfl) (by simp) ?_
          refine AllReadyH.cons (o := { dst := none, op := Go.Op.store 25 (Go.Operand.tmp 79) (Go.Operand.tmp 77), type := 0, pos := "law.go:61", after := #[{ on := 9, ground := Go.Ground.data }, { on := 7, ground := Go.Ground.data }, { on := 7, ground := Go.Ground.chain }, { on := 0, ground := Go.Ground.phase }, { on := 1, ground := Go.Ground.phase }, { on := 2, ground := Go.Ground.phase }, { on := 3, ground := Go.Ground.phase }, { on := 4, ground := Go.Ground.phase }, { on := 5, ground := Go.Ground.phase }, { on := 6, ground := Go.Ground.phase }, { on := 7, ground := Go.Ground.phase }], guard := none }) rfl (fun K hK => ?_) ?_
          · go_simp
            refine hK.out _ _ ?_ (fun hH8 => ?_)
            · trivial
            clear hK K
            (try simp only [Act.put, List.setIfInBounds_toArray, List.set_cons_zero, List.set_cons_succ])
            refine wpAnyH_done (by kernel_rfl) ?_ _
            go_wp2
            go_ret
            exact ⟨rfl, HB3.out, A1, A3, c1, c3, HR3.out⟩
          exact AllReadyH.nil
        exact AllReadyH.nil
      exact AllReadyH.nil
    exact AllReadyH.nil)
end Go.Proofs.Ytfipchighkpobaa.PAll
