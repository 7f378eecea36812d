/- The law's step, way for way. -/
import Derived.Test.YtfipchighkpobaaNetState
namespace Go.Proofs.Ytfipchighkpobaa.PAll
open Go.RowKit Go.Proofs.YtfipchighkpobaaW.PrintWords Go.Proofs.YtfipchighkpobaaW.PrintLast Go.Proofs.YtfipchighkpobaaW.PrintMore
set_option linter.unusedVariables false
set_option linter.unusedSimpArgs false

set_option maxRecDepth 10000 in
set_option maxHeartbeats 4000000 in
theorem step_send_full {B : Nat} {w : World} {g p : Nat} {A A' : Option Addr} {c c' : Nat} {way : List ByteArray} {lost sent : Int} (h : LS B w g p A A' c c' way lost sent way lost sent) (hl : ¬ way.length < 128) (I K : Int) (s : ByteArray) :
    Calls Try.prog 14 #[.pointer (some ⟨g, 0, none⟩), .pointer (some ⟨p, 0, none⟩), .agg #[.int .i64 0, .int .i64 I, .int .i64 K, .string s]] w fun e w' => e = .returned (.bool true) ∧ Stepped B w w' g p way (wrap64 (lost + 1)) (wrap64 (sent + 1)) := by
  have hu38 := Try.underlying38
  have hu27 := Try.underlying27
  have hu25 := Try.underlying25
  generalize hO : Obj.cells #[.int .i64 0, .int .i64 I, .int .i64 K, .string s] 27 (0, 0) = O
  have ob : OB (w.alloc O) w.heap.size 0 I K s := hO ▸ OB.new w 0 I K s
  have h1 := h.alloc O
  have b1 : Below B w (w.alloc O) := (Only.alloc w O).below (fun _ e => e.elim) h.n.bound
  have hlt := decide_eq_true (blk_lt h.q.rec_)
  have m1 := Moved.set (w.alloc O) p 1 (.int .i64 (wrap64 (sent + 1))) A'
  have L1 := h1.plain (h1.q.set 1 (.int .i64 (wrap64 (sent + 1))) lost (wrap64 (sent + 1)) rfl) m1
  have ob1 := ob.plain h1.q m1
  have b2 := b1.trans (h1.belowP m1)
  have m2 := Moved.set ((w.alloc O).setCell ⟨p, 1, none⟩ (.int .i64 (wrap64 (sent + 1)))) p 2 (.int .i64 (wrap64 (lost + 1))) A'
  have L2 := L1.plain (L1.q.set 2 (.int .i64 (wrap64 (lost + 1))) (wrap64 (lost + 1)) (wrap64 (sent + 1)) rfl) m2
  have ob2 := ob1.plain L1.q m2
  have b3 := b2.trans (L1.belowP m2)
  have k0 := ob.c0
  have k1 := h1.q.c1
  have k2 := h1.q.fz 1
  have k3 := L1.q.c0
  have k4 := L1.q.c2
  have k5 := L1.q.fz 2
  have k6 := ob2.c3
  have hw : IntKind.i64.wrap (lost + 1) = wrap64 (lost + 1) := i64_w _
  have hw2 : IntKind.i64.wrap (sent + 1) = wrap64 (sent + 1) := i64_w _
  have d1 : decide ((128 : Int) ≤ (way.length : Int)) = true := by simp; omega
  have d2 : decide (128 ≤ way.length) = true := by simp; omega
  have HL2 := Lib.hid L2
  have HB3 := Lib.hid b3
  have HL := Lib.hid hl
  subst hO
  clear h ob h1 b1 hlt m1 L1 ob1 b2 m2 L2 ob2 b3 hl
  go_enter Try.func14, Try.ntmps14
  go_wp2_with (go_at_call 8; (with_reducible refine (send_out HL2.out.n HL.out s).mono ?_); rintro e' w4 ⟨rfl, A4, c4, h4, hm4⟩; have HL4 := Lib.hid (HL2.out.net h4 hm4); have HB4 := Lib.hid (HB3.out.trans (HL2.out.belowN hm4)); clear h4 hm4)
  go_ret
  exact ⟨rfl, HB4.out, A4, A', c4, c', HL4.out⟩

set_option maxRecDepth 10000 in
set_option maxHeartbeats 4000000 in
theorem step_send_in {B : Nat} {w : World} {g p : Nat} {A A' : Option Addr} {c c' : Nat} {way : List ByteArray} {lost sent : Int} (h : LS B w g p A A' c c' way lost sent way lost sent) (hl : way.length < 128) (I K : Int) (s : ByteArray) :
    Calls Try.prog 14 #[.pointer (some ⟨g, 0, none⟩), .pointer (some ⟨p, 0, none⟩), .agg #[.int .i64 0, .int .i64 I, .int .i64 K, .string s]] w fun e w' => e = .returned (.bool true) ∧ Stepped B w w' g p (way ++ [s]) lost (wrap64 (sent + 1)) := by
  have hu38 := Try.underlying38
  have hu27 := Try.underlying27
  have hu25 := Try.underlying25
  generalize hO : Obj.cells #[.int .i64 0, .int .i64 I, .int .i64 K, .string s] 27 (0, 0) = O
  have ob : OB (w.alloc O) w.heap.size 0 I K s := hO ▸ OB.new w 0 I K s
  have h1 := h.alloc O
  have b1 : Below B w (w.alloc O) := (Only.alloc w O).below (fun _ e => e.elim) h.n.bound
  have m1 := Moved.set (w.alloc O) p 1 (.int .i64 (wrap64 (sent + 1))) A'
  have L1 := h1.plain (h1.q.set 1 (.int .i64 (wrap64 (sent + 1))) lost (wrap64 (sent + 1)) rfl) m1
  have ob1 := ob.plain h1.q m1
  have b2 := b1.trans (h1.belowP m1)
  have k0 := ob.c0
  have k1 := h1.q.c1
  have k2 := h1.q.fz 1
  have k3 := L1.q.c0
  have k6 := ob1.c3
  obtain ⟨W, hW⟩ : ∃ W, W = (w.alloc O).setCell ⟨p, 1, none⟩ (.int .i64 (wrap64 (sent + 1))) := ⟨_, rfl⟩
  subst hO
  have hW' := hW
  rw [← hW] at L1 ob1 b2 k3 k6
  have hal := Only.alloc W (.cells #[.string s] 9)
  have k7 : (W.alloc (.cells #[.string s] 9)).cell? ⟨p, 0, none⟩ = some (.slice A' way.length c') := (L1.alloc _).q.c0
  have k8 : (W.alloc (.cells #[.string s] 9)).cell? ⟨w.heap.size, 3, none⟩ = some (.string s) := (ob1.hold hal (fun h => h)).c3
  obtain ⟨A2, c2, w2, hrun, happ⟩ := sr_append (w := (W.alloc (.cells #[.string s] 9)).drew) (L1.q.row.hold (hal.trans (Only.drew _) (fun _ _ h => h)) (fun _ _ h => h)) (L1.n.bound1 _) (some ⟨W.heap.size, 0, none⟩) 1 1 [s] rfl (fun h => by cases h) (src_one W s) (full_len hl)
  have hst := pt_app L1.q happ.1 (((hal.trans (Only.drew _) (fun _ _ h => h)).mono (fun _ h => h.elim)).trans happ.2.1 (fun k _ h => h)) (fun r hr => (happ.2.2 r hr).imp id (fun h => Nat.le_trans hal.size h)) (.slice A2 (way.length + 1) c2) (by rw [List.length_append]; rfl)
  have hb2 : w2.heap[p]? = _ := happ.2.1.hold ((hal.trans (Only.drew _) (fun _ _ h => h)).hold L1.q.rec_ (fun h => h)) (fun e => L1.q.ne e)
  have k9 : w2.cell? ⟨p, 0, none⟩ = some (.slice A' way.length c') := (blk_cell hb2 0).trans rfl
  have k10 := blk_frozen hb2 0
  have ob2 := ob1.plain L1.q hst.2
  have L2 := L1.plain hst.1 hst.2
  have b3 := b2.trans (L1.belowP hst.2)
  have k11 := ob2.c3
  have hw2 : IntKind.i64.wrap (sent + 1) = wrap64 (sent + 1) := i64_w _
  have d1 : decide ((128 : Int) ≤ (way.length : Int)) = false := by simp; omega
  have d2 : decide (128 ≤ way.length) = false := by simp; omega
  have HL2 := Lib.hid L2
  have HB3 := Lib.hid b3
  have HL := Lib.hid hl
  clear h ob h1 b1 m1 L1 ob1 b2 ob2 L2 b3 hl hal happ hst hb2
  go_enter Try.func14, Try.ntmps14
  rw [hW] at k3 k6
  go_wp2
  rw [← hW'] at k3 k6 ⊢
  clear hW' hW
  refine wp_region_held_drew (S := fun w' => True) (by kernel_rfl) trivial (fun hH0 => ?_)
  refine wpAnyH_take (i := 0) (oi := { dst := some 94, op := Go.Op.move (Go.Operand.tmp 1), type := 36, pos := "law.go:74", after := #[], guard := none }) (v := ?_) rfl (by kernel_rfl) (by kernel_rfl) (by kernel_rfl) (fun _ _ _ h => h) (Or.inl ⟨by rfl, ?_⟩) hH0 ?_
  rotate_left
  · intro w' hSw; (try dsimp only at hSw)
    go_simp
    try with_reducible rfl
  (try simp only [Act.put, List.setIfInBounds_toArray, List.set_cons_zero, List.set_cons_succ])
  refine wpAnyH_take (i := 1) (oi := { dst := some 95, op := Go.Op.move (Go.Operand.tmp 1), type := 36, pos := "law.go:74", after := #[], guard := none }) (v := ?_) rfl (by kernel_rfl) (by kernel_rfl) (by kernel_rfl) (fun _ _ _ h => h) (Or.inl ⟨by rfl, ?_⟩) hH0 ?_
  rotate_left
  · intro w' hSw; (try dsimp only at hSw)
    go_simp
    try with_reducible rfl
  (try simp only [Act.put, List.setIfInBounds_toArray, List.set_cons_zero, List.set_cons_succ])
  refine wpAnyH_take (i := 2) (oi := { dst := some 96, op := Go.Op.nilCheck (Go.Operand.tmp 95), type := 0, pos := "law.go:74", after := #[{ on := 1, ground := Go.Ground.data }], guard := none }) (v := ?_) rfl (by kernel_rfl) (by kernel_rfl) (by kernel_rfl) (fun _ _ _ h => h) (Or.inl ⟨by rfl, ?_⟩) hH0 ?_
  rotate_left
  · intro w' hSw; (try dsimp only at hSw)
    go_simp
    try with_reducible rfl
  (try simp only [Act.put, List.setIfInBounds_toArray, List.set_cons_zero, List.set_cons_succ])
  refine wpAnyH_take (i := 3) (oi := { dst := some 97, op := Go.Op.fieldAddr 38 (Go.Operand.tmp 96) 0, type := 0, pos := "law.go:74", after := #[{ on := 2, ground := Go.Ground.data }], guard := none }) (v := ?_) rfl (by kernel_rfl) (by kernel_rfl) (by kernel_rfl) (fun _ _ _ h => h) (Or.inl ⟨by rfl, ?_⟩) hH0 ?_
  rotate_left
  · intro w' hSw; (try dsimp only at hSw)
    go_simp
    try with_reducible rfl
  (try simp only [Act.put, List.setIfInBounds_toArray, List.set_cons_zero, List.set_cons_succ])
  refine wpAnyH_take (i := 5) (oi := { dst := some 99, op := Go.Op.fieldAddr 27 (Go.Operand.tmp 5) 3, type := 0, pos := "law.go:74", after := #[], guard := none }) (v := ?_) rfl (by kernel_rfl) (by kernel_rfl) (by kernel_rfl) (fun _ _ _ h => h) (Or.inl ⟨by rfl, ?_⟩) hH0 ?_
  rotate_left
  · intro w' hSw; (try dsimp only at hSw)
    go_simp
    try with_reducible rfl
  (try simp only [Act.put, List.setIfInBounds_toArray, List.set_cons_zero, List.set_cons_succ])
  refine wpAnyH_ready (rs := [4, 6]) (by kernel_rfl) (by simp) ?_
  refine AllReadyH.cons (o := { dst := some 98, op := Go.Op.load 25 (Go.Operand.tmp 97), type := 25, pos := "law.go:74", after := #[{ on := 3, ground := Go.Ground.data }], guard := none }) rfl (fun K hK => ?_) ?_
  · go_simp
    refine hK.out _ _ ?_ (fun hH1 => ?_)
    · trivial
    clear hK K
    (try simp only [Act.put, List.setIfInBounds_toArray, List.set_cons_zero, List.set_cons_succ])
    refine wpAnyH_ready (rs := [6]) (by kernel_rfl) (by simp) ?_
    refine AllReadyH.cons (o := { dst := some 100, op := Go.Op.load 9 (Go.Operand.tmp 99), type := 9, pos := "law.go:74", after := #[{ on := 5, ground := Go.Ground.data }], guard := none }) rfl (fun K hK => ?_) ?_
    · go_simp
      refine hK.out _ _ ?_ (fun hH2 => ?_)
      · trivial
      clear hK K
      (try simp only [Act.put, List.setIfInBounds_toArray, List.set_cons_zero, List.set_cons_succ])
      refine wpAnyH_ready (rs := [7]) (by kernel_rfl) (by simp) ?_
      refine AllReadyH.cons (o := { dst := some 101, op := Go.Op.buildSlice 25 1 #[(0, Go.Operand.tmp 100)], type := 25, pos := "law.go:74", after := #[{ on := 6, ground := Go.Ground.data }], guard := none }) rfl (fun K hK => ?_) ?_
      · go_simp
        refine hK.out _ _ ?_ (fun hH3 => ?_)
        · trivial
        clear hK K
        (try simp only [Act.put, List.setIfInBounds_toArray, List.set_cons_zero, List.set_cons_succ])
        refine wpAnyH_ready (rs := [8]) (by kernel_rfl) (by simp) ?_
        refine AllReadyH.cons (o := { dst := some 102, op := Go.Op.call { callee := Go.Callee.builtin Go.Builtin.append, args := #[Go.Operand.tmp 98, Go.Operand.tmp 101], argTypes := #[25, 25] }, type := 25, pos := "law.go:74", after := #[{ on := 4, ground := Go.Ground.data }, { on := 7, ground := Go.Ground.data }], guard := none }) rfl (fun K hK => ?_) ?_
        · skip
          refine append_step (by rfl) (.tmp 98) (.tmp 101) rfl rfl _ _ _ rfl rfl hrun ?_
          refine hK.out _ _ ?_ (fun hH4 => ?_)
          · trivial
          clear hK K
          (try simp only [Act.put, List.setIfInBounds_toArray, List.set_cons_zero, List.set_cons_succ])
          refine wpAnyH_take (i := 9) (oi := { dst := some 103, op := Go.Op.nilCheck (Go.Operand.tmp 94), type := 0, pos := "law.go:74", after := #[{ on := 0, ground := Go.Ground.data }, { on := 0, ground := Go.Ground.phase }, { on := 1, ground := Go.Ground.phase }, { on := 2, ground := Go.Ground.phase }, { on := 3, ground := Go.Ground.phase }, { on := 4, ground := Go.Ground.phase }, { on := 5, ground := Go.Ground.phase }, { on := 6, ground := Go.Ground.phase }, { on := 7, ground := Go.Ground.phase }, { on := 8, ground := Go.Ground.phase }], guard := none }) (v := ?_) rfl (by kernel_rfl) (by kernel_rfl) (by kernel_rfl) (fun _ _ _ h => h) (Or.inl ⟨by rfl, ?_⟩) hH4 ?_
          rotate_left
          · intro w' hSw; (try dsimp only at hSw)
            go_simp
            try with_reducible rfl
          (try simp only [Act.put, List.setIfInBounds_toArray, List.set_cons_zero, List.set_cons_succ])
          refine wpAnyH_take (i := 10) (oi := { dst := some 104, op := Go.Op.fieldAddr 38 (Go.Operand.tmp 103) 0, type := 0, pos := "law.go:74", after := #[{ on := 9, ground := Go.Ground.data }, { on := 0, ground := Go.Ground.phase }, { on := 1, ground := Go.Ground.phase }, { on := 2, ground := Go.Ground.phase }, { on := 3, ground := Go.Ground.phase }, { on := 4, ground := Go.Ground.phase }, { on := 5, ground := Go.Ground.phase }, { on := 6, ground := Go.Ground.phase }, { on := 7, ground := Go.Ground.phase }, { on := 8, ground := Go.Ground.phase }], guard := none }) (v := ?_) rfl (by kernel_rfl) (by kernel_rfl) (by kernel_rfl) (fun _ _ _ h => h) (Or.inl ⟨by rfl, ?_⟩) hH4 ?_
          rotate_left
          · intro w' hSw; (try dsimp only at hSw)
            go_simp
            try with_reducible rfl
          (try simp only [Act.put, List.setIfInBounds_toArray, List.set_cons_zero, List.set_cons_succ])
          refine wpAnyH_ready (rs := [11]) (by kernel_rfl) (by simp) ?_
          refine AllReadyH.cons (o := { dst := none, op := Go.Op.store 25 (Go.Operand.tmp 104) (Go.Operand.tmp 102), type := 0, pos := "law.go:74", after := #[{ on := 10, ground := Go.Ground.data }, { on := 8, ground := Go.Ground.data }, { on := 8, ground := Go.Ground.chain }, { on := 0, ground := Go.Ground.phase }, { on := 1, ground := Go.Ground.phase }, { on := 2, ground := Go.Ground.phase }, { on := 3, ground := Go.Ground.phase }, { on := 4, ground := Go.Ground.phase }, { on := 5, ground := Go.Ground.phase }, { on := 6, ground := Go.Ground.phase }, { on := 7, ground := Go.Ground.phase }, { on := 8, ground := Go.Ground.phase }], guard := none }) rfl (fun K hK => ?_) ?_
          · go_simp
            refine hK.out _ _ ?_ (fun hH5 => ?_)
            · trivial
            clear hK K
            (try simp only [Act.put, List.setIfInBounds_toArray, List.set_cons_zero, List.set_cons_succ])
            refine wpAnyH_done (by kernel_rfl) ?_ _
            go_wp2_with (go_at_call 8; (with_reducible refine (send_in HL2.out.n HL.out s).mono ?_); rintro e' w4 ⟨rfl, A4, c4, h4, hm4⟩; have HL4 := Lib.hid (HL2.out.net h4 hm4); have HB4 := Lib.hid (HB3.out.trans (HL2.out.belowN hm4)); clear h4 hm4)
            go_ret
            exact ⟨rfl, HB4.out, A4, A2, c4, c2, HL4.out⟩
          exact AllReadyH.nil
        exact AllReadyH.nil
      exact AllReadyH.nil
    exact AllReadyH.nil
  refine AllReadyH.cons (o := { dst := some 100, op := Go.Op.load 9 (Go.Operand.tmp 99), type := 9, pos := "law.go:74", after := #[{ on := 5, ground := Go.Ground.data }], guard := none }) rfl (fun K hK => ?_) ?_
  · go_simp
    refine hK.out _ _ ?_ (fun hH6 => ?_)
    · trivial
    clear hK K
    (try simp only [Act.put, List.setIfInBounds_toArray, List.set_cons_zero, List.set_cons_succ])
    refine wpAnyH_ready (rs := [4, 7]) (by kernel_rfl) (by simp) ?_
    refine AllReadyH.cons (o := { dst := some 98, op := Go.Op.load 25 (Go.Operand.tmp 97), type := 25, pos := "law.go:74", after := #[{ on := 3, ground := Go.Ground.data }], guard := none }) rfl (fun K hK => ?_) ?_
    · go_simp
      refine hK.out _ _ ?_ (fun hH7 => ?_)
      · trivial
      clear hK K
      (try simp only [Act.put, List.setIfInBounds_toArray, List.set_cons_zero, List.set_cons_succ])
      refine wpAnyH_ready (rs := [7]) (by kernel_rfl) (by simp) ?_
      refine AllReadyH.cons (o := { dst := some 101, op := Go.Op.buildSlice 25 1 #[(0, Go.Operand.tmp 100)], type := 25, pos := "law.go:74", after := #[{ on := 6, ground := Go.Ground.data }], guard := none }) rfl (fun K hK => ?_) ?_
      · go_simp
        refine hK.out _ _ ?_ (fun hH8 => ?_)
        · trivial
        clear hK K
        (try simp only [Act.put, List.setIfInBounds_toArray, List.set_cons_zero, List.set_cons_succ])
        refine wpAnyH_ready (rs := [8]) (by kernel_rfl) (by simp) ?_
        refine AllReadyH.cons (o := { dst := some 102, op := Go.Op.call { callee := Go.Callee.builtin Go.Builtin.append, args := #[Go.Operand.tmp 98, Go.Operand.tmp 101], argTypes := #[25, 25] }, type := 25, pos := "law.go:74", after := #[{ on := 4, ground := Go.Ground.data }, { on := 7, ground := Go.Ground.data }], guard := none }) rfl (fun K hK => ?_) ?_
        · skip
          refine append_step (by rfl) (.tmp 98) (.tmp 101) rfl rfl _ _ _ rfl rfl hrun ?_
          refine hK.out _ _ ?_ (fun hH9 => ?_)
          · trivial
          clear hK K
          (try simp only [Act.put, List.setIfInBounds_toArray, List.set_cons_zero, List.set_cons_succ])
          refine wpAnyH_take (i := 9) (oi := { dst := some 103, op := Go.Op.nilCheck (Go.Operand.tmp 94), type := 0, pos := "law.go:74", after := #[{ on := 0, ground := Go.Ground.data }, { on := 0, ground := Go.Ground.phase }, { on := 1, ground := Go.Ground.phase }, { on := 2, ground := Go.Ground.phase }, { on := 3, ground := Go.Ground.phase }, { on := 4, ground := Go.Ground.phase }, { on := 5, ground := Go.Ground.phase }, { on := 6, ground := Go.Ground.phase }, { on := 7, ground := Go.Ground.phase }, { on := 8, ground := Go.Ground.phase }], guard := none }) (v := ?_) rfl (by kernel_rfl) (by kernel_rfl) (by kernel_rfl) (fun _ _ _ h => h) (Or.inl ⟨by rfl, ?_⟩) hH9 ?_
          rotate_left
          · intro w' hSw; (try dsimp only at hSw)
            go_simp
            try with_reducible rfl
          (try simp only [Act.put, List.setIfInBounds_toArray, List.set_cons_zero, List.set_cons_succ])
          refine wpAnyH_take (i := 10) (oi := { dst := some 104, op := Go.Op.fieldAddr 38 (Go.Operand.tmp 103) 0, type := 0, pos := "law.go:74", after := #[{ on := 9, ground := Go.Ground.data }, { on := 0, ground := Go.Ground.phase }, { on := 1, ground := Go.Ground.phase }, { on := 2, ground := Go.Ground.phase }, { on := 3, ground := Go.Ground.phase }, { on := 4, ground := Go.Ground.phase }, { on := 5, ground := Go.Ground.phase }, { on := 6, ground := Go.Ground.phase }, { on := 7, ground := Go.Ground.phase }, { on := 8, ground := Go.Ground.phase }], guard := none }) (v := ?_) rfl (by kernel_rfl) (by kernel_rfl) (by kernel_rfl) (fun _ _ _ h => h) (Or.inl ⟨by rfl, ?_⟩) hH9 ?_
          rotate_left
          · intro w' hSw; (try dsimp only at hSw)
            go_simp
            try with_reducible rfl
          (try simp only [Act.put, List.setIfInBounds_toArray, List.set_cons_zero, List.set_cons_succ])
          refine wpAnyH_ready (rs := [11]) (by kernel_rfl) (by simp) ?_
          refine AllReadyH.cons (o := { dst := none, op := Go.Op.store 25 (Go.Operand.tmp 104) (Go.Operand.tmp 102), type := 0, pos := "law.go:74", after := #[{ on := 10, ground := Go.Ground.data }, { on := 8, ground := Go.Ground.data }, { on := 8, ground := Go.Ground.chain }, { on := 0, ground := Go.Ground.phase }, { on := 1, ground := Go.Ground.phase }, { on := 2, ground := Go.Ground.phase }, { on := 3, ground := Go.Ground.phase }, { on := 4, ground := Go.Ground.phase }, { on := 5, ground := Go.Ground.phase }, { on := 6, ground := Go.Ground.phase }, { on := 7, ground := Go.Ground.phase }, { on := 8, ground := Go.Ground.phase }], guard := none }) rfl (fun K hK => ?_) ?_
          · go_simp
            refine hK.out _ _ ?_ (fun hH10 => ?_)
            · trivial
            clear hK K
            (try simp only [Act.put, List.setIfInBounds_toArray, List.set_cons_zero, List.set_cons_succ])
            refine wpAnyH_done (by kernel_rfl) ?_ _
            go_wp2_with (go_at_call 8; (with_reducible refine (send_in HL2.out.n HL.out s).mono ?_); rintro e' w4 ⟨rfl, A4, c4, h4, hm4⟩; have HL4 := Lib.hid (HL2.out.net h4 hm4); have HB4 := Lib.hid (HB3.out.trans (HL2.out.belowN hm4)); clear h4 hm4)
            go_ret
            exact ⟨rfl, HB4.out, A4, A2, c4, c2, HL4.out⟩
          exact AllReadyH.nil
        exact AllReadyH.nil
      exact AllReadyH.nil
    refine AllReadyH.cons (o := { dst := some 101, op := Go.Op.buildSlice 25 1 #[(0, Go.Operand.tmp 100)], type := 25, pos := "law.go:74", after := #[{ on := 6, ground := Go.Ground.data }], guard := none }) rfl (fun K hK => ?_) ?_
    · go_simp
      refine hK.out _ _ ?_ (fun hH11 => ?_)
      · trivial
      clear hK K
      (try simp only [Act.put, List.setIfInBounds_toArray, List.set_cons_zero, List.set_cons_succ])
      refine wpAnyH_ready (rs := [4]) (by kernel_rfl) (by simp) ?_
      refine AllReadyH.cons (o := { dst := some 98, op := Go.Op.load 25 (Go.Operand.tmp 97), type := 25, pos := "law.go:74", after := #[{ on := 3, ground := Go.Ground.data }], guard := none }) rfl (fun K hK => ?_) ?_
      · go_simp
        refine hK.out _ _ ?_ (fun hH12 => ?_)
        · trivial
        clear hK K
        (try simp only [Act.put, List.setIfInBounds_toArray, List.set_cons_zero, List.set_cons_succ])
        refine wpAnyH_ready (rs := [8]) (by kernel_rfl) (by simp) ?_
        refine AllReadyH.cons (o := { dst := some 102, op := Go.Op.call { callee := Go.Callee.builtin Go.Builtin.append, args := #[Go.Operand.tmp 98, Go.Operand.tmp 101], argTypes := #[25, 25] }, type := 25, pos := "law.go:74", after := #[{ on := 4, ground := Go.Ground.data }, { on := 7, ground := Go.Ground.data }], guard := none }) rfl (fun K hK => ?_) ?_
        · skip
          refine append_step (by rfl) (.tmp 98) (.tmp 101) rfl rfl _ _ _ rfl rfl hrun ?_
          refine hK.out _ _ ?_ (fun hH13 => ?_)
          · trivial
          clear hK K
          (try simp only [Act.put, List.setIfInBounds_toArray, List.set_cons_zero, List.set_cons_succ])
          refine wpAnyH_take (i := 9) (oi := { dst := some 103, op := Go.Op.nilCheck (Go.Operand.tmp 94), type := 0, pos := "law.go:74", after := #[{ on := 0, ground := Go.Ground.data }, { on := 0, ground := Go.Ground.phase }, { on := 1, ground := Go.Ground.phase }, { on := 2, ground := Go.Ground.phase }, { on := 3, ground := Go.Ground.phase }, { on := 4, ground := Go.Ground.phase }, { on := 5, ground := Go.Ground.phase }, { on := 6, ground := Go.Ground.phase }, { on := 7, ground := Go.Ground.phase }, { on := 8, ground := Go.Ground.phase }], guard := none }) (v := ?_) rfl (by kernel_rfl) (by kernel_rfl) (by kernel_rfl) (fun _ _ _ h => h) (Or.inl ⟨by rfl, ?_⟩) hH13 ?_
          rotate_left
          · intro w' hSw; (try dsimp only at hSw)
            go_simp
            try with_reducible rfl
          (try simp only [Act.put, List.setIfInBounds_toArray, List.set_cons_zero, List.set_cons_succ])
          refine wpAnyH_take (i := 10) (oi := { dst := some 104, op := Go.Op.fieldAddr 38 (Go.Operand.tmp 103) 0, type := 0, pos := "law.go:74", after := #[{ on := 9, ground := Go.Ground.data }, { on := 0, ground := Go.Ground.phase }, { on := 1, ground := Go.Ground.phase }, { on := 2, ground := Go.Ground.phase }, { on := 3, ground := Go.Ground.phase }, { on := 4, ground := Go.Ground.phase }, { on := 5, ground := Go.Ground.phase }, { on := 6, ground := Go.Ground.phase }, { on := 7, ground := Go.Ground.phase }, { on := 8, ground := Go.Ground.phase }], guard := none }) (v := ?_) rfl (by kernel_rfl) (by kernel_rfl) (by kernel_rfl) (fun _ _ _ h => h) (Or.inl ⟨by rfl, ?_⟩) hH13 ?_
          rotate_left
          · intro w' hSw; (try dsimp only at hSw)
            go_simp
            try with_reducible rfl
          (try simp only [Act.put, List.setIfInBounds_toArray, List.set_cons_zero, List.set_cons_succ])
          refine wpAnyH_ready (rs := [11]) (by kernel_rfl) (by simp) ?_
          refine AllReadyH.cons (o := { dst := none, op := Go.Op.store 25 (Go.Operand.tmp 104) (Go.Operand.tmp 102), type := 0, pos := "law.go:74", after := #[{ on := 10, ground := Go.Ground.data }, { on := 8, ground := Go.Ground.data }, { on := 8, ground := Go.Ground.chain }, { on := 0, ground := Go.Ground.phase }, { on := 1, ground := Go.Ground.phase }, { on := 2, ground := Go.Ground.phase }, { on := 3, ground := Go.Ground.phase }, { on := 4, ground := Go.Ground.phase }, { on := 5, ground := Go.Ground.phase }, { on := 6, ground := Go.Ground.phase }, { on := 7, ground := Go.Ground.phase }, { on := 8, ground := Go.Ground.phase }], guard := none }) rfl (fun K hK => ?_) ?_
          · go_simp
            refine hK.out _ _ ?_ (fun hH14 => ?_)
            · trivial
            clear hK K
            (try simp only [Act.put, List.setIfInBounds_toArray, List.set_cons_zero, List.set_cons_succ])
            refine wpAnyH_done (by kernel_rfl) ?_ _
            go_wp2_with (go_at_call 8; (with_reducible refine (send_in HL2.out.n HL.out s).mono ?_); rintro e' w4 ⟨rfl, A4, c4, h4, hm4⟩; have HL4 := Lib.hid (HL2.out.net h4 hm4); have HB4 := Lib.hid (HB3.out.trans (HL2.out.belowN hm4)); clear h4 hm4)
            go_ret
            exact ⟨rfl, HB4.out, A4, A2, c4, c2, HL4.out⟩
          exact AllReadyH.nil
        exact AllReadyH.nil
      exact AllReadyH.nil
    exact AllReadyH.nil
  exact AllReadyH.nil
end Go.Proofs.Ytfipchighkpobaa.PAll
