/- The law's step: taking and copying. -/
import Derived.Test.YtfipchighkpobaaNetLawTake
namespace Go.Proofs.Ytfipchighkpobaa.PAll
open Go.RowKit Go.Proofs.YtfipchighkpobaaW.PrintWords Go.Proofs.YtfipchighkpobaaW.PrintLast Go.Proofs.YtfipchighkpobaaW.PrintMore
set_option linter.unusedVariables false
set_option linter.unusedSimpArgs false

theorem Stepped.pre {B : Nat} {w w1 w2 : World} {g p : Nat} {way : List ByteArray} {lost sent : Int} (h : Below B w w1) (hs : Stepped B w1 w2 g p way lost sent) : Stepped B w w2 g p way lost sent := ⟨h.trans hs.1, hs.2⟩

set_option maxRecDepth 10000 in
set_option maxHeartbeats 4000000 in
theorem step_take2_out {B : Nat} {w : World} {g p : Nat} {A A' : Option Addr} {c c' : Nat} {way : List ByteArray} {lost sent : Int} (h : LS B w g p A A' c c' way lost sent way lost sent) (I K : Int) (hi : ¬ (0 ≤ I ∧ I < way.length)) (s : ByteArray) :
    Calls Try.prog 14 #[.pointer (some ⟨g, 0, none⟩), .pointer (some ⟨p, 0, none⟩), .agg #[.int .i64 2, .int .i64 I, .int .i64 K, .string s]] w fun e w' => e = .returned (.bool true) ∧ Stepped B w w' g p way lost sent := by
  have hu38 := Try.underlying38
  have hu27 := Try.underlying27
  have hu25 := Try.underlying25
  generalize hO : Obj.cells #[.int .i64 2, .int .i64 I, .int .i64 K, .string s] 27 (0, 0) = O
  have ob : OB (w.alloc O) w.heap.size 2 I K s := hO ▸ OB.new w 2 I K s
  have h1 := h.alloc O
  have HB0 := Lib.hid (show Below B w (w.alloc O) from (Only.alloc w O).below (fun _ e => e.elim) h.n.bound)
  have k0 := ob.c0
  have k1 := ob.c1
  have k2 := ob.c2
  have k3 := ob.c3
  have HT := Lib.hid (take2_out h1 I K hi s)
  subst hO
  clear h hi ob h1
  go_enter Try.func14, Try.ntmps14
  go_wp2_with (go_at_call 21; (with_reducible refine HT.out.mono ?_); rintro e' w1 ⟨rfl, hs⟩; have HS := Lib.hid hs; clear hs)
  go_ret
  exact ⟨rfl, HS.out.pre HB0.out⟩

set_option maxRecDepth 10000 in
set_option maxHeartbeats 4000000 in
theorem step_take1_out {B : Nat} {w : World} {g p : Nat} {A A' : Option Addr} {c c' : Nat} {way : List ByteArray} {lost sent : Int} (h : LS B w g p A A' c c' way lost sent way lost sent) (I K : Int) (hi : ¬ (0 ≤ I ∧ I < way.length)) (s : ByteArray) :
    Calls Try.prog 14 #[.pointer (some ⟨g, 0, none⟩), .pointer (some ⟨p, 0, none⟩), .agg #[.int .i64 1, .int .i64 I, .int .i64 K, .string s]] w fun e w' => e = .returned (.bool true) ∧ Stepped B w w' g p way lost sent := by
  have hu38 := Try.underlying38
  have hu27 := Try.underlying27
  have hu25 := Try.underlying25
  generalize hO : Obj.cells #[.int .i64 1, .int .i64 I, .int .i64 K, .string s] 27 (0, 0) = O
  have ob : OB (w.alloc O) w.heap.size 1 I K s := hO ▸ OB.new w 1 I K s
  have h1 := h.alloc O
  have HB0 := Lib.hid (show Below B w (w.alloc O) from (Only.alloc w O).below (fun _ e => e.elim) h.n.bound)
  have k0 := ob.c0
  have k1 := ob.c1
  have k2 := ob.c2
  have k3 := ob.c3
  have HT := Lib.hid (take1_out h1 I K hi s)
  subst hO
  clear h hi ob h1
  go_enter Try.func14, Try.ntmps14
  go_wp2_with (go_at_call 21; (with_reducible refine HT.out.mono ?_); rintro e' w1 ⟨rfl, hs⟩; have HS := Lib.hid hs; clear hs)
  go_ret
  exact ⟨rfl, HS.out.pre HB0.out⟩

set_option maxRecDepth 10000 in
set_option maxHeartbeats 4000000 in
theorem step_take2_in {B : Nat} {w : World} {g p : Nat} {A A' : Option Addr} {c c' : Nat} {way : List ByteArray} {lost sent : Int} (h : LS B w g p A A' c c' way lost sent way lost sent) (i : Nat) (K : Int) (hi : i < way.length) (hl : way.length ≤ 128) (s : ByteArray) :
    Calls Try.prog 14 #[.pointer (some ⟨g, 0, none⟩), .pointer (some ⟨p, 0, none⟩), .agg #[.int .i64 2, .int .i64 i, .int .i64 K, .string s]] w fun e w' => e = .returned (.bool true) ∧ Stepped B w w' g p (cutAt way i) (wrap64 (lost + 1)) sent := by
  have hu38 := Try.underlying38
  have hu27 := Try.underlying27
  have hu25 := Try.underlying25
  generalize hO : Obj.cells #[.int .i64 2, .int .i64 i, .int .i64 K, .string s] 27 (0, 0) = O
  have ob : OB (w.alloc O) w.heap.size 2 i K s := hO ▸ OB.new w 2 i K s
  have h1 := h.alloc O
  have HB0 := Lib.hid (show Below B w (w.alloc O) from (Only.alloc w O).below (fun _ e => e.elim) h.n.bound)
  have k0 := ob.c0
  have k1 := ob.c1
  have k2 := ob.c2
  have k3 := ob.c3
  have HT := Lib.hid (take2_in h1 i K hi hl s)
  subst hO
  clear h hi hl ob h1
  go_enter Try.func14, Try.ntmps14
  go_wp2_with (go_at_call 21; (with_reducible refine HT.out.mono ?_); rintro e' w1 ⟨rfl, hs⟩; have HS := Lib.hid hs; clear hs)
  go_ret
  exact ⟨rfl, HS.out.pre HB0.out⟩

set_option maxRecDepth 10000 in
set_option maxHeartbeats 4000000 in
theorem step_take1_in {B : Nat} {w : World} {g p : Nat} {A A' : Option Addr} {c c' : Nat} {way : List ByteArray} {lost sent : Int} (h : LS B w g p A A' c c' way lost sent way lost sent) (i : Nat) (K : Int) (hi : i < way.length) (hl : way.length ≤ 128) (s : ByteArray) :
    Calls Try.prog 14 #[.pointer (some ⟨g, 0, none⟩), .pointer (some ⟨p, 0, none⟩), .agg #[.int .i64 1, .int .i64 i, .int .i64 K, .string s]] w fun e w' => e = .returned (.bool true) ∧ Stepped B w w' g p (cutAt way i) lost sent := by
  have hu38 := Try.underlying38
  have hu27 := Try.underlying27
  have hu25 := Try.underlying25
  generalize hO : Obj.cells #[.int .i64 1, .int .i64 i, .int .i64 K, .string s] 27 (0, 0) = O
  have ob : OB (w.alloc O) w.heap.size 1 i K s := hO ▸ OB.new w 1 i K s
  have h1 := h.alloc O
  have HB0 := Lib.hid (show Below B w (w.alloc O) from (Only.alloc w O).below (fun _ e => e.elim) h.n.bound)
  have k0 := ob.c0
  have k1 := ob.c1
  have k2 := ob.c2
  have k3 := ob.c3
  have HT := Lib.hid (take1_in h1 i K hi hl s)
  subst hO
  clear h hi hl ob h1
  go_enter Try.func14, Try.ntmps14
  go_wp2_with (go_at_call 21; (with_reducible refine HT.out.mono ?_); rintro e' w1 ⟨rfl, hs⟩; have HS := Lib.hid hs; clear hs)
  go_ret
  exact ⟨rfl, HS.out.pre HB0.out⟩

set_option maxRecDepth 10000 in
set_option maxHeartbeats 4000000 in
theorem step_copy_out {B : Nat} {w : World} {g p : Nat} {A A' : Option Addr} {c c' : Nat} {way : List ByteArray} {lost sent : Int} (h : LS B w g p A A' c c' way lost sent way lost sent) (I K : Int) (hi : ¬ (0 ≤ I ∧ I < way.length)) (s : ByteArray) :
    Calls Try.prog 14 #[.pointer (some ⟨g, 0, none⟩), .pointer (some ⟨p, 0, none⟩), .agg #[.int .i64 3, .int .i64 I, .int .i64 K, .string s]] w fun e w' => e = .returned (.bool true) ∧ Stepped B w w' g p way lost sent := by
  have hu38 := Try.underlying38
  have hu27 := Try.underlying27
  have hu25 := Try.underlying25
  generalize hO : Obj.cells #[.int .i64 3, .int .i64 I, .int .i64 K, .string s] 27 (0, 0) = O
  have ob : OB (w.alloc O) w.heap.size 3 I K s := hO ▸ OB.new w 3 I K s
  have h1 := h.alloc O
  have HB0 := Lib.hid (show Below B w (w.alloc O) from (Only.alloc w O).below (fun _ e => e.elim) h.n.bound)
  have k0 := ob.c0
  have k1 := ob.c1
  have k2 := ob.c2
  have k3 := ob.c3
  have HT := Lib.hid (there_out h1.q I hi)
  have HD := Lib.hid (copy_out h1.n I hi)
  have H1 := Lib.hid h1
  subst hO
  clear h hi ob h1
  go_enter Try.func14, Try.ntmps14
  go_wp2_with (first
    | (go_at_call 22; (with_reducible refine HT.out.mono ?_); rintro e' w1 ⟨rfl, hw1⟩; cases hw1)
    | (go_at_call 10; (with_reducible refine HD.out.mono ?_); rintro e' w1 ⟨rfl, hw1⟩; cases hw1))
  go_ret
  exact ⟨rfl, HB0.out, A, A', c, c', H1.out⟩

set_option maxRecDepth 10000 in
set_option maxHeartbeats 4000000 in
theorem step_copy_full {B : Nat} {w : World} {g p : Nat} {A A' : Option Addr} {c c' : Nat} {way : List ByteArray} {lost sent : Int} (h : LS B w g p A A' c c' way lost sent way lost sent) (i : Nat) (K : Int) (hi : i < way.length) (hl : ¬ way.length < 128) (s : ByteArray) :
    Calls Try.prog 14 #[.pointer (some ⟨g, 0, none⟩), .pointer (some ⟨p, 0, none⟩), .agg #[.int .i64 3, .int .i64 i, .int .i64 K, .string s]] w fun e w' => e = .returned (.bool true) ∧ Stepped B w w' g p way (wrap64 (lost + 1)) sent := by
  have hu38 := Try.underlying38
  have hu27 := Try.underlying27
  have hu25 := Try.underlying25
  generalize hO : Obj.cells #[.int .i64 3, .int .i64 i, .int .i64 K, .string s] 27 (0, 0) = O
  have ob : OB (w.alloc O) w.heap.size 3 i K s := hO ▸ OB.new w 3 i K s
  have h1 := h.alloc O
  have HB0 := Lib.hid (show Below B w (w.alloc O) from (Only.alloc w O).below (fun _ e => e.elim) h.n.bound)
  have k0 := ob.c0
  have k1 := ob.c1
  have k2 := ob.c2
  have k3 := ob.c3
  have HD := Lib.hid (copy_full h1.n i hi hl)
  have HI := Lib.hid hi
  have H1 := Lib.hid h1
  have HO := Lib.hid ob
  have hw : IntKind.i64.wrap (lost + 1) = wrap64 (lost + 1) := i64_w _
  have d1 : decide ((128 : Int) ≤ (way.length : Int)) = true := by simp; omega
  have d2 : decide (128 ≤ way.length) = true := by simp; omega
  subst hO
  clear h hl hi ob h1
  go_enter Try.func14, Try.ntmps14
  go_wp2_with (first
    | (go_at_call 10; (with_reducible refine HD.out.mono ?_); rintro e' w1 ⟨rfl, A1, c1, hn1, hm1⟩; have L1 := H1.out.net hn1 hm1; have ob1 := HO.out.net H1.out.n hm1; have p0 := L1.q.c0; have p2 := L1.q.c2; have f2 := L1.q.fz 2; have o1 := ob1.c1; have HL1 := Lib.hid L1; have HB1 := Lib.hid (HB0.out.trans (H1.out.belowN hm1)); clear hn1 hm1 L1 ob1)
    | (go_at_call 22; (with_reducible refine (there_in HL1.out.q i HI.out).mono ?_); rintro e' w2 ⟨rfl, hw1⟩; cases hw1))
  go_ret
  have m2 := Moved.set w1 p 2 (.int .i64 (wrap64 (lost + 1))) A'
  exact ⟨rfl, HB1.out.trans (HL1.out.belowP m2), A1, A', c1, c', HL1.out.plain (HL1.out.q.set 2 (.int .i64 (wrap64 (lost + 1))) (wrap64 (lost + 1)) sent rfl) m2⟩

set_option maxRecDepth 10000 in
set_option maxHeartbeats 4000000 in
theorem step_copy_in {B : Nat} {w : World} {g p : Nat} {A A' : Option Addr} {c c' : Nat} {way : List ByteArray} {lost sent : Int} (h : LS B w g p A A' c c' way lost sent way lost sent) (i : Nat) (K : Int) (hi : i < way.length) (hl : way.length < 128) (x : ByteArray) (hx : way[i] = x) (s : ByteArray) :
    Calls Try.prog 14 #[.pointer (some ⟨g, 0, none⟩), .pointer (some ⟨p, 0, none⟩), .agg #[.int .i64 3, .int .i64 i, .int .i64 K, .string s]] w fun e w' => e = .returned (.bool true) ∧ Stepped B w w' g p (way ++ [x]) lost sent := by
  have hu38 := Try.underlying38
  have hu27 := Try.underlying27
  have hu25 := Try.underlying25
  generalize hO : Obj.cells #[.int .i64 3, .int .i64 i, .int .i64 K, .string s] 27 (0, 0) = O
  have ob : OB (w.alloc O) w.heap.size 3 i K s := hO ▸ OB.new w 3 i K s
  have h1 := h.alloc O
  have HB0 := Lib.hid (show Below B w (w.alloc O) from (Only.alloc w O).below (fun _ e => e.elim) h.n.bound)
  have k0 := ob.c0
  have k1 := ob.c1
  have k2 := ob.c2
  have k3 := ob.c3
  have HD := Lib.hid (copy_in h1.n i hi hl x hx)
  have HI := Lib.hid hi
  have HLn := Lib.hid hl
  have H1 := Lib.hid h1
  have HO := Lib.hid ob
  have HX := Lib.hid (show ∀ w1 : World, SR w1 B A' c' way → ∃ r, A' = some ⟨r, 0, none⟩ ∧ w1.cell? ⟨r, i, none⟩ = some (.string x) from fun w1 hs => by
    obtain ⟨r, e1, _, e2, _⟩ := hs.get i hi
    exact ⟨r, e1, hx ▸ e2⟩)
  have d1 : decide ((128 : Int) ≤ (way.length : Int)) = false := by simp; omega
  have d2 : decide (128 ≤ way.length) = false := by simp; omega
  subst hO
  clear hl ob h1 hx
  clear hi h
  go_enter Try.func14, Try.ntmps14
  go_wp2_with (first
    | (go_at_call 10; (with_reducible refine HD.out.mono ?_); rintro e' w1 ⟨rfl, A1, c1, hn1, hm1⟩; have L1 := H1.out.net hn1 hm1; have ob1 := HO.out.net H1.out.n hm1; have p0 := L1.q.c0; have o1 := ob1.c1; have HL1 := Lib.hid L1; have HO1 := Lib.hid ob1; have HB1 := Lib.hid (HB0.out.trans (H1.out.belowN hm1)); clear hn1 hm1 L1 ob1)
    | (go_at_call 22; (with_reducible refine (there_in HL1.out.q i HI.out).mono ?_); rintro e' w2 ⟨rfl, hw1⟩; cases hw1))
  obtain ⟨r, rfl, hr⟩ := HX.out w1 HL1.out.q.row
  have e1 : (0 : Int) ≤ (i : Int) := by omega
  have e2 : (i : Int) < (way.length : Int) := by have := HI.out; omega
  have hal := Only.alloc w1 (.cells #[.string x] 9)
  have k7 : (w1.alloc (.cells #[.string x] 9)).cell? ⟨p, 0, none⟩ = some (.slice (some ⟨r, 0, none⟩) way.length c') := (HL1.out.alloc _).q.c0
  have k8 : (w1.alloc (.cells #[.string x] 9)).cell? ⟨w.heap.size, 1, none⟩ = some (.int .i64 i) := (HO1.out.hold hal (fun h => h)).c1
  obtain ⟨A2, c2, w2, hrun, happ⟩ := sr_append (w := (w1.alloc (.cells #[.string x] 9)).drew) (HL1.out.q.row.hold (hal.trans (Only.drew _) (fun _ _ h => h)) (fun _ _ h => h)) (HL1.out.n.bound1 _) (some ⟨w1.heap.size, 0, none⟩) 1 1 [x] rfl (fun h => by cases h) (src_one w1 x) (full_len HLn.out)
  have hst := pt_app HL1.out.q happ.1 (((hal.trans (Only.drew _) (fun _ _ h => h)).mono (fun _ h => h.elim)).trans happ.2.1 (fun k _ h => h)) (fun r hr => (happ.2.2 r hr).imp id (fun h => Nat.le_trans hal.size h)) (.slice A2 (way.length + 1) c2) (by rw [List.length_append]; rfl)
  have hb2 : w2.heap[p]? = _ := happ.2.1.hold ((hal.trans (Only.drew _) (fun _ _ h => h)).hold HL1.out.q.rec_ (fun h => h)) (fun e => HL1.out.q.ne e)
  have k9 : w2.cell? ⟨p, 0, none⟩ = some (.slice (some ⟨r, 0, none⟩) way.length c') := (blk_cell hb2 0).trans rfl
  have k10 := blk_frozen hb2 0
  have k11 : w2.cell? ⟨w.heap.size, 1, none⟩ = some (.int .i64 i) := ((HO1.out.hold (hal.trans (Only.drew _) (fun _ _ h => h)) (fun h => h)).hold happ.2.1 (fun e => row_ne HL1.out.q.row HO1.out (fun cs e => by simp at e) e)).c1
  have k12 := (HO1.out.plain HL1.out.q hst.2).c1
  have HL2 := Lib.hid (HL1.out.plain hst.1 hst.2)
  have HB3 := Lib.hid (HB1.out.trans (HL1.out.belowP hst.2))
  clear happ hst hb2
  refine wp_region_held_drew (S := fun w' => w'.cell? ⟨w.heap.size, 1, none⟩ = some (.int .i64 i)) (by kernel_rfl) o1 (fun hH0 => ?_)
  refine wpAnyH_take (i := 0) (oi := { dst := some 145, op := Go.Op.move (Go.Operand.tmp 1), type := 36, pos := "law.go:87", after := #[], guard := none }) (v := ?_) rfl (by kernel_rfl) (by kernel_rfl) (by kernel_rfl) (fun _ _ _ h => h) (Or.inl ⟨by rfl, ?_⟩) hH0 ?_
  rotate_left
  · intro w' hSw; (try dsimp only at hSw)
    go_simp
    try with_reducible rfl
  (try simp only [Act.put, List.setIfInBounds_toArray, List.set_cons_zero, List.set_cons_succ])
  refine wpAnyH_take (i := 1) (oi := { dst := some 146, op := Go.Op.move (Go.Operand.tmp 1), type := 36, pos := "law.go:87", after := #[], guard := none }) (v := ?_) rfl (by kernel_rfl) (by kernel_rfl) (by kernel_rfl) (fun _ _ _ h => h) (Or.inl ⟨by rfl, ?_⟩) hH0 ?_
  rotate_left
  · intro w' hSw; (try dsimp only at hSw)
    go_simp
    try with_reducible rfl
  (try simp only [Act.put, List.setIfInBounds_toArray, List.set_cons_zero, List.set_cons_succ])
  refine wpAnyH_take (i := 2) (oi := { dst := some 147, op := Go.Op.nilCheck (Go.Operand.tmp 146), type := 0, pos := "law.go:87", after := #[{ on := 1, ground := Go.Ground.data }], guard := none }) (v := ?_) rfl (by kernel_rfl) (by kernel_rfl) (by kernel_rfl) (fun _ _ _ h => h) (Or.inl ⟨by rfl, ?_⟩) hH0 ?_
  rotate_left
  · intro w' hSw; (try dsimp only at hSw)
    go_simp
    try with_reducible rfl
  (try simp only [Act.put, List.setIfInBounds_toArray, List.set_cons_zero, List.set_cons_succ])
  refine wpAnyH_take (i := 3) (oi := { dst := some 148, op := Go.Op.fieldAddr 38 (Go.Operand.tmp 147) 0, type := 0, pos := "law.go:87", after := #[{ on := 2, ground := Go.Ground.data }], guard := none }) (v := ?_) rfl (by kernel_rfl) (by kernel_rfl) (by kernel_rfl) (fun _ _ _ h => h) (Or.inl ⟨by rfl, ?_⟩) hH0 ?_
  rotate_left
  · intro w' hSw; (try dsimp only at hSw)
    go_simp
    try with_reducible rfl
  (try simp only [Act.put, List.setIfInBounds_toArray, List.set_cons_zero, List.set_cons_succ])
  refine wpAnyH_take (i := 5) (oi := { dst := some 150, op := Go.Op.move (Go.Operand.tmp 1), type := 36, pos := "law.go:87", after := #[], guard := none }) (v := ?_) rfl (by kernel_rfl) (by kernel_rfl) (by kernel_rfl) (fun _ _ _ h => h) (Or.inl ⟨by rfl, ?_⟩) hH0 ?_
  rotate_left
  · intro w' hSw; (try dsimp only at hSw)
    go_simp
    try with_reducible rfl
  (try simp only [Act.put, List.setIfInBounds_toArray, List.set_cons_zero, List.set_cons_succ])
  refine wpAnyH_take (i := 6) (oi := { dst := some 151, op := Go.Op.nilCheck (Go.Operand.tmp 150), type := 0, pos := "law.go:87", after := #[{ on := 5, ground := Go.Ground.data }], guard := none }) (v := ?_) rfl (by kernel_rfl) (by kernel_rfl) (by kernel_rfl) (fun _ _ _ h => h) (Or.inl ⟨by rfl, ?_⟩) hH0 ?_
  rotate_left
  · intro w' hSw; (try dsimp only at hSw)
    go_simp
    try with_reducible rfl
  (try simp only [Act.put, List.setIfInBounds_toArray, List.set_cons_zero, List.set_cons_succ])
  refine wpAnyH_take (i := 7) (oi := { dst := some 152, op := Go.Op.fieldAddr 38 (Go.Operand.tmp 151) 0, type := 0, pos := "law.go:87", after := #[{ on := 6, ground := Go.Ground.data }], guard := none }) (v := ?_) rfl (by kernel_rfl) (by kernel_rfl) (by kernel_rfl) (fun _ _ _ h => h) (Or.inl ⟨by rfl, ?_⟩) hH0 ?_
  rotate_left
  · intro w' hSw; (try dsimp only at hSw)
    go_simp
    try with_reducible rfl
  (try simp only [Act.put, List.setIfInBounds_toArray, List.set_cons_zero, List.set_cons_succ])
  refine wpAnyH_take (i := 9) (oi := { dst := some 154, op := Go.Op.fieldAddr 27 (Go.Operand.tmp 5) 1, type := 0, pos := "law.go:87", after := #[], guard := none }) (v := ?_) rfl (by kernel_rfl) (by kernel_rfl) (by kernel_rfl) (fun _ _ _ h => h) (Or.inl ⟨by rfl, ?_⟩) hH0 ?_
  rotate_left
  · intro w' hSw; (try dsimp only at hSw)
    go_simp
    try with_reducible rfl
  (try simp only [Act.put, List.setIfInBounds_toArray, List.set_cons_zero, List.set_cons_succ])
  refine wpAnyH_take (i := 10) (oi := { dst := some 155, op := Go.Op.load 3 (Go.Operand.tmp 154), type := 3, pos := "law.go:87", after := #[{ on := 9, ground := Go.Ground.data }], guard := none }) (v := ?_) rfl (by kernel_rfl) (by kernel_rfl) (by kernel_rfl) (fun _ _ _ h => h) (Or.inl ⟨by rfl, ?_⟩) hH0 ?_
  rotate_left
  · intro w' hSw; (try dsimp only at hSw)
    go_simp
    try with_reducible rfl
  (try simp only [Act.put, List.setIfInBounds_toArray, List.set_cons_zero, List.set_cons_succ])
  refine wpAnyH_ready (rs := [4, 8]) (by kernel_rfl) (by simp) ?_
  refine AllReadyH.cons (o := { dst := some 149, op := Go.Op.load 25 (Go.Operand.tmp 148), type := 25, pos := "law.go:87", after := #[{ on := 3, ground := Go.Ground.data }], guard := none }) rfl (fun K hK => ?_) ?_
  · go_simp
    refine hK.out _ _ ?_ (fun hH1 => ?_)
    · first | exact o1 | exact k8 | exact k11 | exact k12
    clear hK K
    (try simp only [Act.put, List.setIfInBounds_toArray, List.set_cons_zero, List.set_cons_succ])
    refine wpAnyH_ready (rs := [8]) (by kernel_rfl) (by simp) ?_
    refine AllReadyH.cons (o := { dst := some 153, op := Go.Op.load 25 (Go.Operand.tmp 152), type := 25, pos := "law.go:87", after := #[{ on := 7, ground := Go.Ground.data }], guard := none }) rfl (fun K hK => ?_) ?_
    · go_simp
      refine hK.out _ _ ?_ (fun hH2 => ?_)
      · first | exact o1 | exact k8 | exact k11 | exact k12
      clear hK K
      (try simp only [Act.put, List.setIfInBounds_toArray, List.set_cons_zero, List.set_cons_succ])
      refine wpAnyH_take (i := 11) (oi := { dst := some 156, op := Go.Op.indexAddr 25 (Go.Operand.tmp 153) (Go.Operand.tmp 155), type := 0, pos := "law.go:87", after := #[{ on := 8, ground := Go.Ground.data }, { on := 10, ground := Go.Ground.data }], guard := none }) (v := ?_) rfl (by kernel_rfl) (by kernel_rfl) (by kernel_rfl) (fun _ _ _ h => h) (Or.inl ⟨by rfl, ?_⟩) hH2 ?_
      rotate_left
      · intro w' hSw; (try dsimp only at hSw)
        go_simp
        try with_reducible rfl
      (try simp only [Act.put, List.setIfInBounds_toArray, List.set_cons_zero, List.set_cons_succ])
      refine wpAnyH_ready (rs := [12]) (by kernel_rfl) (by simp) ?_
      refine AllReadyH.cons (o := { dst := some 157, op := Go.Op.load 9 (Go.Operand.tmp 156), type := 9, pos := "law.go:87", after := #[{ on := 11, ground := Go.Ground.data }], guard := none }) rfl (fun K hK => ?_) ?_
      · go_simp
        refine hK.out _ _ ?_ (fun hH3 => ?_)
        · first | exact o1 | exact k8 | exact k11 | exact k12
        clear hK K
        (try simp only [Act.put, List.setIfInBounds_toArray, List.set_cons_zero, List.set_cons_succ])
        refine wpAnyH_ready (rs := [13]) (by kernel_rfl) (by simp) ?_
        refine AllReadyH.cons (o := { dst := some 158, op := Go.Op.buildSlice 25 1 #[(0, Go.Operand.tmp 157)], type := 25, pos := "law.go:87", after := #[{ on := 12, ground := Go.Ground.data }], guard := none }) rfl (fun K hK => ?_) ?_
        · go_simp
          refine hK.out _ _ ?_ (fun hH4 => ?_)
          · first | exact o1 | exact k8 | exact k11 | exact k12
          clear hK K
          (try simp only [Act.put, List.setIfInBounds_toArray, List.set_cons_zero, List.set_cons_succ])
          refine wpAnyH_ready (rs := [14]) (by kernel_rfl) (by simp) ?_
          refine AllReadyH.cons (o := { dst := some 159, op := Go.Op.call { callee := Go.Callee.builtin Go.Builtin.append, args := #[Go.Operand.tmp 149, Go.Operand.tmp 158], argTypes := #[25, 25] }, type := 25, pos := "law.go:87", after := #[{ on := 4, ground := Go.Ground.data }, { on := 13, ground := Go.Ground.data }], guard := none }) rfl (fun K hK => ?_) ?_
          · skip
            refine append_step (by rfl) (.tmp 149) (.tmp 158) rfl rfl _ _ _ rfl rfl hrun ?_
            refine hK.out _ _ ?_ (fun hH5 => ?_)
            · first | exact o1 | exact k8 | exact k11 | exact k12
            clear hK K
            (try simp only [Act.put, List.setIfInBounds_toArray, List.set_cons_zero, List.set_cons_succ])
            refine wpAnyH_take (i := 15) (oi := { dst := some 160, op := Go.Op.nilCheck (Go.Operand.tmp 145), type := 0, pos := "law.go:87", after := #[{ on := 0, ground := Go.Ground.data }, { on := 0, ground := Go.Ground.phase }, { on := 1, ground := Go.Ground.phase }, { on := 2, ground := Go.Ground.phase }, { on := 3, ground := Go.Ground.phase }, { on := 4, ground := Go.Ground.phase }, { on := 5, ground := Go.Ground.phase }, { on := 6, ground := Go.Ground.phase }, { on := 7, ground := Go.Ground.phase }, { on := 8, ground := Go.Ground.phase }, { on := 9, ground := Go.Ground.phase }, { on := 10, ground := Go.Ground.phase }, { on := 11, ground := Go.Ground.phase }, { on := 12, ground := Go.Ground.phase }, { on := 13, ground := Go.Ground.phase }, { on := 14, ground := Go.Ground.phase }], guard := none }) (v := ?_) rfl (by kernel_rfl) (by kernel_rfl) (by kernel_rfl) (fun _ _ _ h => h) (Or.inl ⟨by rfl, ?_⟩) hH5 ?_
            rotate_left
            · intro w' hSw; (try dsimp only at hSw)
              go_simp
              try with_reducible rfl
            (try simp only [Act.put, List.setIfInBounds_toArray, List.set_cons_zero, List.set_cons_succ])
            refine wpAnyH_take (i := 16) (oi := { dst := some 161, op := Go.Op.fieldAddr 38 (Go.Operand.tmp 160) 0, type := 0, pos := "law.go:87", after := #[{ on := 15, ground := Go.Ground.data }, { on := 0, ground := Go.Ground.phase }, { on := 1, ground := Go.Ground.phase }, { on := 2, ground := Go.Ground.phase }, { on := 3, ground := Go.Ground.phase }, { on := 4, ground := Go.Ground.phase }, { on := 5, ground := Go.Ground.phase }, { on := 6, ground := Go.Ground.phase }, { on := 7, ground := Go.Ground.phase }, { on := 8, ground := Go.Ground.phase }, { on := 9, ground := Go.Ground.phase }, { on := 10, ground := Go.Ground.phase }, { on := 11, ground := Go.Ground.phase }, { on := 12, ground := Go.Ground.phase }, { on := 13, ground := Go.Ground.phase }, { on := 14, ground := Go.Ground.phase }], guard := none }) (v := ?_) rfl (by kernel_rfl) (by kernel_rfl) (by kernel_rfl) (fun _ _ _ h => h) (Or.inl ⟨by rfl, ?_⟩) hH5 ?_
            rotate_left
            · intro w' hSw; (try dsimp only at hSw)
              go_simp
              try with_reducible rfl
            (try simp only [Act.put, List.setIfInBounds_toArray, List.set_cons_zero, List.set_cons_succ])
            refine wpAnyH_ready (rs := [17]) (by kernel_rfl) (by simp) ?_
            refine AllReadyH.cons (o := { dst := none, op := Go.Op.store 25 (Go.Operand.tmp 161) (Go.Operand.tmp 159), type := 0, pos := "law.go:87", after := #[{ on := 16, ground := Go.Ground.data }, { on := 14, ground := Go.Ground.data }, { on := 14, ground := Go.Ground.chain }, { on := 0, ground := Go.Ground.phase }, { on := 1, ground := Go.Ground.phase }, { on := 2, ground := Go.Ground.phase }, { on := 3, ground := Go.Ground.phase }, { on := 4, ground := Go.Ground.phase }, { on := 5, ground := Go.Ground.phase }, { on := 6, ground := Go.Ground.phase }, { on := 7, ground := Go.Ground.phase }, { on := 8, ground := Go.Ground.phase }, { on := 9, ground := Go.Ground.phase }, { on := 10, ground := Go.Ground.phase }, { on := 11, ground := Go.Ground.phase }, { on := 12, ground := Go.Ground.phase }, { on := 13, ground := Go.Ground.phase }, { on := 14, ground := Go.Ground.phase }], guard := none }) rfl (fun K hK => ?_) ?_
            · go_simp
              refine hK.out _ _ ?_ (fun hH6 => ?_)
              · first | exact o1 | exact k8 | exact k11 | exact k12
              clear hK K
              (try simp only [Act.put, List.setIfInBounds_toArray, List.set_cons_zero, List.set_cons_succ])
              refine wpAnyH_done (by kernel_rfl) ?_ _
              go_wp2
              go_ret
              exact ⟨rfl, HB3.out, A1, A2, c1, c2, HL2.out⟩
            exact AllReadyH.nil
          exact AllReadyH.nil
        exact AllReadyH.nil
      exact AllReadyH.nil
    exact AllReadyH.nil
  refine AllReadyH.cons (o := { dst := some 153, op := Go.Op.load 25 (Go.Operand.tmp 152), type := 25, pos := "law.go:87", after := #[{ on := 7, ground := Go.Ground.data }], guard := none }) rfl (fun K hK => ?_) ?_
  · go_simp
    refine hK.out _ _ ?_ (fun hH7 => ?_)
    · first | exact o1 | exact k8 | exact k11 | exact k12
    clear hK K
    (try simp only [Act.put, List.setIfInBounds_toArray, List.set_cons_zero, List.set_cons_succ])
    refine wpAnyH_take (i := 11) (oi := { dst := some 156, op := Go.Op.indexAddr 25 (Go.Operand.tmp 153) (Go.Operand.tmp 155), type := 0, pos := "law.go:87", after := #[{ on := 8, ground := Go.Ground.data }, { on := 10, ground := Go.Ground.data }], guard := none }) (v := ?_) rfl (by kernel_rfl) (by kernel_rfl) (by kernel_rfl) (fun _ _ _ h => h) (Or.inl ⟨by rfl, ?_⟩) hH7 ?_
    rotate_left
    · intro w' hSw; (try dsimp only at hSw)
      go_simp
      try with_reducible rfl
    (try simp only [Act.put, List.setIfInBounds_toArray, List.set_cons_zero, List.set_cons_succ])
    refine wpAnyH_ready (rs := [4, 12]) (by kernel_rfl) (by simp) ?_
    refine AllReadyH.cons (o := { dst := some 149, op := Go.Op.load 25 (Go.Operand.tmp 148), type := 25, pos := "law.go:87", after := #[{ on := 3, ground := Go.Ground.data }], guard := none }) rfl (fun K hK => ?_) ?_
    · go_simp
      refine hK.out _ _ ?_ (fun hH8 => ?_)
      · first | exact o1 | exact k8 | exact k11 | exact k12
      clear hK K
      (try simp only [Act.put, List.setIfInBounds_toArray, List.set_cons_zero, List.set_cons_succ])
      refine wpAnyH_ready (rs := [12]) (by kernel_rfl) (by simp) ?_
      refine AllReadyH.cons (o := { dst := some 157, op := Go.Op.load 9 (Go.Operand.tmp 156), type := 9, pos := "law.go:87", after := #[{ on := 11, ground := Go.Ground.data }], guard := none }) rfl (fun K hK => ?_) ?_
      · go_simp
        refine hK.out _ _ ?_ (fun hH9 => ?_)
        · first | exact o1 | exact k8 | exact k11 | exact k12
        clear hK K
        (try simp only [Act.put, List.setIfInBounds_toArray, List.set_cons_zero, List.set_cons_succ])
        refine wpAnyH_ready (rs := [13]) (by kernel_rfl) (by simp) ?_
        refine AllReadyH.cons (o := { dst := some 158, op := Go.Op.buildSlice 25 1 #[(0, Go.Operand.tmp 157)], type := 25, pos := "law.go:87", after := #[{ on := 12, ground := Go.Ground.data }], guard := none }) rfl (fun K hK => ?_) ?_
        · go_simp
          refine hK.out _ _ ?_ (fun hH10 => ?_)
          · first | exact o1 | exact k8 | exact k11 | exact k12
          clear hK K
          (try simp only [Act.put, List.setIfInBounds_toArray, List.set_cons_zero, List.set_cons_succ])
          refine wpAnyH_ready (rs := [14]) (by kernel_rfl) (by simp) ?_
          refine AllReadyH.cons (o := { dst := some 159, op := Go.Op.call { callee := Go.Callee.builtin Go.Builtin.append, args := #[Go.Operand.tmp 149, Go.Operand.tmp 158], argTypes := #[25, 25] }, type := 25, pos := "law.go:87", after := #[{ on := 4, ground := Go.Ground.data }, { on := 13, ground := Go.Ground.data }], guard := none }) rfl (fun K hK => ?_) ?_
          · skip
            refine append_step (by rfl) (.tmp 149) (.tmp 158) rfl rfl _ _ _ rfl rfl hrun ?_
            refine hK.out _ _ ?_ (fun hH11 => ?_)
            · first | exact o1 | exact k8 | exact k11 | exact k12
            clear hK K
            (try simp only [Act.put, List.setIfInBounds_toArray, List.set_cons_zero, List.set_cons_succ])
            refine wpAnyH_take (i := 15) (oi := { dst := some 160, op := Go.Op.nilCheck (Go.Operand.tmp 145), type := 0, pos := "law.go:87", after := #[{ on := 0, ground := Go.Ground.data }, { on := 0, ground := Go.Ground.phase }, { on := 1, ground := Go.Ground.phase }, { on := 2, ground := Go.Ground.phase }, { on := 3, ground := Go.Ground.phase }, { on := 4, ground := Go.Ground.phase }, { on := 5, ground := Go.Ground.phase }, { on := 6, ground := Go.Ground.phase }, { on := 7, ground := Go.Ground.phase }, { on := 8, ground := Go.Ground.phase }, { on := 9, ground := Go.Ground.phase }, { on := 10, ground := Go.Ground.phase }, { on := 11, ground := Go.Ground.phase }, { on := 12, ground := Go.Ground.phase }, { on := 13, ground := Go.Ground.phase }, { on := 14, ground := Go.Ground.phase }], guard := none }) (v := ?_) rfl (by kernel_rfl) (by kernel_rfl) (by kernel_rfl) (fun _ _ _ h => h) (Or.inl ⟨by rfl, ?_⟩) hH11 ?_
            rotate_left
            · intro w' hSw; (try dsimp only at hSw)
              go_simp
              try with_reducible rfl
            (try simp only [Act.put, List.setIfInBounds_toArray, List.set_cons_zero, List.set_cons_succ])
            refine wpAnyH_take (i := 16) (oi := { dst := some 161, op := Go.Op.fieldAddr 38 (Go.Operand.tmp 160) 0, type := 0, pos := "law.go:87", after := #[{ on := 15, ground := Go.Ground.data }, { on := 0, ground := Go.Ground.phase }, { on := 1, ground := Go.Ground.phase }, { on := 2, ground := Go.Ground.phase }, { on := 3, ground := Go.Ground.phase }, { on := 4, ground := Go.Ground.phase }, { on := 5, ground := Go.Ground.phase }, { on := 6, ground := Go.Ground.phase }, { on := 7, ground := Go.Ground.phase }, { on := 8, ground := Go.Ground.phase }, { on := 9, ground := Go.Ground.phase }, { on := 10, ground := Go.Ground.phase }, { on := 11, ground := Go.Ground.phase }, { on := 12, ground := Go.Ground.phase }, { on := 13, ground := Go.Ground.phase }, { on := 14, ground := Go.Ground.phase }], guard := none }) (v := ?_) rfl (by kernel_rfl) (by kernel_rfl) (by kernel_rfl) (fun _ _ _ h => h) (Or.inl ⟨by rfl, ?_⟩) hH11 ?_
            rotate_left
            · intro w' hSw; (try dsimp only at hSw)
              go_simp
              try with_reducible rfl
            (try simp only [Act.put, List.setIfInBounds_toArray, List.set_cons_zero, List.set_cons_succ])
            refine wpAnyH_ready (rs := [17]) (by kernel_rfl) (by simp) ?_
            refine AllReadyH.cons (o := { dst := none, op := Go.Op.store 25 (Go.Operand.tmp 161) (Go.Operand.tmp 159), type := 0, pos := "law.go:87", after := #[{ on := 16, ground := Go.Ground.data }, { on := 14, ground := Go.Ground.data }, { on := 14, ground := Go.Ground.chain }, { on := 0, ground := Go.Ground.phase }, { on := 1, ground := Go.Ground.phase }, { on := 2, ground := Go.Ground.phase }, { on := 3, ground := Go.Ground.phase }, { on := 4, ground := Go.Ground.phase }, { on := 5, ground := Go.Ground.phase }, { on := 6, ground := Go.Ground.phase }, { on := 7, ground := Go.Ground.phase }, { on := 8, ground := Go.Ground.phase }, { on := 9, ground := Go.Ground.phase }, { on := 10, ground := Go.Ground.phase }, { on := 11, ground := Go.Ground.phase }, { on := 12, ground := Go.Ground.phase }, { on := 13, ground := Go.Ground.phase }, { on := 14, ground := Go.Ground.phase }], guard := none }) rfl (fun K hK => ?_) ?_
            · go_simp
              refine hK.out _ _ ?_ (fun hH12 => ?_)
              · first | exact o1 | exact k8 | exact k11 | exact k12
              clear hK K
              (try simp only [Act.put, List.setIfInBounds_toArray, List.set_cons_zero, List.set_cons_succ])
              refine wpAnyH_done (by kernel_rfl) ?_ _
              go_wp2
              go_ret
              exact ⟨rfl, HB3.out, A1, A2, c1, c2, HL2.out⟩
            exact AllReadyH.nil
          exact AllReadyH.nil
        exact AllReadyH.nil
      exact AllReadyH.nil
    refine AllReadyH.cons (o := { dst := some 157, op := Go.Op.load 9 (Go.Operand.tmp 156), type := 9, pos := "law.go:87", after := #[{ on := 11, ground := Go.Ground.data }], guard := none }) rfl (fun K hK => ?_) ?_
    · go_simp
      refine hK.out _ _ ?_ (fun hH13 => ?_)
      · first | exact o1 | exact k8 | exact k11 | exact k12
      clear hK K
      (try simp only [Act.put, List.setIfInBounds_toArray, List.set_cons_zero, List.set_cons_succ])
      refine wpAnyH_ready (rs := [4, 13]) (by kernel_rfl) (by simp) ?_
      refine AllReadyH.cons (o := { dst := some 149, op := Go.Op.load 25 (Go.Operand.tmp 148), type := 25, pos := "law.go:87", after := #[{ on := 3, ground := Go.Ground.data }], guard := none }) rfl (fun K hK => ?_) ?_
      · go_simp
        refine hK.out _ _ ?_ (fun hH14 => ?_)
        · first | exact o1 | exact k8 | exact k11 | exact k12
        clear hK K
        (try simp only [Act.put, List.setIfInBounds_toArray, List.set_cons_zero, List.set_cons_succ])
        refine wpAnyH_ready (rs := [13]) (by kernel_rfl) (by simp) ?_
        refine AllReadyH.cons (o := { dst := some 158, op := Go.Op.buildSlice 25 1 #[(0, Go.Operand.tmp 157)], type := 25, pos := "law.go:87", after := #[{ on := 12, ground := Go.Ground.data }], guard := none }) rfl (fun K hK => ?_) ?_
        · go_simp
          refine hK.out _ _ ?_ (fun hH15 => ?_)
          · first | exact o1 | exact k8 | exact k11 | exact k12
          clear hK K
          (try simp only [Act.put, List.setIfInBounds_toArray, List.set_cons_zero, List.set_cons_succ])
          refine wpAnyH_ready (rs := [14]) (by kernel_rfl) (by simp) ?_
          refine AllReadyH.cons (o := { dst := some 159, op := Go.Op.call { callee := Go.Callee.builtin Go.Builtin.append, args := #[Go.Operand.tmp 149, Go.Operand.tmp 158], argTypes := #[25, 25] }, type := 25, pos := "law.go:87", after := #[{ on := 4, ground := Go.Ground.data }, { on := 13, ground := Go.Ground.data }], guard := none }) rfl (fun K hK => ?_) ?_
          · skip
            refine append_step (by rfl) (.tmp 149) (.tmp 158) rfl rfl _ _ _ rfl rfl hrun ?_
            refine hK.out _ _ ?_ (fun hH16 => ?_)
            · first | exact o1 | exact k8 | exact k11 | exact k12
            clear hK K
            (try simp only [Act.put, List.setIfInBounds_toArray, List.set_cons_zero, List.set_cons_succ])
            refine wpAnyH_take (i := 15) (oi := { dst := some 160, op := Go.Op.nilCheck (Go.Operand.tmp 145), type := 0, pos := "law.go:87", after := #[{ on := 0, ground := Go.Ground.data }, { on := 0, ground := Go.Ground.phase }, { on := 1, ground := Go.Ground.phase }, { on := 2, ground := Go.Ground.phase }, { on := 3, ground := Go.Ground.phase }, { on := 4, ground := Go.Ground.phase }, { on := 5, ground := Go.Ground.phase }, { on := 6, ground := Go.Ground.phase }, { on := 7, ground := Go.Ground.phase }, { on := 8, ground := Go.Ground.phase }, { on := 9, ground := Go.Ground.phase }, { on := 10, ground := Go.Ground.phase }, { on := 11, ground := Go.Ground.phase }, { on := 12, ground := Go.Ground.phase }, { on := 13, ground := Go.Ground.phase }, { on := 14, ground := Go.Ground.phase }], guard := none }) (v := ?_) rfl (by kernel_rfl) (by kernel_rfl) (by kernel_rfl) (fun _ _ _ h => h) (Or.inl ⟨by rfl, ?_⟩) hH16 ?_
            rotate_left
            · intro w' hSw; (try dsimp only at hSw)
              go_simp
              try with_reducible rfl
            (try simp only [Act.put, List.setIfInBounds_toArray, List.set_cons_zero, List.set_cons_succ])
            refine wpAnyH_take (i := 16) (oi := { dst := some 161, op := Go.Op.fieldAddr 38 (Go.Operand.tmp 160) 0, type := 0, pos := "law.go:87", after := #[{ on := 15, ground := Go.Ground.data }, { on := 0, ground := Go.Ground.phase }, { on := 1, ground := Go.Ground.phase }, { on := 2, ground := Go.Ground.phase }, { on := 3, ground := Go.Ground.phase }, { on := 4, ground := Go.Ground.phase }, { on := 5, ground := Go.Ground.phase }, { on := 6, ground := Go.Ground.phase }, { on := 7, ground := Go.Ground.phase }, { on := 8, ground := Go.Ground.phase }, { on := 9, ground := Go.Ground.phase }, { on := 10, ground := Go.Ground.phase }, { on := 11, ground := Go.Ground.phase }, { on := 12, ground := Go.Ground.phase }, { on := 13, ground := Go.Ground.phase }, { on := 14, ground := Go.Ground.phase }], guard := none }) (v := ?_) rfl (by kernel_rfl) (by kernel_rfl) (by kernel_rfl) (fun _ _ _ h => h) (Or.inl ⟨by rfl, ?_⟩) hH16 ?_
            rotate_left
            · intro w' hSw; (try dsimp only at hSw)
              go_simp
              try with_reducible rfl
            (try simp only [Act.put, List.setIfInBounds_toArray, List.set_cons_zero, List.set_cons_succ])
            refine wpAnyH_ready (rs := [17]) (by kernel_rfl) (by simp) ?_
            refine AllReadyH.cons (o := { dst := none, op := Go.Op.store 25 (Go.Operand.tmp 161) (Go.Operand.tmp 159), type := 0, pos := "law.go:87", after := #[{ on := 16, ground := Go.Ground.data }, { on := 14, ground := Go.Ground.data }, { on := 14, ground := Go.Ground.chain }, { on := 0, ground := Go.Ground.phase }, { on := 1, ground := Go.Ground.phase }, { on := 2, ground := Go.Ground.phase }, { on := 3, ground := Go.Ground.phase }, { on := 4, ground := Go.Ground.phase }, { on := 5, ground := Go.Ground.phase }, { on := 6, ground := Go.Ground.phase }, { on := 7, ground := Go.Ground.phase }, { on := 8, ground := Go.Ground.phase }, { on := 9, ground := Go.Ground.phase }, { on := 10, ground := Go.Ground.phase }, { on := 11, ground := Go.Ground.phase }, { on := 12, ground := Go.Ground.phase }, { on := 13, ground := Go.Ground.phase }, { on := 14, ground := Go.Ground.phase }], guard := none }) rfl (fun K hK => ?_) ?_
            · go_simp
              refine hK.out _ _ ?_ (fun hH17 => ?_)
              · first | exact o1 | exact k8 | exact k11 | exact k12
              clear hK K
              (try simp only [Act.put, List.setIfInBounds_toArray, List.set_cons_zero, List.set_cons_succ])
              refine wpAnyH_done (by kernel_rfl) ?_ _
              go_wp2
              go_ret
              exact ⟨rfl, HB3.out, A1, A2, c1, c2, HL2.out⟩
            exact AllReadyH.nil
          exact AllReadyH.nil
        exact AllReadyH.nil
      refine AllReadyH.cons (o := { dst := some 158, op := Go.Op.buildSlice 25 1 #[(0, Go.Operand.tmp 157)], type := 25, pos := "law.go:87", after := #[{ on := 12, ground := Go.Ground.data }], guard := none }) rfl (fun K hK => ?_) ?_
      · go_simp
        refine hK.out _ _ ?_ (fun hH18 => ?_)
        · first | exact o1 | exact k8 | exact k11 | exact k12
        clear hK K
        (try simp only [Act.put, List.setIfInBounds_toArray, List.set_cons_zero, List.set_cons_succ])
        refine wpAnyH_ready (rs := [4]) (by kernel_rfl) (by simp) ?_
        refine AllReadyH.cons (o := { dst := some 149, op := Go.Op.load 25 (Go.Operand.tmp 148), type := 25, pos := "law.go:87", after := #[{ on := 3, ground := Go.Ground.data }], guard := none }) rfl (fun K hK => ?_) ?_
        · go_simp
          refine hK.out _ _ ?_ (fun hH19 => ?_)
          · first | exact o1 | exact k8 | exact k11 | exact k12
          clear hK K
          (try simp only [Act.put, List.setIfInBounds_toArray, List.set_cons_zero, List.set_cons_succ])
          refine wpAnyH_ready (rs := [14]) (by kernel_rfl) (by simp) ?_
          refine AllReadyH.cons (o := { dst := some 159, op := Go.Op.call { callee := Go.Callee.builtin Go.Builtin.append, args := #[Go.Operand.tmp 149, Go.Operand.tmp 158], argTypes := #[25, 25] }, type := 25, pos := "law.go:87", after := #[{ on := 4, ground := Go.Ground.data }, { on := 13, ground := Go.Ground.data }], guard := none }) rfl (fun K hK => ?_) ?_
          · skip
            refine append_step (by rfl) (.tmp 149) (.tmp 158) rfl rfl _ _ _ rfl rfl hrun ?_
            refine hK.out _ _ ?_ (fun hH20 => ?_)
            · first | exact o1 | exact k8 | exact k11 | exact k12
            clear hK K
            (try simp only [Act.put, List.setIfInBounds_toArray, List.set_cons_zero, List.set_cons_succ])
            refine wpAnyH_take (i := 15) (oi := { dst := some 160, op := Go.Op.nilCheck (Go.Operand.tmp 145), type := 0, pos := "law.go:87", after := #[{ on := 0, ground := Go.Ground.data }, { on := 0, ground := Go.Ground.phase }, { on := 1, ground := Go.Ground.phase }, { on := 2, ground := Go.Ground.phase }, { on := 3, ground := Go.Ground.phase }, { on := 4, ground := Go.Ground.phase }, { on := 5, ground := Go.Ground.phase }, { on := 6, ground := Go.Ground.phase }, { on := 7, ground := Go.Ground.phase }, { on := 8, ground := Go.Ground.phase }, { on := 9, ground := Go.Ground.phase }, { on := 10, ground := Go.Ground.phase }, { on := 11, ground := Go.Ground.phase }, { on := 12, ground := Go.Ground.phase }, { on := 13, ground := Go.Ground.phase }, { on := 14, ground := Go.Ground.phase }], guard := none }) (v := ?_) rfl (by kernel_rfl) (by kernel_rfl) (by kernel_rfl) (fun _ _ _ h => h) (Or.inl ⟨by rfl, ?_⟩) hH20 ?_
            rotate_left
            · intro w' hSw; (try dsimp only at hSw)
              go_simp
              try with_reducible rfl
            (try simp only [Act.put, List.setIfInBounds_toArray, List.set_cons_zero, List.set_cons_succ])
            refine wpAnyH_take (i := 16) (oi := { dst := some 161, op := Go.Op.fieldAddr 38 (Go.Operand.tmp 160) 0, type := 0, pos := "law.go:87", after := #[{ on := 15, ground := Go.Ground.data }, { on := 0, ground := Go.Ground.phase }, { on := 1, ground := Go.Ground.phase }, { on := 2, ground := Go.Ground.phase }, { on := 3, ground := Go.Ground.phase }, { on := 4, ground := Go.Ground.phase }, { on := 5, ground := Go.Ground.phase }, { on := 6, ground := Go.Ground.phase }, { on := 7, ground := Go.Ground.phase }, { on := 8, ground := Go.Ground.phase }, { on := 9, ground := Go.Ground.phase }, { on := 10, ground := Go.Ground.phase }, { on := 11, ground := Go.Ground.phase }, { on := 12, ground := Go.Ground.phase }, { on := 13, ground := Go.Ground.phase }, { on := 14, ground := Go.Ground.phase }], guard := none }) (v := ?_) rfl (by kernel_rfl) (by kernel_rfl) (by kernel_rfl) (fun _ _ _ h => h) (Or.inl ⟨by rfl, ?_⟩) hH20 ?_
            rotate_left
            · intro w' hSw; (try dsimp only at hSw)
              go_simp
              try with_reducible rfl
            (try simp only [Act.put, List.setIfInBounds_toArray, List.set_cons_zero, List.set_cons_succ])
            refine wpAnyH_ready (rs := [17]) (by kernel_rfl) (by simp) ?_
            refine AllReadyH.cons (o := { dst := none, op := Go.Op.store 25 (Go.Operand.tmp 161) (Go.Operand.tmp 159), type := 0, pos := "law.go:87", after := #[{ on := 16, ground := Go.Ground.data }, { on := 14, ground := Go.Ground.data }, { on := 14, ground := Go.Ground.chain }, { on := 0, ground := Go.Ground.phase }, { on := 1, ground := Go.Ground.phase }, { on := 2, ground := Go.Ground.phase }, { on := 3, ground := Go.Ground.phase }, { on := 4, ground := Go.Ground.phase }, { on := 5, ground := Go.Ground.phase }, { on := 6, ground := Go.Ground.phase }, { on := 7, ground := Go.Ground.phase }, { on := 8, ground := Go.Ground.phase }, { on := 9, ground := Go.Ground.phase }, { on := 10, ground := Go.Ground.phase }, { on := 11, ground := Go.Ground.phase }, { on := 12, ground := Go.Ground.phase }, { on := 13, ground := Go.Ground.phase }, { on := 14, ground := Go.Ground.phase }], guard := none }) rfl (fun K hK => ?_) ?_
            · go_simp
              refine hK.out _ _ ?_ (fun hH21 => ?_)
              · first | exact o1 | exact k8 | exact k11 | exact k12
              clear hK K
              (try simp only [Act.put, List.setIfInBounds_toArray, List.set_cons_zero, List.set_cons_succ])
              refine wpAnyH_done (by kernel_rfl) ?_ _
              go_wp2
              go_ret
              exact ⟨rfl, HB3.out, A1, A2, c1, c2, HL2.out⟩
            exact AllReadyH.nil
          exact AllReadyH.nil
        exact AllReadyH.nil
      exact AllReadyH.nil
    exact AllReadyH.nil
  exact AllReadyH.nil
end Go.Proofs.Ytfipchighkpobaa.PAll
