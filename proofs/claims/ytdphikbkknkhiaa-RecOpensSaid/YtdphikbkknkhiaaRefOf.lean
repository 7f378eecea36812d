/- The document's Of, walked by hand: any bytes. -/
import Derived.Test.YtdphikbkknkhiaaRefOfP
import Derived.Test.YtdphikbkknkhiaaRefBodyC
namespace Go.Proofs.Ytdphikbkknkhiaa.PAll
open Go.RowKit Go.Proofs.Ytdphikbkknkhiaa.Pure Go.Proofs.YtdphikbkknkhiaaW.PrintWords Go.Proofs.YtdphikbkknkhiaaW.PrintLast Go.Proofs.YtdphikbkknkhiaaW.PrintMore
set_option linter.unusedVariables false
set_option linter.unusedSimpArgs false

/-- The record's block and its rows, as the document reads them. -/
structure QF (wb w : World) (g gr : Nat) (s : ByteArray) (q : RV) (x : Got) : Prop where
  rd : RF wb w g s x.a x.e
  rec_ : w.heap[gr]? = some (.cells q.cs 25 (0, 0))
  ri : Kd.R k36 36 w wb.heap.size (fun _ => True) q.images.v x.li
  rt : Kd.R k55 55 w wb.heap.size (fun _ => True) q.table.v x.lt
  sv : SameV q x.q
  li : x.li.length ≤ 300
  lt : x.lt.length ≤ 300
theorem R36_keepF {wb w w' : World} {g : Nat} {s : ByteArray} {a e : Int} {b : Nat} {v : Value} {l : List S36} (h : Kd.R k36 36 w b (fun _ => True) v l) (hr : RF wb w g s a e) (hk : KeepBut w w' g none) : Kd.R k36 36 w' b (fun _ => True) v l :=
  Kd.R_mono (Kd.R_keep (IsS66.apart hr.i h (by decide)) hk (fun _ h => h.2)) (fun _ h => h.1)
theorem R55_keepF {wb w w' : World} {g : Nat} {s : ByteArray} {a e : Int} {b : Nat} {v : Value} {l : List S55} (h : Kd.R k55 55 w b (fun _ => True) v l) (hr : RF wb w g s a e) (hk : KeepBut w w' g none) : Kd.R k55 55 w' b (fun _ => True) v l :=
  Kd.R_mono (Kd.R_keep (IsS66.apart hr.i h (by decide)) hk (fun _ h => h.2)) (fun _ h => h.1)
theorem IsS66.c2 {w0 W : World} {g : Nat} {f0 : ByteArray} {f1 f2 : Int} (h : IsS66 w0 W g f0 f1 f2) : W.cell? ⟨g, 2, none⟩ = some (.int .i64 f2) := (blk_cell h.1 2).trans rfl
theorem cleanR_same {a b : RV} (h : SameV a b) : SameV (cleanR a) (cleanR b) := by
  obtain ⟨k1, t1, p1, g1, c1, y1, o1, n1, x1, i1, l1, e1, d1⟩ := a
  obtain ⟨k2, t2, p2, g2, c2, y2, o2, n2, x2, i2, l2, e2, d2⟩ := b
  obtain ⟨h1, h2, h3, h4, h5, h6, h7, h8, h9, h10, h11⟩ := h
  simp only at h1 h2 h3 h4 h5 h6 h7 h8 h9 h10 h11
  subst h1 h2 h3 h4 h5 h6 h7 h8 h9 h10 h11
  unfold cleanR tidyR
  refine ⟨?_, ?_, ?_, ?_, ?_, ?_, ?_, ?_, ?_, ?_, ?_⟩ <;> (simp only; split <;> (try rfl) <;> (try split) <;> (try rfl) <;> (try split) <;> (try rfl) <;> (try split) <;> (try rfl) <;> (try split) <;> (try rfl) <;> (try split) <;> (try rfl))
theorem cbodyP_same {a b : RV} (h : SameV a b) (li : List S36) (lt : List S55) : cbodyP a li lt = cbodyP b li lt := by
  unfold cbodyP
  rw [show cleanI a li = cleanI b li by unfold cleanI; rw [h.kind], show cleanT a lt = cleanT b lt by unfold cleanT; rw [h.kind], bodyP_same (cleanR_same h)]
theorem store_row_step {P : Program} {ops : Array Oper} {o : Oper} {a : Act} {W : World} {Kc : Act → World → Prop} {Q : Exit → Act → World → Prop} (hw : Region.wanted o (yielded ops a.tmps) = true) (ty : TypeId) (x y : Operand) (ho : o.op = .store ty x y)
    (g : Nat) (cells : Array Value) (hx : a.eval x = .pointer (some ⟨g, 0, none⟩)) (hy : a.eval y = .agg cells) (t : TypeId) (old : Array Value) (hg : W.heap[g]? = some (.cells old t (0, 0))) (hi : (P.info? ty).map (·.size) = some cells.size)
    (hold : old.size = cells.size) (h1 : cells.all (·.oneCell') = true) (h : Kc (a.put o.dst undef) (W.setRow g cells)) : if Region.wanted o (yielded ops a.tmps) = true then Oper.wp P o a W Kc Q else Kc (a.put o.dst undef) W := by
  rw [if_pos hw]
  exact wp_store_row ty x y ho g cells hx hy t old hg hi hold h1 h

set_option maxHeartbeats 16000000 in
set_option maxRecDepth 10000 in
theorem refof_walk (s : ByteArray) (hs : s.size ≤ 1152921504606846976) (w : World) : Calls Try.prog 20 #[.string s] w fun x w' => OfOut w w' x (refOfP s) := by
  have hu25 := Try.underlying25
  have hu66 := Try.underlying66
  obtain ⟨k, a1, e1, hk⟩ : ∃ k a1 e1, numS s 0 0 1 = (k, a1, e1) := ⟨_, _, _, rfl⟩
  obtain ⟨wb, hwb⟩ : ∃ wb, w.alloc (.cells #[.int .i64 0, .int .i64 0, .int .i64 0, .int .i64 0, .int .i64 0, .string ⟨#[]⟩, .string ⟨#[]⟩, .string ⟨#[]⟩, .int .i64 0, .slice none 0 0, .slice none 0 0, .int .i64 0, .int .i64 0] 25) = wb := ⟨_, rfl⟩
  have hXz : wb.heap[w.heap.size]? = some (.cells #[.int .i64 0, .int .i64 0, .int .i64 0, .int .i64 0, .int .i64 0, .string ⟨#[]⟩, .string ⟨#[]⟩, .string ⟨#[]⟩, .int .i64 0, .slice none 0 0, .slice none 0 0, .int .i64 0, .int .i64 0] 25 (0, 0)) := hwb ▸ heap_alloc_new w _
  have hBb : Below w.heap.size w wb := hwb ▸ below_alloc (Below.refl _ _) _
  have hsz : wb.heap.size = w.heap.size + 1 := by rw [← hwb]; simp
  have HR1 := Lib.hid (show RF wb ((w.alloc (.cells #[.int .i64 0, .int .i64 0, .int .i64 0, .int .i64 0, .int .i64 0, .string ⟨#[]⟩, .string ⟨#[]⟩, .string ⟨#[]⟩, .int .i64 0, .slice none 0 0, .slice none 0 0, .int .i64 0, .int .i64 0] 25)).alloc (.cells #[.string s, .int .i64 0, .int .i64 0] 66)) (w.heap.size + 1) s 0 0 from by
    rw [hwb, ← hsz]
    exact ⟨IsS66.new wb wb s 0 0 (Below.refl _ _), below_alloc (Below.refl _ _) _, Int.le_refl _, by omega, hs⟩)
  have HK := Lib.hid hk
  have HXZ := Lib.hid hXz
  have HBB := Lib.hid hBb
  have HSZ := Lib.hid hsz
  clear hXz hBb hk hwb hs hsz
  by_cases h0 : e1 = 0
  · subst h0
    obtain ⟨G, hG⟩ : ∃ G, refF s k a1 = G := ⟨_, rfl⟩
    have HG := Lib.hid hG
    clear hG
    go_enter Try.func20, Try.ntmps20
    go_upto_block 0 with (go_at_call 33; (with_reducible refine (rf_num HR1.out 1 (by decide) (by decide) HK.out).mono ?_); rintro e' w2 ⟨rfl, hR2, hK2⟩; have HR2 := Lib.hid (hR2.alloc (.cells #[.int .i64 k, .int .i64 0, .int .i64 0, .int .i64 0, .int .i64 0, .string ⟨#[]⟩, .string ⟨#[]⟩, .string ⟨#[]⟩, .int .i64 0, .slice none 0 0, .slice none 0 0, .int .i64 0, .int .i64 0] 25)); have HX2 := Lib.hid (heap_alloc_new w2 (.cells #[.int .i64 k, .int .i64 0, .int .i64 0, .int .i64 0, .int .i64 0, .string ⟨#[]⟩, .string ⟨#[]⟩, .string ⟨#[]⟩, .int .i64 0, .slice none 0 0, .slice none 0 0, .int .i64 0, .int .i64 0] 25)); have HGE := Lib.hid hR2.b.size; clear hR2 hK2)
    go_cut [] (fun wc => ∃ q, QF wb wc (w.heap.size + 1) w2.heap.size s q G)
    case first =>
      by_cases k1 : k = 1
      · subst k1
        obtain ⟨n1, o1, f1, h1⟩ : ∃ n o f, numS s a1 0 1 = (n, o, f) := ⟨_, _, _, rfl⟩
        obtain ⟨LI, LA, LE, h2⟩ : ∃ LI LA LE, imgR s n1.toNat [] o1 f1 = (LI, LA, LE) := ⟨_, _, _, rfl⟩
        obtain rfl : G = ⟨zeroR 1, LI, [], LA, LE⟩ := by
          rw [← HG.out]
          unfold refF
          simp [h1, h2]
        have hn0 := numS_lo (s := s) (at_ := a1) 0 1
        have hn1 := num1_lt (s := s) (a := a1) (e := 0)
        rw [h1] at hn0 hn1
        simp only at hn0 hn1
        obtain ⟨N, rfl⟩ : ∃ N : Nat, n1 = N := ⟨n1.toNat, by omega⟩
        have HN := Lib.hid (show N ≤ 255 by omega)
        rw [Int.toNat_natCast] at h2
        have H1 := Lib.hid h1
        have H2 := Lib.hid h2
        clear h1 h2 hn0 hn1
        go_wp2_with (go_at_call 33; (with_reducible refine (rf_num HR2.out 1 (by decide) (by decide) H1.out).mono ?_); rintro e' w3 ⟨rfl, hR3, hK3⟩; have HX3 := Lib.hid (RF.kept (a' := 0) (e' := 0) HR2.out hK3 HX2.out); have HR3 := Lib.hid hR3; clear hR3 hK3)
        go_loopw [7] (fun i wr => ∃ (j : Nat) (li : List S36) (a e : Int) (A : Option Addr) (c : Nat), j ≤ N ∧ i = .int .i64 j ∧ li.length ≤ j ∧ RF wb wr (w.heap.size + 1) s a e ∧ wr.heap[w2.heap.size]? = some (.cells #[.int .i64 1, .int .i64 0, .int .i64 0, .int .i64 0, .int .i64 0, .string ⟨#[]⟩, .string ⟨#[]⟩, .string ⟨#[]⟩, .int .i64 0, .slice A li.length c, .slice none 0 0, .int .i64 0, .int .i64 0] 25 (0, 0)) ∧ Kd.R k36 36 wr wb.heap.size (fun _ => True) (.slice A li.length c) li ∧ imgR s (N - j) li a e = (LI, LA, LE)) (fun i _ => N - (intOf i).toNat)
        case atStart => exact ⟨0, [], o1, f1, none, 0, Nat.zero_le _, rfl, Nat.le_refl _, HR3.out, HX3.out, Kd.R_nil _ _ _ _ _, H2.out⟩
        case round =>
          obtain ⟨j, li, a, e, A, c, hj, rfl, hlj, hR, hX, hI, hF⟩ := hrel
          have re := hR.i.c2
          have HRj := Lib.hid hR
          have HXj := Lib.hid hX
          have HIj := Lib.hid hI
          have HLj := Lib.hid (show li.length ≤ 300 by have := HN.out; omega)
          by_cases hlt : j < N
          · have e1 : decide ((j : Int) < (N : Int)) = true := by simp; omega
            have e2 : decide (j < N) = true := by simpa using hlt
            by_cases he : e = 0
            · subst he
              obtain ⟨d, hd⟩ : ∃ d, N - j = d + 1 := ⟨N - j - 1, by omega⟩
              rw [hd] at hF
              unfold imgR at hF
              rw [if_pos rfl] at hF
              obtain ⟨n3, o3, f3, h3⟩ : ∃ n o f, numS s a 0 2 = (n, o, f) := ⟨_, _, _, rfl⟩
              rw [h3] at hF
              simp only at hF
              obtain ⟨n4, o4, f4, h4⟩ : ∃ n o f, textS s o3 f3 224 = (n, o, f) := ⟨_, _, _, rfl⟩
              rw [h4] at hF
              simp only at hF
              obtain rfl : d = N - (j + 1) := by omega
              have HF := Lib.hid hF
              have H3 := Lib.hid h3
              have H4 := Lib.hid h4
              have HJ := Lib.hid (show j + 1 ≤ N from hlt)
              have HLJ := Lib.hid hlj
              have hj255 : j < 255 := by have := HN.out; omega
              clear hd hF h3 h4 hR hX hI hlt hj hlj
              go_wp2_with (go_at_call 33; (with_reducible refine (rf_num HRj.out 2 (by decide) (by decide) H3.out).mono ?_); rintro e' w4 ⟨rfl, hR4, hK4⟩; have HX4 := Lib.hid (RF.kept (a' := 0) (e' := 0) HRj.out hK4 HXj.out); have HI4 := Lib.hid (R36_keepF HIj.out HRj.out hK4); have HR4 := Lib.hid hR4; clear hR4 hK4)
              have q0 : w4.cell? ⟨w2.heap.size, 9, none⟩ = some (.slice A li.length c) := (blk_cell HX4.out 9).trans rfl
              refine wp_region_held_drew (S := fun w' => True) (by kernel_rfl) trivial (fun hH0 => ?_)
              refine wpAnyH_take (i := 0) (oi := { dst := some 41, op := .fieldAddr 25 (.tmp 5) 9, type := 0, pos := "ref.go:217", after := #[], guard := none }) (v := ?_) rfl (by kernel_rfl) (by kernel_rfl) (by kernel_rfl) (fun _ _ _ h => h) (Or.inl ⟨by rfl, ?_⟩) hH0 ?_
              rotate_left
              · intro w' hSw; (try dsimp only at hSw)
                go_simp
                try with_reducible rfl
              (try simp only [Act.put, List.setIfInBounds_toArray, List.set_cons_zero, List.set_cons_succ])
              refine wpAnyH_take (i := 2) (oi := { dst := some 43, op := .move (.tmp 8), type := 3, pos := "ref.go:217", after := #[], guard := none }) (v := ?_) rfl (by kernel_rfl) (by kernel_rfl) (by kernel_rfl) (fun _ _ _ h => h) (Or.inl ⟨by rfl, ?_⟩) hH0 ?_
              rotate_left
              · intro w' hSw; (try dsimp only at hSw)
                go_simp
                try with_reducible rfl
              (try simp only [Act.put, List.setIfInBounds_toArray, List.set_cons_zero, List.set_cons_succ])
              refine wpAnyH_take (i := 3) (oi := { dst := some 44, op := .move (.tmp 4), type := 64, pos := "ref.go:217", after := #[], guard := none }) (v := ?_) rfl (by kernel_rfl) (by kernel_rfl) (by kernel_rfl) (fun _ _ _ h => h) (Or.inl ⟨by rfl, ?_⟩) hH0 ?_
              rotate_left
              · intro w' hSw; (try dsimp only at hSw)
                go_simp
                try with_reducible rfl
              (try simp only [Act.put, List.setIfInBounds_toArray, List.set_cons_zero, List.set_cons_succ])
              refine wpAnyH_ready (rs := [1, 4]) (by kernel_rfl) (by simp) ?_
              refine AllReadyH.cons (o := { dst := some 42, op := .load 22 (.tmp 41), type := 22, pos := "ref.go:217", after := #[⟨0, .data⟩], guard := none }) rfl (fun K hK => ?_) ?_
              · go_simp
                refine hK.out _ _ ?_ (fun hH1 => ?_)
                · trivial
                clear hK K
                (try simp only [Act.put, List.setIfInBounds_toArray, List.set_cons_zero, List.set_cons_succ])
                refine wpAnyH_ready (rs := [4]) (by kernel_rfl) (by simp) ?_
                refine AllReadyH.cons (o := { dst := some 45, op := .call { callee := .value (.func 34), args := #[.tmp 44, .const (.int .i64 224)], argTypes := #[64, 3] }, type := 9, pos := "ref.go:217", after := #[⟨3, .data⟩], guard := none }) rfl (fun K hK => ?_) ?_
                · go_simp
                  go_at_call 34
                  refine (rf_text HR4.out.drew 224 H4.out).mono ?_
                  rintro e' w5 ⟨rfl, hR5, hK5⟩
                  have x5 := RF.kept (a' := 0) (e' := 0) HR4.out.drew hK5 (show w4.drew.heap[w2.heap.size]? = _ from HX4.out)
                  have HI5 := Lib.hid (R36_keepF (show Kd.R k36 36 w4.drew wb.heap.size (fun _ => True) (.slice A li.length c) li from HI4.out) HR4.out.drew hK5)
                  have q1 : w5.cell? ⟨w2.heap.size, 9, none⟩ = some (.slice A li.length c) := (blk_cell x5 9).trans rfl
                  have q2 : (w5.alloc (.cells #[.int .i64 n3, .string n4] 36)).cell? ⟨w2.heap.size, 9, none⟩ = some (.slice A li.length c) := (blk_cell (blk_alloc x5 _) 9).trans rfl
                  have HX5 := Lib.hid x5
                  have HR5 := Lib.hid hR5
                  clear x5 hR5 hK5
                  go_simp
                  refine hK.out _ _ ?_ (fun hH2 => ?_)
                  · trivial
                  clear hK K
                  (try simp only [Act.put, List.setIfInBounds_toArray, List.set_cons_zero, List.set_cons_succ])
                  refine wpAnyH_take (i := 5) (oi := { dst := some 46, op := .build 36 #[(0, .tmp 43), (1, .tmp 45)], type := 36, pos := "ref.go:217", after := #[⟨2, .data⟩, ⟨4, .data⟩], guard := none }) (v := ?_) rfl (by kernel_rfl) (by kernel_rfl) (by kernel_rfl) (fun _ _ _ h => h) (Or.inl ⟨by rfl, ?_⟩) hH2 ?_
                  rotate_left
                  · intro w' hSw; (try dsimp only at hSw)
                    go_simp
                    try with_reducible rfl
                  (try simp only [Act.put, List.setIfInBounds_toArray, List.set_cons_zero, List.set_cons_succ])
                  refine wpAnyH_ready (rs := [6]) (by kernel_rfl) (by simp) ?_
                  refine AllReadyH.cons (o := { dst := some 47, op := .buildSlice 22 1 #[(0, .tmp 46)], type := 22, pos := "ref.go:217", after := #[⟨5, .data⟩], guard := none }) rfl (fun K hK => ?_) ?_
                  · go_simp
                    refine hK.out _ _ ?_ (fun hH3 => ?_)
                    · trivial
                    clear hK K
                    (try simp only [Act.put, List.setIfInBounds_toArray, List.set_cons_zero, List.set_cons_succ])
                    refine wpAnyH_ready (rs := [7]) (by kernel_rfl) (by simp) ?_
                    refine AllReadyH.cons (o := { dst := some 48, op := .call { callee := .builtin .append, args := #[.tmp 42, .tmp 47], argTypes := #[22, 22] }, type := 22, pos := "ref.go:217", after := #[⟨1, .data⟩, ⟨6, .data⟩, ⟨4, .chain⟩], guard := none }) rfl (fun K hK => ?_) ?_
                    · skip
                      refine Kd.R_append_step k36 (w0 := wb) wb.heap.size (by rfl) (.tmp 42) (.tmp 47) 22 36 _ 24 rfl Try.underlying22 info36 rfl (by decide) (by omega) (.slice A li.length c) li ⟨n3, n4⟩ [.int .i64 n3, .string n4] (fun _ => True) (fun _ => False) rfl rfl (k36_mkM _ _ _ ⟨n3, n4⟩) (fun _ h => h.elim) (fun _ _ => trivial) HI5.out HR5.out.b HR5.out.b.size (by have := HLJ.out; omega) ?_
                      intro v6 w6 hR6 hbel6 hgr6 hat6
                      obtain ⟨A6, c6, rfl⟩ := Kd.R_slice hR6
                      have x6 := (hgr6.block w2.heap.size (blk_lt HX5.out) (own_ne HI5.out.2.choose_spec.1 HX5.out (by decide))).trans HX5.out
                      have q3 : w6.cell? ⟨w2.heap.size, 9, none⟩ = some (.slice A li.length c) := (blk_cell x6 9).trans rfl
                      have q4 := blk_frozen x6 9
                      have HX6 := Lib.hid x6
                      have HI6 := Lib.hid hR6
                      have HR6 := Lib.hid (show RF wb w6 (w.heap.size + 1) s o4 f4 from ⟨HR5.out.i.grown hgr6 (IsS66.own_ne HR5.out.i HI5.out (by decide)), hbel6, HR5.out.v⟩)
                      clear x6 hR6 hbel6 hgr6 hat6
                      refine hK.out _ _ ?_ (fun hH4 => ?_)
                      · trivial
                      clear hK K
                      (try simp only [Act.put, List.setIfInBounds_toArray, List.set_cons_zero, List.set_cons_succ])
                      refine wpAnyH_take (i := 8) (oi := { dst := some 49, op := .fieldAddr 25 (.tmp 5) 9, type := 0, pos := "ref.go:217", after := #[⟨0, .phase⟩, ⟨1, .phase⟩, ⟨2, .phase⟩, ⟨3, .phase⟩, ⟨4, .phase⟩, ⟨5, .phase⟩, ⟨6, .phase⟩, ⟨7, .phase⟩], guard := none }) (v := ?_) rfl (by kernel_rfl) (by kernel_rfl) (by kernel_rfl) (fun _ _ _ h => h) (Or.inl ⟨by rfl, ?_⟩) hH4 ?_
                      rotate_left
                      · intro w' hSw; (try dsimp only at hSw)
                        go_simp
                        try with_reducible rfl
                      (try simp only [Act.put, List.setIfInBounds_toArray, List.set_cons_zero, List.set_cons_succ])
                      refine wpAnyH_ready (rs := [9]) (by kernel_rfl) (by simp) ?_
                      refine AllReadyH.cons (o := { dst := none, op := .store 22 (.tmp 49) (.tmp 48), type := 0, pos := "ref.go:217", after := #[⟨8, .data⟩, ⟨7, .data⟩, ⟨7, .chain⟩, ⟨0, .phase⟩, ⟨1, .phase⟩, ⟨2, .phase⟩, ⟨3, .phase⟩, ⟨4, .phase⟩, ⟨5, .phase⟩, ⟨6, .phase⟩, ⟨7, .phase⟩], guard := none }) rfl (fun K hK => ?_) ?_
                      · go_simp
                        refine hK.out _ _ ?_ (fun hH5 => ?_)
                        · trivial
                        clear hK K
                        (try simp only [Act.put, List.setIfInBounds_toArray, List.set_cons_zero, List.set_cons_succ])
                        refine wpAnyH_done (by kernel_rfl) ?_ _
                        go_wp2
                        go_roundw
                        case rel => exact ⟨j + 1, li ++ [⟨n3, n4⟩], o4, f4, A6, c6, HJ.out, by go_num, by rw [List.length_append]; have := HLJ.out; simp; omega, RF.set HR6.out HX6.out HGE.out 9 _, (blk_put HX6.out 9 _ rfl).trans (by rw [List.length_append]; rfl), by rw [List.length_append]; have q := Kd.R_set HI6.out HX6.out (by decide) 9 (.slice A6 (li.length + 1) c6); rw [List.length_append] at q; exact q, HF.out⟩
                        case measure => have := HJ.out; simp [intOf]; omega
                      exact AllReadyH.nil
                    exact AllReadyH.nil
                  exact AllReadyH.nil
                exact AllReadyH.nil
              refine AllReadyH.cons (o := { dst := some 45, op := .call { callee := .value (.func 34), args := #[.tmp 44, .const (.int .i64 224)], argTypes := #[64, 3] }, type := 9, pos := "ref.go:217", after := #[⟨3, .data⟩], guard := none }) rfl (fun K hK => ?_) ?_
              · go_simp
                go_at_call 34
                refine (rf_text HR4.out.drew 224 H4.out).mono ?_
                rintro e' w5 ⟨rfl, hR5, hK5⟩
                have x5 := RF.kept (a' := 0) (e' := 0) HR4.out.drew hK5 (show w4.drew.heap[w2.heap.size]? = _ from HX4.out)
                have HI5 := Lib.hid (R36_keepF (show Kd.R k36 36 w4.drew wb.heap.size (fun _ => True) (.slice A li.length c) li from HI4.out) HR4.out.drew hK5)
                have q1 : w5.cell? ⟨w2.heap.size, 9, none⟩ = some (.slice A li.length c) := (blk_cell x5 9).trans rfl
                have q2 : (w5.alloc (.cells #[.int .i64 n3, .string n4] 36)).cell? ⟨w2.heap.size, 9, none⟩ = some (.slice A li.length c) := (blk_cell (blk_alloc x5 _) 9).trans rfl
                have HX5 := Lib.hid x5
                have HR5 := Lib.hid hR5
                clear x5 hR5 hK5
                go_simp
                refine hK.out _ _ ?_ (fun hH6 => ?_)
                · trivial
                clear hK K
                (try simp only [Act.put, List.setIfInBounds_toArray, List.set_cons_zero, List.set_cons_succ])
                refine wpAnyH_take (i := 5) (oi := { dst := some 46, op := .build 36 #[(0, .tmp 43), (1, .tmp 45)], type := 36, pos := "ref.go:217", after := #[⟨2, .data⟩, ⟨4, .data⟩], guard := none }) (v := ?_) rfl (by kernel_rfl) (by kernel_rfl) (by kernel_rfl) (fun _ _ _ h => h) (Or.inl ⟨by rfl, ?_⟩) hH6 ?_
                rotate_left
                · intro w' hSw; (try dsimp only at hSw)
                  go_simp
                  try with_reducible rfl
                (try simp only [Act.put, List.setIfInBounds_toArray, List.set_cons_zero, List.set_cons_succ])
                refine wpAnyH_ready (rs := [1, 6]) (by kernel_rfl) (by simp) ?_
                refine AllReadyH.cons (o := { dst := some 42, op := .load 22 (.tmp 41), type := 22, pos := "ref.go:217", after := #[⟨0, .data⟩], guard := none }) rfl (fun K hK => ?_) ?_
                · go_simp
                  refine hK.out _ _ ?_ (fun hH7 => ?_)
                  · trivial
                  clear hK K
                  (try simp only [Act.put, List.setIfInBounds_toArray, List.set_cons_zero, List.set_cons_succ])
                  refine wpAnyH_ready (rs := [6]) (by kernel_rfl) (by simp) ?_
                  refine AllReadyH.cons (o := { dst := some 47, op := .buildSlice 22 1 #[(0, .tmp 46)], type := 22, pos := "ref.go:217", after := #[⟨5, .data⟩], guard := none }) rfl (fun K hK => ?_) ?_
                  · go_simp
                    refine hK.out _ _ ?_ (fun hH8 => ?_)
                    · trivial
                    clear hK K
                    (try simp only [Act.put, List.setIfInBounds_toArray, List.set_cons_zero, List.set_cons_succ])
                    refine wpAnyH_ready (rs := [7]) (by kernel_rfl) (by simp) ?_
                    refine AllReadyH.cons (o := { dst := some 48, op := .call { callee := .builtin .append, args := #[.tmp 42, .tmp 47], argTypes := #[22, 22] }, type := 22, pos := "ref.go:217", after := #[⟨1, .data⟩, ⟨6, .data⟩, ⟨4, .chain⟩], guard := none }) rfl (fun K hK => ?_) ?_
                    · skip
                      refine Kd.R_append_step k36 (w0 := wb) wb.heap.size (by rfl) (.tmp 42) (.tmp 47) 22 36 _ 24 rfl Try.underlying22 info36 rfl (by decide) (by omega) (.slice A li.length c) li ⟨n3, n4⟩ [.int .i64 n3, .string n4] (fun _ => True) (fun _ => False) rfl rfl (k36_mkM _ _ _ ⟨n3, n4⟩) (fun _ h => h.elim) (fun _ _ => trivial) HI5.out HR5.out.b HR5.out.b.size (by have := HLJ.out; omega) ?_
                      intro v6 w6 hR6 hbel6 hgr6 hat6
                      obtain ⟨A6, c6, rfl⟩ := Kd.R_slice hR6
                      have x6 := (hgr6.block w2.heap.size (blk_lt HX5.out) (own_ne HI5.out.2.choose_spec.1 HX5.out (by decide))).trans HX5.out
                      have q3 : w6.cell? ⟨w2.heap.size, 9, none⟩ = some (.slice A li.length c) := (blk_cell x6 9).trans rfl
                      have q4 := blk_frozen x6 9
                      have HX6 := Lib.hid x6
                      have HI6 := Lib.hid hR6
                      have HR6 := Lib.hid (show RF wb w6 (w.heap.size + 1) s o4 f4 from ⟨HR5.out.i.grown hgr6 (IsS66.own_ne HR5.out.i HI5.out (by decide)), hbel6, HR5.out.v⟩)
                      clear x6 hR6 hbel6 hgr6 hat6
                      refine hK.out _ _ ?_ (fun hH9 => ?_)
                      · trivial
                      clear hK K
                      (try simp only [Act.put, List.setIfInBounds_toArray, List.set_cons_zero, List.set_cons_succ])
                      refine wpAnyH_take (i := 8) (oi := { dst := some 49, op := .fieldAddr 25 (.tmp 5) 9, type := 0, pos := "ref.go:217", after := #[⟨0, .phase⟩, ⟨1, .phase⟩, ⟨2, .phase⟩, ⟨3, .phase⟩, ⟨4, .phase⟩, ⟨5, .phase⟩, ⟨6, .phase⟩, ⟨7, .phase⟩], guard := none }) (v := ?_) rfl (by kernel_rfl) (by kernel_rfl) (by kernel_rfl) (fun _ _ _ h => h) (Or.inl ⟨by rfl, ?_⟩) hH9 ?_
                      rotate_left
                      · intro w' hSw; (try dsimp only at hSw)
                        go_simp
                        try with_reducible rfl
                      (try simp only [Act.put, List.setIfInBounds_toArray, List.set_cons_zero, List.set_cons_succ])
                      refine wpAnyH_ready (rs := [9]) (by kernel_rfl) (by simp) ?_
                      refine AllReadyH.cons (o := { dst := none, op := .store 22 (.tmp 49) (.tmp 48), type := 0, pos := "ref.go:217", after := #[⟨8, .data⟩, ⟨7, .data⟩, ⟨7, .chain⟩, ⟨0, .phase⟩, ⟨1, .phase⟩, ⟨2, .phase⟩, ⟨3, .phase⟩, ⟨4, .phase⟩, ⟨5, .phase⟩, ⟨6, .phase⟩, ⟨7, .phase⟩], guard := none }) rfl (fun K hK => ?_) ?_
                      · go_simp
                        refine hK.out _ _ ?_ (fun hH10 => ?_)
                        · trivial
                        clear hK K
                        (try simp only [Act.put, List.setIfInBounds_toArray, List.set_cons_zero, List.set_cons_succ])
                        refine wpAnyH_done (by kernel_rfl) ?_ _
                        go_wp2
                        go_roundw
                        case rel => exact ⟨j + 1, li ++ [⟨n3, n4⟩], o4, f4, A6, c6, HJ.out, by go_num, by rw [List.length_append]; have := HLJ.out; simp; omega, RF.set HR6.out HX6.out HGE.out 9 _, (blk_put HX6.out 9 _ rfl).trans (by rw [List.length_append]; rfl), by rw [List.length_append]; have q := Kd.R_set HI6.out HX6.out (by decide) 9 (.slice A6 (li.length + 1) c6); rw [List.length_append] at q; exact q, HF.out⟩
                        case measure => have := HJ.out; simp [intOf]; omega
                      exact AllReadyH.nil
                    exact AllReadyH.nil
                  exact AllReadyH.nil
                refine AllReadyH.cons (o := { dst := some 47, op := .buildSlice 22 1 #[(0, .tmp 46)], type := 22, pos := "ref.go:217", after := #[⟨5, .data⟩], guard := none }) rfl (fun K hK => ?_) ?_
                · go_simp
                  refine hK.out _ _ ?_ (fun hH11 => ?_)
                  · trivial
                  clear hK K
                  (try simp only [Act.put, List.setIfInBounds_toArray, List.set_cons_zero, List.set_cons_succ])
                  refine wpAnyH_ready (rs := [1]) (by kernel_rfl) (by simp) ?_
                  refine AllReadyH.cons (o := { dst := some 42, op := .load 22 (.tmp 41), type := 22, pos := "ref.go:217", after := #[⟨0, .data⟩], guard := none }) rfl (fun K hK => ?_) ?_
                  · go_simp
                    refine hK.out _ _ ?_ (fun hH12 => ?_)
                    · trivial
                    clear hK K
                    (try simp only [Act.put, List.setIfInBounds_toArray, List.set_cons_zero, List.set_cons_succ])
                    refine wpAnyH_ready (rs := [7]) (by kernel_rfl) (by simp) ?_
                    refine AllReadyH.cons (o := { dst := some 48, op := .call { callee := .builtin .append, args := #[.tmp 42, .tmp 47], argTypes := #[22, 22] }, type := 22, pos := "ref.go:217", after := #[⟨1, .data⟩, ⟨6, .data⟩, ⟨4, .chain⟩], guard := none }) rfl (fun K hK => ?_) ?_
                    · skip
                      refine Kd.R_append_step k36 (w0 := wb) wb.heap.size (by rfl) (.tmp 42) (.tmp 47) 22 36 _ 24 rfl Try.underlying22 info36 rfl (by decide) (by omega) (.slice A li.length c) li ⟨n3, n4⟩ [.int .i64 n3, .string n4] (fun _ => True) (fun _ => False) rfl rfl (k36_mkM _ _ _ ⟨n3, n4⟩) (fun _ h => h.elim) (fun _ _ => trivial) HI5.out HR5.out.b HR5.out.b.size (by have := HLJ.out; omega) ?_
                      intro v6 w6 hR6 hbel6 hgr6 hat6
                      obtain ⟨A6, c6, rfl⟩ := Kd.R_slice hR6
                      have x6 := (hgr6.block w2.heap.size (blk_lt HX5.out) (own_ne HI5.out.2.choose_spec.1 HX5.out (by decide))).trans HX5.out
                      have q3 : w6.cell? ⟨w2.heap.size, 9, none⟩ = some (.slice A li.length c) := (blk_cell x6 9).trans rfl
                      have q4 := blk_frozen x6 9
                      have HX6 := Lib.hid x6
                      have HI6 := Lib.hid hR6
                      have HR6 := Lib.hid (show RF wb w6 (w.heap.size + 1) s o4 f4 from ⟨HR5.out.i.grown hgr6 (IsS66.own_ne HR5.out.i HI5.out (by decide)), hbel6, HR5.out.v⟩)
                      clear x6 hR6 hbel6 hgr6 hat6
                      refine hK.out _ _ ?_ (fun hH13 => ?_)
                      · trivial
                      clear hK K
                      (try simp only [Act.put, List.setIfInBounds_toArray, List.set_cons_zero, List.set_cons_succ])
                      refine wpAnyH_take (i := 8) (oi := { dst := some 49, op := .fieldAddr 25 (.tmp 5) 9, type := 0, pos := "ref.go:217", after := #[⟨0, .phase⟩, ⟨1, .phase⟩, ⟨2, .phase⟩, ⟨3, .phase⟩, ⟨4, .phase⟩, ⟨5, .phase⟩, ⟨6, .phase⟩, ⟨7, .phase⟩], guard := none }) (v := ?_) rfl (by kernel_rfl) (by kernel_rfl) (by kernel_rfl) (fun _ _ _ h => h) (Or.inl ⟨by rfl, ?_⟩) hH13 ?_
                      rotate_left
                      · intro w' hSw; (try dsimp only at hSw)
                        go_simp
                        try with_reducible rfl
                      (try simp only [Act.put, List.setIfInBounds_toArray, List.set_cons_zero, List.set_cons_succ])
                      refine wpAnyH_ready (rs := [9]) (by kernel_rfl) (by simp) ?_
                      refine AllReadyH.cons (o := { dst := none, op := .store 22 (.tmp 49) (.tmp 48), type := 0, pos := "ref.go:217", after := #[⟨8, .data⟩, ⟨7, .data⟩, ⟨7, .chain⟩, ⟨0, .phase⟩, ⟨1, .phase⟩, ⟨2, .phase⟩, ⟨3, .phase⟩, ⟨4, .phase⟩, ⟨5, .phase⟩, ⟨6, .phase⟩, ⟨7, .phase⟩], guard := none }) rfl (fun K hK => ?_) ?_
                      · go_simp
                        refine hK.out _ _ ?_ (fun hH14 => ?_)
                        · trivial
                        clear hK K
                        (try simp only [Act.put, List.setIfInBounds_toArray, List.set_cons_zero, List.set_cons_succ])
                        refine wpAnyH_done (by kernel_rfl) ?_ _
                        go_wp2
                        go_roundw
                        case rel => exact ⟨j + 1, li ++ [⟨n3, n4⟩], o4, f4, A6, c6, HJ.out, by go_num, by rw [List.length_append]; have := HLJ.out; simp; omega, RF.set HR6.out HX6.out HGE.out 9 _, (blk_put HX6.out 9 _ rfl).trans (by rw [List.length_append]; rfl), by rw [List.length_append]; have q := Kd.R_set HI6.out HX6.out (by decide) 9 (.slice A6 (li.length + 1) c6); rw [List.length_append] at q; exact q, HF.out⟩
                        case measure => have := HJ.out; simp [intOf]; omega
                      exact AllReadyH.nil
                    exact AllReadyH.nil
                  exact AllReadyH.nil
                exact AllReadyH.nil
              exact AllReadyH.nil
            · have e3 : decide (e = 0) = false := by simpa using he
              have e4 : (e == 0) = false := by simpa using he
              rw [imgR_err s _ _ _ _ he] at hF
              simp only [Prod.mk.injEq] at hF
              obtain ⟨rfl, rfl, rfl⟩ := hF
              clear hR hX hI hlt hj hlj he
              go_wp2
              go_meet
              case rel => exact ⟨(⟨1, 0, 0, 0, 0, ⟨#[]⟩, ⟨#[]⟩, ⟨#[]⟩, 0, ⟨A, li.length, c⟩, nilS, 0, 0⟩ : RV), HRj.out, HXj.out, HIj.out, Kd.R_nil _ _ _ _ _, ⟨rfl, rfl, rfl, rfl, rfl, rfl, rfl, rfl, rfl, rfl, rfl⟩, HLj.out, by simp⟩
          · obtain rfl : j = N := by omega
            have e1 : decide ((j : Int) < (j : Int)) = false := by simp
            rw [Nat.sub_self] at hF
            unfold imgR at hF
            simp only [Prod.mk.injEq] at hF
            obtain ⟨rfl, rfl, rfl⟩ := hF
            clear hR hX hI hlt hj hlj
            go_wp2
            go_meet
            case rel => exact ⟨(⟨1, 0, 0, 0, 0, ⟨#[]⟩, ⟨#[]⟩, ⟨#[]⟩, 0, ⟨A, li.length, c⟩, nilS, 0, 0⟩ : RV), HRj.out, HXj.out, HIj.out, Kd.R_nil _ _ _ _ _, ⟨rfl, rfl, rfl, rfl, rfl, rfl, rfl, rfl, rfl, rfl, rfl⟩, HLj.out, by simp⟩
      by_cases k2 : k = 2
      · subst k2
        obtain ⟨n1, o1, f1, h1⟩ : ∃ n o f, numS s a1 0 1 = (n, o, f) := ⟨_, _, _, rfl⟩
        obtain ⟨LI, LA, LE, h2⟩ : ∃ LI LA LE, imgR s n1.toNat [] o1 f1 = (LI, LA, LE) := ⟨_, _, _, rfl⟩
        obtain rfl : G = ⟨zeroR 2, LI, [], LA, LE⟩ := by
          rw [← HG.out]
          unfold refF
          simp [h1, h2]
        have hn0 := numS_lo (s := s) (at_ := a1) 0 1
        have hn1 := num1_lt (s := s) (a := a1) (e := 0)
        rw [h1] at hn0 hn1
        simp only at hn0 hn1
        obtain ⟨N, rfl⟩ : ∃ N : Nat, n1 = N := ⟨n1.toNat, by omega⟩
        have HN := Lib.hid (show N ≤ 255 by omega)
        rw [Int.toNat_natCast] at h2
        have H1 := Lib.hid h1
        have H2 := Lib.hid h2
        clear h1 h2 hn0 hn1
        go_wp2_with (go_at_call 33; (with_reducible refine (rf_num HR2.out 1 (by decide) (by decide) H1.out).mono ?_); rintro e' w3 ⟨rfl, hR3, hK3⟩; have HX3 := Lib.hid (RF.kept (a' := 0) (e' := 0) HR2.out hK3 HX2.out); have HR3 := Lib.hid hR3; clear hR3 hK3)
        go_loopw [7] (fun i wr => ∃ (j : Nat) (li : List S36) (a e : Int) (A : Option Addr) (c : Nat), j ≤ N ∧ i = .int .i64 j ∧ li.length ≤ j ∧ RF wb wr (w.heap.size + 1) s a e ∧ wr.heap[w2.heap.size]? = some (.cells #[.int .i64 2, .int .i64 0, .int .i64 0, .int .i64 0, .int .i64 0, .string ⟨#[]⟩, .string ⟨#[]⟩, .string ⟨#[]⟩, .int .i64 0, .slice A li.length c, .slice none 0 0, .int .i64 0, .int .i64 0] 25 (0, 0)) ∧ Kd.R k36 36 wr wb.heap.size (fun _ => True) (.slice A li.length c) li ∧ imgR s (N - j) li a e = (LI, LA, LE)) (fun i _ => N - (intOf i).toNat)
        case atStart => exact ⟨0, [], o1, f1, none, 0, Nat.zero_le _, rfl, Nat.le_refl _, HR3.out, HX3.out, Kd.R_nil _ _ _ _ _, H2.out⟩
        case round =>
          obtain ⟨j, li, a, e, A, c, hj, rfl, hlj, hR, hX, hI, hF⟩ := hrel
          have re := hR.i.c2
          have HRj := Lib.hid hR
          have HXj := Lib.hid hX
          have HIj := Lib.hid hI
          have HLj := Lib.hid (show li.length ≤ 300 by have := HN.out; omega)
          by_cases hlt : j < N
          · have e1 : decide ((j : Int) < (N : Int)) = true := by simp; omega
            have e2 : decide (j < N) = true := by simpa using hlt
            by_cases he : e = 0
            · subst he
              obtain ⟨d, hd⟩ : ∃ d, N - j = d + 1 := ⟨N - j - 1, by omega⟩
              rw [hd] at hF
              unfold imgR at hF
              rw [if_pos rfl] at hF
              obtain ⟨n3, o3, f3, h3⟩ : ∃ n o f, numS s a 0 2 = (n, o, f) := ⟨_, _, _, rfl⟩
              rw [h3] at hF
              simp only at hF
              obtain ⟨n4, o4, f4, h4⟩ : ∃ n o f, textS s o3 f3 224 = (n, o, f) := ⟨_, _, _, rfl⟩
              rw [h4] at hF
              simp only at hF
              obtain rfl : d = N - (j + 1) := by omega
              have HF := Lib.hid hF
              have H3 := Lib.hid h3
              have H4 := Lib.hid h4
              have HJ := Lib.hid (show j + 1 ≤ N from hlt)
              have HLJ := Lib.hid hlj
              have hj255 : j < 255 := by have := HN.out; omega
              clear hd hF h3 h4 hR hX hI hlt hj hlj
              go_wp2_with (go_at_call 33; (with_reducible refine (rf_num HRj.out 2 (by decide) (by decide) H3.out).mono ?_); rintro e' w4 ⟨rfl, hR4, hK4⟩; have HX4 := Lib.hid (RF.kept (a' := 0) (e' := 0) HRj.out hK4 HXj.out); have HI4 := Lib.hid (R36_keepF HIj.out HRj.out hK4); have HR4 := Lib.hid hR4; clear hR4 hK4)
              have q0 : w4.cell? ⟨w2.heap.size, 9, none⟩ = some (.slice A li.length c) := (blk_cell HX4.out 9).trans rfl
              refine wp_region_held_drew (S := fun w' => True) (by kernel_rfl) trivial (fun hH0 => ?_)
              refine wpAnyH_take (i := 0) (oi := { dst := some 41, op := .fieldAddr 25 (.tmp 5) 9, type := 0, pos := "ref.go:217", after := #[], guard := none }) (v := ?_) rfl (by kernel_rfl) (by kernel_rfl) (by kernel_rfl) (fun _ _ _ h => h) (Or.inl ⟨by rfl, ?_⟩) hH0 ?_
              rotate_left
              · intro w' hSw; (try dsimp only at hSw)
                go_simp
                try with_reducible rfl
              (try simp only [Act.put, List.setIfInBounds_toArray, List.set_cons_zero, List.set_cons_succ])
              refine wpAnyH_take (i := 2) (oi := { dst := some 43, op := .move (.tmp 8), type := 3, pos := "ref.go:217", after := #[], guard := none }) (v := ?_) rfl (by kernel_rfl) (by kernel_rfl) (by kernel_rfl) (fun _ _ _ h => h) (Or.inl ⟨by rfl, ?_⟩) hH0 ?_
              rotate_left
              · intro w' hSw; (try dsimp only at hSw)
                go_simp
                try with_reducible rfl
              (try simp only [Act.put, List.setIfInBounds_toArray, List.set_cons_zero, List.set_cons_succ])
              refine wpAnyH_take (i := 3) (oi := { dst := some 44, op := .move (.tmp 4), type := 64, pos := "ref.go:217", after := #[], guard := none }) (v := ?_) rfl (by kernel_rfl) (by kernel_rfl) (by kernel_rfl) (fun _ _ _ h => h) (Or.inl ⟨by rfl, ?_⟩) hH0 ?_
              rotate_left
              · intro w' hSw; (try dsimp only at hSw)
                go_simp
                try with_reducible rfl
              (try simp only [Act.put, List.setIfInBounds_toArray, List.set_cons_zero, List.set_cons_succ])
              refine wpAnyH_ready (rs := [1, 4]) (by kernel_rfl) (by simp) ?_
              refine AllReadyH.cons (o := { dst := some 42, op := .load 22 (.tmp 41), type := 22, pos := "ref.go:217", after := #[⟨0, .data⟩], guard := none }) rfl (fun K hK => ?_) ?_
              · go_simp
                refine hK.out _ _ ?_ (fun hH1 => ?_)
                · trivial
                clear hK K
                (try simp only [Act.put, List.setIfInBounds_toArray, List.set_cons_zero, List.set_cons_succ])
                refine wpAnyH_ready (rs := [4]) (by kernel_rfl) (by simp) ?_
                refine AllReadyH.cons (o := { dst := some 45, op := .call { callee := .value (.func 34), args := #[.tmp 44, .const (.int .i64 224)], argTypes := #[64, 3] }, type := 9, pos := "ref.go:217", after := #[⟨3, .data⟩], guard := none }) rfl (fun K hK => ?_) ?_
                · go_simp
                  go_at_call 34
                  refine (rf_text HR4.out.drew 224 H4.out).mono ?_
                  rintro e' w5 ⟨rfl, hR5, hK5⟩
                  have x5 := RF.kept (a' := 0) (e' := 0) HR4.out.drew hK5 (show w4.drew.heap[w2.heap.size]? = _ from HX4.out)
                  have HI5 := Lib.hid (R36_keepF (show Kd.R k36 36 w4.drew wb.heap.size (fun _ => True) (.slice A li.length c) li from HI4.out) HR4.out.drew hK5)
                  have q1 : w5.cell? ⟨w2.heap.size, 9, none⟩ = some (.slice A li.length c) := (blk_cell x5 9).trans rfl
                  have q2 : (w5.alloc (.cells #[.int .i64 n3, .string n4] 36)).cell? ⟨w2.heap.size, 9, none⟩ = some (.slice A li.length c) := (blk_cell (blk_alloc x5 _) 9).trans rfl
                  have HX5 := Lib.hid x5
                  have HR5 := Lib.hid hR5
                  clear x5 hR5 hK5
                  go_simp
                  refine hK.out _ _ ?_ (fun hH2 => ?_)
                  · trivial
                  clear hK K
                  (try simp only [Act.put, List.setIfInBounds_toArray, List.set_cons_zero, List.set_cons_succ])
                  refine wpAnyH_take (i := 5) (oi := { dst := some 46, op := .build 36 #[(0, .tmp 43), (1, .tmp 45)], type := 36, pos := "ref.go:217", after := #[⟨2, .data⟩, ⟨4, .data⟩], guard := none }) (v := ?_) rfl (by kernel_rfl) (by kernel_rfl) (by kernel_rfl) (fun _ _ _ h => h) (Or.inl ⟨by rfl, ?_⟩) hH2 ?_
                  rotate_left
                  · intro w' hSw; (try dsimp only at hSw)
                    go_simp
                    try with_reducible rfl
                  (try simp only [Act.put, List.setIfInBounds_toArray, List.set_cons_zero, List.set_cons_succ])
                  refine wpAnyH_ready (rs := [6]) (by kernel_rfl) (by simp) ?_
                  refine AllReadyH.cons (o := { dst := some 47, op := .buildSlice 22 1 #[(0, .tmp 46)], type := 22, pos := "ref.go:217", after := #[⟨5, .data⟩], guard := none }) rfl (fun K hK => ?_) ?_
                  · go_simp
                    refine hK.out _ _ ?_ (fun hH3 => ?_)
                    · trivial
                    clear hK K
                    (try simp only [Act.put, List.setIfInBounds_toArray, List.set_cons_zero, List.set_cons_succ])
                    refine wpAnyH_ready (rs := [7]) (by kernel_rfl) (by simp) ?_
                    refine AllReadyH.cons (o := { dst := some 48, op := .call { callee := .builtin .append, args := #[.tmp 42, .tmp 47], argTypes := #[22, 22] }, type := 22, pos := "ref.go:217", after := #[⟨1, .data⟩, ⟨6, .data⟩, ⟨4, .chain⟩], guard := none }) rfl (fun K hK => ?_) ?_
                    · skip
                      refine Kd.R_append_step k36 (w0 := wb) wb.heap.size (by rfl) (.tmp 42) (.tmp 47) 22 36 _ 24 rfl Try.underlying22 info36 rfl (by decide) (by omega) (.slice A li.length c) li ⟨n3, n4⟩ [.int .i64 n3, .string n4] (fun _ => True) (fun _ => False) rfl rfl (k36_mkM _ _ _ ⟨n3, n4⟩) (fun _ h => h.elim) (fun _ _ => trivial) HI5.out HR5.out.b HR5.out.b.size (by have := HLJ.out; omega) ?_
                      intro v6 w6 hR6 hbel6 hgr6 hat6
                      obtain ⟨A6, c6, rfl⟩ := Kd.R_slice hR6
                      have x6 := (hgr6.block w2.heap.size (blk_lt HX5.out) (own_ne HI5.out.2.choose_spec.1 HX5.out (by decide))).trans HX5.out
                      have q3 : w6.cell? ⟨w2.heap.size, 9, none⟩ = some (.slice A li.length c) := (blk_cell x6 9).trans rfl
                      have q4 := blk_frozen x6 9
                      have HX6 := Lib.hid x6
                      have HI6 := Lib.hid hR6
                      have HR6 := Lib.hid (show RF wb w6 (w.heap.size + 1) s o4 f4 from ⟨HR5.out.i.grown hgr6 (IsS66.own_ne HR5.out.i HI5.out (by decide)), hbel6, HR5.out.v⟩)
                      clear x6 hR6 hbel6 hgr6 hat6
                      refine hK.out _ _ ?_ (fun hH4 => ?_)
                      · trivial
                      clear hK K
                      (try simp only [Act.put, List.setIfInBounds_toArray, List.set_cons_zero, List.set_cons_succ])
                      refine wpAnyH_take (i := 8) (oi := { dst := some 49, op := .fieldAddr 25 (.tmp 5) 9, type := 0, pos := "ref.go:217", after := #[⟨0, .phase⟩, ⟨1, .phase⟩, ⟨2, .phase⟩, ⟨3, .phase⟩, ⟨4, .phase⟩, ⟨5, .phase⟩, ⟨6, .phase⟩, ⟨7, .phase⟩], guard := none }) (v := ?_) rfl (by kernel_rfl) (by kernel_rfl) (by kernel_rfl) (fun _ _ _ h => h) (Or.inl ⟨by rfl, ?_⟩) hH4 ?_
                      rotate_left
                      · intro w' hSw; (try dsimp only at hSw)
                        go_simp
                        try with_reducible rfl
                      (try simp only [Act.put, List.setIfInBounds_toArray, List.set_cons_zero, List.set_cons_succ])
                      refine wpAnyH_ready (rs := [9]) (by kernel_rfl) (by simp) ?_
                      refine AllReadyH.cons (o := { dst := none, op := .store 22 (.tmp 49) (.tmp 48), type := 0, pos := "ref.go:217", after := #[⟨8, .data⟩, ⟨7, .data⟩, ⟨7, .chain⟩, ⟨0, .phase⟩, ⟨1, .phase⟩, ⟨2, .phase⟩, ⟨3, .phase⟩, ⟨4, .phase⟩, ⟨5, .phase⟩, ⟨6, .phase⟩, ⟨7, .phase⟩], guard := none }) rfl (fun K hK => ?_) ?_
                      · go_simp
                        refine hK.out _ _ ?_ (fun hH5 => ?_)
                        · trivial
                        clear hK K
                        (try simp only [Act.put, List.setIfInBounds_toArray, List.set_cons_zero, List.set_cons_succ])
                        refine wpAnyH_done (by kernel_rfl) ?_ _
                        go_wp2
                        go_roundw
                        case rel => exact ⟨j + 1, li ++ [⟨n3, n4⟩], o4, f4, A6, c6, HJ.out, by go_num, by rw [List.length_append]; have := HLJ.out; simp; omega, RF.set HR6.out HX6.out HGE.out 9 _, (blk_put HX6.out 9 _ rfl).trans (by rw [List.length_append]; rfl), by rw [List.length_append]; have q := Kd.R_set HI6.out HX6.out (by decide) 9 (.slice A6 (li.length + 1) c6); rw [List.length_append] at q; exact q, HF.out⟩
                        case measure => have := HJ.out; simp [intOf]; omega
                      exact AllReadyH.nil
                    exact AllReadyH.nil
                  exact AllReadyH.nil
                exact AllReadyH.nil
              refine AllReadyH.cons (o := { dst := some 45, op := .call { callee := .value (.func 34), args := #[.tmp 44, .const (.int .i64 224)], argTypes := #[64, 3] }, type := 9, pos := "ref.go:217", after := #[⟨3, .data⟩], guard := none }) rfl (fun K hK => ?_) ?_
              · go_simp
                go_at_call 34
                refine (rf_text HR4.out.drew 224 H4.out).mono ?_
                rintro e' w5 ⟨rfl, hR5, hK5⟩
                have x5 := RF.kept (a' := 0) (e' := 0) HR4.out.drew hK5 (show w4.drew.heap[w2.heap.size]? = _ from HX4.out)
                have HI5 := Lib.hid (R36_keepF (show Kd.R k36 36 w4.drew wb.heap.size (fun _ => True) (.slice A li.length c) li from HI4.out) HR4.out.drew hK5)
                have q1 : w5.cell? ⟨w2.heap.size, 9, none⟩ = some (.slice A li.length c) := (blk_cell x5 9).trans rfl
                have q2 : (w5.alloc (.cells #[.int .i64 n3, .string n4] 36)).cell? ⟨w2.heap.size, 9, none⟩ = some (.slice A li.length c) := (blk_cell (blk_alloc x5 _) 9).trans rfl
                have HX5 := Lib.hid x5
                have HR5 := Lib.hid hR5
                clear x5 hR5 hK5
                go_simp
                refine hK.out _ _ ?_ (fun hH6 => ?_)
                · trivial
                clear hK K
                (try simp only [Act.put, List.setIfInBounds_toArray, List.set_cons_zero, List.set_cons_succ])
                refine wpAnyH_take (i := 5) (oi := { dst := some 46, op := .build 36 #[(0, .tmp 43), (1, .tmp 45)], type := 36, pos := "ref.go:217", after := #[⟨2, .data⟩, ⟨4, .data⟩], guard := none }) (v := ?_) rfl (by kernel_rfl) (by kernel_rfl) (by kernel_rfl) (fun _ _ _ h => h) (Or.inl ⟨by rfl, ?_⟩) hH6 ?_
                rotate_left
                · intro w' hSw; (try dsimp only at hSw)
                  go_simp
                  try with_reducible rfl
                (try simp only [Act.put, List.setIfInBounds_toArray, List.set_cons_zero, List.set_cons_succ])
                refine wpAnyH_ready (rs := [1, 6]) (by kernel_rfl) (by simp) ?_
                refine AllReadyH.cons (o := { dst := some 42, op := .load 22 (.tmp 41), type := 22, pos := "ref.go:217", after := #[⟨0, .data⟩], guard := none }) rfl (fun K hK => ?_) ?_
                · go_simp
                  refine hK.out _ _ ?_ (fun hH7 => ?_)
                  · trivial
                  clear hK K
                  (try simp only [Act.put, List.setIfInBounds_toArray, List.set_cons_zero, List.set_cons_succ])
                  refine wpAnyH_ready (rs := [6]) (by kernel_rfl) (by simp) ?_
                  refine AllReadyH.cons (o := { dst := some 47, op := .buildSlice 22 1 #[(0, .tmp 46)], type := 22, pos := "ref.go:217", after := #[⟨5, .data⟩], guard := none }) rfl (fun K hK => ?_) ?_
                  · go_simp
                    refine hK.out _ _ ?_ (fun hH8 => ?_)
                    · trivial
                    clear hK K
                    (try simp only [Act.put, List.setIfInBounds_toArray, List.set_cons_zero, List.set_cons_succ])
                    refine wpAnyH_ready (rs := [7]) (by kernel_rfl) (by simp) ?_
                    refine AllReadyH.cons (o := { dst := some 48, op := .call { callee := .builtin .append, args := #[.tmp 42, .tmp 47], argTypes := #[22, 22] }, type := 22, pos := "ref.go:217", after := #[⟨1, .data⟩, ⟨6, .data⟩, ⟨4, .chain⟩], guard := none }) rfl (fun K hK => ?_) ?_
                    · skip
                      refine Kd.R_append_step k36 (w0 := wb) wb.heap.size (by rfl) (.tmp 42) (.tmp 47) 22 36 _ 24 rfl Try.underlying22 info36 rfl (by decide) (by omega) (.slice A li.length c) li ⟨n3, n4⟩ [.int .i64 n3, .string n4] (fun _ => True) (fun _ => False) rfl rfl (k36_mkM _ _ _ ⟨n3, n4⟩) (fun _ h => h.elim) (fun _ _ => trivial) HI5.out HR5.out.b HR5.out.b.size (by have := HLJ.out; omega) ?_
                      intro v6 w6 hR6 hbel6 hgr6 hat6
                      obtain ⟨A6, c6, rfl⟩ := Kd.R_slice hR6
                      have x6 := (hgr6.block w2.heap.size (blk_lt HX5.out) (own_ne HI5.out.2.choose_spec.1 HX5.out (by decide))).trans HX5.out
                      have q3 : w6.cell? ⟨w2.heap.size, 9, none⟩ = some (.slice A li.length c) := (blk_cell x6 9).trans rfl
                      have q4 := blk_frozen x6 9
                      have HX6 := Lib.hid x6
                      have HI6 := Lib.hid hR6
                      have HR6 := Lib.hid (show RF wb w6 (w.heap.size + 1) s o4 f4 from ⟨HR5.out.i.grown hgr6 (IsS66.own_ne HR5.out.i HI5.out (by decide)), hbel6, HR5.out.v⟩)
                      clear x6 hR6 hbel6 hgr6 hat6
                      refine hK.out _ _ ?_ (fun hH9 => ?_)
                      · trivial
                      clear hK K
                      (try simp only [Act.put, List.setIfInBounds_toArray, List.set_cons_zero, List.set_cons_succ])
                      refine wpAnyH_take (i := 8) (oi := { dst := some 49, op := .fieldAddr 25 (.tmp 5) 9, type := 0, pos := "ref.go:217", after := #[⟨0, .phase⟩, ⟨1, .phase⟩, ⟨2, .phase⟩, ⟨3, .phase⟩, ⟨4, .phase⟩, ⟨5, .phase⟩, ⟨6, .phase⟩, ⟨7, .phase⟩], guard := none }) (v := ?_) rfl (by kernel_rfl) (by kernel_rfl) (by kernel_rfl) (fun _ _ _ h => h) (Or.inl ⟨by rfl, ?_⟩) hH9 ?_
                      rotate_left
                      · intro w' hSw; (try dsimp only at hSw)
                        go_simp
                        try with_reducible rfl
                      (try simp only [Act.put, List.setIfInBounds_toArray, List.set_cons_zero, List.set_cons_succ])
                      refine wpAnyH_ready (rs := [9]) (by kernel_rfl) (by simp) ?_
                      refine AllReadyH.cons (o := { dst := none, op := .store 22 (.tmp 49) (.tmp 48), type := 0, pos := "ref.go:217", after := #[⟨8, .data⟩, ⟨7, .data⟩, ⟨7, .chain⟩, ⟨0, .phase⟩, ⟨1, .phase⟩, ⟨2, .phase⟩, ⟨3, .phase⟩, ⟨4, .phase⟩, ⟨5, .phase⟩, ⟨6, .phase⟩, ⟨7, .phase⟩], guard := none }) rfl (fun K hK => ?_) ?_
                      · go_simp
                        refine hK.out _ _ ?_ (fun hH10 => ?_)
                        · trivial
                        clear hK K
                        (try simp only [Act.put, List.setIfInBounds_toArray, List.set_cons_zero, List.set_cons_succ])
                        refine wpAnyH_done (by kernel_rfl) ?_ _
                        go_wp2
                        go_roundw
                        case rel => exact ⟨j + 1, li ++ [⟨n3, n4⟩], o4, f4, A6, c6, HJ.out, by go_num, by rw [List.length_append]; have := HLJ.out; simp; omega, RF.set HR6.out HX6.out HGE.out 9 _, (blk_put HX6.out 9 _ rfl).trans (by rw [List.length_append]; rfl), by rw [List.length_append]; have q := Kd.R_set HI6.out HX6.out (by decide) 9 (.slice A6 (li.length + 1) c6); rw [List.length_append] at q; exact q, HF.out⟩
                        case measure => have := HJ.out; simp [intOf]; omega
                      exact AllReadyH.nil
                    exact AllReadyH.nil
                  exact AllReadyH.nil
                refine AllReadyH.cons (o := { dst := some 47, op := .buildSlice 22 1 #[(0, .tmp 46)], type := 22, pos := "ref.go:217", after := #[⟨5, .data⟩], guard := none }) rfl (fun K hK => ?_) ?_
                · go_simp
                  refine hK.out _ _ ?_ (fun hH11 => ?_)
                  · trivial
                  clear hK K
                  (try simp only [Act.put, List.setIfInBounds_toArray, List.set_cons_zero, List.set_cons_succ])
                  refine wpAnyH_ready (rs := [1]) (by kernel_rfl) (by simp) ?_
                  refine AllReadyH.cons (o := { dst := some 42, op := .load 22 (.tmp 41), type := 22, pos := "ref.go:217", after := #[⟨0, .data⟩], guard := none }) rfl (fun K hK => ?_) ?_
                  · go_simp
                    refine hK.out _ _ ?_ (fun hH12 => ?_)
                    · trivial
                    clear hK K
                    (try simp only [Act.put, List.setIfInBounds_toArray, List.set_cons_zero, List.set_cons_succ])
                    refine wpAnyH_ready (rs := [7]) (by kernel_rfl) (by simp) ?_
                    refine AllReadyH.cons (o := { dst := some 48, op := .call { callee := .builtin .append, args := #[.tmp 42, .tmp 47], argTypes := #[22, 22] }, type := 22, pos := "ref.go:217", after := #[⟨1, .data⟩, ⟨6, .data⟩, ⟨4, .chain⟩], guard := none }) rfl (fun K hK => ?_) ?_
                    · skip
                      refine Kd.R_append_step k36 (w0 := wb) wb.heap.size (by rfl) (.tmp 42) (.tmp 47) 22 36 _ 24 rfl Try.underlying22 info36 rfl (by decide) (by omega) (.slice A li.length c) li ⟨n3, n4⟩ [.int .i64 n3, .string n4] (fun _ => True) (fun _ => False) rfl rfl (k36_mkM _ _ _ ⟨n3, n4⟩) (fun _ h => h.elim) (fun _ _ => trivial) HI5.out HR5.out.b HR5.out.b.size (by have := HLJ.out; omega) ?_
                      intro v6 w6 hR6 hbel6 hgr6 hat6
                      obtain ⟨A6, c6, rfl⟩ := Kd.R_slice hR6
                      have x6 := (hgr6.block w2.heap.size (blk_lt HX5.out) (own_ne HI5.out.2.choose_spec.1 HX5.out (by decide))).trans HX5.out
                      have q3 : w6.cell? ⟨w2.heap.size, 9, none⟩ = some (.slice A li.length c) := (blk_cell x6 9).trans rfl
                      have q4 := blk_frozen x6 9
                      have HX6 := Lib.hid x6
                      have HI6 := Lib.hid hR6
                      have HR6 := Lib.hid (show RF wb w6 (w.heap.size + 1) s o4 f4 from ⟨HR5.out.i.grown hgr6 (IsS66.own_ne HR5.out.i HI5.out (by decide)), hbel6, HR5.out.v⟩)
                      clear x6 hR6 hbel6 hgr6 hat6
                      refine hK.out _ _ ?_ (fun hH13 => ?_)
                      · trivial
                      clear hK K
                      (try simp only [Act.put, List.setIfInBounds_toArray, List.set_cons_zero, List.set_cons_succ])
                      refine wpAnyH_take (i := 8) (oi := { dst := some 49, op := .fieldAddr 25 (.tmp 5) 9, type := 0, pos := "ref.go:217", after := #[⟨0, .phase⟩, ⟨1, .phase⟩, ⟨2, .phase⟩, ⟨3, .phase⟩, ⟨4, .phase⟩, ⟨5, .phase⟩, ⟨6, .phase⟩, ⟨7, .phase⟩], guard := none }) (v := ?_) rfl (by kernel_rfl) (by kernel_rfl) (by kernel_rfl) (fun _ _ _ h => h) (Or.inl ⟨by rfl, ?_⟩) hH13 ?_
                      rotate_left
                      · intro w' hSw; (try dsimp only at hSw)
                        go_simp
                        try with_reducible rfl
                      (try simp only [Act.put, List.setIfInBounds_toArray, List.set_cons_zero, List.set_cons_succ])
                      refine wpAnyH_ready (rs := [9]) (by kernel_rfl) (by simp) ?_
                      refine AllReadyH.cons (o := { dst := none, op := .store 22 (.tmp 49) (.tmp 48), type := 0, pos := "ref.go:217", after := #[⟨8, .data⟩, ⟨7, .data⟩, ⟨7, .chain⟩, ⟨0, .phase⟩, ⟨1, .phase⟩, ⟨2, .phase⟩, ⟨3, .phase⟩, ⟨4, .phase⟩, ⟨5, .phase⟩, ⟨6, .phase⟩, ⟨7, .phase⟩], guard := none }) rfl (fun K hK => ?_) ?_
                      · go_simp
                        refine hK.out _ _ ?_ (fun hH14 => ?_)
                        · trivial
                        clear hK K
                        (try simp only [Act.put, List.setIfInBounds_toArray, List.set_cons_zero, List.set_cons_succ])
                        refine wpAnyH_done (by kernel_rfl) ?_ _
                        go_wp2
                        go_roundw
                        case rel => exact ⟨j + 1, li ++ [⟨n3, n4⟩], o4, f4, A6, c6, HJ.out, by go_num, by rw [List.length_append]; have := HLJ.out; simp; omega, RF.set HR6.out HX6.out HGE.out 9 _, (blk_put HX6.out 9 _ rfl).trans (by rw [List.length_append]; rfl), by rw [List.length_append]; have q := Kd.R_set HI6.out HX6.out (by decide) 9 (.slice A6 (li.length + 1) c6); rw [List.length_append] at q; exact q, HF.out⟩
                        case measure => have := HJ.out; simp [intOf]; omega
                      exact AllReadyH.nil
                    exact AllReadyH.nil
                  exact AllReadyH.nil
                exact AllReadyH.nil
              exact AllReadyH.nil
            · have e3 : decide (e = 0) = false := by simpa using he
              have e4 : (e == 0) = false := by simpa using he
              rw [imgR_err s _ _ _ _ he] at hF
              simp only [Prod.mk.injEq] at hF
              obtain ⟨rfl, rfl, rfl⟩ := hF
              clear hR hX hI hlt hj hlj he
              go_wp2
              go_meet
              case rel => exact ⟨(⟨2, 0, 0, 0, 0, ⟨#[]⟩, ⟨#[]⟩, ⟨#[]⟩, 0, ⟨A, li.length, c⟩, nilS, 0, 0⟩ : RV), HRj.out, HXj.out, HIj.out, Kd.R_nil _ _ _ _ _, ⟨rfl, rfl, rfl, rfl, rfl, rfl, rfl, rfl, rfl, rfl, rfl⟩, HLj.out, by simp⟩
          · obtain rfl : j = N := by omega
            have e1 : decide ((j : Int) < (j : Int)) = false := by simp
            rw [Nat.sub_self] at hF
            unfold imgR at hF
            simp only [Prod.mk.injEq] at hF
            obtain ⟨rfl, rfl, rfl⟩ := hF
            clear hR hX hI hlt hj hlj
            go_wp2
            go_meet
            case rel => exact ⟨(⟨2, 0, 0, 0, 0, ⟨#[]⟩, ⟨#[]⟩, ⟨#[]⟩, 0, ⟨A, li.length, c⟩, nilS, 0, 0⟩ : RV), HRj.out, HXj.out, HIj.out, Kd.R_nil _ _ _ _ _, ⟨rfl, rfl, rfl, rfl, rfl, rfl, rfl, rfl, rfl, rfl, rfl⟩, HLj.out, by simp⟩
      by_cases k3 : k = 3
      · subst k3
        obtain ⟨n1, o1, f1, h1⟩ : ∃ n o f, numS s a1 0 6 = (n, o, f) := ⟨_, _, _, rfl⟩
        obtain ⟨n2, o2, f2, h2⟩ : ∃ n o f, numS s o1 f1 6 = (n, o, f) := ⟨_, _, _, rfl⟩
        obtain ⟨n3, o3, f3, h3⟩ : ∃ n o f, numS s o2 f2 2 = (n, o, f) := ⟨_, _, _, rfl⟩
        obtain ⟨n4, o4, f4, h4⟩ : ∃ n o f, textS s o3 f3 16 = (n, o, f) := ⟨_, _, _, rfl⟩
        obtain ⟨n5, o5, f5, h5⟩ : ∃ n o f, textS s o4 f4 32 = (n, o, f) := ⟨_, _, _, rfl⟩
        obtain rfl : G = ⟨(⟨3, n1, n2, n3, 0, n4, ⟨#[]⟩, n5, 0, nilS, nilS, 0, 0⟩ : RV), [], [], o5, f5⟩ := by
          rw [← HG.out]
          unfold refF readF chgS
          simp [h1, h2, h3, h4, h5, zeroR]
        have H1 := Lib.hid h1
        have H2 := Lib.hid h2
        have H3 := Lib.hid h3
        have H4 := Lib.hid h4
        have H5 := Lib.hid h5
        clear h1 h2 h3 h4 h5
        go_wp2_with (first
          | (refine wpList_store_row rfl 25 _ _ rfl w2.heap.size #[.int .i64 3, .int .i64 n1, .int .i64 n2, .int .i64 n3, .int .i64 0, .string n4, .string ⟨#[]⟩, .string n5, .int .i64 0, .slice none 0 0, .slice none 0 0, .int .i64 0, .int .i64 0] rfl rfl 25 _ HX9.out (hinfo25 (⟨3, n1, n2, n3, 0, n4, ⟨#[]⟩, n5, 0, nilS, nilS, 0, 0⟩ : RV)) rfl (rv_one (⟨3, n1, n2, n3, 0, n4, ⟨#[]⟩, n5, 0, nilS, nilS, 0, 0⟩ : RV)) ?_)
          | (go_at_call 35; (with_reducible refine (rfchg_3 3 n1 n2 0 0 ⟨#[]⟩ ⟨#[]⟩ ⟨#[]⟩ 0 none 0 0 none 0 0 0 0 3 HR4.out rfl H3.out H4.out H5.out).mono ?_); rintro e' w9 ⟨rfl, hR9, hK9⟩; have HX9 := Lib.hid (RF.kept (a' := 0) (e' := 0) HR4.out hK9 HX4.out); have HR9 := Lib.hid hR9; clear hR9 hK9)
          | (refine wpList_load_row rfl 25 _ rfl w2.heap.size rfl 25 #[.int .i64 3, .int .i64 n1, .int .i64 n2, .int .i64 0, .int .i64 0, .string ⟨#[]⟩, .string ⟨#[]⟩, .string ⟨#[]⟩, .int .i64 0, .slice none 0 0, .slice none 0 0, .int .i64 0, .int .i64 0] (0, 0) _ HX4.out Try.underlying25 rfl (hinfo25 (⟨3, n1, n2, 0, 0, ⟨#[]⟩, ⟨#[]⟩, ⟨#[]⟩, 0, nilS, nilS, 0, 0⟩ : RV)) ?_)
          | (go_at_call 33; (with_reducible refine (rf_num HR3.out 6 (by decide) (by decide) H2.out).mono ?_); rintro e' w4 ⟨rfl, hR4, hK4⟩; have x4 := RF.kept (a' := 0) (e' := 0) HR3.out hK4 HX3.out; have zf4 := blk_frozen x4 2; have zc4 : w4.cell? ⟨w2.heap.size, 2, none⟩ = some (.int .i64 0) := (blk_cell x4 2).trans rfl; have y4 : (w4.setCell ⟨w2.heap.size, 2, none⟩ (.int .i64 n2)).heap[w2.heap.size]? = some (.cells #[.int .i64 3, .int .i64 n1, .int .i64 n2, .int .i64 0, .int .i64 0, .string ⟨#[]⟩, .string ⟨#[]⟩, .string ⟨#[]⟩, .int .i64 0, .slice none 0 0, .slice none 0 0, .int .i64 0, .int .i64 0] 25 (0, 0)) := blk_put x4 2 _ rfl; have HR4 := Lib.hid (RF.set hR4 x4 HGE.out 2 (.int .i64 n2)); have HX4 := Lib.hid y4; have yc4_0 : (w4.setCell ⟨w2.heap.size, 2, none⟩ (.int .i64 n2)).cell? ⟨w2.heap.size, 0, none⟩ = some (.int .i64 3) := (blk_cell y4 0).trans rfl; have yc4_4 : (w4.setCell ⟨w2.heap.size, 2, none⟩ (.int .i64 n2)).cell? ⟨w2.heap.size, 4, none⟩ = some (.int .i64 0) := (blk_cell y4 4).trans rfl; clear x4 y4 hR4 hK4)
          | (go_at_call 33; (with_reducible refine (rf_num HR2.out 6 (by decide) (by decide) H1.out).mono ?_); rintro e' w3 ⟨rfl, hR3, hK3⟩; have x3 := RF.kept (a' := 0) (e' := 0) HR2.out hK3 HX2.out; have zf3 := blk_frozen x3 1; have zc3 : w3.cell? ⟨w2.heap.size, 1, none⟩ = some (.int .i64 0) := (blk_cell x3 1).trans rfl; have y3 : (w3.setCell ⟨w2.heap.size, 1, none⟩ (.int .i64 n1)).heap[w2.heap.size]? = some (.cells #[.int .i64 3, .int .i64 n1, .int .i64 0, .int .i64 0, .int .i64 0, .string ⟨#[]⟩, .string ⟨#[]⟩, .string ⟨#[]⟩, .int .i64 0, .slice none 0 0, .slice none 0 0, .int .i64 0, .int .i64 0] 25 (0, 0)) := blk_put x3 1 _ rfl; have HR3 := Lib.hid (RF.set hR3 x3 HGE.out 1 (.int .i64 n1)); have HX3 := Lib.hid y3; have yc3_0 : (w3.setCell ⟨w2.heap.size, 1, none⟩ (.int .i64 n1)).cell? ⟨w2.heap.size, 0, none⟩ = some (.int .i64 3) := (blk_cell y3 0).trans rfl; have yc3_4 : (w3.setCell ⟨w2.heap.size, 1, none⟩ (.int .i64 n1)).cell? ⟨w2.heap.size, 4, none⟩ = some (.int .i64 0) := (blk_cell y3 4).trans rfl; clear x3 y3 hR3 hK3))
        go_meet
        case rel => exact ⟨(⟨3, n1, n2, n3, 0, n4, ⟨#[]⟩, n5, 0, nilS, nilS, 0, 0⟩ : RV), RF.row HR9.out HX9.out HGE.out _, set_new HX9.out, Kd.R_nil _ _ _ _ _, Kd.R_nil _ _ _ _ _, SameV.refl _, by simp, by simp⟩
      by_cases k4 : k = 4
      · subst k4
        obtain ⟨n1, o1, f1, h1⟩ : ∃ n o f, numS s a1 0 6 = (n, o, f) := ⟨_, _, _, rfl⟩
        obtain ⟨n2, o2, f2, h2⟩ : ∃ n o f, numS s o1 f1 6 = (n, o, f) := ⟨_, _, _, rfl⟩
        obtain ⟨n3, o3, f3, h3⟩ : ∃ n o f, numS s o2 f2 2 = (n, o, f) := ⟨_, _, _, rfl⟩
        obtain ⟨n4, o4, f4, h4⟩ : ∃ n o f, textS s o3 f3 16 = (n, o, f) := ⟨_, _, _, rfl⟩
        obtain ⟨n5, o5, f5, h5⟩ : ∃ n o f, textS s o4 f4 32 = (n, o, f) := ⟨_, _, _, rfl⟩
        obtain rfl : G = ⟨(⟨4, n1, n2, n3, 0, n4, n5, ⟨#[]⟩, 0, nilS, nilS, 0, 0⟩ : RV), [], [], o5, f5⟩ := by
          rw [← HG.out]
          unfold refF readF chgS
          simp [h1, h2, h3, h4, h5, zeroR]
        have H1 := Lib.hid h1
        have H2 := Lib.hid h2
        have H3 := Lib.hid h3
        have H4 := Lib.hid h4
        have H5 := Lib.hid h5
        clear h1 h2 h3 h4 h5
        go_wp2_with (first
          | (refine wpList_store_row rfl 25 _ _ rfl w2.heap.size #[.int .i64 4, .int .i64 n1, .int .i64 n2, .int .i64 n3, .int .i64 0, .string n4, .string n5, .string ⟨#[]⟩, .int .i64 0, .slice none 0 0, .slice none 0 0, .int .i64 0, .int .i64 0] rfl rfl 25 _ HX9.out (hinfo25 (⟨4, n1, n2, n3, 0, n4, n5, ⟨#[]⟩, 0, nilS, nilS, 0, 0⟩ : RV)) rfl (rv_one (⟨4, n1, n2, n3, 0, n4, n5, ⟨#[]⟩, 0, nilS, nilS, 0, 0⟩ : RV)) ?_)
          | (go_at_call 35; (with_reducible refine (rfchg_4 4 n1 n2 0 0 ⟨#[]⟩ ⟨#[]⟩ ⟨#[]⟩ 0 none 0 0 none 0 0 0 0 4 HR4.out rfl H3.out H4.out H5.out).mono ?_); rintro e' w9 ⟨rfl, hR9, hK9⟩; have HX9 := Lib.hid (RF.kept (a' := 0) (e' := 0) HR4.out hK9 HX4.out); have HR9 := Lib.hid hR9; clear hR9 hK9)
          | (refine wpList_load_row rfl 25 _ rfl w2.heap.size rfl 25 #[.int .i64 4, .int .i64 n1, .int .i64 n2, .int .i64 0, .int .i64 0, .string ⟨#[]⟩, .string ⟨#[]⟩, .string ⟨#[]⟩, .int .i64 0, .slice none 0 0, .slice none 0 0, .int .i64 0, .int .i64 0] (0, 0) _ HX4.out Try.underlying25 rfl (hinfo25 (⟨4, n1, n2, 0, 0, ⟨#[]⟩, ⟨#[]⟩, ⟨#[]⟩, 0, nilS, nilS, 0, 0⟩ : RV)) ?_)
          | (go_at_call 33; (with_reducible refine (rf_num HR3.out 6 (by decide) (by decide) H2.out).mono ?_); rintro e' w4 ⟨rfl, hR4, hK4⟩; have x4 := RF.kept (a' := 0) (e' := 0) HR3.out hK4 HX3.out; have zf4 := blk_frozen x4 2; have zc4 : w4.cell? ⟨w2.heap.size, 2, none⟩ = some (.int .i64 0) := (blk_cell x4 2).trans rfl; have y4 : (w4.setCell ⟨w2.heap.size, 2, none⟩ (.int .i64 n2)).heap[w2.heap.size]? = some (.cells #[.int .i64 4, .int .i64 n1, .int .i64 n2, .int .i64 0, .int .i64 0, .string ⟨#[]⟩, .string ⟨#[]⟩, .string ⟨#[]⟩, .int .i64 0, .slice none 0 0, .slice none 0 0, .int .i64 0, .int .i64 0] 25 (0, 0)) := blk_put x4 2 _ rfl; have HR4 := Lib.hid (RF.set hR4 x4 HGE.out 2 (.int .i64 n2)); have HX4 := Lib.hid y4; have yc4_0 : (w4.setCell ⟨w2.heap.size, 2, none⟩ (.int .i64 n2)).cell? ⟨w2.heap.size, 0, none⟩ = some (.int .i64 4) := (blk_cell y4 0).trans rfl; have yc4_4 : (w4.setCell ⟨w2.heap.size, 2, none⟩ (.int .i64 n2)).cell? ⟨w2.heap.size, 4, none⟩ = some (.int .i64 0) := (blk_cell y4 4).trans rfl; clear x4 y4 hR4 hK4)
          | (go_at_call 33; (with_reducible refine (rf_num HR2.out 6 (by decide) (by decide) H1.out).mono ?_); rintro e' w3 ⟨rfl, hR3, hK3⟩; have x3 := RF.kept (a' := 0) (e' := 0) HR2.out hK3 HX2.out; have zf3 := blk_frozen x3 1; have zc3 : w3.cell? ⟨w2.heap.size, 1, none⟩ = some (.int .i64 0) := (blk_cell x3 1).trans rfl; have y3 : (w3.setCell ⟨w2.heap.size, 1, none⟩ (.int .i64 n1)).heap[w2.heap.size]? = some (.cells #[.int .i64 4, .int .i64 n1, .int .i64 0, .int .i64 0, .int .i64 0, .string ⟨#[]⟩, .string ⟨#[]⟩, .string ⟨#[]⟩, .int .i64 0, .slice none 0 0, .slice none 0 0, .int .i64 0, .int .i64 0] 25 (0, 0)) := blk_put x3 1 _ rfl; have HR3 := Lib.hid (RF.set hR3 x3 HGE.out 1 (.int .i64 n1)); have HX3 := Lib.hid y3; have yc3_0 : (w3.setCell ⟨w2.heap.size, 1, none⟩ (.int .i64 n1)).cell? ⟨w2.heap.size, 0, none⟩ = some (.int .i64 4) := (blk_cell y3 0).trans rfl; have yc3_4 : (w3.setCell ⟨w2.heap.size, 1, none⟩ (.int .i64 n1)).cell? ⟨w2.heap.size, 4, none⟩ = some (.int .i64 0) := (blk_cell y3 4).trans rfl; clear x3 y3 hR3 hK3))
        go_meet
        case rel => exact ⟨(⟨4, n1, n2, n3, 0, n4, n5, ⟨#[]⟩, 0, nilS, nilS, 0, 0⟩ : RV), RF.row HR9.out HX9.out HGE.out _, set_new HX9.out, Kd.R_nil _ _ _ _ _, Kd.R_nil _ _ _ _ _, SameV.refl _, by simp, by simp⟩
      by_cases k5 : k = 5
      · subst k5
        obtain ⟨n1, o1, f1, h1⟩ : ∃ n o f, numS s a1 0 6 = (n, o, f) := ⟨_, _, _, rfl⟩
        obtain ⟨n2, o2, f2, h2⟩ : ∃ n o f, numS s o1 f1 6 = (n, o, f) := ⟨_, _, _, rfl⟩
        obtain ⟨n3, o3, f3, h3⟩ : ∃ n o f, numS s o2 f2 2 = (n, o, f) := ⟨_, _, _, rfl⟩
        obtain ⟨n4, o4, f4, h4⟩ : ∃ n o f, textS s o3 f3 16 = (n, o, f) := ⟨_, _, _, rfl⟩
        obtain ⟨n5, o5, f5, h5⟩ : ∃ n o f, textS s o4 f4 32 = (n, o, f) := ⟨_, _, _, rfl⟩
        obtain ⟨n6, o6, f6, h6⟩ : ∃ n o f, textS s o5 f5 32 = (n, o, f) := ⟨_, _, _, rfl⟩
        obtain rfl : G = ⟨(⟨5, n1, n2, n3, 0, n4, n5, n6, 0, nilS, nilS, 0, 0⟩ : RV), [], [], o6, f6⟩ := by
          rw [← HG.out]
          unfold refF readF chgS
          simp [h1, h2, h3, h4, h5, h6, zeroR]
        have H1 := Lib.hid h1
        have H2 := Lib.hid h2
        have H3 := Lib.hid h3
        have H4 := Lib.hid h4
        have H5 := Lib.hid h5
        have H6 := Lib.hid h6
        clear h1 h2 h3 h4 h5 h6
        go_wp2_with (first
          | (refine wpList_store_row rfl 25 _ _ rfl w2.heap.size #[.int .i64 5, .int .i64 n1, .int .i64 n2, .int .i64 n3, .int .i64 0, .string n4, .string n5, .string n6, .int .i64 0, .slice none 0 0, .slice none 0 0, .int .i64 0, .int .i64 0] rfl rfl 25 _ HX9.out (hinfo25 (⟨5, n1, n2, n3, 0, n4, n5, n6, 0, nilS, nilS, 0, 0⟩ : RV)) rfl (rv_one (⟨5, n1, n2, n3, 0, n4, n5, n6, 0, nilS, nilS, 0, 0⟩ : RV)) ?_)
          | (go_at_call 35; (with_reducible refine (rfchg_5 5 n1 n2 0 0 ⟨#[]⟩ ⟨#[]⟩ ⟨#[]⟩ 0 none 0 0 none 0 0 0 0 5 HR4.out (by omega) (by omega) H3.out H4.out H5.out H6.out).mono ?_); rintro e' w9 ⟨rfl, hR9, hK9⟩; have HX9 := Lib.hid (RF.kept (a' := 0) (e' := 0) HR4.out hK9 HX4.out); have HR9 := Lib.hid hR9; clear hR9 hK9)
          | (refine wpList_load_row rfl 25 _ rfl w2.heap.size rfl 25 #[.int .i64 5, .int .i64 n1, .int .i64 n2, .int .i64 0, .int .i64 0, .string ⟨#[]⟩, .string ⟨#[]⟩, .string ⟨#[]⟩, .int .i64 0, .slice none 0 0, .slice none 0 0, .int .i64 0, .int .i64 0] (0, 0) _ HX4.out Try.underlying25 rfl (hinfo25 (⟨5, n1, n2, 0, 0, ⟨#[]⟩, ⟨#[]⟩, ⟨#[]⟩, 0, nilS, nilS, 0, 0⟩ : RV)) ?_)
          | (go_at_call 33; (with_reducible refine (rf_num HR3.out 6 (by decide) (by decide) H2.out).mono ?_); rintro e' w4 ⟨rfl, hR4, hK4⟩; have x4 := RF.kept (a' := 0) (e' := 0) HR3.out hK4 HX3.out; have zf4 := blk_frozen x4 2; have zc4 : w4.cell? ⟨w2.heap.size, 2, none⟩ = some (.int .i64 0) := (blk_cell x4 2).trans rfl; have y4 : (w4.setCell ⟨w2.heap.size, 2, none⟩ (.int .i64 n2)).heap[w2.heap.size]? = some (.cells #[.int .i64 5, .int .i64 n1, .int .i64 n2, .int .i64 0, .int .i64 0, .string ⟨#[]⟩, .string ⟨#[]⟩, .string ⟨#[]⟩, .int .i64 0, .slice none 0 0, .slice none 0 0, .int .i64 0, .int .i64 0] 25 (0, 0)) := blk_put x4 2 _ rfl; have HR4 := Lib.hid (RF.set hR4 x4 HGE.out 2 (.int .i64 n2)); have HX4 := Lib.hid y4; have yc4_0 : (w4.setCell ⟨w2.heap.size, 2, none⟩ (.int .i64 n2)).cell? ⟨w2.heap.size, 0, none⟩ = some (.int .i64 5) := (blk_cell y4 0).trans rfl; have yc4_4 : (w4.setCell ⟨w2.heap.size, 2, none⟩ (.int .i64 n2)).cell? ⟨w2.heap.size, 4, none⟩ = some (.int .i64 0) := (blk_cell y4 4).trans rfl; clear x4 y4 hR4 hK4)
          | (go_at_call 33; (with_reducible refine (rf_num HR2.out 6 (by decide) (by decide) H1.out).mono ?_); rintro e' w3 ⟨rfl, hR3, hK3⟩; have x3 := RF.kept (a' := 0) (e' := 0) HR2.out hK3 HX2.out; have zf3 := blk_frozen x3 1; have zc3 : w3.cell? ⟨w2.heap.size, 1, none⟩ = some (.int .i64 0) := (blk_cell x3 1).trans rfl; have y3 : (w3.setCell ⟨w2.heap.size, 1, none⟩ (.int .i64 n1)).heap[w2.heap.size]? = some (.cells #[.int .i64 5, .int .i64 n1, .int .i64 0, .int .i64 0, .int .i64 0, .string ⟨#[]⟩, .string ⟨#[]⟩, .string ⟨#[]⟩, .int .i64 0, .slice none 0 0, .slice none 0 0, .int .i64 0, .int .i64 0] 25 (0, 0)) := blk_put x3 1 _ rfl; have HR3 := Lib.hid (RF.set hR3 x3 HGE.out 1 (.int .i64 n1)); have HX3 := Lib.hid y3; have yc3_0 : (w3.setCell ⟨w2.heap.size, 1, none⟩ (.int .i64 n1)).cell? ⟨w2.heap.size, 0, none⟩ = some (.int .i64 5) := (blk_cell y3 0).trans rfl; have yc3_4 : (w3.setCell ⟨w2.heap.size, 1, none⟩ (.int .i64 n1)).cell? ⟨w2.heap.size, 4, none⟩ = some (.int .i64 0) := (blk_cell y3 4).trans rfl; clear x3 y3 hR3 hK3))
        go_meet
        case rel => exact ⟨(⟨5, n1, n2, n3, 0, n4, n5, n6, 0, nilS, nilS, 0, 0⟩ : RV), RF.row HR9.out HX9.out HGE.out _, set_new HX9.out, Kd.R_nil _ _ _ _ _, Kd.R_nil _ _ _ _ _, SameV.refl _, by simp, by simp⟩
      by_cases k6 : k = 6
      · subst k6
        obtain ⟨n1, o1, f1, h1⟩ : ∃ n o f, numS s a1 0 6 = (n, o, f) := ⟨_, _, _, rfl⟩
        obtain ⟨n2, o2, f2, h2⟩ : ∃ n o f, numS s o1 f1 6 = (n, o, f) := ⟨_, _, _, rfl⟩
        obtain ⟨n3, o3, f3, h3⟩ : ∃ n o f, numS s o2 f2 6 = (n, o, f) := ⟨_, _, _, rfl⟩
        obtain ⟨n4, o4, f4, h4⟩ : ∃ n o f, numS s o3 f3 1 = (n, o, f) := ⟨_, _, _, rfl⟩
        by_cases ha3 : n4 = 3
        · subst ha3
          obtain ⟨n5, o5, f5, h5⟩ : ∃ n o f, numS s o4 f4 2 = (n, o, f) := ⟨_, _, _, rfl⟩
          obtain ⟨n6, o6, f6, h6⟩ : ∃ n o f, textS s o5 f5 16 = (n, o, f) := ⟨_, _, _, rfl⟩
          obtain ⟨n7, o7, f7, h7⟩ : ∃ n o f, textS s o6 f6 32 = (n, o, f) := ⟨_, _, _, rfl⟩
          obtain rfl : G = ⟨(⟨6, n1, n2, n5, 3, n6, ⟨#[]⟩, n7, n3, nilS, nilS, 0, 0⟩ : RV), [], [], o7, f7⟩ := by
            rw [← HG.out]
            unfold refF readF chgS
            simp [h1, h2, h3, h4, h5, h6, h7, zeroR]
          have H1 := Lib.hid h1
          have H2 := Lib.hid h2
          have H3 := Lib.hid h3
          have H4 := Lib.hid h4
          have H5 := Lib.hid h5
          have H6 := Lib.hid h6
          have H7 := Lib.hid h7
          clear h1 h2 h3 h4 h5 h6 h7
          go_wp2_with (first
            | (refine wpList_store_row rfl 25 _ _ rfl w2.heap.size #[.int .i64 6, .int .i64 n1, .int .i64 n2, .int .i64 n5, .int .i64 3, .string n6, .string ⟨#[]⟩, .string n7, .int .i64 n3, .slice none 0 0, .slice none 0 0, .int .i64 0, .int .i64 0] rfl rfl 25 _ HX9.out (hinfo25 (⟨6, n1, n2, n5, 3, n6, ⟨#[]⟩, n7, n3, nilS, nilS, 0, 0⟩ : RV)) rfl (rv_one (⟨6, n1, n2, n5, 3, n6, ⟨#[]⟩, n7, n3, nilS, nilS, 0, 0⟩ : RV)) ?_)
            | (go_at_call 35; (with_reducible refine (rfchg_3 6 n1 n2 0 3 ⟨#[]⟩ ⟨#[]⟩ ⟨#[]⟩ n3 none 0 0 none 0 0 0 0 3 HR6.out rfl H5.out H6.out H7.out).mono ?_); rintro e' w9 ⟨rfl, hR9, hK9⟩; have HX9 := Lib.hid (RF.kept (a' := 0) (e' := 0) HR6.out hK9 HX6.out); have HR9 := Lib.hid hR9; clear hR9 hK9)
            | (refine wpList_load_row rfl 25 _ rfl w2.heap.size rfl 25 #[.int .i64 6, .int .i64 n1, .int .i64 n2, .int .i64 0, .int .i64 3, .string ⟨#[]⟩, .string ⟨#[]⟩, .string ⟨#[]⟩, .int .i64 n3, .slice none 0 0, .slice none 0 0, .int .i64 0, .int .i64 0] (0, 0) _ HX6.out Try.underlying25 rfl (hinfo25 (⟨6, n1, n2, 0, 3, ⟨#[]⟩, ⟨#[]⟩, ⟨#[]⟩, n3, nilS, nilS, 0, 0⟩ : RV)) ?_)
            | (go_at_call 33; (with_reducible refine (rf_num HR5.out 1 (by decide) (by decide) H4.out).mono ?_); rintro e' w6 ⟨rfl, hR6, hK6⟩; have x6 := RF.kept (a' := 0) (e' := 0) HR5.out hK6 HX5.out; have zf6 := blk_frozen x6 4; have zc6 : w6.cell? ⟨w2.heap.size, 4, none⟩ = some (.int .i64 0) := (blk_cell x6 4).trans rfl; have y6 : (w6.setCell ⟨w2.heap.size, 4, none⟩ (.int .i64 3)).heap[w2.heap.size]? = some (.cells #[.int .i64 6, .int .i64 n1, .int .i64 n2, .int .i64 0, .int .i64 3, .string ⟨#[]⟩, .string ⟨#[]⟩, .string ⟨#[]⟩, .int .i64 n3, .slice none 0 0, .slice none 0 0, .int .i64 0, .int .i64 0] 25 (0, 0)) := blk_put x6 4 _ rfl; have HR6 := Lib.hid (RF.set hR6 x6 HGE.out 4 (.int .i64 3)); have HX6 := Lib.hid y6; have yc6_0 : (w6.setCell ⟨w2.heap.size, 4, none⟩ (.int .i64 3)).cell? ⟨w2.heap.size, 0, none⟩ = some (.int .i64 6) := (blk_cell y6 0).trans rfl; have yc6_4 : (w6.setCell ⟨w2.heap.size, 4, none⟩ (.int .i64 3)).cell? ⟨w2.heap.size, 4, none⟩ = some (.int .i64 3) := (blk_cell y6 4).trans rfl; clear x6 y6 hR6 hK6)
            | (go_at_call 33; (with_reducible refine (rf_num HR4.out 6 (by decide) (by decide) H3.out).mono ?_); rintro e' w5 ⟨rfl, hR5, hK5⟩; have x5 := RF.kept (a' := 0) (e' := 0) HR4.out hK5 HX4.out; have zf5 := blk_frozen x5 8; have zc5 : w5.cell? ⟨w2.heap.size, 8, none⟩ = some (.int .i64 0) := (blk_cell x5 8).trans rfl; have y5 : (w5.setCell ⟨w2.heap.size, 8, none⟩ (.int .i64 n3)).heap[w2.heap.size]? = some (.cells #[.int .i64 6, .int .i64 n1, .int .i64 n2, .int .i64 0, .int .i64 0, .string ⟨#[]⟩, .string ⟨#[]⟩, .string ⟨#[]⟩, .int .i64 n3, .slice none 0 0, .slice none 0 0, .int .i64 0, .int .i64 0] 25 (0, 0)) := blk_put x5 8 _ rfl; have HR5 := Lib.hid (RF.set hR5 x5 HGE.out 8 (.int .i64 n3)); have HX5 := Lib.hid y5; have yc5_0 : (w5.setCell ⟨w2.heap.size, 8, none⟩ (.int .i64 n3)).cell? ⟨w2.heap.size, 0, none⟩ = some (.int .i64 6) := (blk_cell y5 0).trans rfl; have yc5_4 : (w5.setCell ⟨w2.heap.size, 8, none⟩ (.int .i64 n3)).cell? ⟨w2.heap.size, 4, none⟩ = some (.int .i64 0) := (blk_cell y5 4).trans rfl; clear x5 y5 hR5 hK5)
            | (go_at_call 33; (with_reducible refine (rf_num HR3.out 6 (by decide) (by decide) H2.out).mono ?_); rintro e' w4 ⟨rfl, hR4, hK4⟩; have x4 := RF.kept (a' := 0) (e' := 0) HR3.out hK4 HX3.out; have zf4 := blk_frozen x4 2; have zc4 : w4.cell? ⟨w2.heap.size, 2, none⟩ = some (.int .i64 0) := (blk_cell x4 2).trans rfl; have y4 : (w4.setCell ⟨w2.heap.size, 2, none⟩ (.int .i64 n2)).heap[w2.heap.size]? = some (.cells #[.int .i64 6, .int .i64 n1, .int .i64 n2, .int .i64 0, .int .i64 0, .string ⟨#[]⟩, .string ⟨#[]⟩, .string ⟨#[]⟩, .int .i64 0, .slice none 0 0, .slice none 0 0, .int .i64 0, .int .i64 0] 25 (0, 0)) := blk_put x4 2 _ rfl; have HR4 := Lib.hid (RF.set hR4 x4 HGE.out 2 (.int .i64 n2)); have HX4 := Lib.hid y4; have yc4_0 : (w4.setCell ⟨w2.heap.size, 2, none⟩ (.int .i64 n2)).cell? ⟨w2.heap.size, 0, none⟩ = some (.int .i64 6) := (blk_cell y4 0).trans rfl; have yc4_4 : (w4.setCell ⟨w2.heap.size, 2, none⟩ (.int .i64 n2)).cell? ⟨w2.heap.size, 4, none⟩ = some (.int .i64 0) := (blk_cell y4 4).trans rfl; clear x4 y4 hR4 hK4)
            | (go_at_call 33; (with_reducible refine (rf_num HR2.out 6 (by decide) (by decide) H1.out).mono ?_); rintro e' w3 ⟨rfl, hR3, hK3⟩; have x3 := RF.kept (a' := 0) (e' := 0) HR2.out hK3 HX2.out; have zf3 := blk_frozen x3 1; have zc3 : w3.cell? ⟨w2.heap.size, 1, none⟩ = some (.int .i64 0) := (blk_cell x3 1).trans rfl; have y3 : (w3.setCell ⟨w2.heap.size, 1, none⟩ (.int .i64 n1)).heap[w2.heap.size]? = some (.cells #[.int .i64 6, .int .i64 n1, .int .i64 0, .int .i64 0, .int .i64 0, .string ⟨#[]⟩, .string ⟨#[]⟩, .string ⟨#[]⟩, .int .i64 0, .slice none 0 0, .slice none 0 0, .int .i64 0, .int .i64 0] 25 (0, 0)) := blk_put x3 1 _ rfl; have HR3 := Lib.hid (RF.set hR3 x3 HGE.out 1 (.int .i64 n1)); have HX3 := Lib.hid y3; have yc3_0 : (w3.setCell ⟨w2.heap.size, 1, none⟩ (.int .i64 n1)).cell? ⟨w2.heap.size, 0, none⟩ = some (.int .i64 6) := (blk_cell y3 0).trans rfl; have yc3_4 : (w3.setCell ⟨w2.heap.size, 1, none⟩ (.int .i64 n1)).cell? ⟨w2.heap.size, 4, none⟩ = some (.int .i64 0) := (blk_cell y3 4).trans rfl; clear x3 y3 hR3 hK3))
          go_meet
          case rel => exact ⟨(⟨6, n1, n2, n5, 3, n6, ⟨#[]⟩, n7, n3, nilS, nilS, 0, 0⟩ : RV), RF.row HR9.out HX9.out HGE.out _, set_new HX9.out, Kd.R_nil _ _ _ _ _, Kd.R_nil _ _ _ _ _, SameV.refl _, by simp, by simp⟩
        · by_cases ha4 : n4 = 4
          · subst ha4
            obtain ⟨n5, o5, f5, h5⟩ : ∃ n o f, numS s o4 f4 2 = (n, o, f) := ⟨_, _, _, rfl⟩
            obtain ⟨n6, o6, f6, h6⟩ : ∃ n o f, textS s o5 f5 16 = (n, o, f) := ⟨_, _, _, rfl⟩
            obtain ⟨n7, o7, f7, h7⟩ : ∃ n o f, textS s o6 f6 32 = (n, o, f) := ⟨_, _, _, rfl⟩
            obtain rfl : G = ⟨(⟨6, n1, n2, n5, 4, n6, n7, ⟨#[]⟩, n3, nilS, nilS, 0, 0⟩ : RV), [], [], o7, f7⟩ := by
              rw [← HG.out]
              unfold refF readF chgS
              simp [h1, h2, h3, h4, h5, h6, h7, zeroR]
            have H1 := Lib.hid h1
            have H2 := Lib.hid h2
            have H3 := Lib.hid h3
            have H4 := Lib.hid h4
            have H5 := Lib.hid h5
            have H6 := Lib.hid h6
            have H7 := Lib.hid h7
            clear h1 h2 h3 h4 h5 h6 h7
            go_wp2_with (first
              | (refine wpList_store_row rfl 25 _ _ rfl w2.heap.size #[.int .i64 6, .int .i64 n1, .int .i64 n2, .int .i64 n5, .int .i64 4, .string n6, .string n7, .string ⟨#[]⟩, .int .i64 n3, .slice none 0 0, .slice none 0 0, .int .i64 0, .int .i64 0] rfl rfl 25 _ HX9.out (hinfo25 (⟨6, n1, n2, n5, 4, n6, n7, ⟨#[]⟩, n3, nilS, nilS, 0, 0⟩ : RV)) rfl (rv_one (⟨6, n1, n2, n5, 4, n6, n7, ⟨#[]⟩, n3, nilS, nilS, 0, 0⟩ : RV)) ?_)
              | (go_at_call 35; (with_reducible refine (rfchg_4 6 n1 n2 0 4 ⟨#[]⟩ ⟨#[]⟩ ⟨#[]⟩ n3 none 0 0 none 0 0 0 0 4 HR6.out rfl H5.out H6.out H7.out).mono ?_); rintro e' w9 ⟨rfl, hR9, hK9⟩; have HX9 := Lib.hid (RF.kept (a' := 0) (e' := 0) HR6.out hK9 HX6.out); have HR9 := Lib.hid hR9; clear hR9 hK9)
              | (refine wpList_load_row rfl 25 _ rfl w2.heap.size rfl 25 #[.int .i64 6, .int .i64 n1, .int .i64 n2, .int .i64 0, .int .i64 4, .string ⟨#[]⟩, .string ⟨#[]⟩, .string ⟨#[]⟩, .int .i64 n3, .slice none 0 0, .slice none 0 0, .int .i64 0, .int .i64 0] (0, 0) _ HX6.out Try.underlying25 rfl (hinfo25 (⟨6, n1, n2, 0, 4, ⟨#[]⟩, ⟨#[]⟩, ⟨#[]⟩, n3, nilS, nilS, 0, 0⟩ : RV)) ?_)
              | (go_at_call 33; (with_reducible refine (rf_num HR5.out 1 (by decide) (by decide) H4.out).mono ?_); rintro e' w6 ⟨rfl, hR6, hK6⟩; have x6 := RF.kept (a' := 0) (e' := 0) HR5.out hK6 HX5.out; have zf6 := blk_frozen x6 4; have zc6 : w6.cell? ⟨w2.heap.size, 4, none⟩ = some (.int .i64 0) := (blk_cell x6 4).trans rfl; have y6 : (w6.setCell ⟨w2.heap.size, 4, none⟩ (.int .i64 4)).heap[w2.heap.size]? = some (.cells #[.int .i64 6, .int .i64 n1, .int .i64 n2, .int .i64 0, .int .i64 4, .string ⟨#[]⟩, .string ⟨#[]⟩, .string ⟨#[]⟩, .int .i64 n3, .slice none 0 0, .slice none 0 0, .int .i64 0, .int .i64 0] 25 (0, 0)) := blk_put x6 4 _ rfl; have HR6 := Lib.hid (RF.set hR6 x6 HGE.out 4 (.int .i64 4)); have HX6 := Lib.hid y6; have yc6_0 : (w6.setCell ⟨w2.heap.size, 4, none⟩ (.int .i64 4)).cell? ⟨w2.heap.size, 0, none⟩ = some (.int .i64 6) := (blk_cell y6 0).trans rfl; have yc6_4 : (w6.setCell ⟨w2.heap.size, 4, none⟩ (.int .i64 4)).cell? ⟨w2.heap.size, 4, none⟩ = some (.int .i64 4) := (blk_cell y6 4).trans rfl; clear x6 y6 hR6 hK6)
              | (go_at_call 33; (with_reducible refine (rf_num HR4.out 6 (by decide) (by decide) H3.out).mono ?_); rintro e' w5 ⟨rfl, hR5, hK5⟩; have x5 := RF.kept (a' := 0) (e' := 0) HR4.out hK5 HX4.out; have zf5 := blk_frozen x5 8; have zc5 : w5.cell? ⟨w2.heap.size, 8, none⟩ = some (.int .i64 0) := (blk_cell x5 8).trans rfl; have y5 : (w5.setCell ⟨w2.heap.size, 8, none⟩ (.int .i64 n3)).heap[w2.heap.size]? = some (.cells #[.int .i64 6, .int .i64 n1, .int .i64 n2, .int .i64 0, .int .i64 0, .string ⟨#[]⟩, .string ⟨#[]⟩, .string ⟨#[]⟩, .int .i64 n3, .slice none 0 0, .slice none 0 0, .int .i64 0, .int .i64 0] 25 (0, 0)) := blk_put x5 8 _ rfl; have HR5 := Lib.hid (RF.set hR5 x5 HGE.out 8 (.int .i64 n3)); have HX5 := Lib.hid y5; have yc5_0 : (w5.setCell ⟨w2.heap.size, 8, none⟩ (.int .i64 n3)).cell? ⟨w2.heap.size, 0, none⟩ = some (.int .i64 6) := (blk_cell y5 0).trans rfl; have yc5_4 : (w5.setCell ⟨w2.heap.size, 8, none⟩ (.int .i64 n3)).cell? ⟨w2.heap.size, 4, none⟩ = some (.int .i64 0) := (blk_cell y5 4).trans rfl; clear x5 y5 hR5 hK5)
              | (go_at_call 33; (with_reducible refine (rf_num HR3.out 6 (by decide) (by decide) H2.out).mono ?_); rintro e' w4 ⟨rfl, hR4, hK4⟩; have x4 := RF.kept (a' := 0) (e' := 0) HR3.out hK4 HX3.out; have zf4 := blk_frozen x4 2; have zc4 : w4.cell? ⟨w2.heap.size, 2, none⟩ = some (.int .i64 0) := (blk_cell x4 2).trans rfl; have y4 : (w4.setCell ⟨w2.heap.size, 2, none⟩ (.int .i64 n2)).heap[w2.heap.size]? = some (.cells #[.int .i64 6, .int .i64 n1, .int .i64 n2, .int .i64 0, .int .i64 0, .string ⟨#[]⟩, .string ⟨#[]⟩, .string ⟨#[]⟩, .int .i64 0, .slice none 0 0, .slice none 0 0, .int .i64 0, .int .i64 0] 25 (0, 0)) := blk_put x4 2 _ rfl; have HR4 := Lib.hid (RF.set hR4 x4 HGE.out 2 (.int .i64 n2)); have HX4 := Lib.hid y4; have yc4_0 : (w4.setCell ⟨w2.heap.size, 2, none⟩ (.int .i64 n2)).cell? ⟨w2.heap.size, 0, none⟩ = some (.int .i64 6) := (blk_cell y4 0).trans rfl; have yc4_4 : (w4.setCell ⟨w2.heap.size, 2, none⟩ (.int .i64 n2)).cell? ⟨w2.heap.size, 4, none⟩ = some (.int .i64 0) := (blk_cell y4 4).trans rfl; clear x4 y4 hR4 hK4)
              | (go_at_call 33; (with_reducible refine (rf_num HR2.out 6 (by decide) (by decide) H1.out).mono ?_); rintro e' w3 ⟨rfl, hR3, hK3⟩; have x3 := RF.kept (a' := 0) (e' := 0) HR2.out hK3 HX2.out; have zf3 := blk_frozen x3 1; have zc3 : w3.cell? ⟨w2.heap.size, 1, none⟩ = some (.int .i64 0) := (blk_cell x3 1).trans rfl; have y3 : (w3.setCell ⟨w2.heap.size, 1, none⟩ (.int .i64 n1)).heap[w2.heap.size]? = some (.cells #[.int .i64 6, .int .i64 n1, .int .i64 0, .int .i64 0, .int .i64 0, .string ⟨#[]⟩, .string ⟨#[]⟩, .string ⟨#[]⟩, .int .i64 0, .slice none 0 0, .slice none 0 0, .int .i64 0, .int .i64 0] 25 (0, 0)) := blk_put x3 1 _ rfl; have HR3 := Lib.hid (RF.set hR3 x3 HGE.out 1 (.int .i64 n1)); have HX3 := Lib.hid y3; have yc3_0 : (w3.setCell ⟨w2.heap.size, 1, none⟩ (.int .i64 n1)).cell? ⟨w2.heap.size, 0, none⟩ = some (.int .i64 6) := (blk_cell y3 0).trans rfl; have yc3_4 : (w3.setCell ⟨w2.heap.size, 1, none⟩ (.int .i64 n1)).cell? ⟨w2.heap.size, 4, none⟩ = some (.int .i64 0) := (blk_cell y3 4).trans rfl; clear x3 y3 hR3 hK3))
            go_meet
            case rel => exact ⟨(⟨6, n1, n2, n5, 4, n6, n7, ⟨#[]⟩, n3, nilS, nilS, 0, 0⟩ : RV), RF.row HR9.out HX9.out HGE.out _, set_new HX9.out, Kd.R_nil _ _ _ _ _, Kd.R_nil _ _ _ _ _, SameV.refl _, by simp, by simp⟩
          · skip
            obtain ⟨n5, o5, f5, h5⟩ : ∃ n o f, numS s o4 f4 2 = (n, o, f) := ⟨_, _, _, rfl⟩
            obtain ⟨n6, o6, f6, h6⟩ : ∃ n o f, textS s o5 f5 16 = (n, o, f) := ⟨_, _, _, rfl⟩
            obtain ⟨n7, o7, f7, h7⟩ : ∃ n o f, textS s o6 f6 32 = (n, o, f) := ⟨_, _, _, rfl⟩
            obtain ⟨n8, o8, f8, h8⟩ : ∃ n o f, textS s o7 f7 32 = (n, o, f) := ⟨_, _, _, rfl⟩
            obtain rfl : G = ⟨(⟨6, n1, n2, n5, n4, n6, n7, n8, n3, nilS, nilS, 0, 0⟩ : RV), [], [], o8, f8⟩ := by
              rw [← HG.out]
              unfold refF readF chgS
              simp [h1, h2, h3, h4, h5, h6, h7, h8, zeroR, ha3, ha4]
            have H1 := Lib.hid h1
            have H2 := Lib.hid h2
            have H3 := Lib.hid h3
            have H4 := Lib.hid h4
            have H5 := Lib.hid h5
            have H6 := Lib.hid h6
            have H7 := Lib.hid h7
            have H8 := Lib.hid h8
            clear h1 h2 h3 h4 h5 h6 h7 h8
            have HA3 := Lib.hid ha3
            have HA4 := Lib.hid ha4
            clear ha3 ha4
            go_wp2_with (first
              | (refine wpList_store_row rfl 25 _ _ rfl w2.heap.size #[.int .i64 6, .int .i64 n1, .int .i64 n2, .int .i64 n5, .int .i64 n4, .string n6, .string n7, .string n8, .int .i64 n3, .slice none 0 0, .slice none 0 0, .int .i64 0, .int .i64 0] rfl rfl 25 _ HX9.out (hinfo25 (⟨6, n1, n2, n5, n4, n6, n7, n8, n3, nilS, nilS, 0, 0⟩ : RV)) rfl (rv_one (⟨6, n1, n2, n5, n4, n6, n7, n8, n3, nilS, nilS, 0, 0⟩ : RV)) ?_)
              | (go_at_call 35; (with_reducible refine (rfchg_5 6 n1 n2 0 n4 ⟨#[]⟩ ⟨#[]⟩ ⟨#[]⟩ n3 none 0 0 none 0 0 0 0 n4 HR6.out HA3.out HA4.out H5.out H6.out H7.out H8.out).mono ?_); rintro e' w9 ⟨rfl, hR9, hK9⟩; have HX9 := Lib.hid (RF.kept (a' := 0) (e' := 0) HR6.out hK9 HX6.out); have HR9 := Lib.hid hR9; clear hR9 hK9)
              | (refine wpList_load_row rfl 25 _ rfl w2.heap.size rfl 25 #[.int .i64 6, .int .i64 n1, .int .i64 n2, .int .i64 0, .int .i64 n4, .string ⟨#[]⟩, .string ⟨#[]⟩, .string ⟨#[]⟩, .int .i64 n3, .slice none 0 0, .slice none 0 0, .int .i64 0, .int .i64 0] (0, 0) _ HX6.out Try.underlying25 rfl (hinfo25 (⟨6, n1, n2, 0, n4, ⟨#[]⟩, ⟨#[]⟩, ⟨#[]⟩, n3, nilS, nilS, 0, 0⟩ : RV)) ?_)
              | (go_at_call 33; (with_reducible refine (rf_num HR5.out 1 (by decide) (by decide) H4.out).mono ?_); rintro e' w6 ⟨rfl, hR6, hK6⟩; have x6 := RF.kept (a' := 0) (e' := 0) HR5.out hK6 HX5.out; have zf6 := blk_frozen x6 4; have zc6 : w6.cell? ⟨w2.heap.size, 4, none⟩ = some (.int .i64 0) := (blk_cell x6 4).trans rfl; have y6 : (w6.setCell ⟨w2.heap.size, 4, none⟩ (.int .i64 n4)).heap[w2.heap.size]? = some (.cells #[.int .i64 6, .int .i64 n1, .int .i64 n2, .int .i64 0, .int .i64 n4, .string ⟨#[]⟩, .string ⟨#[]⟩, .string ⟨#[]⟩, .int .i64 n3, .slice none 0 0, .slice none 0 0, .int .i64 0, .int .i64 0] 25 (0, 0)) := blk_put x6 4 _ rfl; have HR6 := Lib.hid (RF.set hR6 x6 HGE.out 4 (.int .i64 n4)); have HX6 := Lib.hid y6; have yc6_0 : (w6.setCell ⟨w2.heap.size, 4, none⟩ (.int .i64 n4)).cell? ⟨w2.heap.size, 0, none⟩ = some (.int .i64 6) := (blk_cell y6 0).trans rfl; have yc6_4 : (w6.setCell ⟨w2.heap.size, 4, none⟩ (.int .i64 n4)).cell? ⟨w2.heap.size, 4, none⟩ = some (.int .i64 n4) := (blk_cell y6 4).trans rfl; clear x6 y6 hR6 hK6)
              | (go_at_call 33; (with_reducible refine (rf_num HR4.out 6 (by decide) (by decide) H3.out).mono ?_); rintro e' w5 ⟨rfl, hR5, hK5⟩; have x5 := RF.kept (a' := 0) (e' := 0) HR4.out hK5 HX4.out; have zf5 := blk_frozen x5 8; have zc5 : w5.cell? ⟨w2.heap.size, 8, none⟩ = some (.int .i64 0) := (blk_cell x5 8).trans rfl; have y5 : (w5.setCell ⟨w2.heap.size, 8, none⟩ (.int .i64 n3)).heap[w2.heap.size]? = some (.cells #[.int .i64 6, .int .i64 n1, .int .i64 n2, .int .i64 0, .int .i64 0, .string ⟨#[]⟩, .string ⟨#[]⟩, .string ⟨#[]⟩, .int .i64 n3, .slice none 0 0, .slice none 0 0, .int .i64 0, .int .i64 0] 25 (0, 0)) := blk_put x5 8 _ rfl; have HR5 := Lib.hid (RF.set hR5 x5 HGE.out 8 (.int .i64 n3)); have HX5 := Lib.hid y5; have yc5_0 : (w5.setCell ⟨w2.heap.size, 8, none⟩ (.int .i64 n3)).cell? ⟨w2.heap.size, 0, none⟩ = some (.int .i64 6) := (blk_cell y5 0).trans rfl; have yc5_4 : (w5.setCell ⟨w2.heap.size, 8, none⟩ (.int .i64 n3)).cell? ⟨w2.heap.size, 4, none⟩ = some (.int .i64 0) := (blk_cell y5 4).trans rfl; clear x5 y5 hR5 hK5)
              | (go_at_call 33; (with_reducible refine (rf_num HR3.out 6 (by decide) (by decide) H2.out).mono ?_); rintro e' w4 ⟨rfl, hR4, hK4⟩; have x4 := RF.kept (a' := 0) (e' := 0) HR3.out hK4 HX3.out; have zf4 := blk_frozen x4 2; have zc4 : w4.cell? ⟨w2.heap.size, 2, none⟩ = some (.int .i64 0) := (blk_cell x4 2).trans rfl; have y4 : (w4.setCell ⟨w2.heap.size, 2, none⟩ (.int .i64 n2)).heap[w2.heap.size]? = some (.cells #[.int .i64 6, .int .i64 n1, .int .i64 n2, .int .i64 0, .int .i64 0, .string ⟨#[]⟩, .string ⟨#[]⟩, .string ⟨#[]⟩, .int .i64 0, .slice none 0 0, .slice none 0 0, .int .i64 0, .int .i64 0] 25 (0, 0)) := blk_put x4 2 _ rfl; have HR4 := Lib.hid (RF.set hR4 x4 HGE.out 2 (.int .i64 n2)); have HX4 := Lib.hid y4; have yc4_0 : (w4.setCell ⟨w2.heap.size, 2, none⟩ (.int .i64 n2)).cell? ⟨w2.heap.size, 0, none⟩ = some (.int .i64 6) := (blk_cell y4 0).trans rfl; have yc4_4 : (w4.setCell ⟨w2.heap.size, 2, none⟩ (.int .i64 n2)).cell? ⟨w2.heap.size, 4, none⟩ = some (.int .i64 0) := (blk_cell y4 4).trans rfl; clear x4 y4 hR4 hK4)
              | (go_at_call 33; (with_reducible refine (rf_num HR2.out 6 (by decide) (by decide) H1.out).mono ?_); rintro e' w3 ⟨rfl, hR3, hK3⟩; have x3 := RF.kept (a' := 0) (e' := 0) HR2.out hK3 HX2.out; have zf3 := blk_frozen x3 1; have zc3 : w3.cell? ⟨w2.heap.size, 1, none⟩ = some (.int .i64 0) := (blk_cell x3 1).trans rfl; have y3 : (w3.setCell ⟨w2.heap.size, 1, none⟩ (.int .i64 n1)).heap[w2.heap.size]? = some (.cells #[.int .i64 6, .int .i64 n1, .int .i64 0, .int .i64 0, .int .i64 0, .string ⟨#[]⟩, .string ⟨#[]⟩, .string ⟨#[]⟩, .int .i64 0, .slice none 0 0, .slice none 0 0, .int .i64 0, .int .i64 0] 25 (0, 0)) := blk_put x3 1 _ rfl; have HR3 := Lib.hid (RF.set hR3 x3 HGE.out 1 (.int .i64 n1)); have HX3 := Lib.hid y3; have yc3_0 : (w3.setCell ⟨w2.heap.size, 1, none⟩ (.int .i64 n1)).cell? ⟨w2.heap.size, 0, none⟩ = some (.int .i64 6) := (blk_cell y3 0).trans rfl; have yc3_4 : (w3.setCell ⟨w2.heap.size, 1, none⟩ (.int .i64 n1)).cell? ⟨w2.heap.size, 4, none⟩ = some (.int .i64 0) := (blk_cell y3 4).trans rfl; clear x3 y3 hR3 hK3))
            go_meet
            case rel => exact ⟨(⟨6, n1, n2, n5, n4, n6, n7, n8, n3, nilS, nilS, 0, 0⟩ : RV), RF.row HR9.out HX9.out HGE.out _, set_new HX9.out, Kd.R_nil _ _ _ _ _, Kd.R_nil _ _ _ _ _, SameV.refl _, by simp, by simp⟩
      by_cases k7 : k = 7
      · subst k7
        obtain ⟨n1, o1, f1, h1⟩ : ∃ n o f, numS s a1 0 6 = (n, o, f) := ⟨_, _, _, rfl⟩
        obtain ⟨n2, o2, f2, h2⟩ : ∃ n o f, numS s o1 f1 6 = (n, o, f) := ⟨_, _, _, rfl⟩
        obtain rfl : G = ⟨(⟨7, n1, n2, 0, 0, ⟨#[]⟩, ⟨#[]⟩, ⟨#[]⟩, 0, nilS, nilS, 0, 0⟩ : RV), [], [], o2, f2⟩ := by
          rw [← HG.out]
          unfold refF readF
          simp [h1, h2, zeroR]
        have H1 := Lib.hid h1
        have H2 := Lib.hid h2
        clear h1 h2
        go_wp2_with (first
          | (go_at_call 33; (with_reducible refine (rf_num HR3.out 6 (by decide) (by decide) H2.out).mono ?_); rintro e' w4 ⟨rfl, hR4, hK4⟩; have x4 := RF.kept (a' := 0) (e' := 0) HR3.out hK4 HX3.out; have zf4 := blk_frozen x4 2; have zc4 : w4.cell? ⟨w2.heap.size, 2, none⟩ = some (.int .i64 0) := (blk_cell x4 2).trans rfl; have y4 : (w4.setCell ⟨w2.heap.size, 2, none⟩ (.int .i64 n2)).heap[w2.heap.size]? = some (.cells #[.int .i64 7, .int .i64 n1, .int .i64 n2, .int .i64 0, .int .i64 0, .string ⟨#[]⟩, .string ⟨#[]⟩, .string ⟨#[]⟩, .int .i64 0, .slice none 0 0, .slice none 0 0, .int .i64 0, .int .i64 0] 25 (0, 0)) := blk_put x4 2 _ rfl; have HR4 := Lib.hid (RF.set hR4 x4 HGE.out 2 (.int .i64 n2)); have HX4 := Lib.hid y4; have yc4_0 : (w4.setCell ⟨w2.heap.size, 2, none⟩ (.int .i64 n2)).cell? ⟨w2.heap.size, 0, none⟩ = some (.int .i64 7) := (blk_cell y4 0).trans rfl; have yc4_4 : (w4.setCell ⟨w2.heap.size, 2, none⟩ (.int .i64 n2)).cell? ⟨w2.heap.size, 4, none⟩ = some (.int .i64 0) := (blk_cell y4 4).trans rfl; clear x4 y4 hR4 hK4)
          | (go_at_call 33; (with_reducible refine (rf_num HR2.out 6 (by decide) (by decide) H1.out).mono ?_); rintro e' w3 ⟨rfl, hR3, hK3⟩; have x3 := RF.kept (a' := 0) (e' := 0) HR2.out hK3 HX2.out; have zf3 := blk_frozen x3 1; have zc3 : w3.cell? ⟨w2.heap.size, 1, none⟩ = some (.int .i64 0) := (blk_cell x3 1).trans rfl; have y3 : (w3.setCell ⟨w2.heap.size, 1, none⟩ (.int .i64 n1)).heap[w2.heap.size]? = some (.cells #[.int .i64 7, .int .i64 n1, .int .i64 0, .int .i64 0, .int .i64 0, .string ⟨#[]⟩, .string ⟨#[]⟩, .string ⟨#[]⟩, .int .i64 0, .slice none 0 0, .slice none 0 0, .int .i64 0, .int .i64 0] 25 (0, 0)) := blk_put x3 1 _ rfl; have HR3 := Lib.hid (RF.set hR3 x3 HGE.out 1 (.int .i64 n1)); have HX3 := Lib.hid y3; have yc3_0 : (w3.setCell ⟨w2.heap.size, 1, none⟩ (.int .i64 n1)).cell? ⟨w2.heap.size, 0, none⟩ = some (.int .i64 7) := (blk_cell y3 0).trans rfl; have yc3_4 : (w3.setCell ⟨w2.heap.size, 1, none⟩ (.int .i64 n1)).cell? ⟨w2.heap.size, 4, none⟩ = some (.int .i64 0) := (blk_cell y3 4).trans rfl; clear x3 y3 hR3 hK3))
        go_meet
        case rel => exact ⟨(⟨7, n1, n2, 0, 0, ⟨#[]⟩, ⟨#[]⟩, ⟨#[]⟩, 0, nilS, nilS, 0, 0⟩ : RV), HR4.out, HX4.out, Kd.R_nil _ _ _ _ _, Kd.R_nil _ _ _ _ _, SameV.refl _, by simp, by simp⟩
      by_cases k8 : k = 8
      · subst k8
        obtain ⟨n1, o1, f1, h1⟩ : ∃ n o f, numS s a1 0 6 = (n, o, f) := ⟨_, _, _, rfl⟩
        obtain ⟨n2, o2, f2, h2⟩ : ∃ n o f, numS s o1 f1 6 = (n, o, f) := ⟨_, _, _, rfl⟩
        obtain rfl : G = ⟨(⟨8, n1, n2, 0, 0, ⟨#[]⟩, ⟨#[]⟩, ⟨#[]⟩, 0, nilS, nilS, 0, 0⟩ : RV), [], [], o2, f2⟩ := by
          rw [← HG.out]
          unfold refF readF
          simp [h1, h2, zeroR]
        have H1 := Lib.hid h1
        have H2 := Lib.hid h2
        clear h1 h2
        go_wp2_with (first
          | (go_at_call 33; (with_reducible refine (rf_num HR3.out 6 (by decide) (by decide) H2.out).mono ?_); rintro e' w4 ⟨rfl, hR4, hK4⟩; have x4 := RF.kept (a' := 0) (e' := 0) HR3.out hK4 HX3.out; have zf4 := blk_frozen x4 2; have zc4 : w4.cell? ⟨w2.heap.size, 2, none⟩ = some (.int .i64 0) := (blk_cell x4 2).trans rfl; have y4 : (w4.setCell ⟨w2.heap.size, 2, none⟩ (.int .i64 n2)).heap[w2.heap.size]? = some (.cells #[.int .i64 8, .int .i64 n1, .int .i64 n2, .int .i64 0, .int .i64 0, .string ⟨#[]⟩, .string ⟨#[]⟩, .string ⟨#[]⟩, .int .i64 0, .slice none 0 0, .slice none 0 0, .int .i64 0, .int .i64 0] 25 (0, 0)) := blk_put x4 2 _ rfl; have HR4 := Lib.hid (RF.set hR4 x4 HGE.out 2 (.int .i64 n2)); have HX4 := Lib.hid y4; have yc4_0 : (w4.setCell ⟨w2.heap.size, 2, none⟩ (.int .i64 n2)).cell? ⟨w2.heap.size, 0, none⟩ = some (.int .i64 8) := (blk_cell y4 0).trans rfl; have yc4_4 : (w4.setCell ⟨w2.heap.size, 2, none⟩ (.int .i64 n2)).cell? ⟨w2.heap.size, 4, none⟩ = some (.int .i64 0) := (blk_cell y4 4).trans rfl; clear x4 y4 hR4 hK4)
          | (go_at_call 33; (with_reducible refine (rf_num HR2.out 6 (by decide) (by decide) H1.out).mono ?_); rintro e' w3 ⟨rfl, hR3, hK3⟩; have x3 := RF.kept (a' := 0) (e' := 0) HR2.out hK3 HX2.out; have zf3 := blk_frozen x3 1; have zc3 : w3.cell? ⟨w2.heap.size, 1, none⟩ = some (.int .i64 0) := (blk_cell x3 1).trans rfl; have y3 : (w3.setCell ⟨w2.heap.size, 1, none⟩ (.int .i64 n1)).heap[w2.heap.size]? = some (.cells #[.int .i64 8, .int .i64 n1, .int .i64 0, .int .i64 0, .int .i64 0, .string ⟨#[]⟩, .string ⟨#[]⟩, .string ⟨#[]⟩, .int .i64 0, .slice none 0 0, .slice none 0 0, .int .i64 0, .int .i64 0] 25 (0, 0)) := blk_put x3 1 _ rfl; have HR3 := Lib.hid (RF.set hR3 x3 HGE.out 1 (.int .i64 n1)); have HX3 := Lib.hid y3; have yc3_0 : (w3.setCell ⟨w2.heap.size, 1, none⟩ (.int .i64 n1)).cell? ⟨w2.heap.size, 0, none⟩ = some (.int .i64 8) := (blk_cell y3 0).trans rfl; have yc3_4 : (w3.setCell ⟨w2.heap.size, 1, none⟩ (.int .i64 n1)).cell? ⟨w2.heap.size, 4, none⟩ = some (.int .i64 0) := (blk_cell y3 4).trans rfl; clear x3 y3 hR3 hK3))
        go_meet
        case rel => exact ⟨(⟨8, n1, n2, 0, 0, ⟨#[]⟩, ⟨#[]⟩, ⟨#[]⟩, 0, nilS, nilS, 0, 0⟩ : RV), HR4.out, HX4.out, Kd.R_nil _ _ _ _ _, Kd.R_nil _ _ _ _ _, SameV.refl _, by simp, by simp⟩
      by_cases k9 : k = 9
      · subst k9
        obtain ⟨n1, o1, f1, h1⟩ : ∃ n o f, numS s a1 0 1 = (n, o, f) := ⟨_, _, _, rfl⟩
        obtain ⟨LI, LA, LE, h2⟩ : ∃ LI LA LE, tabR s n1.toNat [] o1 f1 = (LI, LA, LE) := ⟨_, _, _, rfl⟩
        obtain rfl : G = ⟨zeroR 9, [], LI, LA, LE⟩ := by
          rw [← HG.out]
          unfold refF
          simp [h1, h2]
        have hn0 := numS_lo (s := s) (at_ := a1) 0 1
        have hn1 := num1_lt (s := s) (a := a1) (e := 0)
        rw [h1] at hn0 hn1
        simp only at hn0 hn1
        obtain ⟨N, rfl⟩ : ∃ N : Nat, n1 = N := ⟨n1.toNat, by omega⟩
        have HN := Lib.hid (show N ≤ 255 by omega)
        rw [Int.toNat_natCast] at h2
        have H1 := Lib.hid h1
        have H2 := Lib.hid h2
        clear h1 h2 hn0 hn1
        go_wp2_with (go_at_call 33; (with_reducible refine (rf_num HR2.out 1 (by decide) (by decide) H1.out).mono ?_); rintro e' w3 ⟨rfl, hR3, hK3⟩; have HX3 := Lib.hid (RF.kept (a' := 0) (e' := 0) HR2.out hK3 HX2.out); have HR3 := Lib.hid hR3; clear hR3 hK3)
        go_loopw [10] (fun i wr => ∃ (j : Nat) (li : List S55) (a e : Int) (A : Option Addr) (c : Nat), j ≤ N ∧ i = .int .i64 j ∧ li.length ≤ j ∧ RF wb wr (w.heap.size + 1) s a e ∧ wr.heap[w2.heap.size]? = some (.cells #[.int .i64 9, .int .i64 0, .int .i64 0, .int .i64 0, .int .i64 0, .string ⟨#[]⟩, .string ⟨#[]⟩, .string ⟨#[]⟩, .int .i64 0, .slice none 0 0, .slice A li.length c, .int .i64 0, .int .i64 0] 25 (0, 0)) ∧ Kd.R k55 55 wr wb.heap.size (fun _ => True) (.slice A li.length c) li ∧ tabR s (N - j) li a e = (LI, LA, LE)) (fun i _ => N - (intOf i).toNat)
        case atStart => exact ⟨0, [], o1, f1, none, 0, Nat.zero_le _, rfl, Nat.le_refl _, HR3.out, HX3.out, Kd.R_nil _ _ _ _ _, H2.out⟩
        case round =>
          obtain ⟨j, li, a, e, A, c, hj, rfl, hlj, hR, hX, hI, hF⟩ := hrel
          have re := hR.i.c2
          have HRj := Lib.hid hR
          have HXj := Lib.hid hX
          have HIj := Lib.hid hI
          have HLj := Lib.hid (show li.length ≤ 300 by have := HN.out; omega)
          by_cases hlt : j < N
          · have e1 : decide ((j : Int) < (N : Int)) = true := by simp; omega
            have e2 : decide (j < N) = true := by simpa using hlt
            by_cases he : e = 0
            · subst he
              obtain ⟨d, hd⟩ : ∃ d, N - j = d + 1 := ⟨N - j - 1, by omega⟩
              rw [hd] at hF
              unfold tabR at hF
              rw [if_pos rfl] at hF
              obtain ⟨n3, o3, f3, h3⟩ : ∃ n o f, numS s a 0 6 = (n, o, f) := ⟨_, _, _, rfl⟩
              rw [h3] at hF
              simp only at hF
              obtain ⟨n4, o4, f4, h4⟩ : ∃ n o f, numS s o3 f3 6 = (n, o, f) := ⟨_, _, _, rfl⟩
              rw [h4] at hF
              simp only at hF
              obtain rfl : d = N - (j + 1) := by omega
              have HF := Lib.hid hF
              have H3 := Lib.hid h3
              have H4 := Lib.hid h4
              have HJ := Lib.hid (show j + 1 ≤ N from hlt)
              have HLJ := Lib.hid hlj
              have hj255 : j < 255 := by have := HN.out; omega
              clear hd hF h3 h4 hR hX hI hlt hj hlj
              go_wp2_with (go_at_call 33; (with_reducible refine (rf_num HRj.out 6 (by decide) (by decide) H3.out).mono ?_); rintro e' w4 ⟨rfl, hR4, hK4⟩; have HX4 := Lib.hid (RF.kept (a' := 0) (e' := 0) HRj.out hK4 HXj.out); have HI4 := Lib.hid (R55_keepF HIj.out HRj.out hK4); have HR4 := Lib.hid hR4; clear hR4 hK4)
              have q0 : w4.cell? ⟨w2.heap.size, 10, none⟩ = some (.slice A li.length c) := (blk_cell HX4.out 10).trans rfl
              refine wp_region_held_drew (S := fun w' => True) (by kernel_rfl) trivial (fun hH0 => ?_)
              refine wpAnyH_take (i := 0) (oi := { dst := some 111, op := .fieldAddr 25 (.tmp 5) 10, type := 0, pos := "ref.go:236", after := #[], guard := none }) (v := ?_) rfl (by kernel_rfl) (by kernel_rfl) (by kernel_rfl) (fun _ _ _ h => h) (Or.inl ⟨by rfl, ?_⟩) hH0 ?_
              rotate_left
              · intro w' hSw; (try dsimp only at hSw)
                go_simp
                try with_reducible rfl
              (try simp only [Act.put, List.setIfInBounds_toArray, List.set_cons_zero, List.set_cons_succ])
              refine wpAnyH_take (i := 2) (oi := { dst := some 113, op := .move (.tmp 11), type := 3, pos := "ref.go:236", after := #[], guard := none }) (v := ?_) rfl (by kernel_rfl) (by kernel_rfl) (by kernel_rfl) (fun _ _ _ h => h) (Or.inl ⟨by rfl, ?_⟩) hH0 ?_
              rotate_left
              · intro w' hSw; (try dsimp only at hSw)
                go_simp
                try with_reducible rfl
              (try simp only [Act.put, List.setIfInBounds_toArray, List.set_cons_zero, List.set_cons_succ])
              refine wpAnyH_take (i := 3) (oi := { dst := some 114, op := .move (.tmp 4), type := 64, pos := "ref.go:236", after := #[], guard := none }) (v := ?_) rfl (by kernel_rfl) (by kernel_rfl) (by kernel_rfl) (fun _ _ _ h => h) (Or.inl ⟨by rfl, ?_⟩) hH0 ?_
              rotate_left
              · intro w' hSw; (try dsimp only at hSw)
                go_simp
                try with_reducible rfl
              (try simp only [Act.put, List.setIfInBounds_toArray, List.set_cons_zero, List.set_cons_succ])
              refine wpAnyH_ready (rs := [1, 4]) (by kernel_rfl) (by simp) ?_
              refine AllReadyH.cons (o := { dst := some 112, op := .load 23 (.tmp 111), type := 23, pos := "ref.go:236", after := #[⟨0, .data⟩], guard := none }) rfl (fun K hK => ?_) ?_
              · go_simp
                refine hK.out _ _ ?_ (fun hH1 => ?_)
                · trivial
                clear hK K
                (try simp only [Act.put, List.setIfInBounds_toArray, List.set_cons_zero, List.set_cons_succ])
                refine wpAnyH_ready (rs := [4]) (by kernel_rfl) (by simp) ?_
                refine AllReadyH.cons (o := { dst := some 115, op := .call { callee := .value (.func 33), args := #[.tmp 114, .const (.int .i64 6)], argTypes := #[64, 3] }, type := 3, pos := "ref.go:236", after := #[⟨3, .data⟩], guard := none }) rfl (fun K hK => ?_) ?_
                · go_simp
                  go_at_call 33
                  refine (rf_num HR4.out.drew 6 (by decide) (by decide) H4.out).mono ?_
                  rintro e' w5 ⟨rfl, hR5, hK5⟩
                  have x5 := RF.kept (a' := 0) (e' := 0) HR4.out.drew hK5 (show w4.drew.heap[w2.heap.size]? = _ from HX4.out)
                  have HI5 := Lib.hid (R55_keepF (show Kd.R k55 55 w4.drew wb.heap.size (fun _ => True) (.slice A li.length c) li from HI4.out) HR4.out.drew hK5)
                  have q1 : w5.cell? ⟨w2.heap.size, 10, none⟩ = some (.slice A li.length c) := (blk_cell x5 10).trans rfl
                  have q2 : (w5.alloc (.cells #[.int .i64 n3, .int .i64 n4] 55)).cell? ⟨w2.heap.size, 10, none⟩ = some (.slice A li.length c) := (blk_cell (blk_alloc x5 _) 10).trans rfl
                  have HX5 := Lib.hid x5
                  have HR5 := Lib.hid hR5
                  clear x5 hR5 hK5
                  go_simp
                  refine hK.out _ _ ?_ (fun hH2 => ?_)
                  · trivial
                  clear hK K
                  (try simp only [Act.put, List.setIfInBounds_toArray, List.set_cons_zero, List.set_cons_succ])
                  refine wpAnyH_take (i := 5) (oi := { dst := some 116, op := .build 55 #[(0, .tmp 113), (1, .tmp 115)], type := 55, pos := "ref.go:236", after := #[⟨2, .data⟩, ⟨4, .data⟩], guard := none }) (v := ?_) rfl (by kernel_rfl) (by kernel_rfl) (by kernel_rfl) (fun _ _ _ h => h) (Or.inl ⟨by rfl, ?_⟩) hH2 ?_
                  rotate_left
                  · intro w' hSw; (try dsimp only at hSw)
                    go_simp
                    try with_reducible rfl
                  (try simp only [Act.put, List.setIfInBounds_toArray, List.set_cons_zero, List.set_cons_succ])
                  refine wpAnyH_ready (rs := [6]) (by kernel_rfl) (by simp) ?_
                  refine AllReadyH.cons (o := { dst := some 117, op := .buildSlice 23 1 #[(0, .tmp 116)], type := 23, pos := "ref.go:236", after := #[⟨5, .data⟩], guard := none }) rfl (fun K hK => ?_) ?_
                  · go_simp
                    refine hK.out _ _ ?_ (fun hH3 => ?_)
                    · trivial
                    clear hK K
                    (try simp only [Act.put, List.setIfInBounds_toArray, List.set_cons_zero, List.set_cons_succ])
                    refine wpAnyH_ready (rs := [7]) (by kernel_rfl) (by simp) ?_
                    refine AllReadyH.cons (o := { dst := some 118, op := .call { callee := .builtin .append, args := #[.tmp 112, .tmp 117], argTypes := #[23, 23] }, type := 23, pos := "ref.go:236", after := #[⟨1, .data⟩, ⟨6, .data⟩, ⟨4, .chain⟩], guard := none }) rfl (fun K hK => ?_) ?_
                    · skip
                      refine Kd.R_append_step k55 (w0 := wb) wb.heap.size (by rfl) (.tmp 112) (.tmp 117) 23 55 _ 16 rfl Try.underlying23 info55 rfl (by decide) (by omega) (.slice A li.length c) li ⟨n3, n4⟩ [.int .i64 n3, .int .i64 n4] (fun _ => True) (fun _ => False) rfl rfl (k55_mkM _ _ _ ⟨n3, n4⟩) (fun _ h => h.elim) (fun _ _ => trivial) HI5.out HR5.out.b HR5.out.b.size (by have := HLJ.out; omega) ?_
                      intro v6 w6 hR6 hbel6 hgr6 hat6
                      obtain ⟨A6, c6, rfl⟩ := Kd.R_slice hR6
                      have x6 := (hgr6.block w2.heap.size (blk_lt HX5.out) (own_ne HI5.out.2.choose_spec.1 HX5.out (by decide))).trans HX5.out
                      have q3 : w6.cell? ⟨w2.heap.size, 10, none⟩ = some (.slice A li.length c) := (blk_cell x6 10).trans rfl
                      have q4 := blk_frozen x6 10
                      have HX6 := Lib.hid x6
                      have HI6 := Lib.hid hR6
                      have HR6 := Lib.hid (show RF wb w6 (w.heap.size + 1) s o4 f4 from ⟨HR5.out.i.grown hgr6 (IsS66.own_ne HR5.out.i HI5.out (by decide)), hbel6, HR5.out.v⟩)
                      clear x6 hR6 hbel6 hgr6 hat6
                      refine hK.out _ _ ?_ (fun hH4 => ?_)
                      · trivial
                      clear hK K
                      (try simp only [Act.put, List.setIfInBounds_toArray, List.set_cons_zero, List.set_cons_succ])
                      refine wpAnyH_take (i := 8) (oi := { dst := some 119, op := .fieldAddr 25 (.tmp 5) 10, type := 0, pos := "ref.go:236", after := #[⟨0, .phase⟩, ⟨1, .phase⟩, ⟨2, .phase⟩, ⟨3, .phase⟩, ⟨4, .phase⟩, ⟨5, .phase⟩, ⟨6, .phase⟩, ⟨7, .phase⟩], guard := none }) (v := ?_) rfl (by kernel_rfl) (by kernel_rfl) (by kernel_rfl) (fun _ _ _ h => h) (Or.inl ⟨by rfl, ?_⟩) hH4 ?_
                      rotate_left
                      · intro w' hSw; (try dsimp only at hSw)
                        go_simp
                        try with_reducible rfl
                      (try simp only [Act.put, List.setIfInBounds_toArray, List.set_cons_zero, List.set_cons_succ])
                      refine wpAnyH_ready (rs := [9]) (by kernel_rfl) (by simp) ?_
                      refine AllReadyH.cons (o := { dst := none, op := .store 23 (.tmp 119) (.tmp 118), type := 0, pos := "ref.go:236", after := #[⟨8, .data⟩, ⟨7, .data⟩, ⟨7, .chain⟩, ⟨0, .phase⟩, ⟨1, .phase⟩, ⟨2, .phase⟩, ⟨3, .phase⟩, ⟨4, .phase⟩, ⟨5, .phase⟩, ⟨6, .phase⟩, ⟨7, .phase⟩], guard := none }) rfl (fun K hK => ?_) ?_
                      · go_simp
                        refine hK.out _ _ ?_ (fun hH5 => ?_)
                        · trivial
                        clear hK K
                        (try simp only [Act.put, List.setIfInBounds_toArray, List.set_cons_zero, List.set_cons_succ])
                        refine wpAnyH_done (by kernel_rfl) ?_ _
                        go_wp2
                        go_roundw
                        case rel => exact ⟨j + 1, li ++ [⟨n3, n4⟩], o4, f4, A6, c6, HJ.out, by go_num, by rw [List.length_append]; have := HLJ.out; simp; omega, RF.set HR6.out HX6.out HGE.out 10 _, (blk_put HX6.out 10 _ rfl).trans (by rw [List.length_append]; rfl), by rw [List.length_append]; have q := Kd.R_set HI6.out HX6.out (by decide) 10 (.slice A6 (li.length + 1) c6); rw [List.length_append] at q; exact q, HF.out⟩
                        case measure => have := HJ.out; simp [intOf]; omega
                      exact AllReadyH.nil
                    exact AllReadyH.nil
                  exact AllReadyH.nil
                exact AllReadyH.nil
              refine AllReadyH.cons (o := { dst := some 115, op := .call { callee := .value (.func 33), args := #[.tmp 114, .const (.int .i64 6)], argTypes := #[64, 3] }, type := 3, pos := "ref.go:236", after := #[⟨3, .data⟩], guard := none }) rfl (fun K hK => ?_) ?_
              · go_simp
                go_at_call 33
                refine (rf_num HR4.out.drew 6 (by decide) (by decide) H4.out).mono ?_
                rintro e' w5 ⟨rfl, hR5, hK5⟩
                have x5 := RF.kept (a' := 0) (e' := 0) HR4.out.drew hK5 (show w4.drew.heap[w2.heap.size]? = _ from HX4.out)
                have HI5 := Lib.hid (R55_keepF (show Kd.R k55 55 w4.drew wb.heap.size (fun _ => True) (.slice A li.length c) li from HI4.out) HR4.out.drew hK5)
                have q1 : w5.cell? ⟨w2.heap.size, 10, none⟩ = some (.slice A li.length c) := (blk_cell x5 10).trans rfl
                have q2 : (w5.alloc (.cells #[.int .i64 n3, .int .i64 n4] 55)).cell? ⟨w2.heap.size, 10, none⟩ = some (.slice A li.length c) := (blk_cell (blk_alloc x5 _) 10).trans rfl
                have HX5 := Lib.hid x5
                have HR5 := Lib.hid hR5
                clear x5 hR5 hK5
                go_simp
                refine hK.out _ _ ?_ (fun hH6 => ?_)
                · trivial
                clear hK K
                (try simp only [Act.put, List.setIfInBounds_toArray, List.set_cons_zero, List.set_cons_succ])
                refine wpAnyH_take (i := 5) (oi := { dst := some 116, op := .build 55 #[(0, .tmp 113), (1, .tmp 115)], type := 55, pos := "ref.go:236", after := #[⟨2, .data⟩, ⟨4, .data⟩], guard := none }) (v := ?_) rfl (by kernel_rfl) (by kernel_rfl) (by kernel_rfl) (fun _ _ _ h => h) (Or.inl ⟨by rfl, ?_⟩) hH6 ?_
                rotate_left
                · intro w' hSw; (try dsimp only at hSw)
                  go_simp
                  try with_reducible rfl
                (try simp only [Act.put, List.setIfInBounds_toArray, List.set_cons_zero, List.set_cons_succ])
                refine wpAnyH_ready (rs := [1, 6]) (by kernel_rfl) (by simp) ?_
                refine AllReadyH.cons (o := { dst := some 112, op := .load 23 (.tmp 111), type := 23, pos := "ref.go:236", after := #[⟨0, .data⟩], guard := none }) rfl (fun K hK => ?_) ?_
                · go_simp
                  refine hK.out _ _ ?_ (fun hH7 => ?_)
                  · trivial
                  clear hK K
                  (try simp only [Act.put, List.setIfInBounds_toArray, List.set_cons_zero, List.set_cons_succ])
                  refine wpAnyH_ready (rs := [6]) (by kernel_rfl) (by simp) ?_
                  refine AllReadyH.cons (o := { dst := some 117, op := .buildSlice 23 1 #[(0, .tmp 116)], type := 23, pos := "ref.go:236", after := #[⟨5, .data⟩], guard := none }) rfl (fun K hK => ?_) ?_
                  · go_simp
                    refine hK.out _ _ ?_ (fun hH8 => ?_)
                    · trivial
                    clear hK K
                    (try simp only [Act.put, List.setIfInBounds_toArray, List.set_cons_zero, List.set_cons_succ])
                    refine wpAnyH_ready (rs := [7]) (by kernel_rfl) (by simp) ?_
                    refine AllReadyH.cons (o := { dst := some 118, op := .call { callee := .builtin .append, args := #[.tmp 112, .tmp 117], argTypes := #[23, 23] }, type := 23, pos := "ref.go:236", after := #[⟨1, .data⟩, ⟨6, .data⟩, ⟨4, .chain⟩], guard := none }) rfl (fun K hK => ?_) ?_
                    · skip
                      refine Kd.R_append_step k55 (w0 := wb) wb.heap.size (by rfl) (.tmp 112) (.tmp 117) 23 55 _ 16 rfl Try.underlying23 info55 rfl (by decide) (by omega) (.slice A li.length c) li ⟨n3, n4⟩ [.int .i64 n3, .int .i64 n4] (fun _ => True) (fun _ => False) rfl rfl (k55_mkM _ _ _ ⟨n3, n4⟩) (fun _ h => h.elim) (fun _ _ => trivial) HI5.out HR5.out.b HR5.out.b.size (by have := HLJ.out; omega) ?_
                      intro v6 w6 hR6 hbel6 hgr6 hat6
                      obtain ⟨A6, c6, rfl⟩ := Kd.R_slice hR6
                      have x6 := (hgr6.block w2.heap.size (blk_lt HX5.out) (own_ne HI5.out.2.choose_spec.1 HX5.out (by decide))).trans HX5.out
                      have q3 : w6.cell? ⟨w2.heap.size, 10, none⟩ = some (.slice A li.length c) := (blk_cell x6 10).trans rfl
                      have q4 := blk_frozen x6 10
                      have HX6 := Lib.hid x6
                      have HI6 := Lib.hid hR6
                      have HR6 := Lib.hid (show RF wb w6 (w.heap.size + 1) s o4 f4 from ⟨HR5.out.i.grown hgr6 (IsS66.own_ne HR5.out.i HI5.out (by decide)), hbel6, HR5.out.v⟩)
                      clear x6 hR6 hbel6 hgr6 hat6
                      refine hK.out _ _ ?_ (fun hH9 => ?_)
                      · trivial
                      clear hK K
                      (try simp only [Act.put, List.setIfInBounds_toArray, List.set_cons_zero, List.set_cons_succ])
                      refine wpAnyH_take (i := 8) (oi := { dst := some 119, op := .fieldAddr 25 (.tmp 5) 10, type := 0, pos := "ref.go:236", after := #[⟨0, .phase⟩, ⟨1, .phase⟩, ⟨2, .phase⟩, ⟨3, .phase⟩, ⟨4, .phase⟩, ⟨5, .phase⟩, ⟨6, .phase⟩, ⟨7, .phase⟩], guard := none }) (v := ?_) rfl (by kernel_rfl) (by kernel_rfl) (by kernel_rfl) (fun _ _ _ h => h) (Or.inl ⟨by rfl, ?_⟩) hH9 ?_
                      rotate_left
                      · intro w' hSw; (try dsimp only at hSw)
                        go_simp
                        try with_reducible rfl
                      (try simp only [Act.put, List.setIfInBounds_toArray, List.set_cons_zero, List.set_cons_succ])
                      refine wpAnyH_ready (rs := [9]) (by kernel_rfl) (by simp) ?_
                      refine AllReadyH.cons (o := { dst := none, op := .store 23 (.tmp 119) (.tmp 118), type := 0, pos := "ref.go:236", after := #[⟨8, .data⟩, ⟨7, .data⟩, ⟨7, .chain⟩, ⟨0, .phase⟩, ⟨1, .phase⟩, ⟨2, .phase⟩, ⟨3, .phase⟩, ⟨4, .phase⟩, ⟨5, .phase⟩, ⟨6, .phase⟩, ⟨7, .phase⟩], guard := none }) rfl (fun K hK => ?_) ?_
                      · go_simp
                        refine hK.out _ _ ?_ (fun hH10 => ?_)
                        · trivial
                        clear hK K
                        (try simp only [Act.put, List.setIfInBounds_toArray, List.set_cons_zero, List.set_cons_succ])
                        refine wpAnyH_done (by kernel_rfl) ?_ _
                        go_wp2
                        go_roundw
                        case rel => exact ⟨j + 1, li ++ [⟨n3, n4⟩], o4, f4, A6, c6, HJ.out, by go_num, by rw [List.length_append]; have := HLJ.out; simp; omega, RF.set HR6.out HX6.out HGE.out 10 _, (blk_put HX6.out 10 _ rfl).trans (by rw [List.length_append]; rfl), by rw [List.length_append]; have q := Kd.R_set HI6.out HX6.out (by decide) 10 (.slice A6 (li.length + 1) c6); rw [List.length_append] at q; exact q, HF.out⟩
                        case measure => have := HJ.out; simp [intOf]; omega
                      exact AllReadyH.nil
                    exact AllReadyH.nil
                  exact AllReadyH.nil
                refine AllReadyH.cons (o := { dst := some 117, op := .buildSlice 23 1 #[(0, .tmp 116)], type := 23, pos := "ref.go:236", after := #[⟨5, .data⟩], guard := none }) rfl (fun K hK => ?_) ?_
                · go_simp
                  refine hK.out _ _ ?_ (fun hH11 => ?_)
                  · trivial
                  clear hK K
                  (try simp only [Act.put, List.setIfInBounds_toArray, List.set_cons_zero, List.set_cons_succ])
                  refine wpAnyH_ready (rs := [1]) (by kernel_rfl) (by simp) ?_
                  refine AllReadyH.cons (o := { dst := some 112, op := .load 23 (.tmp 111), type := 23, pos := "ref.go:236", after := #[⟨0, .data⟩], guard := none }) rfl (fun K hK => ?_) ?_
                  · go_simp
                    refine hK.out _ _ ?_ (fun hH12 => ?_)
                    · trivial
                    clear hK K
                    (try simp only [Act.put, List.setIfInBounds_toArray, List.set_cons_zero, List.set_cons_succ])
                    refine wpAnyH_ready (rs := [7]) (by kernel_rfl) (by simp) ?_
                    refine AllReadyH.cons (o := { dst := some 118, op := .call { callee := .builtin .append, args := #[.tmp 112, .tmp 117], argTypes := #[23, 23] }, type := 23, pos := "ref.go:236", after := #[⟨1, .data⟩, ⟨6, .data⟩, ⟨4, .chain⟩], guard := none }) rfl (fun K hK => ?_) ?_
                    · skip
                      refine Kd.R_append_step k55 (w0 := wb) wb.heap.size (by rfl) (.tmp 112) (.tmp 117) 23 55 _ 16 rfl Try.underlying23 info55 rfl (by decide) (by omega) (.slice A li.length c) li ⟨n3, n4⟩ [.int .i64 n3, .int .i64 n4] (fun _ => True) (fun _ => False) rfl rfl (k55_mkM _ _ _ ⟨n3, n4⟩) (fun _ h => h.elim) (fun _ _ => trivial) HI5.out HR5.out.b HR5.out.b.size (by have := HLJ.out; omega) ?_
                      intro v6 w6 hR6 hbel6 hgr6 hat6
                      obtain ⟨A6, c6, rfl⟩ := Kd.R_slice hR6
                      have x6 := (hgr6.block w2.heap.size (blk_lt HX5.out) (own_ne HI5.out.2.choose_spec.1 HX5.out (by decide))).trans HX5.out
                      have q3 : w6.cell? ⟨w2.heap.size, 10, none⟩ = some (.slice A li.length c) := (blk_cell x6 10).trans rfl
                      have q4 := blk_frozen x6 10
                      have HX6 := Lib.hid x6
                      have HI6 := Lib.hid hR6
                      have HR6 := Lib.hid (show RF wb w6 (w.heap.size + 1) s o4 f4 from ⟨HR5.out.i.grown hgr6 (IsS66.own_ne HR5.out.i HI5.out (by decide)), hbel6, HR5.out.v⟩)
                      clear x6 hR6 hbel6 hgr6 hat6
                      refine hK.out _ _ ?_ (fun hH13 => ?_)
                      · trivial
                      clear hK K
                      (try simp only [Act.put, List.setIfInBounds_toArray, List.set_cons_zero, List.set_cons_succ])
                      refine wpAnyH_take (i := 8) (oi := { dst := some 119, op := .fieldAddr 25 (.tmp 5) 10, type := 0, pos := "ref.go:236", after := #[⟨0, .phase⟩, ⟨1, .phase⟩, ⟨2, .phase⟩, ⟨3, .phase⟩, ⟨4, .phase⟩, ⟨5, .phase⟩, ⟨6, .phase⟩, ⟨7, .phase⟩], guard := none }) (v := ?_) rfl (by kernel_rfl) (by kernel_rfl) (by kernel_rfl) (fun _ _ _ h => h) (Or.inl ⟨by rfl, ?_⟩) hH13 ?_
                      rotate_left
                      · intro w' hSw; (try dsimp only at hSw)
                        go_simp
                        try with_reducible rfl
                      (try simp only [Act.put, List.setIfInBounds_toArray, List.set_cons_zero, List.set_cons_succ])
                      refine wpAnyH_ready (rs := [9]) (by kernel_rfl) (by simp) ?_
                      refine AllReadyH.cons (o := { dst := none, op := .store 23 (.tmp 119) (.tmp 118), type := 0, pos := "ref.go:236", after := #[⟨8, .data⟩, ⟨7, .data⟩, ⟨7, .chain⟩, ⟨0, .phase⟩, ⟨1, .phase⟩, ⟨2, .phase⟩, ⟨3, .phase⟩, ⟨4, .phase⟩, ⟨5, .phase⟩, ⟨6, .phase⟩, ⟨7, .phase⟩], guard := none }) rfl (fun K hK => ?_) ?_
                      · go_simp
                        refine hK.out _ _ ?_ (fun hH14 => ?_)
                        · trivial
                        clear hK K
                        (try simp only [Act.put, List.setIfInBounds_toArray, List.set_cons_zero, List.set_cons_succ])
                        refine wpAnyH_done (by kernel_rfl) ?_ _
                        go_wp2
                        go_roundw
                        case rel => exact ⟨j + 1, li ++ [⟨n3, n4⟩], o4, f4, A6, c6, HJ.out, by go_num, by rw [List.length_append]; have := HLJ.out; simp; omega, RF.set HR6.out HX6.out HGE.out 10 _, (blk_put HX6.out 10 _ rfl).trans (by rw [List.length_append]; rfl), by rw [List.length_append]; have q := Kd.R_set HI6.out HX6.out (by decide) 10 (.slice A6 (li.length + 1) c6); rw [List.length_append] at q; exact q, HF.out⟩
                        case measure => have := HJ.out; simp [intOf]; omega
                      exact AllReadyH.nil
                    exact AllReadyH.nil
                  exact AllReadyH.nil
                exact AllReadyH.nil
              exact AllReadyH.nil
            · have e3 : decide (e = 0) = false := by simpa using he
              have e4 : (e == 0) = false := by simpa using he
              rw [tabR_err s _ _ _ _ he] at hF
              simp only [Prod.mk.injEq] at hF
              obtain ⟨rfl, rfl, rfl⟩ := hF
              clear hR hX hI hlt hj hlj he
              go_wp2
              go_meet
              case rel => exact ⟨(⟨9, 0, 0, 0, 0, ⟨#[]⟩, ⟨#[]⟩, ⟨#[]⟩, 0, nilS, ⟨A, li.length, c⟩, 0, 0⟩ : RV), HRj.out, HXj.out, Kd.R_nil _ _ _ _ _, HIj.out, ⟨rfl, rfl, rfl, rfl, rfl, rfl, rfl, rfl, rfl, rfl, rfl⟩, by simp, HLj.out⟩
          · obtain rfl : j = N := by omega
            have e1 : decide ((j : Int) < (j : Int)) = false := by simp
            rw [Nat.sub_self] at hF
            unfold tabR at hF
            simp only [Prod.mk.injEq] at hF
            obtain ⟨rfl, rfl, rfl⟩ := hF
            clear hR hX hI hlt hj hlj
            go_wp2
            go_meet
            case rel => exact ⟨(⟨9, 0, 0, 0, 0, ⟨#[]⟩, ⟨#[]⟩, ⟨#[]⟩, 0, nilS, ⟨A, li.length, c⟩, 0, 0⟩ : RV), HRj.out, HXj.out, Kd.R_nil _ _ _ _ _, HIj.out, ⟨rfl, rfl, rfl, rfl, rfl, rfl, rfl, rfl, rfl, rfl, rfl⟩, by simp, HLj.out⟩
      by_cases k10 : k = 10
      · subst k10
        obtain ⟨n1, o1, f1, h1⟩ : ∃ n o f, numS s a1 0 4 = (n, o, f) := ⟨_, _, _, rfl⟩
        obtain ⟨n2, o2, f2, h2⟩ : ∃ n o f, numS s o1 f1 1 = (n, o, f) := ⟨_, _, _, rfl⟩
        obtain rfl : G = ⟨(⟨10, 0, 0, 0, 0, ⟨#[]⟩, ⟨#[]⟩, ⟨#[]⟩, 0, nilS, nilS, n1, n2⟩ : RV), [], [], o2, f2⟩ := by
          rw [← HG.out]
          unfold refF readF
          simp [h1, h2, zeroR]
        have H1 := Lib.hid h1
        have H2 := Lib.hid h2
        clear h1 h2
        go_wp2_with (first
          | (go_at_call 33; (with_reducible refine (rf_num HR3.out 1 (by decide) (by decide) H2.out).mono ?_); rintro e' w4 ⟨rfl, hR4, hK4⟩; have x4 := RF.kept (a' := 0) (e' := 0) HR3.out hK4 HX3.out; have zf4 := blk_frozen x4 12; have zc4 : w4.cell? ⟨w2.heap.size, 12, none⟩ = some (.int .i64 0) := (blk_cell x4 12).trans rfl; have y4 : (w4.setCell ⟨w2.heap.size, 12, none⟩ (.int .i64 n2)).heap[w2.heap.size]? = some (.cells #[.int .i64 10, .int .i64 0, .int .i64 0, .int .i64 0, .int .i64 0, .string ⟨#[]⟩, .string ⟨#[]⟩, .string ⟨#[]⟩, .int .i64 0, .slice none 0 0, .slice none 0 0, .int .i64 n1, .int .i64 n2] 25 (0, 0)) := blk_put x4 12 _ rfl; have HR4 := Lib.hid (RF.set hR4 x4 HGE.out 12 (.int .i64 n2)); have HX4 := Lib.hid y4; have yc4_0 : (w4.setCell ⟨w2.heap.size, 12, none⟩ (.int .i64 n2)).cell? ⟨w2.heap.size, 0, none⟩ = some (.int .i64 10) := (blk_cell y4 0).trans rfl; have yc4_4 : (w4.setCell ⟨w2.heap.size, 12, none⟩ (.int .i64 n2)).cell? ⟨w2.heap.size, 4, none⟩ = some (.int .i64 0) := (blk_cell y4 4).trans rfl; clear x4 y4 hR4 hK4)
          | (go_at_call 33; (with_reducible refine (rf_num HR2.out 4 (by decide) (by decide) H1.out).mono ?_); rintro e' w3 ⟨rfl, hR3, hK3⟩; have x3 := RF.kept (a' := 0) (e' := 0) HR2.out hK3 HX2.out; have zf3 := blk_frozen x3 11; have zc3 : w3.cell? ⟨w2.heap.size, 11, none⟩ = some (.int .i64 0) := (blk_cell x3 11).trans rfl; have y3 : (w3.setCell ⟨w2.heap.size, 11, none⟩ (.int .i64 n1)).heap[w2.heap.size]? = some (.cells #[.int .i64 10, .int .i64 0, .int .i64 0, .int .i64 0, .int .i64 0, .string ⟨#[]⟩, .string ⟨#[]⟩, .string ⟨#[]⟩, .int .i64 0, .slice none 0 0, .slice none 0 0, .int .i64 n1, .int .i64 0] 25 (0, 0)) := blk_put x3 11 _ rfl; have HR3 := Lib.hid (RF.set hR3 x3 HGE.out 11 (.int .i64 n1)); have HX3 := Lib.hid y3; have yc3_0 : (w3.setCell ⟨w2.heap.size, 11, none⟩ (.int .i64 n1)).cell? ⟨w2.heap.size, 0, none⟩ = some (.int .i64 10) := (blk_cell y3 0).trans rfl; have yc3_4 : (w3.setCell ⟨w2.heap.size, 11, none⟩ (.int .i64 n1)).cell? ⟨w2.heap.size, 4, none⟩ = some (.int .i64 0) := (blk_cell y3 4).trans rfl; clear x3 y3 hR3 hK3))
        go_meet
        case rel => exact ⟨(⟨10, 0, 0, 0, 0, ⟨#[]⟩, ⟨#[]⟩, ⟨#[]⟩, 0, nilS, nilS, n1, n2⟩ : RV), HR4.out, HX4.out, Kd.R_nil _ _ _ _ _, Kd.R_nil _ _ _ _ _, SameV.refl _, by simp, by simp⟩
      have d1 : (k == 1) = false := by simpa using k1
      have d2 : (k == 2) = false := by simpa using k2
      have d3 : (k == 3) = false := by simpa using k3
      have d4 : (k == 4) = false := by simpa using k4
      have d5 : (k == 5) = false := by simpa using k5
      have d6 : (k == 6) = false := by simpa using k6
      have d7 : (k == 7) = false := by simpa using k7
      have d8 : (k == 8) = false := by simpa using k8
      have d9 : (k == 9) = false := by simpa using k9
      have d10 : (k == 10) = false := by simpa using k10
      obtain rfl : G = ⟨zeroR k, [], [], a1, 0⟩ := by
        rw [← HG.out]
        unfold refF readF
        rw [if_neg (by omega), if_neg (by omega), if_neg (by omega), if_neg (by omega), if_neg (by omega), if_neg (by omega), if_neg (by omega), if_neg (by omega)]
      clear k1 k2 k3 k4 k5 k6 k7 k8 k9 k10
      go_wp2
      go_meet
      case rel => exact ⟨zeroR k, HR2.out, HX2.out, Kd.R_nil _ _ _ _ _, Kd.R_nil _ _ _ _ _, SameV.refl _, by simp, by simp⟩
    case rest =>
      obtain ⟨q, hQ⟩ := hcut
      have HQ := Lib.hid hQ
      have re := hQ.rd.i.c2
      have hX0 := fun (wx : World) (h : Below wb.heap.size wb wx) => (h.block w.heap.size (by have := blk_lt HXZ.out; omega)).trans HXZ.out
      have HX0 := Lib.hid hX0
      clear hX0 hQ HR1 HR2 HX2
      by_cases he : G.e = 0
      · obtain ⟨B, hB⟩ : ∃ B, cbodyP G.q G.li G.lt = B := ⟨_, rfl⟩
        have hbody := refbody_calls q G.li G.lt wc (RRow.of HQ.out.ri HQ.out.rt) HQ.out.li HQ.out.lt
        rw [cbodyP_same HQ.out.sv, hB] at hbody
        have HBD := Lib.hid hbody
        have hok := refOfP_ok s k a1 HK.out (by rw [HG.out]; exact he)
        have hnot := refOfP_not s k a1 HK.out (by rw [HG.out]; exact he)
        rw [HG.out, hB] at hok hnot
        rw [he] at re
        obtain ⟨t, f⟩ := B
        simp only at hok hnot
        have HX5 := Lib.hid HQ.out.rec_
        clear hbody hB he
        by_cases hf : f = 0
        · subst hf
          by_cases hts : t = s
          · subst hts
            have HP := Lib.hid (hok (fun c => c.elim (fun d => d rfl) (fun d => d rfl)))
            clear hok hnot
            go_wp2_with (first
              | (refine wpList_load_row rfl 25 _ rfl w2.heap.size rfl 25 q.cs (0, 0) _ HX5.out Try.underlying25 rfl (hinfo25 q) ?_) | (go_at_call 11; (with_reducible refine HBD.out.mono ?_); rintro e' w6 ⟨rfl, hB6⟩; have HX6 := Lib.hid (blk_below HX5.out hB6); have HR6 := Lib.hid (HQ.out.rd.below hB6); have HRI6 := Lib.hid (Kd.R_below HQ.out.ri hB6); have HRT6 := Lib.hid (Kd.R_below HQ.out.rt hB6); clear hB6) | (refine wpList_load_row rfl 25 _ rfl w2.heap.size rfl 25 q.cs (0, 0) _ HX6.out Try.underlying25 rfl (hinfo25 q) ?_)
              | (refine wpList_store_row rfl 25 _ _ rfl w.heap.size q.cs rfl rfl 25 _ (HX0.out _ HR6.out.b) (hinfo25 q) rfl (rv_one _) ?_))
            refine bodyPost_ret (results_ct (p := 2) (u := 3) (ty := 25) rfl _ _ w.heap.size 25 q.cs (0, 0) _ rfl (set_new (HX0.out _ HR6.out.b)) Try.underlying25 rfl (hinfo25 q)) rfl ?_
            rw [HP.out]
            exact ⟨q, rfl, HQ.out.sv, ⟨Kd.R_lower (R36_row HRI6.out (HX0.out _ HR6.out.b)) HBB.out.size, Kd.R_lower (R55_row HRT6.out (HX0.out _ HR6.out.b)) HBB.out.size⟩, setRow_below (below_step HBB.out HR6.out.b) (Nat.le_refl _) _⟩
          · have hl : t.toList ≠ s.toList := fun c => by
              rw [Lib.toList_data, Lib.toList_data] at c
              exact hts (ba_ext c)
            have d3 : (t.toList == s.toList) = false := by simpa using hl
            have d4 : (t.toList != s.toList) = true := by simpa using hl
            have HP := Lib.hid (hnot (.inr hts))
            clear hok hnot hl hts
            go_wp2_with (first
              | (refine wpList_load_row rfl 25 _ rfl w2.heap.size rfl 25 q.cs (0, 0) _ HX5.out Try.underlying25 rfl (hinfo25 q) ?_) | (go_at_call 11; (with_reducible refine HBD.out.mono ?_); rintro e' w6 ⟨rfl, hB6⟩; have HR6 := Lib.hid (HQ.out.rd.below hB6); clear hB6)
              | (refine wpList_store_row rfl 25 _ _ rfl w.heap.size (zeroR 0).cs rfl rfl 25 _ (HX0.out _ HR6.out.b) (hinfo25 (zeroR 0)) rfl (rv_one _) ?_))
            refine bodyPost_ret (results_ct (p := 2) (u := 3) (ty := 25) rfl _ _ w.heap.size 25 (zeroR 0).cs (0, 0) _ rfl (set_new (HX0.out _ HR6.out.b)) Try.underlying25 rfl (hinfo25 (zeroR 0))) rfl ?_
            rw [HP.out]
            exact ⟨zeroR 0, rfl, SameV.refl _, ⟨Kd.R_nil _ _ _ _ _, Kd.R_nil _ _ _ _ _⟩, setRow_below (below_step HBB.out HR6.out.b) (Nat.le_refl _) _⟩
        · have d1 : (f == 0) = false := by simpa using hf
          have d2 : (f != 0) = true := by simpa using hf
          have HP := Lib.hid (hnot (.inl hf))
          clear hok hnot hf
          go_wp2_with (first
            | (refine wpList_load_row rfl 25 _ rfl w2.heap.size rfl 25 q.cs (0, 0) _ HX5.out Try.underlying25 rfl (hinfo25 q) ?_) | (go_at_call 11; (with_reducible refine HBD.out.mono ?_); rintro e' w6 ⟨rfl, hB6⟩; have HR6 := Lib.hid (HQ.out.rd.below hB6); clear hB6)
            | (refine wpList_store_row rfl 25 _ _ rfl w.heap.size (zeroR 0).cs rfl rfl 25 _ (HX0.out _ HR6.out.b) (hinfo25 (zeroR 0)) rfl (rv_one _) ?_))
          refine bodyPost_ret (results_ct (p := 2) (u := 3) (ty := 25) rfl _ _ w.heap.size 25 (zeroR 0).cs (0, 0) _ rfl (set_new (HX0.out _ HR6.out.b)) Try.underlying25 rfl (hinfo25 (zeroR 0))) rfl ?_
          rw [HP.out]
          exact ⟨zeroR 0, rfl, SameV.refl _, ⟨Kd.R_nil _ _ _ _ _, Kd.R_nil _ _ _ _ _⟩, setRow_below (below_step HBB.out HR6.out.b) (Nat.le_refl _) _⟩
      · have hp := refOfP_bad s k a1 HK.out (by rw [HG.out]; exact he)
        rw [HG.out] at hp
        have HR5 := Lib.hid HQ.out.rd
        clear HQ
        generalize G.e = z at *
        have d1 : (z == 0) = false := by simpa using he
        have d2 : (z != 0) = true := by simpa using he
        have HP := Lib.hid hp
        clear hp he
        go_wp2
        have hx0 := HX0.out wc.drew HR5.out.drew.b
        have c3 : (wc.drew.setRow w.heap.size (zeroR 0).cs).cell? ⟨w.heap.size + 1, 2, none⟩ = some (.int .i64 z) := (World.cell?_of_block (a := ⟨w.heap.size + 1, 2, none⟩) (setRow_other wc.drew w.heap.size (w.heap.size + 1) _ (by omega))).trans HR5.out.drew.i.c2
        have c4 := HR5.out.drew.i.c2
        refine wp_region_held_drew (S := fun w' => w'.cell? ⟨w.heap.size + 1, 2, none⟩ = some (.int .i64 z)) (by kernel_rfl) c4 (fun hH0 => ?_)
        refine wpAnyH_take (i := 0) (oi := { dst := some 133, op := .build 25 #[], type := 25, pos := "ref.go:243", after := #[], guard := none }) (v := ?_) rfl (by kernel_rfl) (by kernel_rfl) (by kernel_rfl) (fun _ _ _ h => h) (Or.inl ⟨by rfl, ?_⟩) hH0 ?_
        rotate_left
        · intro w' hSw; (try dsimp only at hSw)
          go_simp
          try with_reducible rfl
        (try simp only [Act.put, List.setIfInBounds_toArray, List.set_cons_zero, List.set_cons_succ])
        refine wpAnyH_take (i := 1) (oi := { dst := some 134, op := .move (.tmp 4), type := 64, pos := "ref.go:243", after := #[{ on := 5, ground := Go.Ground.gcOnly Go.Departure.lateStores }], guard := none }) (v := ?_) rfl (by kernel_rfl) (by kernel_rfl) (by kernel_rfl) (fun _ _ _ h => h) (Or.inl ⟨by rfl, ?_⟩) hH0 ?_
        rotate_left
        · intro w' hSw; (try dsimp only at hSw)
          go_simp
          try with_reducible rfl
        (try simp only [Act.put, List.setIfInBounds_toArray, List.set_cons_zero, List.set_cons_succ])
        refine wpAnyH_take (i := 2) (oi := { dst := some 135, op := .nilCheck (.tmp 134), type := 0, pos := "ref.go:243", after := #[⟨1, .data⟩, { on := 5, ground := Go.Ground.gcOnly Go.Departure.lateStores }], guard := none }) (v := ?_) rfl (by kernel_rfl) (by kernel_rfl) (by kernel_rfl) (fun _ _ _ h => h) (Or.inl ⟨by rfl, ?_⟩) hH0 ?_
        rotate_left
        · intro w' hSw; (try dsimp only at hSw)
          go_simp
          try with_reducible rfl
        (try simp only [Act.put, List.setIfInBounds_toArray, List.set_cons_zero, List.set_cons_succ])
        refine wpAnyH_take (i := 3) (oi := { dst := some 136, op := .fieldAddr 66 (.tmp 135) 2, type := 0, pos := "ref.go:243", after := #[⟨2, .data⟩, { on := 5, ground := Go.Ground.gcOnly Go.Departure.lateStores }], guard := none }) (v := ?_) rfl (by kernel_rfl) (by kernel_rfl) (by kernel_rfl) (fun _ _ _ h => h) (Or.inl ⟨by rfl, ?_⟩) hH0 ?_
        rotate_left
        · intro w' hSw; (try dsimp only at hSw)
          go_simp
          try with_reducible rfl
        (try simp only [Act.put, List.setIfInBounds_toArray, List.set_cons_zero, List.set_cons_succ])
        refine wpAnyH_take (i := 4) (oi := { dst := some 137, op := .load 27 (.tmp 136), type := 27, pos := "ref.go:243", after := #[⟨3, .data⟩, { on := 5, ground := Go.Ground.gcOnly Go.Departure.lateStores }], guard := none }) (v := ?_) rfl (by kernel_rfl) (by kernel_rfl) (by kernel_rfl) (fun _ _ _ h => h) (Or.inl ⟨by rfl, ?_⟩) hH0 ?_
        rotate_left
        · intro w' hSw; (try dsimp only at hSw)
          go_simp
          try with_reducible rfl
        (try simp only [Act.put, List.setIfInBounds_toArray, List.set_cons_zero, List.set_cons_succ])
        refine wpAnyH_ready (rs := [5]) (by kernel_rfl) (by simp) ?_
        refine AllReadyH.cons (o := { dst := none, op := .store 25 (.tmp 2) (.tmp 133), type := 0, pos := "ref.go:243", after := #[⟨0, .data⟩, ⟨0, .phase⟩, { on := 1, ground := Go.Ground.textOnly Go.Departure.lateStores }, { on := 2, ground := Go.Ground.textOnly Go.Departure.lateStores }, { on := 3, ground := Go.Ground.textOnly Go.Departure.lateStores }, { on := 4, ground := Go.Ground.textOnly Go.Departure.lateStores }], guard := none }) rfl (fun K hK => ?_) ?_
        · skip
          refine store_row_step (by rfl) 25 (.tmp 2) (.tmp 133) rfl w.heap.size (zeroR 0).cs rfl rfl 25 _ hx0 (hinfo25 (zeroR 0)) rfl (rv_one (zeroR 0)) ?_
          refine hK.out _ _ ?_ (fun hH1 => ?_)
          · exact c3
          clear hK K
          (try simp only [Act.put, List.setIfInBounds_toArray, List.set_cons_zero, List.set_cons_succ])
          refine wpAnyH_take (i := 6) (oi := { dst := some 3, op := .assign (.tmp 137), type := 27, pos := "ref.go:243", after := #[⟨4, .data⟩, ⟨5, .chain⟩, ⟨0, .phase⟩, ⟨1, .phase⟩, ⟨2, .phase⟩, ⟨3, .phase⟩, ⟨4, .phase⟩, ⟨5, .phase⟩], guard := none }) (v := ?_) rfl (by kernel_rfl) (by kernel_rfl) (by kernel_rfl) (fun _ _ _ h => h) (Or.inl ⟨by rfl, ?_⟩) hH1 ?_
          rotate_left
          · intro w' hSw; (try dsimp only at hSw)
            go_simp
            try with_reducible rfl
          (try simp only [Act.put, List.setIfInBounds_toArray, List.set_cons_zero, List.set_cons_succ])
          refine wpAnyH_done (by kernel_rfl) ?_ _
          go_wp2
          refine bodyPost_ret (results_ct (p := 2) (u := 3) (ty := 25) rfl _ _ w.heap.size 25 (zeroR 0).cs (0, 0) _ rfl (set_new hx0) Try.underlying25 rfl (hinfo25 (zeroR 0))) rfl ?_
          rw [HP.out]
          exact ⟨zeroR 0, rfl, SameV.refl _, ⟨Kd.R_nil _ _ _ _ _, Kd.R_nil _ _ _ _ _⟩, setRow_below (below_step HBB.out HR5.out.drew.b) (Nat.le_refl _) _⟩
        exact AllReadyH.nil
  · have d1 : (e1 != 0) = true := by simpa using h0
    have HP := Lib.hid (refOfP_err s k a1 e1 HK.out h0)
    obtain rfl := numS_bad HK.out h0
    have hX0 := fun (wx : World) (h : Below wb.heap.size wb wx) => (h.block w.heap.size (by have := blk_lt HXZ.out; omega)).trans HXZ.out
    have HX0 := Lib.hid hX0
    clear h0 hX0
    go_enter Try.func20, Try.ntmps20
    go_wp2_with (go_at_call 33; (with_reducible refine (rf_num HR1.out 1 (by decide) (by decide) HK.out).mono ?_); rintro e' w2 ⟨rfl, hR2, hK2⟩; have HR2 := Lib.hid (hR2.alloc (.cells #[.int .i64 0, .int .i64 0, .int .i64 0, .int .i64 0, .int .i64 0, .string ⟨#[]⟩, .string ⟨#[]⟩, .string ⟨#[]⟩, .int .i64 0, .slice none 0 0, .slice none 0 0, .int .i64 0, .int .i64 0] 25)); have HX2 := Lib.hid (heap_alloc_new w2 (.cells #[.int .i64 0, .int .i64 0, .int .i64 0, .int .i64 0, .int .i64 0, .string ⟨#[]⟩, .string ⟨#[]⟩, .string ⟨#[]⟩, .int .i64 0, .slice none 0 0, .slice none 0 0, .int .i64 0, .int .i64 0] 25)); have HGE := Lib.hid hR2.b.size; have re := HR2.out.i.c2; clear hR2 hK2)
    have hx0 := HX0.out (w2.alloc (.cells #[.int .i64 0, .int .i64 0, .int .i64 0, .int .i64 0, .int .i64 0, .string ⟨#[]⟩, .string ⟨#[]⟩, .string ⟨#[]⟩, .int .i64 0, .slice none 0 0, .slice none 0 0, .int .i64 0, .int .i64 0] 25)).drew HR2.out.drew.b
    have c3 : ((w2.alloc (.cells #[.int .i64 0, .int .i64 0, .int .i64 0, .int .i64 0, .int .i64 0, .string ⟨#[]⟩, .string ⟨#[]⟩, .string ⟨#[]⟩, .int .i64 0, .slice none 0 0, .slice none 0 0, .int .i64 0, .int .i64 0] 25)).drew.setRow w.heap.size (zeroR 0).cs).cell? ⟨w.heap.size + 1, 2, none⟩ = some (.int .i64 e1) := (World.cell?_of_block (a := ⟨w.heap.size + 1, 2, none⟩) (setRow_other (w2.alloc (.cells #[.int .i64 0, .int .i64 0, .int .i64 0, .int .i64 0, .int .i64 0, .string ⟨#[]⟩, .string ⟨#[]⟩, .string ⟨#[]⟩, .int .i64 0, .slice none 0 0, .slice none 0 0, .int .i64 0, .int .i64 0] 25)).drew w.heap.size (w.heap.size + 1) _ (by omega))).trans HR2.out.drew.i.c2
    have c4 := HR2.out.drew.i.c2
    refine wp_region_held_drew (S := fun w' => w'.cell? ⟨w.heap.size + 1, 2, none⟩ = some (.int .i64 e1)) (by kernel_rfl) c4 (fun hH0 => ?_)
    refine wpAnyH_take (i := 0) (oi := { dst := some 133, op := .build 25 #[], type := 25, pos := "ref.go:243", after := #[], guard := none }) (v := ?_) rfl (by kernel_rfl) (by kernel_rfl) (by kernel_rfl) (fun _ _ _ h => h) (Or.inl ⟨by rfl, ?_⟩) hH0 ?_
    rotate_left
    · intro w' hSw; (try dsimp only at hSw)
      go_simp
      try with_reducible rfl
    (try simp only [Act.put, List.setIfInBounds_toArray, List.set_cons_zero, List.set_cons_succ])
    refine wpAnyH_take (i := 1) (oi := { dst := some 134, op := .move (.tmp 4), type := 64, pos := "ref.go:243", after := #[{ on := 5, ground := Go.Ground.gcOnly Go.Departure.lateStores }], guard := none }) (v := ?_) rfl (by kernel_rfl) (by kernel_rfl) (by kernel_rfl) (fun _ _ _ h => h) (Or.inl ⟨by rfl, ?_⟩) hH0 ?_
    rotate_left
    · intro w' hSw; (try dsimp only at hSw)
      go_simp
      try with_reducible rfl
    (try simp only [Act.put, List.setIfInBounds_toArray, List.set_cons_zero, List.set_cons_succ])
    refine wpAnyH_take (i := 2) (oi := { dst := some 135, op := .nilCheck (.tmp 134), type := 0, pos := "ref.go:243", after := #[⟨1, .data⟩, { on := 5, ground := Go.Ground.gcOnly Go.Departure.lateStores }], guard := none }) (v := ?_) rfl (by kernel_rfl) (by kernel_rfl) (by kernel_rfl) (fun _ _ _ h => h) (Or.inl ⟨by rfl, ?_⟩) hH0 ?_
    rotate_left
    · intro w' hSw; (try dsimp only at hSw)
      go_simp
      try with_reducible rfl
    (try simp only [Act.put, List.setIfInBounds_toArray, List.set_cons_zero, List.set_cons_succ])
    refine wpAnyH_take (i := 3) (oi := { dst := some 136, op := .fieldAddr 66 (.tmp 135) 2, type := 0, pos := "ref.go:243", after := #[⟨2, .data⟩, { on := 5, ground := Go.Ground.gcOnly Go.Departure.lateStores }], guard := none }) (v := ?_) rfl (by kernel_rfl) (by kernel_rfl) (by kernel_rfl) (fun _ _ _ h => h) (Or.inl ⟨by rfl, ?_⟩) hH0 ?_
    rotate_left
    · intro w' hSw; (try dsimp only at hSw)
      go_simp
      try with_reducible rfl
    (try simp only [Act.put, List.setIfInBounds_toArray, List.set_cons_zero, List.set_cons_succ])
    refine wpAnyH_take (i := 4) (oi := { dst := some 137, op := .load 27 (.tmp 136), type := 27, pos := "ref.go:243", after := #[⟨3, .data⟩, { on := 5, ground := Go.Ground.gcOnly Go.Departure.lateStores }], guard := none }) (v := ?_) rfl (by kernel_rfl) (by kernel_rfl) (by kernel_rfl) (fun _ _ _ h => h) (Or.inl ⟨by rfl, ?_⟩) hH0 ?_
    rotate_left
    · intro w' hSw; (try dsimp only at hSw)
      go_simp
      try with_reducible rfl
    (try simp only [Act.put, List.setIfInBounds_toArray, List.set_cons_zero, List.set_cons_succ])
    refine wpAnyH_ready (rs := [5]) (by kernel_rfl) (by simp) ?_
    refine AllReadyH.cons (o := { dst := none, op := .store 25 (.tmp 2) (.tmp 133), type := 0, pos := "ref.go:243", after := #[⟨0, .data⟩, ⟨0, .phase⟩, { on := 1, ground := Go.Ground.textOnly Go.Departure.lateStores }, { on := 2, ground := Go.Ground.textOnly Go.Departure.lateStores }, { on := 3, ground := Go.Ground.textOnly Go.Departure.lateStores }, { on := 4, ground := Go.Ground.textOnly Go.Departure.lateStores }], guard := none }) rfl (fun K hK => ?_) ?_
    · skip
      refine store_row_step (by rfl) 25 (.tmp 2) (.tmp 133) rfl w.heap.size (zeroR 0).cs rfl rfl 25 _ hx0 (hinfo25 (zeroR 0)) rfl (rv_one (zeroR 0)) ?_
      refine hK.out _ _ ?_ (fun hH1 => ?_)
      · exact c3
      clear hK K
      (try simp only [Act.put, List.setIfInBounds_toArray, List.set_cons_zero, List.set_cons_succ])
      refine wpAnyH_take (i := 6) (oi := { dst := some 3, op := .assign (.tmp 137), type := 27, pos := "ref.go:243", after := #[⟨4, .data⟩, ⟨5, .chain⟩, ⟨0, .phase⟩, ⟨1, .phase⟩, ⟨2, .phase⟩, ⟨3, .phase⟩, ⟨4, .phase⟩, ⟨5, .phase⟩], guard := none }) (v := ?_) rfl (by kernel_rfl) (by kernel_rfl) (by kernel_rfl) (fun _ _ _ h => h) (Or.inl ⟨by rfl, ?_⟩) hH1 ?_
      rotate_left
      · intro w' hSw; (try dsimp only at hSw)
        go_simp
        try with_reducible rfl
      (try simp only [Act.put, List.setIfInBounds_toArray, List.set_cons_zero, List.set_cons_succ])
      refine wpAnyH_done (by kernel_rfl) ?_ _
      go_wp2
      refine bodyPost_ret (results_ct (p := 2) (u := 3) (ty := 25) rfl _ _ w.heap.size 25 (zeroR 0).cs (0, 0) _ rfl (set_new hx0) Try.underlying25 rfl (hinfo25 (zeroR 0))) rfl ?_
      rw [HP.out]
      exact ⟨zeroR 0, rfl, SameV.refl _, ⟨Kd.R_nil _ _ _ _ _, Kd.R_nil _ _ _ _ _⟩, setRow_below (below_step HBB.out HR2.out.drew.b) (Nat.le_refl _) _⟩
    exact AllReadyH.nil
end Go.Proofs.Ytdphikbkknkhiaa.PAll
