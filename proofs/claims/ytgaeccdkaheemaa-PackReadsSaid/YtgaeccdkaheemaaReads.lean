/- The law PackReads, walked by hand: two readers of one text, pack's and the law's own, side by side. -/
import Derived.Test.YtgaeccdkaheemaaLaw01Plain
import Derived.Test.YtgaeccdkaheemaaLaw01Reads
import Derived.Lib.Hide
import Derived.LoopTactic
import Derived.BigQuiet
namespace Go.Proofs.Ytgaeccdkaheemaa.PAll
open Go.RowKit Go.Proofs.YtgaeccdkaheemaaW.PrintWords Go.Proofs.YtgaeccdkaheemaaW.PrintLast Go.Proofs.YtgaeccdkaheemaaW.PrintMore
open Go.Proofs.Ytgaeccdkaheemaa.Pure
set_option linter.unusedVariables false
set_option linter.unusedSimpArgs false

/-- Two readers of one text in one world: pack's, and the law's own. -/
structure Both (w0 w : World) (gr gp : Nat) (s : ByteArray) (a1 e1 a2 e2 : Int) : Prop where
  r : IsS58 w0 w gr s a1 e1
  p : IsS44 w0 w gp s a2 e2
  b : Below w0.heap.size w0 w
section
variable {w0 w : World} {gr gp : Nat} {s : ByteArray} {a1 e1 a2 e2 : Int}
theorem Both.ne (B : Both w0 w gr gp s a1 e1 a2 e2) : gr ≠ gp := B.r.ne_blk B.p.1 (by decide)
theorem Both.drew (B : Both w0 w gr gp s a1 e1 a2 e2) : Both w0 w.drew gr gp s a1 e1 a2 e2 := ⟨B.r.drew, B.p.drew, below_drew B.b⟩
theorem Both.drewN (B : Both w0 w gr gp s a1 e1 a2 e2) (m : Nat) : Both w0 (w.drewN m) gr gp s a1 e1 a2 e2 := ⟨B.r.drewN m, B.p.drewN m, pw_below_drewN B.b m⟩
theorem Both.p0 (B : Both w0 w gr gp s a1 e1 a2 e2) : w.cell? ⟨gp, 0, none⟩ = some (.string s) := cellS44_0 B.p.1
theorem Both.p1 (B : Both w0 w gr gp s a1 e1 a2 e2) : w.cell? ⟨gp, 1, none⟩ = some (.int .i64 a2) := cellS44_1 B.p.1
theorem Both.p2 (B : Both w0 w gr gp s a1 e1 a2 e2) : w.cell? ⟨gp, 2, none⟩ = some (.int .i64 e2) := cellS44_2 B.p.1
theorem Both.setE (B : Both w0 w gr gp s a1 e1 a2 e2) (x : Int) : Both w0 (w.setCell ⟨gp, 2, none⟩ (.int .i64 x)) gr gp s a1 e1 a2 x := ⟨B.r.far B.ne _, B.p.set_2 x, below_set B.b B.p.ge⟩
theorem Both.toR (B : Both w0 w gr gp s a1 e1 a2 e2) {w' : World} {x : ByteArray} {y z : Int} (hI : IsS58 w0 w' gr s y z) (hB : Below w0.heap.size w0 w') (hK : KeepBut w w' gr none) : Both w0 w' gr gp s y z a2 e2 :=
  ⟨hI, ⟨hK.blk B.p.1 (Ne.symm B.ne) (by simp), B.p.2⟩, hB⟩
theorem Both.toP (B : Both w0 w gr gp s a1 e1 a2 e2) {w' : World} {x : ByteArray} {y z : Int} (hI : IsS44 w0 w' gp s y z) (hB : Below w0.heap.size w0 w') (hK : KeepBut w w' gp none) : Both w0 w' gr gp s a1 e1 y z :=
  ⟨⟨hK.blk B.r.1 B.ne (by simp), B.r.2⟩, hI, hB⟩
theorem rd_raw (B : Both w0 w gr gp s a1 e1 a2 e2) (h : RInv s a1) (n : Int) : Calls Try.prog 18 #[.pointer (some ⟨gr, 0, none⟩), .int .i64 n] w fun e w' => e = .returned (.string (rawS s a1 e1 n).1) ∧ Both w0 w' gr gp s (rawS s a1 e1 n).2.1 (rawS s a1 e1 n).2.2 a2 e2 :=
  (pack_Reader_Raw.calls gr s a1 e1 n _ _ _ _ w0 w B.r B.b (raw_is h e1 n)).mono fun _ _ ⟨he, hI, hB, hK⟩ => ⟨he, B.toR (x := s) hI hB hK⟩
theorem rd_num (B : Both w0 w gr gp s a1 e1 a2 e2) (h : RInv s a1) (n : Int) : Calls Try.prog 20 #[.pointer (some ⟨gr, 0, none⟩), .int .i64 n] w fun e w' => e = .returned (.int .i64 (numS s a1 e1 n).1) ∧ Both w0 w' gr gp s (numS s a1 e1 n).2.1 (numS s a1 e1 n).2.2 a2 e2 :=
  (pack_Reader_Num.calls gr s a1 e1 n _ _ _ _ w0 w B.r B.b (num_is h e1 n)).mono fun _ _ ⟨he, hI, hB, hK⟩ => ⟨he, B.toR (x := s) hI hB hK⟩
theorem rd_text (B : Both w0 w gr gp s a1 e1 a2 e2) (h : RInv s a1) (n : Int) : Calls Try.prog 22 #[.pointer (some ⟨gr, 0, none⟩), .int .i64 n] w fun e w' => e = .returned (.string (textS s a1 e1 n).1) ∧ Both w0 w' gr gp s (textS s a1 e1 n).2.1 (textS s a1 e1 n).2.2 a2 e2 :=
  (pack_Reader_Text.calls 10 gr s a1 e1 n _ _ _ _ w0 w B.r B.b (text_is h 10 (by omega) e1 n)).mono fun _ _ ⟨he, hI, hB, hK⟩ => ⟨he, B.toR (x := s) hI hB hK⟩
theorem rd_end (B : Both w0 w gr gp s a1 e1 a2 e2) (h : RInv s a1) : Calls Try.prog 24 #[.pointer (some ⟨gr, 0, none⟩)] w fun e w' => e = .returned (.int .i64 (endS s a1 e1)) ∧ Both w0 w' gr gp s a1 (endS s a1 e1) a2 e2 :=
  (pack_Reader_End.calls gr s a1 e1 _ _ _ _ w0 w B.r B.b (end_is h e1)).mono fun _ _ ⟨he, hI, hB, hK⟩ => ⟨he, B.toR (x := s) hI hB hK⟩
theorem rd_err (B : Both w0 w gr gp s a1 e1 a2 e2) : Calls Try.prog 25 #[.pointer (some ⟨gr, 0, none⟩)] w fun e w' => e = .returned (.int .i64 e1) ∧ Both w0 w' gr gp s a1 e1 a2 e2 :=
  (pack_Reader_Err.calls gr s a1 e1 _ _ _ _ w0 w B.r B.b (by rfl)).mono fun _ _ ⟨he, hI, hB, hK⟩ => ⟨he, B.toR (x := s) hI hB hK⟩
theorem rd_left (B : Both w0 w gr gp s a1 e1 a2 e2) (h : RInv s a1) : Calls Try.prog 26 #[.pointer (some ⟨gr, 0, none⟩)] w fun e w' => e = .returned (.int .i64 (if e1 = 0 then (s.size : Int) - a1 else 0)) ∧ Both w0 w' gr gp s a1 e1 a2 e2 :=
  (pack_Reader_Left.calls gr s a1 e1 _ _ _ _ w0 w B.r B.b (left_is h e1)).mono fun _ _ ⟨he, hI, hB, hK⟩ => ⟨he, B.toR (x := s) hI hB hK⟩
theorem pl_raw (B : Both w0 w gr gp s a1 e1 a2 e2) (h : RInv s a2) (n : Int) : Calls Try.prog 19 #[.pointer (some ⟨gp, 0, none⟩), .int .i64 n] w fun e w' => e = .returned (.string (rawS s a2 e2 n).1) ∧ Both w0 w' gr gp s a1 e1 (rawS s a2 e2 n).2.1 (rawS s a2 e2 n).2.2 :=
  (gharrylaw01_plain_raw.calls gp s a2 e2 n _ _ _ _ w0 w B.p B.b (praw_is h e2 n)).mono fun _ _ ⟨he, hI, hB, hK⟩ => ⟨he, B.toP (x := s) hI hB hK⟩
theorem pl_num (B : Both w0 w gr gp s a1 e1 a2 e2) (h : RInv s a2) (n : Int) : Calls Try.prog 21 #[.pointer (some ⟨gp, 0, none⟩), .int .i64 n] w fun e w' => e = .returned (.int .i64 (numS s a2 e2 n).1) ∧ Both w0 w' gr gp s a1 e1 (numS s a2 e2 n).2.1 (numS s a2 e2 n).2.2 :=
  (gharrylaw01_plain_num.calls 10 gp s a2 e2 n _ _ _ _ w0 w B.p B.b (pnum_is h 10 (by omega) e2 n)).mono fun _ _ ⟨he, hI, hB, hK⟩ => ⟨he, B.toP (x := s) hI hB hK⟩
theorem pl_text (B : Both w0 w gr gp s a1 e1 a2 e2) (h : RInv s a2) (n : Int) : Calls Try.prog 23 #[.pointer (some ⟨gp, 0, none⟩), .int .i64 n] w fun e w' => e = .returned (.string (textS s a2 e2 n).1) ∧ Both w0 w' gr gp s a1 e1 (textS s a2 e2 n).2.1 (textS s a2 e2 n).2.2 :=
  (gharrylaw01_plain_text.calls 10 gp s a2 e2 n _ _ _ _ w0 w B.p B.b (ptext_is h 10 (by omega) e2 n)).mono fun _ _ ⟨he, hI, hB, hK⟩ => ⟨he, B.toP (x := s) hI hB hK⟩
end

theorem rd_end' {w0 w : World} {gr gp : Nat} {s : ByteArray} {a1 e1 a2 e2 : Int} (B : Both w0 w gr gp s a1 e1 a2 e2) (h : RInv s a1) (E : Int) (hE : endS s a1 e1 = E) : Calls Try.prog 24 #[.pointer (some ⟨gr, 0, none⟩)] w fun e w' => e = .returned (.int .i64 E) ∧ Both w0 w' gr gp s a1 E a2 e2 := by
  have := rd_end B h
  rw [hE] at this
  exact this
theorem rd_left0 {w0 w : World} {gr gp : Nat} {s : ByteArray} {a1 a2 e2 : Int} (B : Both w0 w gr gp s a1 0 a2 e2) (h : RInv s a1) : Calls Try.prog 26 #[.pointer (some ⟨gr, 0, none⟩)] w fun e w' => e = .returned (.int .i64 ((s.size : Int) - a1)) ∧ Both w0 w' gr gp s a1 0 a2 e2 := by
  have := rd_left B h
  rw [if_pos rfl] at this
  exact this
theorem rd_leftE {w0 w : World} {gr gp : Nat} {s : ByteArray} {a1 e1 a2 e2 : Int} (B : Both w0 w gr gp s a1 e1 a2 e2) (h : RInv s a1) (hE : e1 ≠ 0) : Calls Try.prog 26 #[.pointer (some ⟨gr, 0, none⟩)] w fun e w' => e = .returned (.int .i64 0) ∧ Both w0 w' gr gp s a1 e1 a2 e2 := by
  have := rd_left B h
  rw [if_neg hE] at this
  exact this
theorem wrap_sub {s : ByteArray} {at_ : Int} (h : RInv s at_) : IntKind.i64.wrap ((s.size : Int) - at_) = (s.size : Int) - at_ := by
  have := h.lo; have := h.hi; have := h.sz
  rw [IntKind.wrap_i64]
  omega
theorem rinv0 (s : ByteArray) (hs : s.size ≤ 140737488351232) : RInv s 0 := ⟨Int.le_refl _, by omega, by omega⟩
theorem awake_any (w : World) : Calls Try.prog 11 #[] w fun e w' => e = .returned (.bool true) ∧ Below w.heap.size w w' := gharrylaw01_awake.calls 10 true w (Pure.law_awake 10 (by omega))

theorem read_new (s : ByteArray) (w : World) : Calls Try.prog 17 #[.string s] w fun e w' => ∃ g_ : Nat, e = .returned (.pointer (some ⟨g_, 0, none⟩)) ∧ IsS58 w w' g_ s 0 0 ∧ Below w.heap.size w w' :=
  (pack_Read.calls s s 0 0 w w (Below.refl _ _) (by rfl)).mono fun _ _ ⟨g, he, hI, hB, _⟩ => ⟨g, he, hI, hB⟩
theorem cell_lt {w : World} {a : Addr} {v : Value} (h : w.cell? a = some v) : a.block < w.heap.size := by
  unfold World.cell? at h
  cases hb : w.heap[a.block]? with
  | none => rw [hb] at h; exact absurd h (by simp)
  | some o => exact (Array.getElem?_eq_some_iff.1 hb).1
theorem cell_below {w0 w : World} (h : Below w0.heap.size w0 w) {p : Addr} {v : Value} (hc : w0.cell? p = some v) : w.cell? p = some v := (h.cell (cell_lt hc)).trans hc

set_option maxHeartbeats 4000000 in
set_option maxRecDepth 4000 in
theorem reads_walk (s : ByteArray) (a : Addr) (len cap : Nat) (kd nn : Nat → Int) (w : World) (hs : s.size ≤ 140737488351232) (hcap : len ≤ cap) (hmax : cap ≤ maxLen)
    (hc0 : ∀ k, k < len → w.cell? (a.add (k * 2)) = some (.int .i64 (kd k))) (hc1 : ∀ k, k < len → w.cell? ⟨(a.add (k * 2)).block, (a.add (k * 2)).off + 1, none⟩ = some (.int .i64 (nn k))) :
    Calls Try.prog 6 #[.string s, .slice (some a) len cap] w fun e w' => e = .returned (.bool true) ∧ Below w.heap.size w w' := by
  have HC0 := Lib.hid hc0
  have HC1 := Lib.hid hc1
  have HS := Lib.hid hs
  clear hc0 hc1 hs
  have hu44 := Try.underlying44
  have HB0 := Lib.hid (Below.refl w.heap.size w)
  go_enter Try.func6, Try.ntmps6
  go_wp2_with (go_at_call 17; (with_reducible refine (read_new s _).mono ?_); rintro e' w1 ⟨gr, rfl, hI1, hB1⟩; have HI1 := Lib.hid hI1; have HB1 := Lib.hid hB1; clear hI1 hB1)
  have hBoth : Both w (w1.alloc (.cells #[.string s, .int .i64 0, .int .i64 0] 44)) gr w1.heap.size s 0 0 0 0 := ⟨IsS58.alloc HI1.out _, IsS44.new _ _ _ _ _ HB1.out, below_alloc HB1.out _⟩
  have HBoth := Lib.hid hBoth
  clear hBoth
  go_loopw [7] (fun i wr => ∃ (k : Nat) (at_ e : Int), k ≤ len ∧ k ≤ 60 ∧ i = .int .i64 k ∧ RInv s at_ ∧ Both w wr gr w1.heap.size s at_ e at_ e) (fun i _ => 60 - (intOf i).toNat)
  case atStart => exact ⟨0, 0, 0, Nat.zero_le _, Nat.zero_le _, rfl, rinv0 s HS.out, HBoth.out⟩
  case round =>
    obtain ⟨k, at_, e, hk, hk6, rfl, hR, hB⟩ := hrel
    have HR := Lib.hid hR
    have HB := Lib.hid hB
    clear hR hB
    by_cases hlt : k < len ∧ k < 60
    · obtain ⟨h1, h2⟩ := hlt
      have hw0 := HC0.out k h1
      have hw1 := HC1.out k h1
      generalize kd k = K at hw0
      generalize nn k = N at hw1
      have HW1 := Lib.hid hw1
      have hk0 := cell_below HB.out.b hw0
      have hk1 := cell_below HB.out.b hw1
      have HBd := Lib.hid HB.out.drew
      have HK0 := Lib.hid hk0
      clear hw0 hw1
      go_upto_block 2 with fail
      go_cut [8] (fun v8 wc => ∃ (at2 e2 : Int), v8 = .bool true ∧ RInv s at2 ∧ Both w wc gr w1.heap.size s at2 e2 at2 e2)
      case first =>
        by_cases q0 : K = 0
        · have hd0 : (K == 0) = true := by simpa using q0
          clear q0
          go_wp2
          go_region_held3 (fun w' => w'.cell? ⟨(a.add (k * 2)).block, (a.add (k * 2)).off + 1, none⟩ = some (.int .i64 N)) (first | assumption | exact hk1)
            (first
              | (go_at_call 18; (with_reducible refine (rd_raw HBd.out HR.out N).mono ?_); rintro e' w2 ⟨rfl, hB2⟩; have HB2 := Lib.hid hB2; have hk2 := cell_below hB2.b HW1.out; clear hB2)
              | (go_at_call 19; (with_reducible refine (pl_raw HB2.out HR.out N).mono ?_); rintro e' w3 ⟨rfl, hB3⟩; have HB3 := Lib.hid hB3; have hk3 := cell_below hB3.b HW1.out; clear hB3))
          go_wp2
          go_meet
          case rel => exact ⟨_, _, rfl, rawS_inv HR.out e N, HB3.out⟩
        by_cases q1 : K = 1
        · have hd0 : (K == 0) = false := by simp; omega
          have hd1 : (K == 1) = true := by simpa using q1
          clear q0 q1
          go_wp2
          go_region_held3 (fun w' => w'.cell? ⟨(a.add (k * 2)).block, (a.add (k * 2)).off + 1, none⟩ = some (.int .i64 N)) (first | assumption | exact hk1)
            (first
              | (go_at_call 20; (with_reducible refine (rd_num HBd.out HR.out N).mono ?_); rintro e' w2 ⟨rfl, hB2⟩; have HB2 := Lib.hid hB2; have hk2 := cell_below hB2.b HW1.out; clear hB2)
              | (go_at_call 21; (with_reducible refine (pl_num HB2.out HR.out N).mono ?_); rintro e' w3 ⟨rfl, hB3⟩; have HB3 := Lib.hid hB3; have hk3 := cell_below hB3.b HW1.out; clear hB3))
          go_wp2
          go_meet
          case rel => exact ⟨_, _, rfl, numS_inv HR.out e N, HB3.out⟩
        by_cases q2 : K = 2
        · have hd0 : (K == 0) = false := by simp; omega
          have hd1 : (K == 1) = false := by simp; omega
          have hd2 : (K == 2) = true := by simpa using q2
          clear q0 q1 q2
          go_wp2
          go_region_held3 (fun w' => w'.cell? ⟨(a.add (k * 2)).block, (a.add (k * 2)).off + 1, none⟩ = some (.int .i64 N)) (first | assumption | exact hk1)
            (first
              | (go_at_call 22; (with_reducible refine (rd_text HBd.out HR.out N).mono ?_); rintro e' w2 ⟨rfl, hB2⟩; have HB2 := Lib.hid hB2; have hk2 := cell_below hB2.b HW1.out; clear hB2)
              | (go_at_call 23; (with_reducible refine (pl_text HB2.out HR.out N).mono ?_); rintro e' w3 ⟨rfl, hB3⟩; have HB3 := Lib.hid hB3; have hk3 := cell_below hB3.b HW1.out; clear hB3))
          go_wp2
          go_meet
          case rel => exact ⟨_, _, rfl, textS_inv HR.out e N, HB3.out⟩
        have hd0 : (K == 0) = false := by simp; omega
        have hd1 : (K == 1) = false := by simp; omega
        have hd2 : (K == 2) = false := by simp; omega
        clear q0 q1 q2
        by_cases he : e = 0
        · subst he
          by_cases hl : at_ < (s.size : Int)
          · have HE := Lib.hid (show endS s at_ 0 = 4 by simp [endS, hl])
            have HBx := Lib.hid ((HB.out.setE 4).drew.drew)
            have hx2 := HBx.out.p2
            have HX2 := Lib.hid hx2
            have hf2 : wr.frozen? ⟨w1.heap.size, 2, none⟩ = false := blk_frozen HB.out.p.1 2
            have hl1 : decide (at_ < (s.size : Int)) = true := by simpa using hl
            clear hl hx2
            have hp0 := HB.out.p0
            have hp1 := HB.out.p1
            have hp2 := HB.out.p2
            go_wp2
            go_region_held3 (fun w' => w'.cell? ⟨w1.heap.size, 0, none⟩ = some (.string s) ∧ w'.cell? ⟨w1.heap.size, 1, none⟩ = some (.int .i64 at_) ∧ w'.cell? ⟨w1.heap.size, 2, none⟩ = some (.int .i64 0)) (exact ⟨hp0, hp1, hp2⟩) (fail)
            go_wp2
            have hx2 := HX2.out
            go_region_held3 (fun w' => w'.cell? ⟨w1.heap.size, 2, none⟩ = some (.int .i64 4)) (first | assumption | exact hx2)
              ((go_at_call 24; (with_reducible refine (rd_end' HBx.out HR.out 4 HE.out).mono ?_); rintro e' w2 ⟨rfl, hB2⟩; have HB2 := Lib.hid hB2; have hk2 := hB2.p2; clear hB2))
            go_wp2
            go_meet
            case rel => exact ⟨_, _, rfl, HR.out, HB2.out⟩
          · have HE := Lib.hid (show endS s at_ 0 = 0 by simp [endS, hl])
            have HBx := Lib.hid (HBd.out.drew)
            have hx2 := HBx.out.p2
            have HX2 := Lib.hid hx2
            have hl1 : decide (at_ < (s.size : Int)) = false := by simpa using hl
            clear hl hx2
            have hp0 := HB.out.p0
            have hp1 := HB.out.p1
            have hp2 := HB.out.p2
            go_wp2
            go_region_held3 (fun w' => w'.cell? ⟨w1.heap.size, 0, none⟩ = some (.string s) ∧ w'.cell? ⟨w1.heap.size, 1, none⟩ = some (.int .i64 at_) ∧ w'.cell? ⟨w1.heap.size, 2, none⟩ = some (.int .i64 0)) (exact ⟨hp0, hp1, hp2⟩) (fail)
            go_wp2
            have hx2 := HX2.out
            go_region_held3 (fun w' => w'.cell? ⟨w1.heap.size, 2, none⟩ = some (.int .i64 0)) (first | assumption | exact hx2)
              ((go_at_call 24; (with_reducible refine (rd_end' HBx.out HR.out 0 HE.out).mono ?_); rintro e' w2 ⟨rfl, hB2⟩; have HB2 := Lib.hid hB2; have hk2 := hB2.p2; clear hB2))
            go_wp2
            go_meet
            case rel => exact ⟨_, _, rfl, HR.out, HB2.out⟩
        · have HE := Lib.hid (show endS s at_ e = e by simp [endS, he])
          have HBx := Lib.hid (fun m => HB.out.drewN m)
          have hd : (e == 0) = false := by simpa using he
          have hd2 : decide (e = 0) = false := by simpa using he
          have hp0 := HB.out.p0
          have hp1 := HB.out.p1
          have hp2 := HB.out.p2
          go_wp2
          go_big_quiet (fail)
          go_wp2
          go_region_held3 (fun w' => w'.cell? ⟨w1.heap.size, 2, none⟩ = some (.int .i64 e)) (first | assumption | exact (HBx.out _).p2)
            ((go_at_call 24; (with_reducible refine (rd_end' (HBx.out _) HR.out e HE.out).mono ?_); rintro e' w2 ⟨rfl, hB2⟩; have HB2 := Lib.hid hB2; have hk2 := hB2.p2; clear hB2))
          go_wp2
          go_meet
          case rel => exact ⟨_, _, rfl, HR.out, HB2.out⟩
      case rest =>
        obtain ⟨at2, e2, rfl, hR2, hB2⟩ := hcut
        have HR2 := Lib.hid hR2
        have HB2 := Lib.hid hB2
        clear hR2 hB2 hk0 hk1
        by_cases he : e2 = 0
        · subst he
          have HBy := Lib.hid (HB2.out.drew.drew)
          have hy2 := HBy.out.p2
          have HY2 := Lib.hid hy2
          have hp0 := HB2.out.p0
          have hp1 := HB2.out.p1
          have hp2 := HB2.out.p2
          have hw := wrap_sub HR2.out
          clear hy2 
          go_wp2
          go_region_held3 (fun w' => w'.cell? ⟨w1.heap.size, 0, none⟩ = some (.string s) ∧ w'.cell? ⟨w1.heap.size, 1, none⟩ = some (.int .i64 at2)) (exact ⟨hp0, hp1⟩) (fail)
          go_wp2
          have hy2 := HY2.out
          go_region_held3 (fun w' => w'.cell? ⟨w1.heap.size, 2, none⟩ = some (.int .i64 0)) (first | assumption | exact hy2)
            (first
              | (go_at_call 25; (with_reducible refine (rd_err HBy.out).mono ?_); rintro e' w2 ⟨rfl, hB2⟩; have HB3 := Lib.hid hB2; have hk2 := hB2.p2; clear hB2)
              | (go_at_call 26; (with_reducible refine (rd_left0 HB3.out HR2.out).mono ?_); rintro e' w3 ⟨rfl, hB3⟩; have HB4 := Lib.hid hB3; have hk3 := hB3.p2; clear hB3))
          go_wp2
          go_roundw
          case rel => exact ⟨k + 1, at2, 0, by omega, by omega, by go_num, HR2.out, HB4.out⟩
          case measure => simp [intOf]; omega
        · have hd : (e2 != 0) = true := by simpa using he
          have HL := Lib.hid he
          have HBy := Lib.hid (HB2.out.drew.drew)
          have hy2 := HBy.out.p2
          have HY2 := Lib.hid hy2
          have hp0 := HB2.out.p0
          have hp1 := HB2.out.p1
          have hp2 := HB2.out.p2
          have hw := wrap_sub HR2.out
          have hd2 : decide (e2 = 0) = false := by simpa using he
          clear hy2
          go_wp2
          go_region_held3 (fun w' => w'.cell? ⟨w1.heap.size, 0, none⟩ = some (.string s) ∧ w'.cell? ⟨w1.heap.size, 1, none⟩ = some (.int .i64 at2)) (exact ⟨hp0, hp1⟩) (fail)
          go_wp2
          have hy2 := HY2.out
          go_region_held3 (fun w' => w'.cell? ⟨w1.heap.size, 2, none⟩ = some (.int .i64 e2)) (first | assumption | exact hy2)
            (first
              | (go_at_call 25; (with_reducible refine (rd_err HBy.out).mono ?_); rintro e' w2 ⟨rfl, hB2⟩; have HB3 := Lib.hid hB2; have hk2 := hB2.p2; clear hB2)
              | (go_at_call 26; (with_reducible refine (rd_leftE HB3.out HR2.out HL.out).mono ?_); rintro e' w3 ⟨rfl, hB3⟩; have HB4 := Lib.hid hB3; have hk3 := hB3.p2; clear hB3))
          go_wp2
          go_roundw
          case rel => exact ⟨k + 1, at2, e2, by omega, by omega, by go_num, HR2.out, HB4.out⟩
          case measure => simp [intOf]; omega
    · by_cases hl : k < len
      · have h6 : ¬ k < 60 := fun c => hlt ⟨hl, c⟩
        clear hlt
        go_wp2_with (go_at_call 11; (with_reducible refine (awake_any _).mono ?_); rintro e' w5 ⟨rfl, hB5⟩; have HB5 := Lib.hid hB5; clear hB5)
        go_ret
        exact ⟨rfl, below_step HB.out.b HB5.out⟩
      · clear hlt
        go_wp2_with (go_at_call 11; (with_reducible refine (awake_any _).mono ?_); rintro e' w5 ⟨rfl, hB5⟩; have HB5 := Lib.hid hB5; clear hB5)
        go_ret
        exact ⟨rfl, below_step HB.out.b HB5.out⟩

set_option maxHeartbeats 4000000 in
theorem reads_nil (s : ByteArray) (w : World) : Calls Try.prog 6 #[.string s, .slice none 0 0] w fun e w' => e = .returned (.bool true) ∧ Below w.heap.size w w' := by
  have hu44 := Try.underlying44
  go_enter Try.func6, Try.ntmps6
  go_wp2_with (go_at_call 17; (with_reducible refine (read_new s _).mono ?_); rintro e' w1 ⟨gr, rfl, hI1, hB1⟩; have HB1 := Lib.hid hB1; clear hI1 hB1)
  refine wp_loop_rounds 1 ?_
  rw [rounds_succ]
  go_wp2_with (go_at_call 11; (with_reducible refine (awake_any _).mono ?_); rintro e' w5 ⟨rfl, hB5⟩; have HB5 := Lib.hid hB5; clear hB5)
  go_ret
  exact ⟨rfl, below_step (below_alloc HB1.out _) HB5.out⟩

/-- The law: any text, any script. -/
theorem PackReads.walk (s : ByteArray) (A : Option Addr) (len cap : Nat) (w : World) (hs : s.size ≤ 140737488351232)
    (hr : (A = none ∧ len = 0 ∧ cap = 0) ∨ ∃ a, A = some a ∧ len ≤ cap ∧ cap ≤ maxLen ∧ ∀ k, k < len → ∃ (n0 n1 : Int), w.cell? (a.add (k * 2)) = some (.int .i64 n0) ∧ w.cell? ⟨(a.add (k * 2)).block, (a.add (k * 2)).off + 1, none⟩ = some (.int .i64 n1)) :
    Calls Try.prog 6 #[.string s, .slice A len cap] w fun e w' => e = .returned (.bool true) ∧ Below w.heap.size w w' := by
  rcases hr with ⟨rfl, rfl, rfl⟩ | ⟨a, rfl, hl, hm, hc⟩
  · exact reads_nil s w
  · have h : ∀ k, ∃ (z : Int × Int), k < len → w.cell? (a.add (k * 2)) = some (.int .i64 z.1) ∧ w.cell? ⟨(a.add (k * 2)).block, (a.add (k * 2)).off + 1, none⟩ = some (.int .i64 z.2) := fun k => by
      by_cases hk : k < len
      · obtain ⟨n0, n1, h0, h1⟩ := hc k hk
        exact ⟨(n0, n1), fun _ => ⟨h0, h1⟩⟩
      · exact ⟨(0, 0), fun c => absurd c hk⟩
    obtain ⟨f, hf⟩ := Classical.axiomOfChoice h
    exact reads_walk s a len cap (fun k => (f k).1) (fun k => (f k).2) w hs hl hm (fun k hk => (hf k hk).1) (fun k hk => (hf k hk).2)
end Go.Proofs.Ytgaeccdkaheemaa.PAll
