/- The law RecLong, walked by hand. -/
import Derived.Test.YtdphikbkknkhiaaRecLaw
import Derived.IntWalk
namespace Go.Proofs.Ytdphikbkknkhiaa.PAll
open Go.RowKit Go.Proofs.Ytdphikbkknkhiaa.Pure Go.Proofs.YtdphikbkknkhiaaW.PrintWords Go.Proofs.YtdphikbkknkhiaaW.PrintLast Go.Proofs.YtdphikbkknkhiaaW.PrintMore
set_option linter.unusedVariables false
set_option linter.unusedSimpArgs false

theorem wrL_good (l : List It) : ∀ (s : ByteArray), (∀ x ∈ l, errI x = 0) → wrL (s, 0) l = (s ++ encL l, 0) := by
  induction l with
  | nil => intro s _; show (s, (0 : Int)) = (s ++ ⟨#[]⟩, 0); rw [app_nil]
  | cons x l ih =>
    intro s h
    rw [wrL_cons, wrS_ok (s, 0) x rfl (h x List.mem_cons_self), ih _ (fun y hy => h y (List.mem_cons_of_mem _ hy))]
    show ((s ++ encI x) ++ encL l, (0 : Int)) = (s ++ (encI x ++ encL l), 0)
    rw [app_assoc]
def rowT (T : ByteArray) (j : Nat) : List S36 := (List.range j).map fun (i : Nat) => (⟨(i : Int), T⟩ : S36)
theorem rowT_len (T : ByteArray) (j : Nat) : (rowT T j).length = j := by simp [rowT]
theorem rowT_snoc (T : ByteArray) (j : Nat) : rowT T (j + 1) = rowT T j ++ [⟨(j : Int), T⟩] := by simp [rowT, List.range_succ]
theorem rowT_mem {T : ByteArray} {j : Nat} {x : S36} (h : x ∈ rowT T j) : x.f1 = T ∧ 0 ≤ x.f0 ∧ x.f0 < j := by
  simp only [rowT, List.mem_map, List.mem_range] at h
  obtain ⟨i, hi, rfl⟩ := h
  exact ⟨rfl, by show (0 : Int) ≤ i; omega, by show (i : Int) < j; omega⟩
theorem imgL_good (l : List S36) (h : ∀ x ∈ l, x.f1.size = 224 ∧ 0 ≤ x.f0 ∧ x.f0 < 65536) : (∀ x ∈ imgL l, errI x = 0) ∧ (encL (imgL l)).size = 228 * l.length := by
  induction l with
  | nil => exact ⟨fun x hx => absurd hx (by simp [imgL]), rfl⟩
  | cons y l ih =>
    have i := ih (fun x hx => h x (List.mem_cons_of_mem _ hx))
    have hy := h y List.mem_cons_self
    have e : imgL (y :: l) = num_ y.f0 2 :: text_ y.f1 :: imgL l := rfl
    rw [e]
    have e1 : errI (num_ y.f0 2) = 0 := by
      have := errI_num y.f0 2 (by omega)
      rw [if_neg (by show ¬ (y.f0 < 0 ∨ ((65536 : Nat) : Int) ≤ y.f0); omega)] at this
      exact this
    have e2 : errI (text_ y.f1) = 0 := by rw [errI_text, if_neg (by omega)]
    refine ⟨fun x hx => ?_, ?_⟩
    · rcases List.mem_cons.1 hx with h | h
      · rw [h]; exact e1
      · rcases List.mem_cons.1 h with h | h
        · rw [h]; exact e2
        · exact i.1 x h
    · show (encI (num_ y.f0 2) ++ (encI (text_ y.f1) ++ encL (imgL l))).size = _
      obtain ⟨n, hn⟩ : ∃ n : Nat, y.f0 = (n : Int) := ⟨y.f0.toNat, by omega⟩
      have h2 : encI (num_ y.f0 2) = ⟨(nb 2 n).toArray⟩ := by rw [hn]; exact encI_num n 2 (by omega)
      rw [h2, encI_text, ByteArray.size_append, ByteArray.size_append, ByteArray.size_append, nb_szI, nb_szI, i.2, hy.1, List.length_cons]
      omega
/-- A record of so many images: its frame. -/
theorem long_frame (m : Nat) (hm : m ≤ 20) (T : ByteArray) (hT : T.size = 224) (A : Option Addr) (c : Nat) :
    (m ≤ 17 → (frameP ⟨2, 0, 0, 0, 0, ⟨#[]⟩, ⟨#[]⟩, ⟨#[]⟩, 0, ⟨A, m, c⟩, ⟨none, 0, 0⟩, 0, 0⟩ (rowT T m) []).2 = 0 ∧ (frameP ⟨2, 0, 0, 0, 0, ⟨#[]⟩, ⟨#[]⟩, ⟨#[]⟩, 0, ⟨A, m, c⟩, ⟨none, 0, 0⟩, 0, 0⟩ (rowT T m) []).1.size = 8 + 228 * m) ∧
    (17 < m → frameP ⟨2, 0, 0, 0, 0, ⟨#[]⟩, ⟨#[]⟩, ⟨#[]⟩, 0, ⟨A, m, c⟩, ⟨none, 0, 0⟩, 0, 0⟩ (rowT T m) [] = (⟨#[]⟩, 3)) := by
  obtain ⟨hg, hs⟩ := imgL_good (rowT T m) (fun x hx => by
    have := rowT_mem hx
    exact ⟨by rw [this.1]; exact hT, this.2.1, by omega⟩)
  rw [rowT_len] at hs
  have hc : cbodyP ⟨2, 0, 0, 0, 0, ⟨#[]⟩, ⟨#[]⟩, ⟨#[]⟩, 0, ⟨A, m, c⟩, ⟨none, 0, 0⟩, 0, 0⟩ (rowT T m) [] = bodyP ⟨2, 0, 0, 0, 0, ⟨#[]⟩, ⟨#[]⟩, ⟨#[]⟩, 0, ⟨A, m, c⟩, ⟨none, 0, 0⟩, 0, 0⟩ (rowT T m) [] := rfl
  have ha : aheadE ⟨2, 0, 0, 0, 0, ⟨#[]⟩, ⟨#[]⟩, ⟨#[]⟩, 0, ⟨A, m, c⟩, ⟨none, 0, 0⟩, 0, 0⟩ (rowT T m) = 0 := by
    unfold aheadE
    simp only
    rw [if_pos (.inr trivial), if_neg (by omega), if_pos (fun x hx => by rw [(rowT_mem hx).1]; exact hT)]
  have hr : recL ⟨2, 0, 0, 0, 0, ⟨#[]⟩, ⟨#[]⟩, ⟨#[]⟩, 0, ⟨A, m, c⟩, ⟨none, 0, 0⟩, 0, 0⟩ (rowT T m) [] = num_ 2 1 :: num_ (m : Int) 1 :: imgL (rowT T m) := by
    simp [recL, rowT_len]
  have e1 : errI (num_ 2 1) = 0 := by decide
  have e2 : errI (num_ (m : Int) 1) = 0 := by
    have := errI_num (m : Int) 1 (by omega)
    rw [if_neg (by show ¬ ((m : Int) < 0 ∨ ((256 : Nat) : Int) ≤ m); omega)] at this
    exact this
  have hw : wrL (⟨#[]⟩, 0) (num_ 2 1 :: num_ (m : Int) 1 :: imgL (rowT T m)) = (encL (num_ 2 1 :: num_ (m : Int) 1 :: imgL (rowT T m)), 0) := by
    rw [wrL_good _ _ (fun x hx => by
      rcases List.mem_cons.1 hx with h | h
      · rw [h]; exact e1
      · rcases List.mem_cons.1 h with h | h
        · rw [h]; exact e2
        · exact hg x h), nil_app]
  have hz : (encL (num_ 2 1 :: num_ (m : Int) 1 :: imgL (rowT T m))).size = 2 + 228 * m := by
    show (encI (num_ 2 1) ++ (encI (num_ (m : Int) 1) ++ encL (imgL (rowT T m)))).size = _
    have a1 : encI (num_ 2 1) = ⟨(nb 1 2).toArray⟩ := encI_num 2 1 (by omega)
    have a2 : encI (num_ (m : Int) 1) = ⟨(nb 1 m).toArray⟩ := encI_num m 1 (by omega)
    rw [a1, a2, ByteArray.size_append, ByteArray.size_append, nb_szI, nb_szI, hs]
    omega
  have hb : bodyP ⟨2, 0, 0, 0, 0, ⟨#[]⟩, ⟨#[]⟩, ⟨#[]⟩, 0, ⟨A, m, c⟩, ⟨none, 0, 0⟩, 0, 0⟩ (rowT T m) [] = if 4096 < 2 + 228 * m then (⟨#[]⟩, 3) else (encL (num_ 2 1 :: num_ (m : Int) 1 :: imgL (rowT T m)), 0) := by
    unfold bodyP
    rw [ha, hr, hw, if_neg (fun c => c rfl), if_neg (fun c => c rfl)]
    show (if 4096 < (encL (num_ 2 1 :: num_ (m : Int) 1 :: imgL (rowT T m))).size then _ else _) = _
    rw [hz]
  unfold frameP
  rw [hc, hb]
  refine ⟨fun h => ?_, fun h => ?_⟩
  · rw [if_neg (by omega : ¬ 4096 < 2 + 228 * m), if_neg (fun c => c rfl)]
    refine ⟨rfl, ?_⟩
    show ((⟨(nb 2 _).toArray⟩ : ByteArray) ++ sealed _).size = _
    rw [ByteArray.size_append, nb_szI, sealed_size, hz]
    omega
  · rw [if_pos (by omega : 4096 < 2 + 228 * m), if_pos (by show (3 : Int) ≠ 0; decide)]
theorem bytes_open {w : World} {base : Nat} {v : Value} {xs : List Int} (h : Kd.R (Kd.int .u8) 5 w base (fun _ => True) v xs) (hl : xs.length = 224) :
    ∃ gb cap cur, v = .slice (some ⟨gb, 0, none⟩) 224 cap ∧ base ≤ gb ∧ w.heap[gb]? = some (.cells cur 5 (0, 0)) ∧ w.cell? ⟨gb, 0, none⟩ = some (.int .u8 (rd xs 0)) := by
  obtain ⟨_, inner, ho, hr⟩ := h
  have ho2 := ho
  rcases ho.2 with ⟨_, h0⟩ | ⟨gb, cap, cur, rfl, hge, hh, hn, _, hsz, htk⟩
  · omega
  · have hC : Kd.C (Kd.int .u8) w (some ⟨gb, 0, none⟩) xs.length xs := by
      obtain ⟨A, c, he, _, hc⟩ := Kd.R_reads (⟨fun _ _ => trivial, inner, ho2, hr⟩ : Kd.R (Kd.int .u8) 5 w base (fun _ => True) _ xs)
      simp only [Value.slice.injEq] at he
      rw [he.1]
      exact hc
    obtain ⟨ad, e, hx⟩ := Kd.at_int hC 0 (by omega) (by omega)
    obtain rfl := Option.some.inj e
    exact ⟨gb, cap, cur, by rw [hl], hge, hh, hx⟩
/-- The bytes, the record, its images. -/
structure LW (w wr : World) (gr : Nat) (vb : Value) (L : List Int) (v : Value) (l : List S36) : Prop where
  b : Below w.heap.size w wr
  byt : Kd.R (Kd.int .u8) 5 wr w.heap.size (fun _ => True) vb L
  rec_ : wr.heap[gr]? = some (.cells #[.int .i64 2, .int .i64 0, .int .i64 0, .int .i64 0, .int .i64 0, .string ⟨#[]⟩, .string ⟨#[]⟩, .string ⟨#[]⟩, .int .i64 0, v, .slice none 0 0, .int .i64 0, .int .i64 0] 25 (0, 0))
  row : Kd.R k36 36 wr w.heap.size (fun _ => True) v l
  ge : w.heap.size ≤ gr

set_option maxHeartbeats 8000000 in
set_option maxRecDepth 10000 in
theorem RecLong.walk (n c : Int) (w : World) (hn : (Lit.int .i64 n).wf = true) (hc : (Lit.int .u8 c).wf = true) :
    Calls Try.prog 5 #[.int .i64 n, .int .u8 c] w fun e w' => e = .returned (.bool true) ∧ Below w.heap.size w w' := by
  by_cases hlo : n < 0
  · have d1 : decide (n < 0) = true := by simpa using hlo
    clear hlo
    go_enter Try.func5, Try.ntmps5
    go_wp2_with (go_at_call 12; (with_reducible refine (awake_calls _).mono ?_); rintro e' w5 ⟨rfl, hB5⟩; have HB5 := Lib.hid hB5; clear hB5)
    go_ret
    exact ⟨rfl, HB5.out⟩
  have d1 : decide (n < 0) = false := by simpa using hlo
  by_cases hhi : 20 < n
  · have d2 : decide (20 < n) = true := by simpa using hhi
    clear hlo hhi
    go_enter Try.func5, Try.ntmps5
    go_wp2_with (go_at_call 12; (with_reducible refine (awake_calls _).mono ?_); rintro e' w5 ⟨rfl, hB5⟩; have HB5 := Lib.hid hB5; clear hB5)
    go_ret
    exact ⟨rfl, HB5.out⟩
  have d2 : decide (20 < n) = false := by simpa using hhi
  obtain ⟨m, rfl⟩ : ∃ m : Nat, n = (m : Int) := ⟨n.toNat, by omega⟩
  have hm : m ≤ 20 := by omega
  clear hlo hhi hn
  have hu25 := Try.underlying25
  have hu22 := Try.underlying22
  have hu31 := Try.underlying31
  have hu36 := Try.underlying36
  have HM := Lib.hid hm
  clear hm
  go_enter Try.func5, Try.ntmps5
  go_wp2_with (first
    | ((with_reducible refine gate_dst (N := 17) rfl ?_); refine Kd.R_make (Kd.int .u8) (w0 := w) w.heap.size 5 rfl (N := 17) rfl 31 _ _ rfl 224 rfl rfl Try.underlying31 (.int .u8 0) 1 info5 rfl (by decide) (by omega) 0 (ok := fun _ => True) (okp := fun _ => True) rfl (fun _ hk => hk) trivial (by decide) (by decide) (Below.refl _ _) (Nat.le_refl _) ?_; intro v1 w1 ho hb hg_ hnew_; have HO := Lib.hid ho; obtain ⟨gb, cap, cur, rfl, hge, hh, hx0⟩ := bytes_open ho (by simp); have hfz := blk_frozen hh 0; have HH := Lib.hid hh; have HGE := Lib.hid hge; have HB1 := Lib.hid hb; clear ho hb hg_ hnew_ hh hge))
  have hp := Kd.R_putg HO.out 0 c
  obtain ⟨L, hL⟩ : ∃ L, L = (List.replicate (Int.toNat 224) (0 : Int)).set (Int.toNat 0) c := ⟨_, rfl⟩
  have hLl : L.length = 224 := by rw [hL]; simp
  rw [← hL] at hp
  obtain ⟨T, hT⟩ : ∃ T, strOfNums L = T := ⟨_, rfl⟩
  have hTs : T.size = 224 := by rw [← hT]; simp [strOfNums, ByteArray.size, hLl]
  have hLW : LW w ((w1.setCell ⟨gb, 0, none⟩ (.int .u8 c)).alloc (.cells #[.int .i64 2, .int .i64 0, .int .i64 0, .int .i64 0, .int .i64 0, .string ⟨#[]⟩, .string ⟨#[]⟩, .string ⟨#[]⟩, .int .i64 0, .slice none 0 0, .slice none 0 0, .int .i64 0, .int .i64 0] 25)) w1.heap.size (.slice (some ⟨gb, 0, none⟩) 224 cap) L (.slice none 0 0) (rowT T 0) :=
    ⟨below_alloc (below_set HB1.out HGE.out) _, Kd.R_alloc hp.1 _, by simpa using heap_alloc_new (w1.setCell ⟨gb, 0, none⟩ (.int .u8 c)) _, Kd.R_nil _ _ _ _ _, HB1.out.size⟩
  have HLW := Lib.hid hLW
  have HTs := Lib.hid hTs
  have HLl := Lib.hid hLl
  have HT := Lib.hid hT
  clear hp hL hLl hT hTs hLW HO hx0 hfz HH
  go_loopw [7] (fun i wr => ∃ (j : Nat) (v : Value), j ≤ m ∧ i = .int .i64 j ∧ LW w wr w1.heap.size (.slice (some ⟨gb, 0, none⟩) 224 cap) L v (rowT T j)) (fun i _ => m - (intOf i).toNat)
  case atStart => exact ⟨0, _, Nat.zero_le _, rfl, HLW.out⟩
  case round =>
    obtain ⟨j, v, hj, rfl, hW⟩ := hrel
    have hcv := own_string Try.underlying31 Try.underlying5 Try.underlying9 (Kd.own_of_R hW.byt)
    rw [HT.out] at hcv
    have hgb : some gb ≠ v.ownBlock := by
      obtain ⟨gb', cap', cur', he, _, hh', _⟩ := bytes_open hW.byt HLl.out
      simp only [Value.slice.injEq, Option.some.injEq, Addr.mk.injEq, and_true] at he
      rw [he.1]
      exact own_ne hW.row.2.choose_spec.1 hh' (by decide)
    have HGB := Lib.hid hgb
    clear hgb
    have HW := Lib.hid hW
    by_cases hlt : j < m
    · have e1 : decide ((j : Int) < (m : Int)) = true := by simp; omega
      have e2 : decide (j < m) = true := by simpa using hlt
      have h9 : wr.cell? ⟨w1.heap.size, 9, none⟩ = some v := (blk_cell hW.rec_ 9).trans rfl
      have HJ := Lib.hid (show j + 1 ≤ m from hlt)
      have hj20 : j < 20 := by have := HM.out; omega
      clear hW hlt hj
      go_wp2_with (first
        | (at_builtin; refine Kd.R_append k36 (w0 := w) w.heap.size rfl (.tmp 28) (.tmp 33) 22 36 _ 24 rfl Try.underlying22 info36 rfl (by decide) (by omega) v (rowT T j) ⟨(j : Int), T⟩ [.int .i64 j, .string T] (fun _ => True) (fun _ => False) rfl rfl (k36_mkM _ _ _ ⟨(j : Int), T⟩) (fun _ h => h.elim) (fun _ _ => trivial) HW.out.row HW.out.b HW.out.b.size (by rw [rowT_len]; have := HJ.out; have := HM.out; omega) ?_; intro v2 w2 hR2 hbel2 hgr2 hat2; obtain ⟨A2, c2, rfl⟩ := Kd.R_slice hR2; have HR2 := Lib.hid hR2; have HB2 := Lib.hid hbel2; have HG2 := Lib.hid hgr2; have hr2 := (hgr2.block w1.heap.size (blk_lt HW.out.rec_) (own_ne HW.out.row.2.choose_spec.1 HW.out.rec_ (by decide))).trans HW.out.rec_; have hc9 : w2.cell? ⟨w1.heap.size, 9, none⟩ = some v := (blk_cell hr2 9).trans rfl; have hf9 := blk_frozen hr2 9; have HRC2 := Lib.hid hr2; clear hR2 hbel2 hgr2 hat2 hr2))
      go_roundw
      case rel =>
        refine ⟨j + 1, _, HJ.out, by go_num, below_set HB2.out HW.out.ge, ?_, blk_put HRC2.out 9 _ rfl, ?_, HW.out.ge⟩
        · exact Kd.R_set (Kd.R_grown1 HW.out.byt rfl HG2.out (fun h => HGB.out (by rw [h]; rfl))) HRC2.out (by decide) 9 _
        · rw [rowT_snoc]
          have q := Kd.R_set HR2.out HRC2.out (by decide) 9 (.slice A2 ((rowT T j).length + 1) c2)
          simp only [List.length_append, List.length_cons, List.length_nil, Nat.zero_add] at q
          exact q
      case measure => have := HJ.out; simp [intOf]; omega
    · obtain rfl : j = m := by omega
      have e1 : decide ((j : Int) < (j : Int)) = false := by simp
      obtain ⟨A, cc, rfl, hcc, hC⟩ := Kd.R_reads hW.row
      rw [rowT_len] at *
      have HWB := Lib.hid hW.b
      have HX := Lib.hid hW.rec_
      have hrr : RRow wr ⟨2, 0, 0, 0, 0, ⟨#[]⟩, ⟨#[]⟩, ⟨#[]⟩, 0, ⟨A, j, cc⟩, ⟨none, 0, 0⟩, 0, 0⟩ (rowT T j) [] := ⟨by rw [rowT_len]; exact hC, (rowT_len T j).symm, by rw [rowT_len]; exact hcc, Kd.C_nil k55 wr, rfl, Nat.le_refl _⟩
      have hfr := frame_walk 2 0 0 0 0 ⟨#[]⟩ ⟨#[]⟩ ⟨#[]⟩ 0 A j cc none 0 0 0 0 (rowT T j) [] wr hrr (by rw [rowT_len]; have := HM.out; omega) (by simp)
      obtain ⟨hl1, hl2⟩ := long_frame j HM.out T HTs.out A cc
      have hx9 : ∀ k (h : k < 13), True := fun _ _ => trivial
      obtain ⟨F, hF⟩ : ∃ F, frameP ⟨2, 0, 0, 0, 0, ⟨#[]⟩, ⟨#[]⟩, ⟨#[]⟩, 0, ⟨A, j, cc⟩, ⟨none, 0, 0⟩, 0, 0⟩ (rowT T j) [] = F := ⟨_, rfl⟩
      rw [hF] at hfr hl1 hl2
      have HFR := Lib.hid hfr
      clear hfr hF hrr hC hcc hcv hW HW
      by_cases h17 : 17 < j
      · have d3 : decide ((17 : Int) < (j : Int)) = true := by simp; omega
        have d4 : decide (17 < j) = true := by simpa using h17
        obtain rfl := hl2 h17
        clear hl1 hl2 h17
        go_wp2_with (first
          | (refine wpList_load_row rfl 25 _ rfl w1.heap.size rfl 25 _ (0, 0) _ HX.out Try.underlying25 rfl (hinfo25 ⟨2, 0, 0, 0, 0, ⟨#[]⟩, ⟨#[]⟩, ⟨#[]⟩, 0, ⟨A, j, cc⟩, ⟨none, 0, 0⟩, 0, 0⟩) ?_)
          | (go_at_call 10; (with_reducible refine HFR.out.mono ?_); rintro e' w4 ⟨rfl, hB4⟩; have HB4 := Lib.hid (below_step HWB.out hB4); clear hB4)
          | (go_at_call 12; (with_reducible refine (awake_calls _).mono ?_); rintro e' w5 ⟨rfl, hB5⟩; have HB5 := Lib.hid (below_step HB4.out hB5); clear hB5))
        go_ret
        exact ⟨rfl, HB5.out⟩
      · have d3 : decide ((17 : Int) < (j : Int)) = false := by simp; omega
        have d4 : decide (17 < j) = false := by simpa using h17
        obtain ⟨hF2, hF1⟩ := hl1 (by omega)
        obtain ⟨s, e⟩ := F
        simp only at hF1 hF2
        subst hF2
        have hw1 : IntKind.i64.wrap (228 * (j : Int)) = 228 * (j : Int) := (i64_w _).trans (w64p (by omega) (by have := HM.out; omega))
        have hw2 : IntKind.i64.wrap (8 + 228 * (j : Int)) = 8 + 228 * (j : Int) := (i64_w _).trans (w64p (by omega) (by have := HM.out; omega))
        have d5 : ((s.size : Int) == 8 + 228 * (j : Int)) = true := by simp; omega
        have d6 : (s.size == 8 + 228 * j) = true := by simp; omega
        clear hl1 hl2 h17 hF1
        go_wp2_with (first
          | (refine wpList_load_row rfl 25 _ rfl w1.heap.size rfl 25 _ (0, 0) _ HX.out Try.underlying25 rfl (hinfo25 ⟨2, 0, 0, 0, 0, ⟨#[]⟩, ⟨#[]⟩, ⟨#[]⟩, 0, ⟨A, j, cc⟩, ⟨none, 0, 0⟩, 0, 0⟩) ?_)
          | (go_at_call 10; (with_reducible refine HFR.out.mono ?_); rintro e' w4 ⟨rfl, hB4⟩; have HB4 := Lib.hid (below_step HWB.out hB4); clear hB4)
          | (go_at_call 12; (with_reducible refine (awake_calls _).mono ?_); rintro e' w5 ⟨rfl, hB5⟩; have HB5 := Lib.hid (below_step HB4.out hB5); clear hB5))
        go_ret
        exact ⟨rfl, HB5.out⟩
end Go.Proofs.Ytdphikbkknkhiaa.PAll
