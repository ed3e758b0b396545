/- FrameTells, walked. By this session. -/
import Derived.Test.YtepfjmmbjbfboaaFrameCut
namespace Go.Proofs.Ytepfjmmbjbfboaa.F
open Go.RowKit Go.Proofs.YtepfjmmbjbfboaaW.PrintWords Go.Proofs.YtepfjmmbjbfboaaW.PrintLast Go.Proofs.YtepfjmmbjbfboaaW.PrintMore
set_option linter.unusedVariables false
set_option linter.unusedSimpArgs false
set_option maxHeartbeats 2000000 in
set_option maxRecDepth 100000 in
theorem tells_walk (k0 : Int) (A0 : Option Addr) (c0 : Nat) (l0 : List Int) (A1 : Option Addr) (c1 : Nat) (l1 : List Int) (b0 : (-9223372036854775808 : Int) ≤ k0 ∧ k0 ≤ 9223372036854775807) (w : World) (hc0 : l0.length ≤ c0) (hr0 : Kd.C (Kd.int .u8) w A0 l0.length l0) (hg0 : l0.length + 4096 ≤ 140737488355328 ∧ Oct l0) (hc1 : l1.length ≤ c1) (hr1 : Kd.C (Kd.int .u8) w A1 l1.length l1) (hg1 : l1.length + 4096 ≤ 140737488355328 ∧ Oct l1) :
    Calls Try.prog 3 #[.agg #[.int .i64 k0, .slice A0 l0.length c0], .slice A1 l1.length c1] w fun e w' => e = .returned (.bool true) ∧ Below w.heap.size w w' := by
  have HC := Aside0.mk hc0; have HR := Aside0.mk hr0; have HO := Aside0.mk hg0.2
  have HC1 := Aside0.mk hc1; have HRb := Aside0.mk hr1; have HO1 := Aside0.mk hg1.2
  clear hc0 hr0 hg0 hc1 hr1 hg1
  obtain ⟨p, hp⟩ : ∃ p, Aside0 (putN k0 l0 = p) := ⟨_, ⟨rfl⟩⟩
  obtain ⟨kk, hkk⟩ : ∃ K, Aside0 (K = 10 * (l0.length + 4) + 10) := ⟨_, ⟨rfl⟩⟩
  have hz24 := zero_of (P := Try.prog) (t := 24) (z := .agg #[.int .i64 0, .slice none 0 0]) (by kernel_rfl)
  go_enter Try.func3, Try.ntmps3
  go_wp2_with fail
  have hB0 := (Below.refl w.heap.size w).alloc (Nat.le_refl _) (.cells #[.int .i64 k0, .slice A0 l0.length c0] 24)
  refine (head_walk _).mono ?_
  rintro e w1 ⟨rfl, hb1⟩
  have HF1 := Aside0.mk ((Blk.new w #[.int .i64 k0, .slice A0 l0.length c0] 24).below hb1)
  have B1 := Aside0.mk (hB0.trans (hb1.mono hB0.size))
  have HR1 := Aside0.mk (Kd.C_below HR.out B1.out)
  have HRb1 := Aside0.mk (Kd.C_below HRb.out B1.out)
  clear hb1 hB0 HR HRb
  have hk0 := HF1.out.cell 0; have hk1 := HF1.out.cell 1
  by_cases h3 : (9000 : Int) < (l0.length : Int)
  · have h3d : decide ((9000 : Int) < (l0.length : Int)) = true := decide_eq_true h3
    go_wp2_with fail
    go_ret
    exact ⟨rfl, B1.out⟩
  have h3d : decide ((9000 : Int) < (l0.length : Int)) = false := decide_eq_false h3
  by_cases h4 : (9000 : Int) < (l1.length : Int)
  · have h4d : decide ((9000 : Int) < (l1.length : Int)) = true := decide_eq_true h4
    go_wp2_with fail
    go_ret
    exact ⟨rfl, B1.out⟩
  have h4d : decide ((9000 : Int) < (l1.length : Int)) = false := decide_eq_false h4
  obtain ⟨kx, bx, ex, hgx, hgxf⟩ := get_f HO1.out (by omega)
  have HG := Aside0.mk (And.intro hgxf (show bowlineref04_Get.f kk l1 = some (kx, bx, ex) by rw [refget_eq HO1.out (by omega) (by have := hkk.out; omega), hgx]))
  have HQ := Aside0.mk (And.intro (show frame_Put.f k0 l0 = some p by rw [← hp.out]; rfl) (show bowlineref04_Put.f kk k0 l0 = some p by rw [refput_eq HO.out (by omega) (by have := hkk.out; omega), hp.out]))
  clear hgx hgxf
  go_wp2_with fail
  clear hk0 hk1 h3 h3d h4 h4d
  refine (frame_Get.calls A1 c1 l1 kx bx ex _ HRb1.out HC1.out HG.out.1).mono ?_
  rintro e w3 ⟨A3, c3, rfl, hl3, hC3, _, hb3⟩
  have D3 := Aside0.mk (hb3.alloc hb3.size (.cells #[.int .i64 kx, .slice A3 bx.length c3] 24))
  have HC3 := Aside0.mk (And.intro hl3 (Kd.C_below hC3 ((Below.refl w3.heap.size w3).alloc (Nat.le_refl _) (.cells #[.int .i64 kx, .slice A3 bx.length c3] 24))))
  have HX3 := Aside0.mk (Blk.new w3 #[.int .i64 kx, .slice A3 bx.length c3] 24)
  clear hb3 hl3 hC3
  go_wp2_with fail
  generalize w3.alloc (.cells #[.int .i64 kx, .slice A3 bx.length c3] 24) = W3 at D3 HC3 HX3 ⊢
  refine (bowlineref04_Get.calls kk A1 c1 l1 kx bx ex _ (Kd.C_below HRb1.out D3.out) HC1.out HG.out.2).mono ?_
  rintro e w4 ⟨v4, rfl, hR4, hb4⟩
  obtain ⟨A4, c4, rfl⟩ := Kd.R_slice hR4
  have hb4' := hb4.alloc hb4.size (.cells #[.int .i64 kx, .slice A4 bx.length c4] 24)
  have hst := (Below.refl w4.heap.size w4).alloc (Nat.le_refl _) (.cells #[.int .i64 kx, .slice A4 bx.length c4] 24)
  have D4 := Aside0.mk (D3.out.trans (hb4'.mono D3.out.size))
  have HC34 := Aside0.mk (And.intro HC3.out.1 (Kd.C_below HC3.out.2 hb4'))
  have HX34 := Aside0.mk (HX3.out.below hb4')
  have HR4 := Aside0.mk (And.intro (Kd.R_reads' hR4).2.1 (Kd.C_below (Kd.R_reads' hR4).2.2 hst))
  have HX4 := Aside0.mk (Blk.new w4 #[.int .i64 kx, .slice A4 bx.length c4] 24)
  clear hb4 hb4' hst hR4 HC3 HX3
  obtain ⟨n0, hn0⟩ : ∃ n, w.heap.size = n := ⟨_, rfl⟩
  obtain ⟨n3, hn3⟩ : ∃ n, w3.heap.size = n := ⟨_, rfl⟩
  obtain ⟨n4, hn4⟩ : ∃ n, w4.heap.size = n := ⟨_, rfl⟩
  go_wp2_with fail
  generalize w4.alloc (.cells #[.int .i64 kx, .slice A4 bx.length c4] 24) = W4 at D4 HC34 HX34 HR4 HX4 ⊢
  have HF4 := Aside0.mk (HF1.out.below D4.out)
  have BW4 := Aside0.mk (B1.out.trans (D4.out.mono B1.out.size))
  have HR4a := Aside0.mk (Kd.C_below HR1.out D4.out)
  rw [hn3] at HX34
  rw [hn4] at HX4
  rw [hn0] at HF4
  try simp only [hn0, hn3, hn4]
  have keep := Aside0.mk (fun (W : World) (hb : Below W4.heap.size W4 W) => And.intro (And.intro ((HF4.out.below hb).cell 0) ((HF4.out.below hb).cell 1)) (And.intro (And.intro ((HX34.out.below hb).cell 0) ((HX34.out.below hb).cell 1)) (And.intro ((HX4.out.below hb).cell 0) ((HX4.out.below hb).cell 1))))
  have hsp : ((strOfNums p).toList == (strOfNums p).toList) = true := beq_self_eq_true _
  have hee : (ex == ex) = true := beq_self_eq_true _
  have hsame := Aside0.mk (show bowlineref04_Same.f kx bx kx bx = some true by unfold bowlineref04_Same.f; rw [if_pos rfl, beq_self_eq_true])
  clear hn0 hn3 hn4
  have hu0 := (Below.refl W4.heap.size W4).drew
  obtain ⟨⟨S0, S1⟩, ⟨S2, S3⟩, S4, S5⟩ := keep.out _ hu0
  -- TELLS
  refine start_ (n := 21) (S := fun w' => w'.cell? ⟨n0, 0, none⟩ = some (.int .i64 k0) ∧ w'.cell? ⟨n0, 1, none⟩ = some (.slice A0 l0.length c0) ∧ w'.cell? ⟨n3, 0, none⟩ = some (.int .i64 kx) ∧ w'.cell? ⟨n3, 1, none⟩ = some (.slice A3 bx.length c3) ∧ w'.cell? ⟨n4, 0, none⟩ = some (.int .i64 kx) ∧ w'.cell? ⟨n4, 1, none⟩ = some (.slice A4 bx.length c4)) (ds := []) #[false, false, false, false, false, false, false, false, false, false, false, false, false, false, false, false, false, false, false, false, false] (by kernel_rfl) rfl rfl ⟨S0, S1, S2, S3, S4, S5⟩ (fun hHeld => ?_)
  refine pure_ (i := 0) (N := some 31) (v := ?_) (a' := ?_) #[true, false, false, false, false, false, false, false, false, false, false, false, false, false, false, false, false, false, false, false, false] rfl rfl (by kernel_rfl) (fun _ _ _ h => h) (Or.inl ⟨by rfl, ?_⟩) ?_ ?_
  rotate_left
  · intro w'
    go_simp
    with_reducible rfl
  rotate_left
  · simp only [Act.put, List.setIfInBounds_toArray, List.set_cons_zero, List.set_cons_succ, i64_w, i32_w]
    rfl
  refine pure_ (i := 1) (N := some 32) (v := ?_) (a' := ?_) #[true, true, false, false, false, false, false, false, false, false, false, false, false, false, false, false, false, false, false, false, false] rfl rfl (by kernel_rfl) (fun _ _ _ h => h) (Or.inl ⟨by rfl, ?_⟩) ?_ ?_
  rotate_left
  · intro w'
    go_simp
    with_reducible rfl
  rotate_left
  · simp only [Act.put, List.setIfInBounds_toArray, List.set_cons_zero, List.set_cons_succ, i64_w, i32_w]
    rfl
  refine take_ (i := 2) (N := some 33) (v := ?_) (a' := ?_) #[true, true, true, false, false, false, false, false, false, false, false, false, false, false, false, false, false, false, false, false, false] rfl rfl (by kernel_rfl) (fun _ _ _ h => h) (Or.inl ⟨by rfl, ?_⟩) hHeld ?_ ?_
  rotate_left
  · rintro w' ⟨s0, s1, s2, s3, s4, s5⟩
    go_simp
    with_reducible rfl
  rotate_left
  · simp only [Act.put, List.setIfInBounds_toArray, List.set_cons_zero, List.set_cons_succ, i64_w, i32_w]
    rfl
  refine take_ (i := 5) (N := some 36) (v := ?_) (a' := ?_) #[true, true, true, false, false, true, false, false, false, false, false, false, false, false, false, false, false, false, false, false, false] rfl rfl (by kernel_rfl) (fun _ _ _ h => h) (Or.inl ⟨by rfl, ?_⟩) hHeld ?_ ?_
  rotate_left
  · rintro w' ⟨s0, s1, s2, s3, s4, s5⟩
    go_simp
    with_reducible rfl
  rotate_left
  · simp only [Act.put, List.setIfInBounds_toArray, List.set_cons_zero, List.set_cons_succ, i64_w, i32_w]
    rfl
  refine one_ (i := 3) (N := some 34) #[true, true, true, true, false, true, false, false, false, false, false, false, false, false, false, false, false, false, false, false, false] rfl rfl (by kernel_rfl) (by decide) (fun K hK => ?_)
  refine goes_ Try.func13 (by kernel_rfl) rfl #[.agg #[.int .i64 k0, .slice A0 l0.length c0]] (by rfl) rfl rfl (by simp only [List.map_toArray, List.map_cons, List.map_nil]; rfl) ?_
  with_reducible refine (frame_Put.calls k0 A0 c0 l0 p _ (Kd.C_below HR4a.out hu0) HC.out HQ.out.1).mono ?_
  rintro e w7 ⟨v7, rfl, hR7, hb7⟩
  refine ⟨_, rfl, ?_⟩
  have hu7 := hu0.trans (hb7.mono hu0.size)
  obtain ⟨A7, c7, e7⟩ := Kd.R_slice hR7
  subst e7
  have hC7 := (Kd.R_reads' hR7).2.2
  obtain ⟨⟨T0, T1⟩, ⟨T2, T3⟩, T4, T5⟩ := keep.out _ hu7
  refine hK.out _ _ ⟨T0, T1, T2, T3, T4, T5⟩ (fun hHeld => ?_)
  clear hK K
  refine norm_ (a' := ?_) ?_ ?_
  rotate_left
  · show Act.put _ (some 34) _ = _
    simp only [Act.put, List.setIfInBounds_toArray, List.set_cons_zero, List.set_cons_succ, i64_w, i32_w]
    rfl
  refine join_ (σ := Value) 13 #[true, true, true, true, true, true, true, true, false, false, false, false, false, false, false, false, false, false, false, false, false] (fun s_ => [(35, .string (strOfNums p)), (37, s_), (38, .string (strOfNums p))]) (fun s_ w' => Kd.R (Kd.int .u8) 5 w' w7.heap.size (fun _ => True) s_ p ∧ Below w7.heap.size w7 w') ?_ ?_
  rotate_left
  · intro hCont
    refine two_ (i := 4) (j := 6) (Ni := some 35) (Nj := some 37) #[true, true, true, true, true, true, false, false, false, false, false, false, false, false, false, false, false, false, false, false, false] #[true, true, true, true, false, true, true, false, false, false, false, false, false, false, false, false, false, false, false, false, false] rfl rfl rfl rfl (by kernel_rfl) (by decide) (by decide) (fun K hK => ?_) (fun K hK => ?_)
    · skip
      have hcv7 := Kd.C_string (P := Try.prog) (c := c7) Try.underlying22 Try.underlying5 Try.underlying9 hC7
      refine value_ (w1 := ?_) (v := ?_) (by rfl) rfl ?_ ?_
      rotate_left 2
      · go_simp
        constructor
        · rfl
        · rfl
      refine hK.out _ _ ⟨T0, T1, T2, T3, T4, T5⟩ (fun hHeld => ?_)
      clear hK K
      refine norm_ (a' := ?_) ?_ ?_
      rotate_left
      · show Act.put _ (some 35) _ = _
        simp only [Act.put, List.setIfInBounds_toArray, List.set_cons_zero, List.set_cons_succ, i64_w, i32_w]
        rfl
      refine one_ (i := 6) (N := some 37) #[true, true, true, true, true, true, true, false, false, false, false, false, false, false, false, false, false, false, false, false, false] rfl rfl (by kernel_rfl) (by decide) (fun K hK => ?_)
      refine goes_ Try.func14 (by kernel_rfl) rfl #[.agg #[.int .i64 k0, .slice A0 l0.length c0]] (by rfl) rfl rfl (by simp only [List.map_toArray, List.map_cons, List.map_nil]; rfl) ?_
      with_reducible refine (bowlineref04_Put.calls kk k0 A0 c0 l0 p _ (Kd.C_below HR4a.out hu7) HC.out HQ.out.2).mono ?_
      rintro e w8 ⟨v8, rfl, hR8, hb8⟩
      refine ⟨_, rfl, ?_⟩
      have hu8 := hu7.trans (hb8.mono hu7.size)
      obtain ⟨A8, c8, e8⟩ := Kd.R_slice hR8
      subst e8
      have hC8 := (Kd.R_reads' hR8).2.2
      obtain ⟨⟨Y0, Y1⟩, ⟨Y2, Y3⟩, Y4, Y5⟩ := keep.out _ hu8
      refine hK.out _ _ ⟨Y0, Y1, Y2, Y3, Y4, Y5⟩ (fun hHeld => ?_)
      clear hK K
      refine norm_ (a' := ?_) ?_ ?_
      rotate_left
      · show Act.put _ (some 37) _ = _
        simp only [Act.put, List.setIfInBounds_toArray, List.set_cons_zero, List.set_cons_succ, i64_w, i32_w]
        rfl
      refine one_ (i := 7) (N := some 38) #[true, true, true, true, true, true, true, true, false, false, false, false, false, false, false, false, false, false, false, false, false] rfl rfl (by kernel_rfl) (by decide) (fun K hK => ?_)
      have hcv8 := Kd.C_string (P := Try.prog) (c := c8) Try.underlying22 Try.underlying5 Try.underlying9 hC8
      refine value_ (w1 := ?_) (v := ?_) (by rfl) rfl ?_ ?_
      rotate_left 2
      · go_simp
        constructor
        · rfl
        · rfl
      refine hK.out _ _ ⟨Y0, Y1, Y2, Y3, Y4, Y5⟩ (fun hHeld => ?_)
      clear hK K
      refine norm_ (a' := ?_) ?_ ?_
      rotate_left
      · show Act.put _ (some 38) _ = _
        simp only [Act.put, List.setIfInBounds_toArray, List.set_cons_zero, List.set_cons_succ, i64_w, i32_w]
        rfl
      exact norm_ (by simp only [putAll, Act.put, List.setIfInBounds_toArray, List.set_cons_zero, List.set_cons_succ]) (hCont (.slice A8 p.length c8) _ ⟨hR8, hb8⟩)
    · skip
      refine goes_ Try.func14 (by kernel_rfl) rfl #[.agg #[.int .i64 k0, .slice A0 l0.length c0]] (by rfl) rfl rfl (by simp only [List.map_toArray, List.map_cons, List.map_nil]; rfl) ?_
      with_reducible refine (bowlineref04_Put.calls kk k0 A0 c0 l0 p _ (Kd.C_below HR4a.out hu7) HC.out HQ.out.2).mono ?_
      rintro e w8 ⟨v8, rfl, hR8, hb8⟩
      refine ⟨_, rfl, ?_⟩
      have hu8 := hu7.trans (hb8.mono hu7.size)
      obtain ⟨A8, c8, e8⟩ := Kd.R_slice hR8
      subst e8
      have hC8 := (Kd.R_reads' hR8).2.2
      obtain ⟨⟨Y0, Y1⟩, ⟨Y2, Y3⟩, Y4, Y5⟩ := keep.out _ hu8
      refine hK.out _ _ ⟨Y0, Y1, Y2, Y3, Y4, Y5⟩ (fun hHeld => ?_)
      clear hK K
      refine norm_ (a' := ?_) ?_ ?_
      rotate_left
      · show Act.put _ (some 37) _ = _
        simp only [Act.put, List.setIfInBounds_toArray, List.set_cons_zero, List.set_cons_succ, i64_w, i32_w]
        rfl
      refine two_ (i := 4) (j := 7) (Ni := some 35) (Nj := some 38) #[true, true, true, true, true, true, true, false, false, false, false, false, false, false, false, false, false, false, false, false, false] #[true, true, true, true, false, true, true, true, false, false, false, false, false, false, false, false, false, false, false, false, false] rfl rfl rfl rfl (by kernel_rfl) (by decide) (by decide) (fun K hK => ?_) (fun K hK => ?_)
      · skip
        have hcv7 := Kd.C_string (P := Try.prog) (c := c7) Try.underlying22 Try.underlying5 Try.underlying9 (Kd.C_below hC7 hb8)
        refine value_ (w1 := ?_) (v := ?_) (by rfl) rfl ?_ ?_
        rotate_left 2
        · go_simp
          constructor
          · rfl
          · rfl
        refine hK.out _ _ ⟨Y0, Y1, Y2, Y3, Y4, Y5⟩ (fun hHeld => ?_)
        clear hK K
        refine norm_ (a' := ?_) ?_ ?_
        rotate_left
        · show Act.put _ (some 35) _ = _
          simp only [Act.put, List.setIfInBounds_toArray, List.set_cons_zero, List.set_cons_succ, i64_w, i32_w]
          rfl
        refine one_ (i := 7) (N := some 38) #[true, true, true, true, true, true, true, true, false, false, false, false, false, false, false, false, false, false, false, false, false] rfl rfl (by kernel_rfl) (by decide) (fun K hK => ?_)
        have hcv8 := Kd.C_string (P := Try.prog) (c := c8) Try.underlying22 Try.underlying5 Try.underlying9 hC8
        refine value_ (w1 := ?_) (v := ?_) (by rfl) rfl ?_ ?_
        rotate_left 2
        · go_simp
          constructor
          · rfl
          · rfl
        refine hK.out _ _ ⟨Y0, Y1, Y2, Y3, Y4, Y5⟩ (fun hHeld => ?_)
        clear hK K
        refine norm_ (a' := ?_) ?_ ?_
        rotate_left
        · show Act.put _ (some 38) _ = _
          simp only [Act.put, List.setIfInBounds_toArray, List.set_cons_zero, List.set_cons_succ, i64_w, i32_w]
          rfl
        exact norm_ (by simp only [putAll, Act.put, List.setIfInBounds_toArray, List.set_cons_zero, List.set_cons_succ]) (hCont (.slice A8 p.length c8) _ ⟨hR8, hb8⟩)
      · skip
        have hcv8 := Kd.C_string (P := Try.prog) (c := c8) Try.underlying22 Try.underlying5 Try.underlying9 hC8
        refine value_ (w1 := ?_) (v := ?_) (by rfl) rfl ?_ ?_
        rotate_left 2
        · go_simp
          constructor
          · rfl
          · rfl
        refine hK.out _ _ ⟨Y0, Y1, Y2, Y3, Y4, Y5⟩ (fun hHeld => ?_)
        clear hK K
        refine norm_ (a' := ?_) ?_ ?_
        rotate_left
        · show Act.put _ (some 38) _ = _
          simp only [Act.put, List.setIfInBounds_toArray, List.set_cons_zero, List.set_cons_succ, i64_w, i32_w]
          rfl
        refine one_ (i := 4) (N := some 35) #[true, true, true, true, true, true, true, true, false, false, false, false, false, false, false, false, false, false, false, false, false] rfl rfl (by kernel_rfl) (by decide) (fun K hK => ?_)
        have hcv7 := Kd.C_string (P := Try.prog) (c := c7) Try.underlying22 Try.underlying5 Try.underlying9 (Kd.C_below hC7 hb8)
        refine value_ (w1 := ?_) (v := ?_) (by rfl) rfl ?_ ?_
        rotate_left 2
        · go_simp
          constructor
          · rfl
          · rfl
        refine hK.out _ _ ⟨Y0, Y1, Y2, Y3, Y4, Y5⟩ (fun hHeld => ?_)
        clear hK K
        refine norm_ (a' := ?_) ?_ ?_
        rotate_left
        · show Act.put _ (some 35) _ = _
          simp only [Act.put, List.setIfInBounds_toArray, List.set_cons_zero, List.set_cons_succ, i64_w, i32_w]
          rfl
        exact norm_ (by simp only [putAll, Act.put, List.setIfInBounds_toArray, List.set_cons_zero, List.set_cons_succ]) (hCont (.slice A8 p.length c8) _ ⟨hR8, hb8⟩)
  rintro v9 w9 ⟨hR9, hb9⟩
  obtain ⟨A9, c9, e9⟩ := Kd.R_slice hR9
  subst e9
  have hu9 := hu7.trans (hb9.mono hu7.size)
  obtain ⟨⟨X0, X1⟩, ⟨X2, X3⟩, X4, X5⟩ := keep.out _ hu9
  have hHeld : w9.cell? ⟨n0, 0, none⟩ = some (.int .i64 k0) ∧ w9.cell? ⟨n0, 1, none⟩ = some (.slice A0 l0.length c0) ∧ w9.cell? ⟨n3, 0, none⟩ = some (.int .i64 kx) ∧ w9.cell? ⟨n3, 1, none⟩ = some (.slice A3 bx.length c3) ∧ w9.cell? ⟨n4, 0, none⟩ = some (.int .i64 kx) ∧ w9.cell? ⟨n4, 1, none⟩ = some (.slice A4 bx.length c4) := ⟨X0, X1, X2, X3, X4, X5⟩
  refine norm_ (a' := ?_) ?_ ?_
  rotate_left
  · simp only [putAll, Act.put, List.setIfInBounds_toArray, List.set_cons_zero, List.set_cons_succ]
    rfl
  refine pure_ (i := 8) (N := some 39) (v := ?_) (a' := ?_) #[true, true, true, true, true, true, true, true, true, false, false, false, false, false, false, false, false, false, false, false, false] rfl rfl (by kernel_rfl) (fun _ _ _ h => h) (Or.inl ⟨by rfl, ?_⟩) ?_ ?_
  rotate_left
  · intro w'
    go_simp
    with_reducible rfl
  rotate_left
  · simp only [Act.put, List.setIfInBounds_toArray, List.set_cons_zero, List.set_cons_succ, i64_w, i32_w]
    rfl
  refine pure_ (i := 9) (N := some 40) (v := ?_) (a' := ?_) #[true, true, true, true, true, true, true, true, true, true, false, false, false, false, false, false, false, false, false, false, false] rfl rfl (by kernel_rfl) (fun _ _ _ h => h) (Or.inl ⟨by rfl, ?_⟩) ?_ ?_
  rotate_left
  · intro w'
    go_simp
    with_reducible rfl
  rotate_left
  · simp only [Act.put, List.setIfInBounds_toArray, List.set_cons_zero, List.set_cons_succ, i64_w, i32_w]
    rfl
  refine pure_ (i := 10) (N := some 41) (v := ?_) (a' := ?_) #[true, true, true, true, true, true, true, true, true, true, true, false, false, false, false, false, false, false, false, false, false] rfl rfl (by kernel_rfl) (fun _ _ _ h => h) (Or.inl ⟨by rfl, ?_⟩) ?_ ?_
  rotate_left
  · intro w'
    go_simp
    with_reducible rfl
  rotate_left
  · simp only [Act.put, List.setIfInBounds_toArray, List.set_cons_zero, List.set_cons_succ, i64_w, i32_w]
    rfl
  refine take_ (i := 11) (N := some 42) (v := ?_) (a' := ?_) #[true, true, true, true, true, true, true, true, true, true, true, true, false, false, false, false, false, false, false, false, false] rfl rfl (by kernel_rfl) (fun _ _ _ h => h) (Or.inl ⟨by rfl, ?_⟩) hHeld ?_ ?_
  rotate_left
  · rintro w' ⟨s0, s1, s2, s3, s4, s5⟩
    go_simp
    with_reducible rfl
  rotate_left
  · simp only [Act.put, List.setIfInBounds_toArray, List.set_cons_zero, List.set_cons_succ, i64_w, i32_w]
    rfl
  refine take_ (i := 12) (N := some 43) (v := ?_) (a' := ?_) #[true, true, true, true, true, true, true, true, true, true, true, true, true, false, false, false, false, false, false, false, false] rfl rfl (by kernel_rfl) (fun _ _ _ h => h) (Or.inl ⟨by rfl, ?_⟩) hHeld ?_ ?_
  rotate_left
  · rintro w' ⟨s0, s1, s2, s3, s4, s5⟩
    go_simp
    with_reducible rfl
  rotate_left
  · simp only [Act.put, List.setIfInBounds_toArray, List.set_cons_zero, List.set_cons_succ, i64_w, i32_w]
    rfl
  refine one_ (i := 13) (N := some 44) #[true, true, true, true, true, true, true, true, true, true, true, true, true, true, false, false, false, false, false, false, false] rfl rfl (by kernel_rfl) (by decide) (fun K hK => ?_)
  skip
  refine goes_ Try.func15 (by kernel_rfl) rfl #[.agg #[.int .i64 kx, .slice A3 bx.length c3], .agg #[.int .i64 kx, .slice A4 bx.length c4]] (by rfl) rfl rfl (by simp only [List.map_toArray, List.map_cons, List.map_nil]; rfl) ?_
  with_reducible refine (bowlineref04_Same.calls kx A3 c3 bx kx A4 c4 bx true _ (Kd.C_below HC34.out.2 hu9) HC34.out.1 (Kd.C_below HR4.out.2 hu9) HR4.out.1 hsame.out).mono ?_
  rintro e w10 ⟨rfl, hb10⟩
  refine ⟨_, rfl, ?_⟩
  have hu10 := hu9.trans (hb10.mono hu9.size)
  have BF := Aside0.mk (BW4.out.trans (hu10.mono BW4.out.size))
  obtain ⟨⟨Z0, Z1⟩, ⟨Z2, Z3⟩, Z4, Z5⟩ := keep.out _ hu10
  refine hK.out _ _ ⟨Z0, Z1, Z2, Z3, Z4, Z5⟩ (fun hHeld => ?_)
  clear hK K
  refine norm_ (a' := ?_) ?_ ?_
  rotate_left
  · show Act.put _ (some 44) _ = _
    simp only [Act.put, List.setIfInBounds_toArray, List.set_cons_zero, List.set_cons_succ, i64_w, i32_w]
    rfl
  refine pure_ (i := 14) (N := some 45) (v := ?_) (a' := ?_) #[true, true, true, true, true, true, true, true, true, true, true, true, true, true, true, false, false, false, false, false, false] rfl rfl (by kernel_rfl) (fun _ _ _ h => h) (Or.inl ⟨by rfl, ?_⟩) ?_ ?_
  rotate_left
  · intro w'
    go_simp
    with_reducible rfl
  rotate_left
  · simp only [Act.put, List.setIfInBounds_toArray, List.set_cons_zero, List.set_cons_succ, i64_w, i32_w]
    rfl
  refine pure_ (i := 15) (N := some 46) (v := ?_) (a' := ?_) #[true, true, true, true, true, true, true, true, true, true, true, true, true, true, true, true, false, false, false, false, false] rfl rfl (by kernel_rfl) (fun _ _ _ h => h) (Or.inl ⟨by rfl, ?_⟩) ?_ ?_
  rotate_left
  · intro w'
    go_simp
    with_reducible rfl
  rotate_left
  · simp only [Act.put, List.setIfInBounds_toArray, List.set_cons_zero, List.set_cons_succ, i64_w, i32_w]
    rfl
  refine pure_ (i := 16) (N := some 47) (v := ?_) (a' := ?_) #[true, true, true, true, true, true, true, true, true, true, true, true, true, true, true, true, true, false, false, false, false] rfl rfl (by kernel_rfl) (fun _ _ _ h => h) (Or.inl ⟨by rfl, ?_⟩) ?_ ?_
  rotate_left
  · intro w'
    go_simp
    with_reducible rfl
  rotate_left
  · simp only [Act.put, List.setIfInBounds_toArray, List.set_cons_zero, List.set_cons_succ, i64_w, i32_w]
    rfl
  refine pure_ (i := 17) (N := some 48) (v := ?_) (a' := ?_) #[true, true, true, true, true, true, true, true, true, true, true, true, true, true, true, true, true, true, false, false, false] rfl rfl (by kernel_rfl) (fun _ _ _ h => h) (Or.inl ⟨by rfl, ?_⟩) ?_ ?_
  rotate_left
  · intro w'
    go_simp
    with_reducible rfl
  rotate_left
  · simp only [Act.put, List.setIfInBounds_toArray, List.set_cons_zero, List.set_cons_succ, i64_w, i32_w]
    rfl
  refine pure_ (i := 18) (N := some 49) (v := ?_) (a' := ?_) #[true, true, true, true, true, true, true, true, true, true, true, true, true, true, true, true, true, true, true, false, false] rfl rfl (by kernel_rfl) (fun _ _ _ h => h) (Or.inl ⟨by rfl, ?_⟩) ?_ ?_
  rotate_left
  · intro w'
    go_simp
    with_reducible rfl
  rotate_left
  · simp only [Act.put, List.setIfInBounds_toArray, List.set_cons_zero, List.set_cons_succ, i64_w, i32_w]
    rfl
  refine pure_ (i := 19) (N := some 50) (v := ?_) (a' := ?_) #[true, true, true, true, true, true, true, true, true, true, true, true, true, true, true, true, true, true, true, true, false] rfl rfl (by kernel_rfl) (fun _ _ _ h => h) (Or.inl ⟨by rfl, ?_⟩) ?_ ?_
  rotate_left
  · intro w'
    go_simp
    with_reducible rfl
  rotate_left
  · simp only [Act.put, List.setIfInBounds_toArray, List.set_cons_zero, List.set_cons_succ, i64_w, i32_w]
    rfl
  refine pure_ (i := 20) (N := some 4) (v := ?_) (a' := ?_) #[true, true, true, true, true, true, true, true, true, true, true, true, true, true, true, true, true, true, true, true, true] rfl rfl (by kernel_rfl) (fun _ _ _ h => h) (Or.inl ⟨by rfl, ?_⟩) ?_ ?_
  rotate_left
  · intro w'
    go_simp
    with_reducible rfl
  rotate_left
  · simp only [Act.put, List.setIfInBounds_toArray, List.set_cons_zero, List.set_cons_succ, i64_w, i32_w]
    rfl
  refine done_ (by kernel_rfl) ?_
  -- END TELLS
  go_wp2_with fail
  go_ret
  exact ⟨rfl, BF.out⟩
end Go.Proofs.Ytepfjmmbjbfboaa.F
