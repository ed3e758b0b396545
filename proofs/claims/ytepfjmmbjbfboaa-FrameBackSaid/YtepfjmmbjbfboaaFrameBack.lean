/- FrameBack, walked. By this session. -/
import Derived.Test.YtepfjmmbjbfboaaFrameCut
namespace Go.Proofs.Ytepfjmmbjbfboaa.F
open Go.RowKit Go.Proofs.YtepfjmmbjbfboaaW.PrintWords Go.Proofs.YtepfjmmbjbfboaaW.PrintLast Go.Proofs.YtepfjmmbjbfboaaW.PrintMore
set_option linter.unusedVariables false
set_option linter.unusedSimpArgs false
set_option maxHeartbeats 2000000 in
set_option maxRecDepth 100000 in
theorem back_walk (k0 : Int) (A0 : Option Addr) (c0 : Nat) (l0 : List Int) (A1 : Option Addr) (c1 : Nat) (l1 : List Int) (b0 : (-9223372036854775808 : Int) ≤ k0 ∧ k0 ≤ 9223372036854775807) (w : World) (hc0 : l0.length ≤ c0) (hr0 : Kd.C (Kd.int .u8) w A0 l0.length l0) (hg0 : l0.length + 4096 ≤ 140737488355328 ∧ Oct l0) (hc1 : l1.length ≤ c1) (hr1 : Kd.C (Kd.int .u8) w A1 l1.length l1) (hg1 : l1.length + 4096 ≤ 140737488355328 ∧ Oct l1) :
    Calls Try.prog 4 #[.agg #[.int .i64 k0, .slice A0 l0.length c0], .slice A1 l1.length c1] w fun e w' => e = .returned (.bool true) ∧ Below w.heap.size w w' := by
  have HC := Aside0.mk hc0; have HR := Aside0.mk hr0; have HO := Aside0.mk hg0.2
  have HC1 := Aside0.mk hc1; have HRb := Aside0.mk hr1; have HO1 := Aside0.mk hg1.2
  clear hc0 hr0 hg0 hc1 hr1 hg1
  obtain ⟨p, hp⟩ : ∃ p, Aside0 (putN k0 l0 = p) := ⟨_, ⟨rfl⟩⟩
  have hpo := Aside0.mk (show Oct p from hp.out ▸ putN_oct k0 HO.out)
  have hz24 := zero_of (P := Try.prog) (t := 24) (z := .agg #[.int .i64 0, .slice none 0 0]) (by kernel_rfl)
  go_enter Try.func4, Try.ntmps4
  go_wp2_with fail
  have hB0 := (Below.refl w.heap.size w).alloc (Nat.le_refl _) (.cells #[.int .i64 k0, .slice A0 l0.length c0] 24)
  refine (head_walk _).mono ?_
  rintro e w1 ⟨rfl, hb1⟩
  have HF1 := Aside0.mk ((Blk.new w #[.int .i64 k0, .slice A0 l0.length c0] 24).below hb1)
  have B1 := Aside0.mk (hB0.trans (hb1.mono hB0.size))
  have HR1 := Aside0.mk (Kd.C_below HR.out B1.out)
  have HRb1 := Aside0.mk (Kd.C_below HRb.out B1.out)
  clear hb1 hB0 HR HRb
  have hk0 := HF1.out.cell 0; have hk1 := HF1.out.cell 1
  by_cases h3 : (9000 : Int) < (l0.length : Int)
  · have h3d : decide ((9000 : Int) < (l0.length : Int)) = true := decide_eq_true h3
    go_wp2_with fail
    go_ret
    exact ⟨rfl, B1.out⟩
  have h3d : decide ((9000 : Int) < (l0.length : Int)) = false := decide_eq_false h3
  by_cases h4 : (9000 : Int) < (l1.length : Int)
  · have h4d : decide ((9000 : Int) < (l1.length : Int)) = true := decide_eq_true h4
    go_wp2_with fail
    go_ret
    exact ⟨rfl, B1.out⟩
  have h4d : decide ((9000 : Int) < (l1.length : Int)) = false := decide_eq_false h4
  obtain ⟨kx, bx, ex, hgx, hgxf⟩ := get_f HO1.out (by omega)
  have HG := Aside0.mk hgxf
  have hcase := Aside0.mk (show (ex ≠ 0 ∧ (kx, bx) = ((0 : Int), ([] : List Int))) ∨ (ex = 0 ∧ putN kx bx = l1) by
    rcases getN_cases l1 with ⟨h1, h2⟩ | ⟨h1, _, _, _, h5, _, _⟩
    · rw [hgx] at h1 h2
      dsimp only at h1 h2
      exact .inl ⟨by omega, h1⟩
    · rw [hgx] at h1 h5
      exact .inr ⟨h1, h5⟩)
  have Hl0 := Aside0.mk h3
  clear hgx hgxf
  go_wp2_with fail
  clear hk0 hk1 h3 h3d h4 h4d
  refine (frame_Put.calls k0 A0 c0 l0 p _ HR1.out HC.out (by rw [← hp.out]; rfl)).mono ?_
  rintro e w2 ⟨v2, rfl, hR2, hb2⟩
  obtain ⟨A2, c2, rfl⟩ := Kd.R_slice hR2
  have B2 := Aside0.mk (B1.out.trans (hb2.mono B1.out.size))
  have HF2 := Aside0.mk (HF1.out.below hb2)
  have HR2 := Aside0.mk (Kd.C_below HR1.out hb2)
  have HRb2 := Aside0.mk (Kd.C_below HRb1.out hb2)
  have HP2 := Aside0.mk (Kd.R_reads' hR2)
  clear hb2 hR2 HF1 HR1 HRb1
  have hk0 := HF2.out.cell 0; have hk1 := HF2.out.cell 1
  by_cases hf : 1 ≤ k0 ∧ k0 ≤ 4 ∧ l0.length ≤ 2048
  · have hpl := Aside0.mk (putN_len hf)
    rw [hp.out] at hpl
    have hget := Aside0.mk (show frame_Get.f p = some ((k0, l0), 0) by
      unfold frame_Get.f
      rw [if_pos ⟨hpo.out, by have := hpl.out; have := Hl0.out; omega⟩, ← hp.out, get_put hf])
    have hsame := Aside0.mk (show bowlineref04_Same.f k0 l0 k0 l0 = some true by unfold bowlineref04_Same.f; rw [if_pos rfl, beq_self_eq_true])
    have d1 : decide (1 ≤ k0) = true := decide_eq_true hf.1
    have d2 : decide (k0 ≤ 4) = true := decide_eq_true hf.2.1
    have d3 : decide ((l0.length : Int) ≤ 2048) = true := decide_eq_true (by omega)
    have d3' : decide (l0.length ≤ 2048) = true := decide_eq_true hf.2.2
    have e1 := eq_true hf.1
    have e2 := eq_true hf.2.1
    have e3 := eq_true hf.2.2
    have d4 : decide ((0 : Int) < (p.length : Int)) = true := decide_eq_true (by have := hpl.out; omega)
    have d4' : decide (0 < p.length) = true := decide_eq_true (by have := hpl.out; omega)
    have e4 : (0 < p.length) = True := eq_true (by have := hpl.out; omega)
    have d5 : ((p.length : Int) == (l0.length : Int) + 8) = true := beq_iff_eq.mpr (by have := hpl.out; omega)
    have d6 : ((p.length : Int) != (l0.length : Int) + 8) = false := bne_eq_false_iff_eq.mpr (by have := hpl.out; omega)
    have hw8 : IntKind.i64.wrap ((l0.length : Int) + 8) = (l0.length : Int) + 8 := IntWalk.i64_in _ (by omega)
    clear hf
    go_wp2_with fail
    clear d1 d2 d3 d3' e1 e2 e3 d4 d4' e4 d5 d6 hw8 hk0 hk1
    refine (frame_Get.calls A2 c2 p k0 l0 0 _ HP2.out.2.2 HP2.out.2.1 hget.out).mono ?_
    rintro e w5 ⟨A5, c5, rfl, hl5, hC5, _, hb5⟩
    have D5 := Aside0.mk (hb5.alloc hb5.size (.cells #[.int .i64 k0, .slice A5 l0.length c5] 24))
    have HC5 := Aside0.mk (And.intro hl5 (Kd.C_below hC5 ((Below.refl w5.heap.size w5).alloc (Nat.le_refl _) (.cells #[.int .i64 k0, .slice A5 l0.length c5] 24))))
    have hk0 := (HF2.out.below D5.out).cell 0; have hk1 := (HF2.out.below D5.out).cell 1
    clear hb5 hl5 hC5
    go_wp2_with fail
    refine (bowlineref04_Same.calls k0 A5 c5 l0 k0 A0 c0 l0 true _ HC5.out.2 HC5.out.1 (Kd.C_below HR2.out D5.out) HC.out hsame.out).mono ?_
    rintro e w6 ⟨rfl, hb6⟩
    have D6 := Aside0.mk (D5.out.trans (hb6.mono D5.out.size))
    have B6 := Aside0.mk (B2.out.trans (D6.out.mono B2.out.size))
    clear hb6 hk0 hk1
    go_wp2_with fail
    refine (frame_Get.calls A1 c1 l1 kx bx ex _ (Kd.C_below HRb2.out D6.out) HC1.out HG.out).mono ?_
    rintro e w3 ⟨A3, c3, rfl, hl3, hC3, _, hb3⟩
    have D3 := Aside0.mk (hb3.alloc hb3.size (.cells #[.int .i64 kx, .slice A3 bx.length c3] 24))
    have HC3 := Aside0.mk (And.intro hl3 (Kd.C_below hC3 ((Below.refl w3.heap.size w3).alloc (Nat.le_refl _) (.cells #[.int .i64 kx, .slice A3 bx.length c3] 24))))
    have HX3 := Aside0.mk (Blk.new w3 #[.int .i64 kx, .slice A3 bx.length c3] 24)
    have HRb3 := Aside0.mk (Kd.C_below (Kd.C_below HRb2.out D6.out) D3.out)
    have BW3 := Aside0.mk (B6.out.trans (D3.out.mono B6.out.size))
    clear hb3 hl3 hC3
    rcases hcase.out with ⟨he, hkb⟩ | ⟨he, hkb⟩
    · have he1 : (ex = 0) = False := eq_false he
      have he2 : (ex == 0) = false := beq_eq_false_iff_ne.mpr he
      have he3 : (ex != 0) = true := bne_iff_ne.mpr he
      injection hkb with hkb1 hkb2
      have Hb := Aside0.mk hkb2
      clear hkb2
      subst hkb1
      have hk0 := HX3.out.cell 0; have hk1 := HX3.out.cell 1
      clear he
      go_wp2_with fail
      refine (bowlineref04_Same.calls 0 A3 c3 bx 0 none 0 [] true _ HC3.out.2 HC3.out.1 (Kd.C_nil _ _) (Nat.le_refl _) (by rw [Hb.out]; unfold bowlineref04_Same.f; rw [if_pos rfl, beq_self_eq_true])).mono ?_
      rintro e w8 ⟨rfl, hb8⟩
      have B8 := Aside0.mk (BW3.out.trans (hb8.mono BW3.out.size))
      clear hb8
      go_wp2_with fail
      go_ret
      exact ⟨rfl, B8.out⟩
    · subst he
      have Hp := Aside0.mk hkb
      have hs1 : ((strOfNums l1).toList == (strOfNums l1).toList) = true := beq_self_eq_true _
      clear hkb
      go_wp2_with fail
      generalize w3.alloc (.cells #[.int .i64 kx, .slice A3 bx.length c3] 24) = W3 at HC3 HX3 HRb3 BW3 ⊢
      obtain ⟨n3, hn3⟩ : ∃ n, w3.heap.size = n := ⟨_, rfl⟩
      rw [hn3] at HX3
      simp only [hn3]
      clear hn3
      have hu0 := (Below.refl W3.heap.size W3).drew
      have keep := Aside0.mk (fun (W : World) (hb : Below W3.heap.size W3 W) => And.intro ((HX3.out.below hb).cell 0) (And.intro ((HX3.out.below hb).cell 1) (Kd.C_string (P := Try.prog) (c := c1) Try.underlying22 Try.underlying5 Try.underlying9 (Kd.C_below HRb3.out hb))))
      obtain ⟨S0, S1, S2⟩ := keep.out _ hu0
      -- BACK0
      refine start_ (n := 10) (S := fun w' => w'.cell? ⟨n3, 0, none⟩ = some (.int .i64 kx) ∧ w'.cell? ⟨n3, 1, none⟩ = some (.slice A3 bx.length c3) ∧ (convert 22 9 (.slice A1 l1.length c1)).run Try.prog w' = .ok (.string (strOfNums l1)) w') (ds := []) #[false, false, false, false, false, false, false, false, false, false] (by kernel_rfl) rfl rfl ⟨S0, S1, S2⟩ (fun hHeld => ?_)
      refine pure_ (i := 0) (N := some 83) (v := ?_) (a' := ?_) #[true, false, false, false, false, false, false, false, false, false] rfl rfl (by kernel_rfl) (fun _ _ _ h => h) (Or.inl ⟨by rfl, ?_⟩) ?_ ?_
      rotate_left
      · intro w'
        go_simp
        with_reducible rfl
      rotate_left
      · simp only [Act.put, List.setIfInBounds_toArray, List.set_cons_zero, List.set_cons_succ, i64_w, i32_w]
        rfl
      refine pure_ (i := 1) (N := some 84) (v := ?_) (a' := ?_) #[true, true, false, false, false, false, false, false, false, false] rfl rfl (by kernel_rfl) (fun _ _ _ h => h) (Or.inl ⟨by rfl, ?_⟩) ?_ ?_
      rotate_left
      · intro w'
        go_simp
        with_reducible rfl
      rotate_left
      · simp only [Act.put, List.setIfInBounds_toArray, List.set_cons_zero, List.set_cons_succ, i64_w, i32_w]
        rfl
      refine pure_ (i := 5) (N := some 88) (v := ?_) (a' := ?_) #[true, true, false, false, false, true, false, false, false, false] rfl rfl (by kernel_rfl) (fun _ _ _ h => h) (Or.inl ⟨by rfl, ?_⟩) ?_ ?_
      rotate_left
      · intro w'
        go_simp
        with_reducible rfl
      rotate_left
      · simp only [Act.put, List.setIfInBounds_toArray, List.set_cons_zero, List.set_cons_succ, i64_w, i32_w]
        rfl
      refine take_ (i := 2) (N := some 85) (v := ?_) (a' := ?_) #[true, true, true, false, false, true, false, false, false, false] rfl rfl (by kernel_rfl) (fun _ _ _ h => h) (Or.inl ⟨by rfl, ?_⟩) hHeld ?_ ?_
      rotate_left
      · rintro w' ⟨s0, s1, s2⟩
        go_simp
        with_reducible rfl
      rotate_left
      · simp only [Act.put, List.setIfInBounds_toArray, List.set_cons_zero, List.set_cons_succ, i64_w, i32_w]
        rfl
      refine take_ (i := 6) (N := some 89) (v := ?_) (a' := ?_) #[true, true, true, false, false, true, true, false, false, false] rfl rfl (by kernel_rfl) (fun _ _ _ h => h) (Or.inl ⟨by rfl, ?_⟩) hHeld ?_ ?_
      rotate_left
      · rintro w' ⟨s0, s1, s2⟩
        go_simp
        with_reducible rfl
      rotate_left
      · simp only [Act.put, List.setIfInBounds_toArray, List.set_cons_zero, List.set_cons_succ, i64_w, i32_w]
        rfl
      refine one_ (i := 3) (N := some 86) #[true, true, true, true, false, true, true, false, false, false] rfl rfl (by kernel_rfl) (by decide) (fun K hK => ?_)
      refine goes_ Try.func13 (by kernel_rfl) rfl #[.agg #[.int .i64 kx, .slice A3 bx.length c3]] (by rfl) rfl rfl (by simp only [List.map_toArray, List.map_cons, List.map_nil]; rfl) ?_
      with_reducible refine (frame_Put.calls kx A3 c3 bx l1 _ (Kd.C_below HC3.out.2 hu0) HC3.out.1 (by unfold frame_Put.f; rw [Hp.out])).mono ?_
      rintro e w7 ⟨v7, rfl, hR7, hb7⟩
      refine ⟨_, rfl, ?_⟩
      have hu7 := hu0.trans (hb7.mono hu0.size)
      have BF := Aside0.mk (BW3.out.trans (hu7.mono BW3.out.size))
      obtain ⟨A7, c7, e7⟩ := Kd.R_slice hR7
      subst e7
      have hcv7 := Kd.C_string (P := Try.prog) (c := c7) Try.underlying22 Try.underlying5 Try.underlying9 (Kd.R_reads' hR7).2.2
      obtain ⟨T0, T1, T2⟩ := keep.out _ hu7
      refine hK.out _ _ ⟨T0, T1, T2⟩ (fun hHeld => ?_)
      clear hK K
      refine norm_ (a' := ?_) ?_ ?_
      rotate_left
      · show Act.put _ (some 86) _ = _
        simp only [Act.put, List.setIfInBounds_toArray, List.set_cons_zero, List.set_cons_succ, i64_w, i32_w]
        rfl
      refine one_ (i := 4) (N := some 87) #[true, true, true, true, true, true, true, false, false, false] rfl rfl (by kernel_rfl) (by decide) (fun K hK => ?_)
      refine value_ (w1 := ?_) (v := ?_) (by rfl) rfl ?_ ?_
      rotate_left 2
      · go_simp
        constructor
        · rfl
        · rfl
      refine hK.out _ _ ⟨T0, T1, T2⟩ (fun hHeld => ?_)
      clear hK K
      refine norm_ (a' := ?_) ?_ ?_
      rotate_left
      · show Act.put _ (some 87) _ = _
        simp only [Act.put, List.setIfInBounds_toArray, List.set_cons_zero, List.set_cons_succ, i64_w, i32_w]
        rfl
      refine pure_ (i := 7) (N := some 90) (v := ?_) (a' := ?_) #[true, true, true, true, true, true, true, true, false, false] rfl rfl (by kernel_rfl) (fun _ _ _ h => h) (Or.inl ⟨by rfl, ?_⟩) ?_ ?_
      rotate_left
      · intro w'
        go_simp
        with_reducible rfl
      rotate_left
      · simp only [Act.put, List.setIfInBounds_toArray, List.set_cons_zero, List.set_cons_succ, i64_w, i32_w]
        rfl
      refine pure_ (i := 8) (N := some 91) (v := ?_) (a' := ?_) #[true, true, true, true, true, true, true, true, true, false] rfl rfl (by kernel_rfl) (fun _ _ _ h => h) (Or.inl ⟨by rfl, ?_⟩) ?_ ?_
      rotate_left
      · intro w'
        go_simp
        with_reducible rfl
      rotate_left
      · simp only [Act.put, List.setIfInBounds_toArray, List.set_cons_zero, List.set_cons_succ, i64_w, i32_w]
        rfl
      refine pure_ (i := 9) (N := some 4) (v := ?_) (a' := ?_) #[true, true, true, true, true, true, true, true, true, true] rfl rfl (by kernel_rfl) (fun _ _ _ h => h) (Or.inl ⟨by rfl, ?_⟩) ?_ ?_
      rotate_left
      · intro w'
        go_simp
        with_reducible rfl
      rotate_left
      · simp only [Act.put, List.setIfInBounds_toArray, List.set_cons_zero, List.set_cons_succ, i64_w, i32_w]
        rfl
      refine done_ (by kernel_rfl) ?_
      -- END BACK0
      go_wp2_with fail
      go_ret
      exact ⟨rfl, BF.out⟩
  · have hp0 : p = [] := by rw [← hp.out]; exact putN_no hf
    have d4 : decide ((0 : Int) < (p.length : Int)) = false := by rw [hp0]; rfl
    have d4' : decide (0 < p.length) = false := by rw [hp0]; rfl
    have e4 : (0 < p.length) = False := by rw [hp0]; simp
    have e4' : (p = []) = True := eq_true hp0
    clear hp0
    rcases (show ¬ 1 ≤ k0 ∨ (1 ≤ k0 ∧ ¬ k0 ≤ 4) ∨ (1 ≤ k0 ∧ k0 ≤ 4 ∧ ¬ l0.length ≤ 2048) by omega) with g1 | ⟨g1, g2⟩ | ⟨g1, g2, g3⟩
    · have d1 : decide (1 ≤ k0) = false := decide_eq_false g1
      replace g1 := eq_false g1
      clear hf
      go_wp2_with fail
      clear hk0 hk1 d1 d4 d4' e4 e4' g1
      refine (frame_Get.calls A1 c1 l1 kx bx ex _ HRb2.out HC1.out HG.out).mono ?_
      rintro e w3 ⟨A3, c3, rfl, hl3, hC3, _, hb3⟩
      have D3 := Aside0.mk (hb3.alloc hb3.size (.cells #[.int .i64 kx, .slice A3 bx.length c3] 24))
      have HC3 := Aside0.mk (And.intro hl3 (Kd.C_below hC3 ((Below.refl w3.heap.size w3).alloc (Nat.le_refl _) (.cells #[.int .i64 kx, .slice A3 bx.length c3] 24))))
      have HX3 := Aside0.mk (Blk.new w3 #[.int .i64 kx, .slice A3 bx.length c3] 24)
      have HRb3 := Aside0.mk (Kd.C_below HRb2.out D3.out)
      have BW3 := Aside0.mk (B2.out.trans (D3.out.mono B2.out.size))
      clear hb3 hl3 hC3
      rcases hcase.out with ⟨he, hkb⟩ | ⟨he, hkb⟩
      · have he1 : (ex = 0) = False := eq_false he
        have he2 : (ex == 0) = false := beq_eq_false_iff_ne.mpr he
        have he3 : (ex != 0) = true := bne_iff_ne.mpr he
        injection hkb with hkb1 hkb2
        have Hb := Aside0.mk hkb2
        clear hkb2
        subst hkb1
        have hk0 := HX3.out.cell 0; have hk1 := HX3.out.cell 1
        clear he
        go_wp2_with fail
        refine (bowlineref04_Same.calls 0 A3 c3 bx 0 none 0 [] true _ HC3.out.2 HC3.out.1 (Kd.C_nil _ _) (Nat.le_refl _) (by rw [Hb.out]; unfold bowlineref04_Same.f; rw [if_pos rfl, beq_self_eq_true])).mono ?_
        rintro e w8 ⟨rfl, hb8⟩
        have B8 := Aside0.mk (BW3.out.trans (hb8.mono BW3.out.size))
        clear hb8
        go_wp2_with fail
        go_ret
        exact ⟨rfl, B8.out⟩
      · subst he
        have Hp := Aside0.mk hkb
        have hs1 : ((strOfNums l1).toList == (strOfNums l1).toList) = true := beq_self_eq_true _
        clear hkb
        go_wp2_with fail
        generalize w3.alloc (.cells #[.int .i64 kx, .slice A3 bx.length c3] 24) = W3 at HC3 HX3 HRb3 BW3 ⊢
        obtain ⟨n3, hn3⟩ : ∃ n, w3.heap.size = n := ⟨_, rfl⟩
        rw [hn3] at HX3
        simp only [hn3]
        clear hn3
        have hu0 := (Below.refl W3.heap.size W3).drew
        have keep := Aside0.mk (fun (W : World) (hb : Below W3.heap.size W3 W) => And.intro ((HX3.out.below hb).cell 0) (And.intro ((HX3.out.below hb).cell 1) (Kd.C_string (P := Try.prog) (c := c1) Try.underlying22 Try.underlying5 Try.underlying9 (Kd.C_below HRb3.out hb))))
        obtain ⟨S0, S1, S2⟩ := keep.out _ hu0
        -- BACK1
        refine start_ (n := 10) (S := fun w' => w'.cell? ⟨n3, 0, none⟩ = some (.int .i64 kx) ∧ w'.cell? ⟨n3, 1, none⟩ = some (.slice A3 bx.length c3) ∧ (convert 22 9 (.slice A1 l1.length c1)).run Try.prog w' = .ok (.string (strOfNums l1)) w') (ds := []) #[false, false, false, false, false, false, false, false, false, false] (by kernel_rfl) rfl rfl ⟨S0, S1, S2⟩ (fun hHeld => ?_)
        refine pure_ (i := 0) (N := some 83) (v := ?_) (a' := ?_) #[true, false, false, false, false, false, false, false, false, false] rfl rfl (by kernel_rfl) (fun _ _ _ h => h) (Or.inl ⟨by rfl, ?_⟩) ?_ ?_
        rotate_left
        · intro w'
          go_simp
          with_reducible rfl
        rotate_left
        · simp only [Act.put, List.setIfInBounds_toArray, List.set_cons_zero, List.set_cons_succ, i64_w, i32_w]
          rfl
        refine pure_ (i := 1) (N := some 84) (v := ?_) (a' := ?_) #[true, true, false, false, false, false, false, false, false, false] rfl rfl (by kernel_rfl) (fun _ _ _ h => h) (Or.inl ⟨by rfl, ?_⟩) ?_ ?_
        rotate_left
        · intro w'
          go_simp
          with_reducible rfl
        rotate_left
        · simp only [Act.put, List.setIfInBounds_toArray, List.set_cons_zero, List.set_cons_succ, i64_w, i32_w]
          rfl
        refine pure_ (i := 5) (N := some 88) (v := ?_) (a' := ?_) #[true, true, false, false, false, true, false, false, false, false] rfl rfl (by kernel_rfl) (fun _ _ _ h => h) (Or.inl ⟨by rfl, ?_⟩) ?_ ?_
        rotate_left
        · intro w'
          go_simp
          with_reducible rfl
        rotate_left
        · simp only [Act.put, List.setIfInBounds_toArray, List.set_cons_zero, List.set_cons_succ, i64_w, i32_w]
          rfl
        refine take_ (i := 2) (N := some 85) (v := ?_) (a' := ?_) #[true, true, true, false, false, true, false, false, false, false] rfl rfl (by kernel_rfl) (fun _ _ _ h => h) (Or.inl ⟨by rfl, ?_⟩) hHeld ?_ ?_
        rotate_left
        · rintro w' ⟨s0, s1, s2⟩
          go_simp
          with_reducible rfl
        rotate_left
        · simp only [Act.put, List.setIfInBounds_toArray, List.set_cons_zero, List.set_cons_succ, i64_w, i32_w]
          rfl
        refine take_ (i := 6) (N := some 89) (v := ?_) (a' := ?_) #[true, true, true, false, false, true, true, false, false, false] rfl rfl (by kernel_rfl) (fun _ _ _ h => h) (Or.inl ⟨by rfl, ?_⟩) hHeld ?_ ?_
        rotate_left
        · rintro w' ⟨s0, s1, s2⟩
          go_simp
          with_reducible rfl
        rotate_left
        · simp only [Act.put, List.setIfInBounds_toArray, List.set_cons_zero, List.set_cons_succ, i64_w, i32_w]
          rfl
        refine one_ (i := 3) (N := some 86) #[true, true, true, true, false, true, true, false, false, false] rfl rfl (by kernel_rfl) (by decide) (fun K hK => ?_)
        refine goes_ Try.func13 (by kernel_rfl) rfl #[.agg #[.int .i64 kx, .slice A3 bx.length c3]] (by rfl) rfl rfl (by simp only [List.map_toArray, List.map_cons, List.map_nil]; rfl) ?_
        with_reducible refine (frame_Put.calls kx A3 c3 bx l1 _ (Kd.C_below HC3.out.2 hu0) HC3.out.1 (by unfold frame_Put.f; rw [Hp.out])).mono ?_
        rintro e w7 ⟨v7, rfl, hR7, hb7⟩
        refine ⟨_, rfl, ?_⟩
        have hu7 := hu0.trans (hb7.mono hu0.size)
        have BF := Aside0.mk (BW3.out.trans (hu7.mono BW3.out.size))
        obtain ⟨A7, c7, e7⟩ := Kd.R_slice hR7
        subst e7
        have hcv7 := Kd.C_string (P := Try.prog) (c := c7) Try.underlying22 Try.underlying5 Try.underlying9 (Kd.R_reads' hR7).2.2
        obtain ⟨T0, T1, T2⟩ := keep.out _ hu7
        refine hK.out _ _ ⟨T0, T1, T2⟩ (fun hHeld => ?_)
        clear hK K
        refine norm_ (a' := ?_) ?_ ?_
        rotate_left
        · show Act.put _ (some 86) _ = _
          simp only [Act.put, List.setIfInBounds_toArray, List.set_cons_zero, List.set_cons_succ, i64_w, i32_w]
          rfl
        refine one_ (i := 4) (N := some 87) #[true, true, true, true, true, true, true, false, false, false] rfl rfl (by kernel_rfl) (by decide) (fun K hK => ?_)
        refine value_ (w1 := ?_) (v := ?_) (by rfl) rfl ?_ ?_
        rotate_left 2
        · go_simp
          constructor
          · rfl
          · rfl
        refine hK.out _ _ ⟨T0, T1, T2⟩ (fun hHeld => ?_)
        clear hK K
        refine norm_ (a' := ?_) ?_ ?_
        rotate_left
        · show Act.put _ (some 87) _ = _
          simp only [Act.put, List.setIfInBounds_toArray, List.set_cons_zero, List.set_cons_succ, i64_w, i32_w]
          rfl
        refine pure_ (i := 7) (N := some 90) (v := ?_) (a' := ?_) #[true, true, true, true, true, true, true, true, false, false] rfl rfl (by kernel_rfl) (fun _ _ _ h => h) (Or.inl ⟨by rfl, ?_⟩) ?_ ?_
        rotate_left
        · intro w'
          go_simp
          with_reducible rfl
        rotate_left
        · simp only [Act.put, List.setIfInBounds_toArray, List.set_cons_zero, List.set_cons_succ, i64_w, i32_w]
          rfl
        refine pure_ (i := 8) (N := some 91) (v := ?_) (a' := ?_) #[true, true, true, true, true, true, true, true, true, false] rfl rfl (by kernel_rfl) (fun _ _ _ h => h) (Or.inl ⟨by rfl, ?_⟩) ?_ ?_
        rotate_left
        · intro w'
          go_simp
          with_reducible rfl
        rotate_left
        · simp only [Act.put, List.setIfInBounds_toArray, List.set_cons_zero, List.set_cons_succ, i64_w, i32_w]
          rfl
        refine pure_ (i := 9) (N := some 4) (v := ?_) (a' := ?_) #[true, true, true, true, true, true, true, true, true, true] rfl rfl (by kernel_rfl) (fun _ _ _ h => h) (Or.inl ⟨by rfl, ?_⟩) ?_ ?_
        rotate_left
        · intro w'
          go_simp
          with_reducible rfl
        rotate_left
        · simp only [Act.put, List.setIfInBounds_toArray, List.set_cons_zero, List.set_cons_succ, i64_w, i32_w]
          rfl
        refine done_ (by kernel_rfl) ?_
        -- END BACK1
        go_wp2_with fail
        go_ret
        exact ⟨rfl, BF.out⟩
    · have d1 : decide (1 ≤ k0) = true := decide_eq_true g1
      have d2 : decide (k0 ≤ 4) = false := decide_eq_false g2
      replace g1 := eq_true g1
      replace g2 := eq_false g2
      clear hf
      go_wp2_with fail
      clear hk0 hk1 d1 d4 d4' e4 e4' g1
      refine (frame_Get.calls A1 c1 l1 kx bx ex _ HRb2.out HC1.out HG.out).mono ?_
      rintro e w3 ⟨A3, c3, rfl, hl3, hC3, _, hb3⟩
      have D3 := Aside0.mk (hb3.alloc hb3.size (.cells #[.int .i64 kx, .slice A3 bx.length c3] 24))
      have HC3 := Aside0.mk (And.intro hl3 (Kd.C_below hC3 ((Below.refl w3.heap.size w3).alloc (Nat.le_refl _) (.cells #[.int .i64 kx, .slice A3 bx.length c3] 24))))
      have HX3 := Aside0.mk (Blk.new w3 #[.int .i64 kx, .slice A3 bx.length c3] 24)
      have HRb3 := Aside0.mk (Kd.C_below HRb2.out D3.out)
      have BW3 := Aside0.mk (B2.out.trans (D3.out.mono B2.out.size))
      clear hb3 hl3 hC3
      rcases hcase.out with ⟨he, hkb⟩ | ⟨he, hkb⟩
      · have he1 : (ex = 0) = False := eq_false he
        have he2 : (ex == 0) = false := beq_eq_false_iff_ne.mpr he
        have he3 : (ex != 0) = true := bne_iff_ne.mpr he
        injection hkb with hkb1 hkb2
        have Hb := Aside0.mk hkb2
        clear hkb2
        subst hkb1
        have hk0 := HX3.out.cell 0; have hk1 := HX3.out.cell 1
        clear he
        go_wp2_with fail
        refine (bowlineref04_Same.calls 0 A3 c3 bx 0 none 0 [] true _ HC3.out.2 HC3.out.1 (Kd.C_nil _ _) (Nat.le_refl _) (by rw [Hb.out]; unfold bowlineref04_Same.f; rw [if_pos rfl, beq_self_eq_true])).mono ?_
        rintro e w8 ⟨rfl, hb8⟩
        have B8 := Aside0.mk (BW3.out.trans (hb8.mono BW3.out.size))
        clear hb8
        go_wp2_with fail
        go_ret
        exact ⟨rfl, B8.out⟩
      · subst he
        have Hp := Aside0.mk hkb
        have hs1 : ((strOfNums l1).toList == (strOfNums l1).toList) = true := beq_self_eq_true _
        clear hkb
        go_wp2_with fail
        generalize w3.alloc (.cells #[.int .i64 kx, .slice A3 bx.length c3] 24) = W3 at HC3 HX3 HRb3 BW3 ⊢
        obtain ⟨n3, hn3⟩ : ∃ n, w3.heap.size = n := ⟨_, rfl⟩
        rw [hn3] at HX3
        simp only [hn3]
        clear hn3
        have hu0 := (Below.refl W3.heap.size W3).drew
        have keep := Aside0.mk (fun (W : World) (hb : Below W3.heap.size W3 W) => And.intro ((HX3.out.below hb).cell 0) (And.intro ((HX3.out.below hb).cell 1) (Kd.C_string (P := Try.prog) (c := c1) Try.underlying22 Try.underlying5 Try.underlying9 (Kd.C_below HRb3.out hb))))
        obtain ⟨S0, S1, S2⟩ := keep.out _ hu0
        -- BACK2
        refine start_ (n := 10) (S := fun w' => w'.cell? ⟨n3, 0, none⟩ = some (.int .i64 kx) ∧ w'.cell? ⟨n3, 1, none⟩ = some (.slice A3 bx.length c3) ∧ (convert 22 9 (.slice A1 l1.length c1)).run Try.prog w' = .ok (.string (strOfNums l1)) w') (ds := []) #[false, false, false, false, false, false, false, false, false, false] (by kernel_rfl) rfl rfl ⟨S0, S1, S2⟩ (fun hHeld => ?_)
        refine pure_ (i := 0) (N := some 83) (v := ?_) (a' := ?_) #[true, false, false, false, false, false, false, false, false, false] rfl rfl (by kernel_rfl) (fun _ _ _ h => h) (Or.inl ⟨by rfl, ?_⟩) ?_ ?_
        rotate_left
        · intro w'
          go_simp
          with_reducible rfl
        rotate_left
        · simp only [Act.put, List.setIfInBounds_toArray, List.set_cons_zero, List.set_cons_succ, i64_w, i32_w]
          rfl
        refine pure_ (i := 1) (N := some 84) (v := ?_) (a' := ?_) #[true, true, false, false, false, false, false, false, false, false] rfl rfl (by kernel_rfl) (fun _ _ _ h => h) (Or.inl ⟨by rfl, ?_⟩) ?_ ?_
        rotate_left
        · intro w'
          go_simp
          with_reducible rfl
        rotate_left
        · simp only [Act.put, List.setIfInBounds_toArray, List.set_cons_zero, List.set_cons_succ, i64_w, i32_w]
          rfl
        refine pure_ (i := 5) (N := some 88) (v := ?_) (a' := ?_) #[true, true, false, false, false, true, false, false, false, false] rfl rfl (by kernel_rfl) (fun _ _ _ h => h) (Or.inl ⟨by rfl, ?_⟩) ?_ ?_
        rotate_left
        · intro w'
          go_simp
          with_reducible rfl
        rotate_left
        · simp only [Act.put, List.setIfInBounds_toArray, List.set_cons_zero, List.set_cons_succ, i64_w, i32_w]
          rfl
        refine take_ (i := 2) (N := some 85) (v := ?_) (a' := ?_) #[true, true, true, false, false, true, false, false, false, false] rfl rfl (by kernel_rfl) (fun _ _ _ h => h) (Or.inl ⟨by rfl, ?_⟩) hHeld ?_ ?_
        rotate_left
        · rintro w' ⟨s0, s1, s2⟩
          go_simp
          with_reducible rfl
        rotate_left
        · simp only [Act.put, List.setIfInBounds_toArray, List.set_cons_zero, List.set_cons_succ, i64_w, i32_w]
          rfl
        refine take_ (i := 6) (N := some 89) (v := ?_) (a' := ?_) #[true, true, true, false, false, true, true, false, false, false] rfl rfl (by kernel_rfl) (fun _ _ _ h => h) (Or.inl ⟨by rfl, ?_⟩) hHeld ?_ ?_
        rotate_left
        · rintro w' ⟨s0, s1, s2⟩
          go_simp
          with_reducible rfl
        rotate_left
        · simp only [Act.put, List.setIfInBounds_toArray, List.set_cons_zero, List.set_cons_succ, i64_w, i32_w]
          rfl
        refine one_ (i := 3) (N := some 86) #[true, true, true, true, false, true, true, false, false, false] rfl rfl (by kernel_rfl) (by decide) (fun K hK => ?_)
        refine goes_ Try.func13 (by kernel_rfl) rfl #[.agg #[.int .i64 kx, .slice A3 bx.length c3]] (by rfl) rfl rfl (by simp only [List.map_toArray, List.map_cons, List.map_nil]; rfl) ?_
        with_reducible refine (frame_Put.calls kx A3 c3 bx l1 _ (Kd.C_below HC3.out.2 hu0) HC3.out.1 (by unfold frame_Put.f; rw [Hp.out])).mono ?_
        rintro e w7 ⟨v7, rfl, hR7, hb7⟩
        refine ⟨_, rfl, ?_⟩
        have hu7 := hu0.trans (hb7.mono hu0.size)
        have BF := Aside0.mk (BW3.out.trans (hu7.mono BW3.out.size))
        obtain ⟨A7, c7, e7⟩ := Kd.R_slice hR7
        subst e7
        have hcv7 := Kd.C_string (P := Try.prog) (c := c7) Try.underlying22 Try.underlying5 Try.underlying9 (Kd.R_reads' hR7).2.2
        obtain ⟨T0, T1, T2⟩ := keep.out _ hu7
        refine hK.out _ _ ⟨T0, T1, T2⟩ (fun hHeld => ?_)
        clear hK K
        refine norm_ (a' := ?_) ?_ ?_
        rotate_left
        · show Act.put _ (some 86) _ = _
          simp only [Act.put, List.setIfInBounds_toArray, List.set_cons_zero, List.set_cons_succ, i64_w, i32_w]
          rfl
        refine one_ (i := 4) (N := some 87) #[true, true, true, true, true, true, true, false, false, false] rfl rfl (by kernel_rfl) (by decide) (fun K hK => ?_)
        refine value_ (w1 := ?_) (v := ?_) (by rfl) rfl ?_ ?_
        rotate_left 2
        · go_simp
          constructor
          · rfl
          · rfl
        refine hK.out _ _ ⟨T0, T1, T2⟩ (fun hHeld => ?_)
        clear hK K
        refine norm_ (a' := ?_) ?_ ?_
        rotate_left
        · show Act.put _ (some 87) _ = _
          simp only [Act.put, List.setIfInBounds_toArray, List.set_cons_zero, List.set_cons_succ, i64_w, i32_w]
          rfl
        refine pure_ (i := 7) (N := some 90) (v := ?_) (a' := ?_) #[true, true, true, true, true, true, true, true, false, false] rfl rfl (by kernel_rfl) (fun _ _ _ h => h) (Or.inl ⟨by rfl, ?_⟩) ?_ ?_
        rotate_left
        · intro w'
          go_simp
          with_reducible rfl
        rotate_left
        · simp only [Act.put, List.setIfInBounds_toArray, List.set_cons_zero, List.set_cons_succ, i64_w, i32_w]
          rfl
        refine pure_ (i := 8) (N := some 91) (v := ?_) (a' := ?_) #[true, true, true, true, true, true, true, true, true, false] rfl rfl (by kernel_rfl) (fun _ _ _ h => h) (Or.inl ⟨by rfl, ?_⟩) ?_ ?_
        rotate_left
        · intro w'
          go_simp
          with_reducible rfl
        rotate_left
        · simp only [Act.put, List.setIfInBounds_toArray, List.set_cons_zero, List.set_cons_succ, i64_w, i32_w]
          rfl
        refine pure_ (i := 9) (N := some 4) (v := ?_) (a' := ?_) #[true, true, true, true, true, true, true, true, true, true] rfl rfl (by kernel_rfl) (fun _ _ _ h => h) (Or.inl ⟨by rfl, ?_⟩) ?_ ?_
        rotate_left
        · intro w'
          go_simp
          with_reducible rfl
        rotate_left
        · simp only [Act.put, List.setIfInBounds_toArray, List.set_cons_zero, List.set_cons_succ, i64_w, i32_w]
          rfl
        refine done_ (by kernel_rfl) ?_
        -- END BACK2
        go_wp2_with fail
        go_ret
        exact ⟨rfl, BF.out⟩
    · have d1 : decide (1 ≤ k0) = true := decide_eq_true g1
      have d2 : decide (k0 ≤ 4) = true := decide_eq_true g2
      have d3 : decide ((l0.length : Int) ≤ 2048) = false := decide_eq_false (by omega)
      have d3' : decide (l0.length ≤ 2048) = false := decide_eq_false g3
      replace g1 := eq_true g1
      replace g2 := eq_true g2
      replace g3 := eq_false g3
      clear hf
      go_wp2_with fail
      clear hk0 hk1 d1 d4 d4' e4 e4' g1
      refine (frame_Get.calls A1 c1 l1 kx bx ex _ HRb2.out HC1.out HG.out).mono ?_
      rintro e w3 ⟨A3, c3, rfl, hl3, hC3, _, hb3⟩
      have D3 := Aside0.mk (hb3.alloc hb3.size (.cells #[.int .i64 kx, .slice A3 bx.length c3] 24))
      have HC3 := Aside0.mk (And.intro hl3 (Kd.C_below hC3 ((Below.refl w3.heap.size w3).alloc (Nat.le_refl _) (.cells #[.int .i64 kx, .slice A3 bx.length c3] 24))))
      have HX3 := Aside0.mk (Blk.new w3 #[.int .i64 kx, .slice A3 bx.length c3] 24)
      have HRb3 := Aside0.mk (Kd.C_below HRb2.out D3.out)
      have BW3 := Aside0.mk (B2.out.trans (D3.out.mono B2.out.size))
      clear hb3 hl3 hC3
      rcases hcase.out with ⟨he, hkb⟩ | ⟨he, hkb⟩
      · have he1 : (ex = 0) = False := eq_false he
        have he2 : (ex == 0) = false := beq_eq_false_iff_ne.mpr he
        have he3 : (ex != 0) = true := bne_iff_ne.mpr he
        injection hkb with hkb1 hkb2
        have Hb := Aside0.mk hkb2
        clear hkb2
        subst hkb1
        have hk0 := HX3.out.cell 0; have hk1 := HX3.out.cell 1
        clear he
        go_wp2_with fail
        refine (bowlineref04_Same.calls 0 A3 c3 bx 0 none 0 [] true _ HC3.out.2 HC3.out.1 (Kd.C_nil _ _) (Nat.le_refl _) (by rw [Hb.out]; unfold bowlineref04_Same.f; rw [if_pos rfl, beq_self_eq_true])).mono ?_
        rintro e w8 ⟨rfl, hb8⟩
        have B8 := Aside0.mk (BW3.out.trans (hb8.mono BW3.out.size))
        clear hb8
        go_wp2_with fail
        go_ret
        exact ⟨rfl, B8.out⟩
      · subst he
        have Hp := Aside0.mk hkb
        have hs1 : ((strOfNums l1).toList == (strOfNums l1).toList) = true := beq_self_eq_true _
        clear hkb
        go_wp2_with fail
        generalize w3.alloc (.cells #[.int .i64 kx, .slice A3 bx.length c3] 24) = W3 at HC3 HX3 HRb3 BW3 ⊢
        obtain ⟨n3, hn3⟩ : ∃ n, w3.heap.size = n := ⟨_, rfl⟩
        rw [hn3] at HX3
        simp only [hn3]
        clear hn3
        have hu0 := (Below.refl W3.heap.size W3).drew
        have keep := Aside0.mk (fun (W : World) (hb : Below W3.heap.size W3 W) => And.intro ((HX3.out.below hb).cell 0) (And.intro ((HX3.out.below hb).cell 1) (Kd.C_string (P := Try.prog) (c := c1) Try.underlying22 Try.underlying5 Try.underlying9 (Kd.C_below HRb3.out hb))))
        obtain ⟨S0, S1, S2⟩ := keep.out _ hu0
        -- BACK3
        refine start_ (n := 10) (S := fun w' => w'.cell? ⟨n3, 0, none⟩ = some (.int .i64 kx) ∧ w'.cell? ⟨n3, 1, none⟩ = some (.slice A3 bx.length c3) ∧ (convert 22 9 (.slice A1 l1.length c1)).run Try.prog w' = .ok (.string (strOfNums l1)) w') (ds := []) #[false, false, false, false, false, false, false, false, false, false] (by kernel_rfl) rfl rfl ⟨S0, S1, S2⟩ (fun hHeld => ?_)
        refine pure_ (i := 0) (N := some 83) (v := ?_) (a' := ?_) #[true, false, false, false, false, false, false, false, false, false] rfl rfl (by kernel_rfl) (fun _ _ _ h => h) (Or.inl ⟨by rfl, ?_⟩) ?_ ?_
        rotate_left
        · intro w'
          go_simp
          with_reducible rfl
        rotate_left
        · simp only [Act.put, List.setIfInBounds_toArray, List.set_cons_zero, List.set_cons_succ, i64_w, i32_w]
          rfl
        refine pure_ (i := 1) (N := some 84) (v := ?_) (a' := ?_) #[true, true, false, false, false, false, false, false, false, false] rfl rfl (by kernel_rfl) (fun _ _ _ h => h) (Or.inl ⟨by rfl, ?_⟩) ?_ ?_
        rotate_left
        · intro w'
          go_simp
          with_reducible rfl
        rotate_left
        · simp only [Act.put, List.setIfInBounds_toArray, List.set_cons_zero, List.set_cons_succ, i64_w, i32_w]
          rfl
        refine pure_ (i := 5) (N := some 88) (v := ?_) (a' := ?_) #[true, true, false, false, false, true, false, false, false, false] rfl rfl (by kernel_rfl) (fun _ _ _ h => h) (Or.inl ⟨by rfl, ?_⟩) ?_ ?_
        rotate_left
        · intro w'
          go_simp
          with_reducible rfl
        rotate_left
        · simp only [Act.put, List.setIfInBounds_toArray, List.set_cons_zero, List.set_cons_succ, i64_w, i32_w]
          rfl
        refine take_ (i := 2) (N := some 85) (v := ?_) (a' := ?_) #[true, true, true, false, false, true, false, false, false, false] rfl rfl (by kernel_rfl) (fun _ _ _ h => h) (Or.inl ⟨by rfl, ?_⟩) hHeld ?_ ?_
        rotate_left
        · rintro w' ⟨s0, s1, s2⟩
          go_simp
          with_reducible rfl
        rotate_left
        · simp only [Act.put, List.setIfInBounds_toArray, List.set_cons_zero, List.set_cons_succ, i64_w, i32_w]
          rfl
        refine take_ (i := 6) (N := some 89) (v := ?_) (a' := ?_) #[true, true, true, false, false, true, true, false, false, false] rfl rfl (by kernel_rfl) (fun _ _ _ h => h) (Or.inl ⟨by rfl, ?_⟩) hHeld ?_ ?_
        rotate_left
        · rintro w' ⟨s0, s1, s2⟩
          go_simp
          with_reducible rfl
        rotate_left
        · simp only [Act.put, List.setIfInBounds_toArray, List.set_cons_zero, List.set_cons_succ, i64_w, i32_w]
          rfl
        refine one_ (i := 3) (N := some 86) #[true, true, true, true, false, true, true, false, false, false] rfl rfl (by kernel_rfl) (by decide) (fun K hK => ?_)
        refine goes_ Try.func13 (by kernel_rfl) rfl #[.agg #[.int .i64 kx, .slice A3 bx.length c3]] (by rfl) rfl rfl (by simp only [List.map_toArray, List.map_cons, List.map_nil]; rfl) ?_
        with_reducible refine (frame_Put.calls kx A3 c3 bx l1 _ (Kd.C_below HC3.out.2 hu0) HC3.out.1 (by unfold frame_Put.f; rw [Hp.out])).mono ?_
        rintro e w7 ⟨v7, rfl, hR7, hb7⟩
        refine ⟨_, rfl, ?_⟩
        have hu7 := hu0.trans (hb7.mono hu0.size)
        have BF := Aside0.mk (BW3.out.trans (hu7.mono BW3.out.size))
        obtain ⟨A7, c7, e7⟩ := Kd.R_slice hR7
        subst e7
        have hcv7 := Kd.C_string (P := Try.prog) (c := c7) Try.underlying22 Try.underlying5 Try.underlying9 (Kd.R_reads' hR7).2.2
        obtain ⟨T0, T1, T2⟩ := keep.out _ hu7
        refine hK.out _ _ ⟨T0, T1, T2⟩ (fun hHeld => ?_)
        clear hK K
        refine norm_ (a' := ?_) ?_ ?_
        rotate_left
        · show Act.put _ (some 86) _ = _
          simp only [Act.put, List.setIfInBounds_toArray, List.set_cons_zero, List.set_cons_succ, i64_w, i32_w]
          rfl
        refine one_ (i := 4) (N := some 87) #[true, true, true, true, true, true, true, false, false, false] rfl rfl (by kernel_rfl) (by decide) (fun K hK => ?_)
        refine value_ (w1 := ?_) (v := ?_) (by rfl) rfl ?_ ?_
        rotate_left 2
        · go_simp
          constructor
          · rfl
          · rfl
        refine hK.out _ _ ⟨T0, T1, T2⟩ (fun hHeld => ?_)
        clear hK K
        refine norm_ (a' := ?_) ?_ ?_
        rotate_left
        · show Act.put _ (some 87) _ = _
          simp only [Act.put, List.setIfInBounds_toArray, List.set_cons_zero, List.set_cons_succ, i64_w, i32_w]
          rfl
        refine pure_ (i := 7) (N := some 90) (v := ?_) (a' := ?_) #[true, true, true, true, true, true, true, true, false, false] rfl rfl (by kernel_rfl) (fun _ _ _ h => h) (Or.inl ⟨by rfl, ?_⟩) ?_ ?_
        rotate_left
        · intro w'
          go_simp
          with_reducible rfl
        rotate_left
        · simp only [Act.put, List.setIfInBounds_toArray, List.set_cons_zero, List.set_cons_succ, i64_w, i32_w]
          rfl
        refine pure_ (i := 8) (N := some 91) (v := ?_) (a' := ?_) #[true, true, true, true, true, true, true, true, true, false] rfl rfl (by kernel_rfl) (fun _ _ _ h => h) (Or.inl ⟨by rfl, ?_⟩) ?_ ?_
        rotate_left
        · intro w'
          go_simp
          with_reducible rfl
        rotate_left
        · simp only [Act.put, List.setIfInBounds_toArray, List.set_cons_zero, List.set_cons_succ, i64_w, i32_w]
          rfl
        refine pure_ (i := 9) (N := some 4) (v := ?_) (a' := ?_) #[true, true, true, true, true, true, true, true, true, true] rfl rfl (by kernel_rfl) (fun _ _ _ h => h) (Or.inl ⟨by rfl, ?_⟩) ?_ ?_
        rotate_left
        · intro w'
          go_simp
          with_reducible rfl
        rotate_left
        · simp only [Act.put, List.setIfInBounds_toArray, List.set_cons_zero, List.set_cons_succ, i64_w, i32_w]
          rfl
        refine done_ (by kernel_rfl) ?_
        -- END BACK3
        go_wp2_with fail
        go_ret
        exact ⟨rfl, BF.out⟩
end Go.Proofs.Ytepfjmmbjbfboaa.F
