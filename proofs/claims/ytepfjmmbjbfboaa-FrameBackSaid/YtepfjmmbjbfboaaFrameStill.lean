/- FrameStill, walked. By this session. -/
import Derived.Test.YtepfjmmbjbfboaaFrameLaws
namespace Go.Proofs.Ytepfjmmbjbfboaa.F
open Go.RowKit Go.Proofs.YtepfjmmbjbfboaaW.PrintWords Go.Proofs.YtepfjmmbjbfboaaW.PrintLast Go.Proofs.YtepfjmmbjbfboaaW.PrintMore
set_option linter.unusedVariables false
set_option linter.unusedSimpArgs false
theorem wrap_s {i : Nat} (h : i < 4611686018427387904) : wrap64 ((i : Int) + 1) = ((i + 1 : Nat) : Int) := by unfold wrap64; omega
theorem add_off (g o i : Nat) : (Addr.mk g o none).add i = ⟨g, o + i, none⟩ := by
  unfold Addr.add
  split
  · next h => subst h; rfl
  · simp
theorem Mine.at_ {w : World} {b : Nat} {A : Option Addr} {xs : List Int} (h : Mine w b A xs) {i : Nat} (hi : i < xs.length) :
    ∃ ad, A = some ad ∧ w.cell? (ad.add i) = some (.int .u8 (xs.getD i 0)) ∧ w.frozen? (ad.add i) = false ∧ b ≤ (ad.add i).block ∧ (∃ cells, w.heap[(ad.add i).block]? = some (.cells cells 5 (0, 0))) ∧
      ∀ v, Mine (w.setCell (ad.add i) (.int .u8 v)) b A (xs.set i v) := by
  rcases h with rfl | ⟨g, o, cells, rfl, h2, h3, h4⟩
  · simp at hi
  · have hx : xs[i]? = some (xs.getD i 0) := by rw [List.getD_eq_getElem?_getD, List.getElem?_eq_getElem hi]; rfl
    refine ⟨⟨g, o, none⟩, rfl, ?_, ?_, ?_, ?_, fun v => ?_⟩
    · rw [add_off, cell_of_row w g (o + i) cells 5 (0, 0) h3]; exact h4 i _ hx
    · rw [add_off]; simp [World.frozen?, h3]
    · rw [add_off]; exact h2
    · rw [add_off]; exact ⟨cells, h3⟩
    · rw [add_off]
      have hb : Blk w g cells 5 := h3
      refine .inr ⟨g, o, cells.setIfInBounds (o + i) (.int .u8 v), rfl, h2, hb.set (o + i) _, fun j x hj => ?_⟩
      rw [List.getElem?_set] at hj
      have hlt := (Array.getElem?_eq_some_iff.1 (h4 i _ hx)).1
      rw [Array.getElem?_setIfInBounds]
      by_cases e : i = j
      · subst e
        rw [if_pos rfl, if_pos hi] at hj
        rw [if_pos rfl, if_pos hlt, Option.some.inj hj]
      · rw [if_neg e] at hj
        rw [if_neg (by omega)]
        exact h4 j x hj
set_option maxHeartbeats 2000000 in
set_option maxRecDepth 100000 in
theorem still_walk (k0 : Int) (A0 : Option Addr) (c0 : Nat) (l0 : List Int) (b0 : (-9223372036854775808 : Int) ≤ k0 ∧ k0 ≤ 9223372036854775807) (w : World) (hc0 : l0.length ≤ c0) (hr0 : Kd.C (Kd.int .u8) w A0 l0.length l0) (hg0 : l0.length + 4096 ≤ 140737488355328 ∧ Oct l0) :
    Calls Try.prog 7 #[.agg #[.int .i64 k0, .slice A0 l0.length c0]] w fun e w' => e = .returned (.bool true) ∧ Below w.heap.size w w' := by
  have HC := Aside0.mk hc0; have HR := Aside0.mk hr0; have HO := Aside0.mk hg0.2
  clear hc0 hr0 hg0
  obtain ⟨p, hp⟩ : ∃ p, Aside0 (putN k0 l0 = p) := ⟨_, ⟨rfl⟩⟩
  have hpo := Aside0.mk (show Oct p from hp.out ▸ putN_oct k0 HO.out)
  have hz24 := zero_of (P := Try.prog) (t := 24) (z := .agg #[.int .i64 0, .slice none 0 0]) (by kernel_rfl)
  go_enter Try.func7, Try.ntmps7
  go_wp2_with fail
  have hB0 := (Below.refl w.heap.size w).alloc (Nat.le_refl _) (.cells #[.int .i64 k0, .slice A0 l0.length c0] 24)
  refine (head_walk _).mono ?_
  rintro e w1 ⟨rfl, hb1⟩
  have HF1 := Aside0.mk ((Blk.new w #[.int .i64 k0, .slice A0 l0.length c0] 24).below hb1)
  have B1 := Aside0.mk (hB0.trans (hb1.mono hB0.size))
  have HR1 := Aside0.mk (Kd.C_below HR.out B1.out)
  clear hb1 hB0 HR
  have hk0 := HF1.out.cell 0; have hk1 := HF1.out.cell 1
  go_wp2_with fail
  clear hk0 hk1
  refine (frame_Put.calls k0 A0 c0 l0 p _ HR1.out HC.out (by rw [← hp.out]; rfl)).mono ?_
  rintro e w2 ⟨v2, rfl, hR2, hb2⟩
  obtain ⟨A2, c2, rfl⟩ := Kd.R_slice hR2
  have B2 := Aside0.mk (B1.out.trans (hb2.mono B1.out.size))
  have HF2 := Aside0.mk (HF1.out.below hb2)
  have HR2 := Aside0.mk (Kd.C_below HR1.out hb2)
  have HP2 := Aside0.mk (Kd.R_reads' hR2)
  clear hb2 hR2 HF1 HR1
  have hk0 := HF2.out.cell 0; have hk1 := HF2.out.cell 1
  by_cases h3 : (3000 : Int) < (l0.length : Int)
  · have h3d : decide ((3000 : Int) < (l0.length : Int)) = true := decide_eq_true h3
    go_wp2_with fail
    go_ret
    exact ⟨rfl, B2.out⟩
  have h3d : decide ((3000 : Int) < (l0.length : Int)) = false := decide_eq_false h3
  by_cases hf : 1 ≤ k0 ∧ k0 ≤ 4 ∧ l0.length ≤ 2048
  case neg =>
    have hp0 : p = [] := by rw [← hp.out]; exact putN_no hf
    have hq0 : ((p.length : Int) == 0) = true := by rw [hp0]; rfl
    have hq1 : (p.length == 0) = true := by rw [hp0]; rfl
    clear hp0 hf
    go_wp2_with fail
    go_ret
    exact ⟨rfl, B2.out⟩
  have hpl := Aside0.mk (show p.length = l0.length + 8 by rw [← hp.out]; exact putN_len hf)
  have hget := Aside0.mk (show frame_Get.f p = some ((k0, l0), 0) by
    unfold frame_Get.f
    rw [if_pos ⟨hpo.out, by have := hpl.out; omega⟩, ← hp.out, get_put hf])
  have hlb := Aside0.mk (show l0.length ≤ 2048 from hf.2.2)
  have hq0 : ((p.length : Int) == 0) = false := beq_eq_false_iff_ne.mpr (by have := hpl.out; omega)
  have hq1 : (p.length == 0) = false := beq_eq_false_iff_ne.mpr (by have := hpl.out; omega)
  have hcv0 := Kd.C_string (P := Try.prog) (c := c0) Try.underlying22 Try.underlying5 Try.underlying9 HR2.out
  have hcv1 := Kd.C_string (P := Try.prog) (c := c2) Try.underlying22 Try.underlying5 Try.underlying9 HP2.out.2.2
  clear hf
  go_wp2_with fail
  clear hcv0 hcv1 hk0 hk1 hq0 hq1 h3 h3d
  refine (frame_Get.calls A2 c2 p k0 l0 0 _ HP2.out.2.2 HP2.out.2.1 hget.out).mono ?_
  rintro e w3 ⟨A3, c3, rfl, hl3, hC3, hM3, hb3⟩
  have D3 := Aside0.mk (hb3.alloc hb3.size (.cells #[.int .i64 k0, .slice A3 l0.length c3] 24))
  have HM3 := Aside0.mk (hM3.below ((Below.refl w3.heap.size w3).alloc (Nat.le_refl _) (.cells #[.int .i64 k0, .slice A3 l0.length c3] 24)))
  have HX3 := Aside0.mk (Blk.new w3 #[.int .i64 k0, .slice A3 l0.length c3] 24)
  obtain ⟨b7, hb7⟩ : ∃ b7, w3.heap.size = b7 := ⟨_, rfl⟩
  clear hC3 hM3 hl3 hb3
  go_wp2_with fail
  generalize w3.alloc (.cells #[.int .i64 k0, .slice A3 l0.length c3] 24) = W3 at D3 HM3 HX3 ⊢
  rw [hb7] at *
  clear hb7
  go_loopw [9] (fun v wr => ∃ (i : Nat) (xs : List Int), v = .int .i64 (i : Int) ∧ Aside0 (i ≤ l0.length ∧ xs.length = l0.length) ∧ Aside0 (Mine wr w2.heap.size A3 xs) ∧ Aside0 (Blk wr b7 #[.int .i64 k0, .slice A3 l0.length c3] 24) ∧ Aside0 (Below w2.heap.size w2 wr)) (fun v _ => (l0.length - intOf v).toNat)
  case atStart => exact ⟨0, l0, rfl, ⟨Nat.zero_le _, rfl⟩, HM3, HX3, D3⟩
  case round =>
    obtain ⟨i, xs, rfl, hi, HM, HX, HB⟩ := hrel
    have hk1 := HX.out.cell 1
    by_cases hin : (i : Int) < (l0.length : Int)
    · have hid : decide ((i : Int) < (l0.length : Int)) = true := decide_eq_true hin
      obtain ⟨ad, rfl, hq, hfz, hblo, hbhi, hset⟩ := HM.out.at_ (i := i) (by have := hi.out; omega)
      obtain ⟨v, hv⟩ : ∃ v, xs.getD i 0 = v := ⟨_, rfl⟩
      rw [hv] at hq
      have Hset := Aside0.mk hset
      have Hblo := Aside0.mk hblo
      have hne := Aside0.mk (show b7 ≠ (ad.add i).block by
        intro e
        obtain ⟨cells, hcells⟩ := hbhi
        have h1 : wr.heap[b7]? = _ := HX.out
        rw [← e, h1] at hcells
        injection hcells with h2
        injection h2 with _ h3
        cases h3)
      clear hset hv hblo hbhi
      have hin' := Aside0.mk hin
      have hi0 : (0 : Int) ≤ (i : Int) := by omega
      replace hi0 := eq_true hi0
      replace hin := eq_true hin
      go_wp2_with fail
      have S0 : wr.drew.cell? ⟨b7, 1, none⟩ = some (.slice (some ad) l0.length c3) := hk1
      have S1 : wr.drew.cell? (ad.add i) = some (.int .u8 v) := hq
      have hfd : wr.drew.frozen? (ad.add i) = false := hfz
      -- STILL
      refine start_ (n := 11) (S := fun w' => w'.cell? ⟨b7, 1, none⟩ = some (.slice (some ad) l0.length c3) ∧ w'.cell? (ad.add i) = some (.int .u8 v)) (ds := [10]) #[false, false, false, false, false, false, false, false, false, false, false] (by kernel_rfl) rfl rfl ⟨S0, S1⟩ (fun hHeld => ?_)
      refine pure_ (i := 0) (N := some 42) (v := ?_) (a' := ?_) #[true, false, false, false, false, false, false, false, false, false, false] rfl rfl (by kernel_rfl) (fun _ _ _ h => h) (Or.inl ⟨by rfl, ?_⟩) ?_ ?_
      rotate_left
      · intro w'
        go_simp
        with_reducible rfl
      rotate_left
      · simp only [Act.put, List.setIfInBounds_toArray, List.set_cons_zero, List.set_cons_succ, i64_w, i32_w]
        rfl
      refine pure_ (i := 2) (N := some 44) (v := ?_) (a' := ?_) #[true, false, true, false, false, false, false, false, false, false, false] rfl rfl (by kernel_rfl) (fun _ _ _ h => h) (Or.inl ⟨by rfl, ?_⟩) ?_ ?_
      rotate_left
      · intro w'
        go_simp
        with_reducible rfl
      rotate_left
      · simp only [Act.put, List.setIfInBounds_toArray, List.set_cons_zero, List.set_cons_succ, i64_w, i32_w]
        rfl
      refine pure_ (i := 3) (N := some 45) (v := ?_) (a' := ?_) #[true, false, true, true, false, false, false, false, false, false, false] rfl rfl (by kernel_rfl) (fun _ _ _ h => h) (Or.inl ⟨by rfl, ?_⟩) ?_ ?_
      rotate_left
      · intro w'
        go_simp
        with_reducible rfl
      rotate_left
      · simp only [Act.put, List.setIfInBounds_toArray, List.set_cons_zero, List.set_cons_succ, i64_w, i32_w]
        rfl
      refine pure_ (i := 5) (N := some 47) (v := ?_) (a' := ?_) #[true, false, true, true, false, true, false, false, false, false, false] rfl rfl (by kernel_rfl) (fun _ _ _ h => h) (Or.inl ⟨by rfl, ?_⟩) ?_ ?_
      rotate_left
      · intro w'
        go_simp
        with_reducible rfl
      rotate_left
      · simp only [Act.put, List.setIfInBounds_toArray, List.set_cons_zero, List.set_cons_succ, i64_w, i32_w]
        rfl
      refine take_ (i := 1) (N := some 43) (v := ?_) (a' := ?_) #[true, true, true, true, false, true, false, false, false, false, false] rfl rfl (by kernel_rfl) (fun _ _ _ h => h) (Or.inl ⟨by rfl, ?_⟩) hHeld ?_ ?_
      rotate_left
      · rintro w' ⟨s0, s1⟩
        go_simp
        with_reducible rfl
      rotate_left
      · simp only [Act.put, List.setIfInBounds_toArray, List.set_cons_zero, List.set_cons_succ, i64_w, i32_w]
        rfl
      refine take_ (i := 4) (N := some 46) (v := ?_) (a' := ?_) #[true, true, true, true, true, true, false, false, false, false, false] rfl rfl (by kernel_rfl) (fun _ _ _ h => h) (Or.inl ⟨by rfl, ?_⟩) hHeld ?_ ?_
      rotate_left
      · rintro w' ⟨s0, s1⟩
        go_simp
        with_reducible rfl
      rotate_left
      · simp only [Act.put, List.setIfInBounds_toArray, List.set_cons_zero, List.set_cons_succ, i64_w, i32_w]
        rfl
      refine pure_ (i := 6) (N := some 48) (v := ?_) (a' := ?_) #[true, true, true, true, true, true, true, false, false, false, false] rfl rfl (by kernel_rfl) (fun _ _ _ h => h) (Or.inl ⟨by rfl, ?_⟩) ?_ ?_
      rotate_left
      · intro w'
        go_simp
        with_reducible rfl
      rotate_left
      · simp only [Act.put, List.setIfInBounds_toArray, List.set_cons_zero, List.set_cons_succ, i64_w, i32_w]
        rfl
      refine take_ (i := 7) (N := some 49) (v := ?_) (a' := ?_) #[true, true, true, true, true, true, true, true, false, false, false] rfl rfl (by kernel_rfl) (fun _ _ _ h => h) (Or.inl ⟨by rfl, ?_⟩) hHeld ?_ ?_
      rotate_left
      · rintro w' ⟨s0, s1⟩
        go_simp
        with_reducible rfl
      rotate_left
      · simp only [Act.put, List.setIfInBounds_toArray, List.set_cons_zero, List.set_cons_succ, i64_w, i32_w]
        rfl
      refine pure_ (i := 8) (N := some 50) (v := ?_) (a' := ?_) #[true, true, true, true, true, true, true, true, true, false, false] rfl rfl (by kernel_rfl) (fun _ _ _ h => h) (Or.inl ⟨by rfl, ?_⟩) ?_ ?_
      rotate_left
      · intro w'
        go_simp
        with_reducible rfl
      rotate_left
      · simp only [Act.put, List.setIfInBounds_toArray, List.set_cons_zero, List.set_cons_succ, i64_w, i32_w]
        rfl
      refine pure_ (i := 9) (N := some 51) (v := ?_) (a' := ?_) #[true, true, true, true, true, true, true, true, true, true, false] rfl rfl (by kernel_rfl) (fun _ _ _ h => h) (Or.inl ⟨by rfl, ?_⟩) ?_ ?_
      rotate_left
      · intro w'
        go_simp
        with_reducible rfl
      rotate_left
      · simp only [Act.put, List.setIfInBounds_toArray, List.set_cons_zero, List.set_cons_succ, i64_w, i32_w]
        rfl
      refine last_ (i := 10) (N := none) #[true, true, true, true, true, true, true, true, true, true, true] rfl rfl (by kernel_rfl) (by decide) (fun K hK => ?_)
      refine skip_ (w1 := ?_) (by rfl) rfl ?_ ?_
      rotate_left
      · go_simp
        rfl
      refine hK.out _ _ ?_
      clear hK K
      refine done_ (by kernel_rfl) ?_
      -- END STILL
      go_wp2_with fail
      refine ⟨⟨i + 1, _, ?_, ⟨by have := hin'.out; omega, ?_⟩, ⟨Hset.out _⟩, ?_, ⟨(HB.out.setCell Hblo.out _).drew⟩⟩, ?_⟩
      · rw [wrap_s (by have := hin'.out; have := hlb.out; omega)]
      · rw [List.length_set]; exact hi.out.2
      · exact ⟨(Below.heap_setCell wr (ad.add i) _ b7 hne.out).trans HX.out⟩
      · have h2 := hin'.out
        rw [wrap_s (by have := hlb.out; omega)]
        simp only [intOf]; omega
    · have hid : decide ((i : Int) < (l0.length : Int)) = false := decide_eq_false hin
      go_wp2_with fail
      clear hk1
      refine (frame_Get.calls A2 c2 p k0 l0 0 _ (Kd.C_below HP2.out.2.2 HB.out) HP2.out.2.1 hget.out).mono ?_
      rintro e w4 ⟨A4, c4, rfl, hl4, hC4, _, hb4⟩
      have D4 := Aside0.mk (HB.out.trans (hb4.mono HB.out.size))
      have D5 := Aside0.mk (D4.out.alloc D4.out.size (.cells #[.int .i64 k0, .slice A4 l0.length c4] 24))
      have B5 := Aside0.mk (B2.out.trans (D5.out.mono B2.out.size))
      have hk0 := (HF2.out.below D5.out).cell 0
      have hk1 := (HF2.out.below D5.out).cell 1
      have hcv0 := Kd.C_string (P := Try.prog) (c := c0) Try.underlying22 Try.underlying5 Try.underlying9 (Kd.C_below HR2.out D5.out)
      have hcv1 := Kd.C_string (P := Try.prog) (c := c2) Try.underlying22 Try.underlying5 Try.underlying9 (Kd.C_below HP2.out.2.2 D5.out)
      have hcv2 := Kd.C_string (P := Try.prog) (c := c4) Try.underlying22 Try.underlying5 Try.underlying9 (Kd.C_below hC4 ((Below.refl w4.heap.size w4).alloc (Nat.le_refl _) (.cells #[.int .i64 k0, .slice A4 l0.length c4] 24)))
      have g1 : ((strOfNums l0).toList == (strOfNums l0).toList) = true := beq_self_eq_true _
      have g2 : ((strOfNums p).toList == (strOfNums p).toList) = true := beq_self_eq_true _
      clear hb4 hC4 hl4 D4
      go_wp2_with fail
      go_ret
      exact ⟨rfl, B5.out⟩
end Go.Proofs.Ytepfjmmbjbfboaa.F
