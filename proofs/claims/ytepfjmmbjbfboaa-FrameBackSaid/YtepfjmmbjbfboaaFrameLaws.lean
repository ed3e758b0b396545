/- Laws of frames, walked: FrameLong, FrameKinds. By this session. -/
import Derived.Test.YtepfjmmbjbfboaaFrameHead
import Derived.Test.YtepfjmmbjbfboaaFramePlain
namespace Go.Proofs.Ytepfjmmbjbfboaa.F
open Go.RowKit Go.Proofs.YtepfjmmbjbfboaaW.PrintWords Go.Proofs.YtepfjmmbjbfboaaW.PrintLast Go.Proofs.YtepfjmmbjbfboaaW.PrintMore
set_option linter.unusedVariables false
set_option linter.unusedSimpArgs false
theorem opens_bytes : Opens Try.prog (Kd.slice 5 (Kd.int .u8)) (fun xs => xs.length + 4096 ≤ 140737488355328 ∧ Oct xs) 22 :=
  opens_imp (opens_slice Try.underlying22 (by kernel_rfl) (opens_int Try.underlying5 (by kernel_rfl))) (fun xs h => by
    have h1 := h.1
    have hb : Try.prog.bytesOf 5 = 1 := by kernel_rfl
    rw [hb] at h1
    simp only [reachBytes] at h1
    exact ⟨by omega, Oct.of_wf h.2⟩)
theorem opens_frameS : Opens Try.prog (Kd.pair (Kd.int .i64) (Kd.slice 5 (Kd.int .u8))) (fun y => (Lit.int .i64 y.1).wf = true ∧ y.2.length + 4096 ≤ 140737488355328 ∧ Oct y.2) 24 :=
  opens_imp (opens_struct Try.underlying24 (by kernel_rfl) (opensS_cons rfl (opens_int Try.underlying3 (by kernel_rfl)) (opensS_one rfl opens_bytes))) (fun y h => ⟨h.1, h.2.1, h.2.2⟩)
/-- A frame that came in. -/
theorem open_frame {H : Type} {enc : TypeId × Value → H} {w : World} {base : Nat} {spare : Nat → Bool} {held : Bool} {v : Value} {x : DataW H} {ps : List MemPlace} {r : Reach} {b0 : Nat} (hv : Value.okWide Try.prog w r b0 24 v)
    (h : DataW.Trod enc Try.prog w base spare held 24 v x ps) (hw : ∀ n ∈ x.weights Try.prog 24, n ≤ reachBytes) :
    ∃ (k : Int) (A : Option Addr) (c : Nat) (l : List Int), v = .agg #[.int .i64 k, .slice A l.length c] ∧ (Lit.int .i64 k).wf = true ∧ l.length ≤ c ∧ Kd.C (Kd.int .u8) w A l.length l ∧ (l.length + 4096 ≤ 140737488355328 ∧ Oct l) := by
  obtain ⟨cs, rfl, _⟩ := Go.WideShapes.okWide_struct Try.underlying24 hv
  obtain ⟨fuel, hf⟩ := h
  obtain ⟨y, hK, hg1, hg2⟩ := opens_frameS.op H enc w base spare held fuel _ _ hf hw
  obtain ⟨d1, d2, hcs, hk, A, c, h2, h3, h4⟩ := hK
  have hk' : d1 = [.int .i64 y.1] := hk
  subst hk' h2
  refine ⟨y.1, A, c, y.2, ?_, hg1, h3, h4, hg2⟩
  have : cs.toList = [.int .i64 y.1] ++ [.slice A y.2.length c] := hcs
  congr 1
  apply Array.toList_inj.1
  rw [this]; rfl
set_option maxHeartbeats 2000000 in
set_option maxRecDepth 100000 in
theorem long_walk (a0 a1 : Int) (b0 : 0 ≤ a0 ∧ a0 ≤ 255) (b1 : 0 ≤ a1 ∧ a1 ≤ 65535) (w : World) : Calls Try.prog 9 #[.int .u8 a0, .int .u16 a1] w fun e w' => e = .returned (.bool true) ∧ Below w.heap.size w w' := by
  obtain ⟨k, hk⟩ : ∃ k : Int, Aside0 (k = 1 + a0 % 4) := ⟨_, ⟨rfl⟩⟩
  obtain ⟨m, hm⟩ : ∃ m : Nat, Aside0 ((m : Int) = a1 % 2100) := ⟨(a1 % 2100).toNat, ⟨by omega⟩⟩
  have h1 : Int.tmod a0 4 = a0 % 4 := Int.tmod_eq_emod_of_nonneg b0.1
  have h2 : IntKind.i64.wrap (a0 % 4) = a0 % 4 := IntWalk.i64_in _ (by omega)
  have h3 : IntKind.i64.wrap (1 + a0 % 4) = k := by rw [hk.out]; exact IntWalk.i64_in _ (by omega)
  have h4 : IntKind.i64.wrap a1 = a1 := IntWalk.i64_in _ (by omega)
  have h5 : Int.tmod a1 2100 = (m : Int) := by rw [hm.out]; exact Int.tmod_eq_emod_of_nonneg b1.1
  go_enter Try.func9, Try.ntmps9
  go_wp2_with fail
  refine (head_walk w).mono ?_
  rintro e w1 ⟨rfl, hb1⟩
  have B1 := Aside0.mk hb1
  clear hb1
  obtain ⟨zs, hzs⟩ : ∃ zs : List Int, Aside0 (List.replicate m 0 = zs) := ⟨_, ⟨rfl⟩⟩
  have hzl := Aside0.mk (show zs.length = m by rw [← hzs.out, List.length_replicate])
  have hzo := Aside0.mk (show Oct zs from hzs.out ▸ oct_zeros m)
  have hmb := Aside0.mk (show ((m : Int)).toNat * 1 ≤ 281474976710656 by have := hm.out; omega)
  have hml := Aside0.mk (show m < 2100 by have := hm.out; omega)
  obtain ⟨p, hp⟩ : ∃ p, Aside0 (putN k zs = p) := ⟨_, ⟨rfl⟩⟩
  have hz24 := zero_of (P := Try.prog) (t := 24) (z := .agg #[.int .i64 0, .slice none 0 0]) (by kernel_rfl)
  have hi24 := Aside0.mk (show (Try.prog.info? 24).map (·.size) = some 2 by kernel_rfl)
  have hkr := Aside0.mk (show 1 ≤ k ∧ k ≤ 4 by have := hk.out; omega)
  have hm0 := Aside0.mk (show (0 : Int) ≤ (m : Int) by omega)
  go_wp2_with (
    (with_reducible refine gate_dst (N := 21) rfl ?_); refine Kd.R_make (Kd.int .u8) (w0 := w1) w1.heap.size 5 rfl rfl 22 (.tmp 20) (.tmp 20) rfl (m : Int) rfl rfl Try.underlying22 (.int .u8 0) 1 info5 rfl (by decide) (by omega) (0 : Int) (ok := fun _ => True) (okp := fun _ => True) rfl (fun _ h => h) trivial hm0.out hmb.out (Below.refl _ _) (Nat.le_refl _) ?_; intro v2 w2 hR hB hg hat; rw [Int.toNat_natCast, hzs.out] at hR; have HR2 := Aside0.mk hR; have HB2 := Aside0.mk hB; obtain ⟨A2, c2, e2⟩ := Kd.R_slice hR; subst e2; clear hR hB hg hat)
  clear h1 h2 h3 h4 h5
  refine (frame_Put.calls k A2 c2 zs p _ (Kd.R_reads' HR2.out).2.2 (Kd.R_reads' HR2.out).2.1 (by rw [← hp.out]; rfl)).mono ?_
  rintro e w3 ⟨v3, rfl, hR3, hb3⟩
  obtain ⟨A3, c3, rfl⟩ := Kd.R_slice hR3
  have B3 := Aside0.mk (B1.out.trans ((HB2.out.trans (hb3.mono HB2.out.size)).mono B1.out.size))
  have HR3 := Aside0.mk (Kd.R_reads' hR3)
  clear hb3 hR3 HR2 HB2
  by_cases hbig : (2048 : Int) < (m : Int)
  · have hp0 : p = [] := by rw [← hp.out]; exact putN_no (by have := hzl.out; omega)
    have hq0 : ((p.length : Int) == 0) = true := by rw [hp0]; rfl
    have hq1 : (p.length == 0) = true := by rw [hp0]; rfl
    have hbd : decide ((2048 : Int) < (m : Int)) = true := decide_eq_true hbig
    go_wp2_with fail
    go_ret
    exact ⟨rfl, B3.out⟩
  · have hbd : decide ((2048 : Int) < (m : Int)) = false := decide_eq_false hbig
    have hfine : 1 ≤ k ∧ k ≤ 4 ∧ zs.length ≤ 2048 := ⟨hkr.out.1, hkr.out.2, by have := hzl.out; omega⟩
    have hpl : p.length = m + 8 := by rw [← hp.out, putN_len hfine, hzl.out]
    have hget := Aside0.mk (show frame_Get.f p = some ((k, zs), 0) by
      unfold frame_Get.f
      rw [if_pos ⟨by rw [← hp.out]; exact putN_oct k hzo.out, by omega⟩, ← hp.out, get_put hfine])
    have hw8 : IntKind.i64.wrap ((m : Int) + 8) = (m : Int) + 8 := IntWalk.i64_in _ (by have := hml.out; omega)
    have hq0 : ((p.length : Int) == (m : Int) + 8) = true := beq_iff_eq.mpr (by omega)
    have hq1 : ((zs.length : Int) == (m : Int)) = true := beq_iff_eq.mpr (by have := hzl.out; omega)
    have hq2 : (zs.length == m) = true := beq_iff_eq.mpr hzl.out
    clear hpl hfine
    go_wp2_with fail
    refine (frame_Get.calls A3 c3 p k zs 0 _ HR3.out.2.2 HR3.out.2.1 hget.out).mono ?_
    rintro e w4 ⟨A4, c4, rfl, hl4, hC4, _, hb4⟩
    have B4 := Aside0.mk (B3.out.trans (hb4.mono B3.out.size))
    clear hb4 hC4 hl4
    go_wp2_with (refine wpList_store_row rfl 24 (.tmp 9) (.tmp 35) rfl w4.heap.size #[.int .i64 k, .slice A4 zs.length c4] rfl rfl 24 #[.int .i64 0, .slice none 0 0] (Blk.new _ _ _) hi24.out rfl (by kernel_rfl) ?_; have X4 := box_facts B4.out #[.int .i64 k, .slice A4 zs.length c4] #[.int .i64 0, .slice none 0 0] 24; generalize (w4.alloc (.cells #[.int .i64 0, .slice none 0 0] 24)).setRow w4.heap.size #[.int .i64 k, .slice A4 zs.length c4] = W4 at X4 ⊢; have XB4 := Aside0.mk X4.1; have XD4 := Aside0.mk X4.2.1; have XK4 := Aside0.mk X4.2.2; clear X4; have hk0 := XK4.out.cell 0; have hk1 := XK4.out.cell 1)
    go_ret
    exact ⟨rfl, XB4.out⟩
/-! ### FrameKinds -/
theorem kn_step {j : Int} (h : -1 ≤ j ∧ j ≤ 7) (h7 : j < 7) : -1 ≤ j + 1 ∧ j + 1 ≤ 7 := by omega
theorem kn_meas {j : Int} (h : -1 ≤ j ∧ j ≤ 7) (h7 : j < 7) : (7 - intOf (Value.int .i64 (j + 1))).toNat < (7 - intOf (Value.int .i64 j)).toNat := by simp only [intOf]; omega
set_option maxHeartbeats 2000000 in
set_option maxRecDepth 100000 in
theorem kinds_walk (A0 : Option Addr) (c0 : Nat) (l0 : List Int) (w : World) (hc0 : l0.length ≤ c0) (hr0 : Kd.C (Kd.int .u8) w A0 l0.length l0) (hg0 : l0.length + 4096 ≤ 140737488355328 ∧ Oct l0) :
    Calls Try.prog 6 #[.slice A0 l0.length c0] w fun e w' => e = .returned (.bool true) ∧ Below w.heap.size w w' := by
  have HC := Aside0.mk hc0; have HR := Aside0.mk hr0; have HO := Aside0.mk hg0.2
  clear hc0 hr0 hg0
  have hz24 := zero_of (P := Try.prog) (t := 24) (z := .agg #[.int .i64 0, .slice none 0 0]) (by kernel_rfl)
  have hi24 := Aside0.mk (show (Try.prog.info? 24).map (·.size) = some 2 by kernel_rfl)
  go_enter Try.func6, Try.ntmps6
  go_wp2_with fail
  refine (head_walk w).mono ?_
  rintro e w1 ⟨rfl, hb1⟩
  have B1 := Aside0.mk hb1
  have HR1 := Aside0.mk (Kd.C_below HR.out hb1)
  clear hb1 HR
  by_cases h9 : (2048 : Int) < (l0.length : Int)
  · have h9d : decide ((2048 : Int) < (l0.length : Int)) = true := decide_eq_true h9
    go_wp2_with fail
    go_ret
    exact ⟨rfl, B1.out⟩
  have h9d : decide ((2048 : Int) < (l0.length : Int)) = false := decide_eq_false h9
  have H9 := Aside0.mk h9
  go_wp2_with fail
  clear h9 h9d
  go_loopw [4] (fun v wr => ∃ j : Int, v = .int .i64 j ∧ Aside0 (-1 ≤ j ∧ j ≤ 7) ∧ Aside0 (Below w1.heap.size w1 wr)) (fun v _ => (7 - intOf v).toNat)
  case atStart => exact ⟨-1, rfl, ⟨by decide⟩, ⟨Below.refl _ _⟩⟩
  case round =>
    obtain ⟨j, rfl, hj, HB⟩ := hrel
    have BW := Aside0.mk (B1.out.trans (HB.out.mono B1.out.size))
    by_cases h7 : j < 7
    · have h7d : decide (j < 7) = true := decide_eq_true h7
      have H7 := Aside0.mk h7
      obtain ⟨p, hp⟩ : ∃ p, Aside0 (putN j l0 = p) := ⟨_, ⟨rfl⟩⟩
      have hpo := Aside0.mk (show Oct p from hp.out ▸ putN_oct j HO.out)
      have hww : IntKind.i64.wrap (j + 1) = j + 1 := IntWalk.i64_in _ (by have := hj.out; omega)
      go_wp2_with fail
      refine (frame_Put.calls j A0 c0 l0 p _ (Kd.C_below HR1.out HB.out) HC.out (by rw [← hp.out]; rfl)).mono ?_
      rintro e w3 ⟨v3, rfl, hR3, hb3⟩
      obtain ⟨A3, c3, rfl⟩ := Kd.R_slice hR3
      have HR3 := Aside0.mk (Kd.R_reads' hR3)
      have D3 := Aside0.mk (HB.out.trans (hb3.mono HB.out.size))
      clear hb3 hR3
      by_cases hf : 1 ≤ j ∧ j ≤ 4
      · have hfine : 1 ≤ j ∧ j ≤ 4 ∧ l0.length ≤ 2048 := ⟨hf.1, hf.2, by have := H9.out; omega⟩
        have hget := Aside0.mk (show frame_Get.f p = some ((j, l0), 0) by
          unfold frame_Get.f
          rw [if_pos ⟨hpo.out, by rw [← hp.out, putN_len hfine]; omega⟩, ← hp.out, get_put hfine])
        have g1 : decide (1 ≤ j) = true := decide_eq_true hf.1
        have g2 : decide (j ≤ 4) = true := decide_eq_true hf.2
        have g3 : (j == j) = true := beq_self_eq_true j
        have g4 : ((strOfNums l0).toList == (strOfNums l0).toList) = true := beq_self_eq_true _
        have hf1 := eq_true hf.1
        have hf2 := eq_true hf.2
        clear hf hfine
        go_wp2_with fail
        refine (frame_Get.calls A3 c3 p j l0 0 _ HR3.out.2.2 HR3.out.2.1 hget.out).mono ?_
        rintro e w4 ⟨A4, c4, rfl, hl4, hC4, _, hb4⟩
        have D4 := Aside0.mk (D3.out.trans (hb4.mono D3.out.size))
        have B4 := Aside0.mk (B1.out.trans (D4.out.mono B1.out.size))
        have HC4 := Aside0.mk hC4
        clear hb4 hC4 hl4
        go_wp2_with (refine wpList_store_row rfl 24 (.tmp 5) (.tmp 22) rfl w4.heap.size #[.int .i64 j, .slice A4 l0.length c4] rfl rfl 24 #[.int .i64 0, .slice none 0 0] (Blk.new _ _ _) hi24.out rfl (by kernel_rfl) ?_; have X4 := box_facts B4.out #[.int .i64 j, .slice A4 l0.length c4] #[.int .i64 0, .slice none 0 0] 24; generalize (w4.alloc (.cells #[.int .i64 0, .slice none 0 0] 24)).setRow w4.heap.size #[.int .i64 j, .slice A4 l0.length c4] = W4 at X4 ⊢; have XB4 := Aside0.mk X4.1; have XD4 := Aside0.mk X4.2.1; have XK4 := Aside0.mk X4.2.2; clear X4; have hk0 := XK4.out.cell 0; have hk1 := XK4.out.cell 1; have hcv0 := Kd.C_string (P := Try.prog) (c := c4) Try.underlying22 Try.underlying5 Try.underlying9 (Kd.C_below HC4.out XD4.out); have hcv1 := Kd.C_string (P := Try.prog) (c := c0) Try.underlying22 Try.underlying5 Try.underlying9 (Kd.C_below HR1.out (D4.out.trans (XD4.out.mono D4.out.size))))
        exact ⟨⟨j + 1, rfl, ⟨kn_step hj.out H7.out⟩, ⟨D4.out.trans (XD4.out.mono D4.out.size)⟩⟩, kn_meas hj.out H7.out⟩
      · have hp0 : p = [] := by rw [← hp.out]; exact putN_no (fun h => hf ⟨h.1, h.2.1⟩)
        have hget := Aside0.mk (show frame_Get.f p = some ((0, []), 41) by rw [hp0]; kernel_rfl)
        have g0 : (41 == (0 : Int)) = false := by decide
        obtain ⟨z, hz⟩ : ∃ z : List Int, Aside0 ([] = z) := ⟨_, ⟨rfl⟩⟩
        rw [hz.out] at hget
        clear hp0
        have hgg : (decide (1 ≤ j) && decide (j ≤ 4)) = false := by
          rcases (show ¬ 1 ≤ j ∨ ¬ j ≤ 4 by omega) with h | h
          · rw [decide_eq_false h]; rfl
          · rw [decide_eq_false h, Bool.and_false]
        go_wp2_with fail
        refine (frame_Get.calls A3 c3 p 0 z 41 _ HR3.out.2.2 HR3.out.2.1 hget.out).mono ?_
        rintro e w4 ⟨A4, c4, rfl, hl4, hC4, _, hb4⟩
        have D4 := Aside0.mk (D3.out.trans (hb4.mono D3.out.size))
        have B4 := Aside0.mk (B1.out.trans (D4.out.mono B1.out.size))
        clear hb4 hC4 hl4
        have Hf := Aside0.mk hf
        rcases (show ¬ 1 ≤ j ∨ (1 ≤ j ∧ ¬ j ≤ 4) by omega) with h | ⟨h, h'⟩
        · have hd1 : decide (1 ≤ j) = false := decide_eq_false h
          clear hf hgg
          replace h := eq_false h
          go_wp2_with fail
          exact ⟨⟨j + 1, rfl, ⟨kn_step hj.out H7.out⟩, ⟨D4.out.alloc D4.out.size _⟩⟩, kn_meas hj.out H7.out⟩
        · have hd1 : decide (1 ≤ j) = true := decide_eq_true h
          have hd2 : decide (j ≤ 4) = false := decide_eq_false h'
          clear hf hgg
          replace h := eq_true h
          replace h' := eq_false h'
          go_wp2_with fail
          exact ⟨⟨j + 1, rfl, ⟨kn_step hj.out H7.out⟩, ⟨D4.out.alloc D4.out.size _⟩⟩, kn_meas hj.out H7.out⟩
    · have h7d : decide (j < 7) = false := decide_eq_false h7
      go_wp2_with fail
      go_ret
      exact ⟨rfl, BW.out⟩
end Go.Proofs.Ytepfjmmbjbfboaa.F
