/- PoolFull, walked: the law answers true. By this session. -/
import Derived.Test.YtpnmhhckmpeogaaPoolPlain
import Derived.Test.YtpnmhhckmpeogaaWLast
import Derived.OwnWalk
import Derived.IntWalk
namespace Go.Proofs.Ytpnmhhckmpeogaa
open Go.RowKit Go.Proofs.YtpnmhhckmpeogaaW.PrintLast
set_option linter.unusedVariables false
set_option linter.unusedSimpArgs false

theorem outs_1 {s : PS} (h : 1 ≤ s.held) (hm : 1 ≤ s.most) : outOk s 0 1 (fun _ => 0) = true := outOk_yes (by omega) hm (by simp) (fun i _ => ⟨Int.le_refl _, by omega⟩) (by simp [sum9]; omega)
theorem alls_1 {s : PS} (hm : 1 ≤ s.most) : allK s.most (fine0 s.most 1 0) 1 (fun _ => 0) 9 = 1 := by rw [outAll_yes (by omega) hm (by simp) (fun i _ => ⟨Int.le_refl _, by omega⟩)]; simp [sum9]

set_option maxHeartbeats 2000000 in
set_option maxRecDepth 100000 in
theorem full_walk (a0 a1 : Int) (h0 : 0 ≤ a0 ∧ a0 ≤ 255) (h1 : 0 ≤ a1 ∧ a1 ≤ 255) (w : World) :
    Calls Try.prog 7 #[.int .u8 a0, .int .u8 a1] w fun e w' => e = .returned (.bool true) ∧ Below w.heap.size w w' := by
  go_enter Try.func7, Try.ntmps7
  go_wp2_with fail
  refine (head_ _).mono ?_
  rintro e w1 ⟨rfl, hw1⟩
  go_wp2_with fail
  refine (new_yes (1 + a0) _ (by omega) (by omega)).mono ?_
  rintro e w2 ⟨g, rfl, hb2, hg2, hw2⟩
  have hz : w.heap.size ≤ w2.heap.size := by have := hw1.size; have := hw2.size; omega
  have hB2 : Below w.heap.size w w2 := hw1.trans (hw2.mono hw1.size)
  have hgw : w.heap.size ≤ g := by have := hw1.size; omega
  have Hb2 := Lib.hid hb2
  have HB2 := Lib.hid hB2
  clear hb2 hB2 hw1 hw2 hg2
  go_wp2_with fail
  go_loopw [8] (fun i wr => ∃ j : Nat, (j : Int) ≤ 1 + a0 ∧ i = .int .i64 j ∧ ∃ s : PS, Blk wr g s.cells 49 ∧ s.Bn j ∧ s.held = j ∧ s.most = 1 + a0 ∧ Below w.heap.size w wr) (fun i _ => (1 + a0).toNat - (intOf i).toNat)
  case atStart => exact ⟨0, by simp; omega, rfl, PS.new (1 + a0), Hb2.out, PS.Bn.new _ (by omega), rfl, rfl, HB2.out⟩
  case round =>
    obtain ⟨j, hj, rfl, s, hb, hbn, hh, hm, hbel⟩ := hrel
    have Hb := Lib.hid hb
    have Hbn := Lib.hid hbn
    have Hh := Lib.hid hh
    have Hm := Lib.hid hm
    have Hbel := Lib.hid hbel
    clear hb hbn hh hm hbel Hb2 HB2
    by_cases hj1 : (j : Int) < 1 + a0
    · have hd1 : decide ((j : Int) < 1 + a0) = true := by simpa using hj1
      go_wp2_with fail
      refine (in_room g s _ Hb.out (Hbn.out.bd (by omega)) (by rw [Hh.out, Hm.out]; omega)).mono ?_
      rintro e w5 ⟨rfl, hb5, hf5⟩
      go_wp2_with fail
      go_roundw
      case rel =>
        exact ⟨j + 1, by omega, by go_num, s.inn, hb5, by have := Hbn.out.inn; push_cast; exact this, by have := Hh.out; simp only [PS.inn]; push_cast; omega, Hm.out, Fr.to_below Hbel.out hf5 (Hbel.out.size) (fun k e => by subst e; exact hgw)⟩
      case measure => simp [intOf]; omega
    · have hd1 : decide ((j : Int) < 1 + a0) = false := by simpa using hj1
      have hj2 : (j : Int) = 1 + a0 := by omega
      have hh' : s.held = 1 + a0 := by rw [Hh.out, hj2]
      have hbn' : s.Bn 256 := Hbn.out.mono (by omega)
      have Hh' := Lib.hid hh'
      have Hbn' := Lib.hid hbn'
      clear hj2 hh' hbn' Hh Hbn
      go_wp2_with fail
      go_loopw [9] (fun i wr => ∃ k : Nat, (k : Int) ≤ a1 ∧ i = .int .i64 k ∧ ∃ s : PS, Blk wr g s.cells 49 ∧ s.Bn (256 + k) ∧ s.held = 1 + a0 ∧ s.most = 1 + a0 ∧ Below w.heap.size w wr) (fun i _ => a1.toNat - (intOf i).toNat)
      case atStart => exact ⟨0, by simp; omega, rfl, s, Hb.out, by simpa using Hbn'.out, Hh'.out, Hm.out, Hbel.out⟩
      case round =>
      clear Hb Hbel Hh' Hbn' Hm
      obtain ⟨k, hk, rfl, s, hb, hbn, hh, hm, hbel⟩ := hrel
      have hhm : s.held = s.most := by rw [hh, hm]
      have HP := Lib.hid hb
      have HBn := Lib.hid hbn
      have HHh := Lib.hid hh
      have HM := Lib.hid hm
      have HHm := Lib.hid hhm
      have HL := Lib.hid hbel
      clear hb hbn hh hm hhm hbel
      by_cases hk1 : (k : Int) < a1
      case neg =>
        have hd2 : decide ((k : Int) < a1) = false := by simpa using hk1
        have hbd2 : PS.Bd (s.out 0 1 1 (fun _ => 0)) := (HBn.out.out (M := 1000) (by omega) (by omega) (by simp) (fun i => ⟨Int.le_refl _, by omega⟩) (by omega) (by rw [HHh.out]; omega)).bd (by omega)
        have hbd3 : PS.Bd (s.out 0 1 1 (fun _ => 0)).inn := (HBn.out.out (M := 1000) (by omega) (by omega) (by simp) (fun i => ⟨Int.le_refl _, by omega⟩) (by omega) (by rw [HHh.out]; omega)).inn.bd (by omega)
        have Hbd2 := Lib.hid hbd2
        have Hbd3 := Lib.hid hbd3
        clear hbd2 hbd3
        go_wp2_with fail
        refine (out_yes (s.out 0 1 1 (fun _ => 0)) 1 g none 0 0 1 (fun _ => 0) s _ HP.out (HBn.out.bd (by omega)) (by omega) (outs_1 (by rw [HHh.out]; omega) (by rw [HM.out]; omega)) (alls_1 (by rw [HM.out]; omega)) rfl).mono ?_
        rintro e w7 ⟨rfl, hb7, hf7⟩
        go_wp2_with fail
        refine (held_v a0 g _ _ (by have := HHh.out; simp only [PS.out]; omega) hb7).mono ?_
        rintro e w8 ⟨rfl, rfl⟩
        have hq : (a0 == 1 + a0 - 1) = true := by simp; omega
        go_wp2_with fail
        refine (in_room g _ _ hb7 Hbd2.out (by have := HHh.out; have := HM.out; simp only [PS.out]; omega)).mono ?_
        rintro e w9 ⟨rfl, hb9, hf9⟩
        go_wp2_with fail
        refine (in_full g _ _ hb9 Hbd3.out (by have := HHh.out; have := HM.out; simp only [PS.out, PS.inn]; omega)).mono ?_
        rintro e w10 ⟨rfl, hb10, hf10⟩
        go_wp2_with fail
        go_ret
        exact ⟨rfl, Fr.to_below HL.out ((hf7.trans hf9).trans hf10) HL.out.size (fun k e => by subst e; exact hgw)⟩
      case pos =>
      have hd2 : decide ((k : Int) < a1) = true := by simpa using hk1
      go_upto_region 13 with fail
      go_cut [10] (fun c wx => ∃ b, c = .pointer (some ⟨b, 0, none⟩) ∧ Blk wx b #[.int .i64 (s.came), .int .i64 (s.frames), .int .i64 (s.gone 0), .int .i64 (s.gone 1), .int .i64 (s.gone 2), .int .i64 (s.gone 3), .int .i64 (s.gone 4), .int .i64 (s.gone 5), .int .i64 (s.gone 6), .int .i64 (s.gone 7), .int .i64 (s.gone 8), .int .i64 (s.held), .int .i64 (s.packets)] 38 ∧ b ≠ g ∧ w.heap.size ≤ b ∧ Blk wx g s.cells 49 ∧ Below w.heap.size w wx)
      case first =>
        go_wp2_with fail
        refine (tally_v (.agg #[.int .i64 (s.came), .int .i64 (s.frames), .int .i64 (s.gone 0), .int .i64 (s.gone 1), .int .i64 (s.gone 2), .int .i64 (s.gone 3), .int .i64 (s.gone 4), .int .i64 (s.gone 5), .int .i64 (s.gone 6), .int .i64 (s.gone 7), .int .i64 (s.gone 8), .int .i64 (s.held), .int .i64 (s.packets)]) g s _ rfl HP.out).mono ?_
        rintro e w5 ⟨rfl, hw5⟩
        go_wp2_with fail
        go_meet
        have hbel5 : Below w.heap.size w w5 := HL.out.trans (hw5.mono HL.out.size)
        exact ⟨_, rfl, Blk.new _ _ _, by have := (HP.out.below hw5).lt; omega, hbel5.size, (HP.out.below hw5).alloc _, hbel5.alloc hbel5.size _⟩
      case rest =>
      obtain ⟨b, rfl, hc, hbg, hwb, hb, hbel⟩ := hcut
      have hgb : g ≠ b := fun e => hbg e.symm
      have k0 : wc.cell? ⟨b, 0, none⟩ = some (.int .i64 s.came) := (hc.cell 0).trans rfl
      have k5 : wc.cell? ⟨b, 5, none⟩ = some (.int .i64 (s.gone 3)) := (hc.cell 5).trans rfl
      have f0 := hc.frozen 0
      have f5 := hc.frozen 5
      have b0 := HBn.out.came
      have b5 := HBn.out.gone 3
      have HC := Lib.hid hc
      have HP := Lib.hid hb
      have HL := Lib.hid hbel
      clear hc hb hbel
      go_upto_region 14 with fail
      go_cut [] (fun wx => Blk wx b #[.int .i64 (s.came + 1), .int .i64 (s.frames), .int .i64 (s.gone 0), .int .i64 (s.gone 1), .int .i64 (s.gone 2), .int .i64 (s.gone 3), .int .i64 (s.gone 4), .int .i64 (s.gone 5), .int .i64 (s.gone 6), .int .i64 (s.gone 7), .int .i64 (s.gone 8), .int .i64 (s.held), .int .i64 (s.packets)] 38 ∧ Blk wx g s.cells 49 ∧ Below w.heap.size w wx)
      case first =>
        go_wp2_with fail
        go_meet
        exact ⟨HC.out.set _ _, HP.out.far hgb _ _, HL.out.setCell hwb _⟩
      case rest =>
      obtain ⟨hc, hb, hbel⟩ := hcut
      have k5 : wc.cell? ⟨b, 5, none⟩ = some (.int .i64 (s.gone 3)) := (hc.cell 5).trans rfl
      have f5 := hc.frozen 5
      have HC := Lib.hid hc
      have HP := Lib.hid hb
      have HL := Lib.hid hbel
      clear hc hb hbel k0 f0
      go_upto_region 15 with fail
      go_cut [] (fun wx => Blk wx b #[.int .i64 (s.came + 1), .int .i64 (s.frames), .int .i64 (s.gone 0), .int .i64 (s.gone 1), .int .i64 (s.gone 2), .int .i64 (s.gone 3 + 1), .int .i64 (s.gone 4), .int .i64 (s.gone 5), .int .i64 (s.gone 6), .int .i64 (s.gone 7), .int .i64 (s.gone 8), .int .i64 (s.held), .int .i64 (s.packets)] 38 ∧ Blk wx g s.cells 49 ∧ Below w.heap.size w wx)
      case first =>
        go_wp2_with fail
        go_meet
        exact ⟨HC.out.set _ _, HP.out.far hgb _ _, HL.out.setCell hwb _⟩
      case rest =>
      obtain ⟨hc, hb, hbel⟩ := hcut
      have HC := Lib.hid hc
      have HP := Lib.hid hb
      have HL := Lib.hid hbel
      have he : ∀ W, (Op.equalIn 10000 38 (.agg #[.int .i64 (s.came + 1), .int .i64 (s.frames), .int .i64 (s.gone 0), .int .i64 (s.gone 1), .int .i64 (s.gone 2), .int .i64 (s.gone 3 + 1), .int .i64 (s.gone 4), .int .i64 (s.gone 5), .int .i64 (s.gone 6), .int .i64 (s.gone 7), .int .i64 (s.gone 8), .int .i64 (s.held), .int .i64 (s.packets)]) (.agg #[.int .i64 (s.came + 1), .int .i64 (s.frames), .int .i64 (s.gone 0), .int .i64 (s.gone 1), .int .i64 (s.gone 2), .int .i64 (s.gone 3 + 1), .int .i64 (s.gone 4), .int .i64 (s.gone 5), .int .i64 (s.gone 6), .int .i64 (s.gone 7), .int .i64 (s.gone 8), .int .i64 (s.held), .int .i64 (s.packets)])).run Try.prog W = .ok true W := by
        intro W
        have e1 := eq38 9996 W (s.lost 3) (s.lost 3)
        rw [show alike (s.lost 3) (s.lost 3) = true by simp [alike]] at e1
        exact e1
      clear hc hb hbel k5 f5 b0 b5
      go_wp2_with fail
      refine start_ (n := 8) (S := fun w' => w'.cell? ⟨b, 0, none⟩ = some (.int .i64 (s.came + 1)) ∧ w'.cell? ⟨b, 1, none⟩ = some (.int .i64 (s.frames)) ∧ w'.cell? ⟨b, 2, none⟩ = some (.int .i64 (s.gone 0)) ∧ w'.cell? ⟨b, 3, none⟩ = some (.int .i64 (s.gone 1)) ∧ w'.cell? ⟨b, 4, none⟩ = some (.int .i64 (s.gone 2)) ∧ w'.cell? ⟨b, 5, none⟩ = some (.int .i64 (s.gone 3 + 1)) ∧ w'.cell? ⟨b, 6, none⟩ = some (.int .i64 (s.gone 4)) ∧ w'.cell? ⟨b, 7, none⟩ = some (.int .i64 (s.gone 5)) ∧ w'.cell? ⟨b, 8, none⟩ = some (.int .i64 (s.gone 6)) ∧ w'.cell? ⟨b, 9, none⟩ = some (.int .i64 (s.gone 7)) ∧ w'.cell? ⟨b, 10, none⟩ = some (.int .i64 (s.gone 8)) ∧ w'.cell? ⟨b, 11, none⟩ = some (.int .i64 (s.held)) ∧ w'.cell? ⟨b, 12, none⟩ = some (.int .i64 (s.packets))) (ds := []) #[false, false, false, false, false, false, false, false] (by kernel_rfl) rfl rfl ⟨(HC.out.drew.cell 0).trans rfl, (HC.out.drew.cell 1).trans rfl, (HC.out.drew.cell 2).trans rfl, (HC.out.drew.cell 3).trans rfl, (HC.out.drew.cell 4).trans rfl, (HC.out.drew.cell 5).trans rfl, (HC.out.drew.cell 6).trans rfl, (HC.out.drew.cell 7).trans rfl, (HC.out.drew.cell 8).trans rfl, (HC.out.drew.cell 9).trans rfl, (HC.out.drew.cell 10).trans rfl, (HC.out.drew.cell 11).trans rfl, (HC.out.drew.cell 12).trans rfl⟩ (fun hHeld => ?_)
      refine pure_ (i := 0) (N := some 44) (v := ?_) (a' := ?_) #[true, false, false, false, false, false, false, false] rfl rfl (by kernel_rfl) (fun _ _ _ h => h) (Or.inl ⟨by rfl, ?_⟩) ?_ ?_
      rotate_left
      · intro w'
        go_simp
        with_reducible rfl
      rotate_left
      · simp only [Act.put, List.setIfInBounds_toArray, List.set_cons_zero, List.set_cons_succ, i64_w, i32_w]
        rfl
      refine one_ (i := 1) (N := some 45) #[true, true, false, false, false, false, false, false] rfl rfl (by kernel_rfl) (by decide) (fun K hK => ?_)
      refine goes_ Try.func16 (by kernel_rfl) rfl #[.pointer (some ⟨g, 0, none⟩)] (by rfl) rfl rfl (by simp only [List.map_toArray, List.map_cons, List.map_nil]; rfl) ?_
      with_reducible refine (in_full g s _ (by exact HP.out.drew) (HBn.out.bd (by omega)) HHm.out).mono ?_
      rintro e w5 ⟨rfl, hb5, hf5⟩
      refine ⟨_, rfl, ?_⟩
      refine hK.out _ _ ⟨((HC.out.drew.fr hf5 hbg).cell 0).trans rfl, ((HC.out.drew.fr hf5 hbg).cell 1).trans rfl, ((HC.out.drew.fr hf5 hbg).cell 2).trans rfl, ((HC.out.drew.fr hf5 hbg).cell 3).trans rfl, ((HC.out.drew.fr hf5 hbg).cell 4).trans rfl, ((HC.out.drew.fr hf5 hbg).cell 5).trans rfl, ((HC.out.drew.fr hf5 hbg).cell 6).trans rfl, ((HC.out.drew.fr hf5 hbg).cell 7).trans rfl, ((HC.out.drew.fr hf5 hbg).cell 8).trans rfl, ((HC.out.drew.fr hf5 hbg).cell 9).trans rfl, ((HC.out.drew.fr hf5 hbg).cell 10).trans rfl, ((HC.out.drew.fr hf5 hbg).cell 11).trans rfl, ((HC.out.drew.fr hf5 hbg).cell 12).trans rfl⟩ (fun hHeld => ?_)
      clear hK K
      refine norm_ (a' := ?_) ?_ ?_
      rotate_left
      · show Act.put _ (some 45) _ = _
        simp only [Act.put, List.setIfInBounds_toArray, List.set_cons_zero, List.set_cons_succ, i64_w, i32_w]
        rfl
      refine pure_ (i := 2) (N := some 46) (v := ?_) (a' := ?_) #[true, true, true, false, false, false, false, false] rfl rfl (by kernel_rfl) (fun _ _ _ h => h) (Or.inl ⟨by rfl, ?_⟩) ?_ ?_
      rotate_left
      · intro w'
        go_simp
        with_reducible rfl
      rotate_left
      · simp only [Act.put, List.setIfInBounds_toArray, List.set_cons_zero, List.set_cons_succ, i64_w, i32_w]
        rfl
      refine pure_ (i := 3) (N := some 47) (v := ?_) (a' := ?_) #[true, true, true, true, false, false, false, false] rfl rfl (by kernel_rfl) (fun _ _ _ h => h) (Or.inl ⟨by rfl, ?_⟩) ?_ ?_
      rotate_left
      · intro w'
        go_simp
        with_reducible rfl
      rotate_left
      · simp only [Act.put, List.setIfInBounds_toArray, List.set_cons_zero, List.set_cons_succ, i64_w, i32_w]
        rfl
      refine take_ (i := 5) (N := some 49) (v := ?_) (a' := ?_) #[true, true, true, true, false, true, false, false] rfl rfl (by kernel_rfl) (fun _ _ _ h => h) (Or.inl ⟨by rfl, ?_⟩) hHeld ?_ ?_
      rotate_left
      · rintro w' ⟨s0, s1, s2, s3, s4, s5, s6, s7, s8, s9, s10, s11, s12⟩
        go_simp
        with_reducible rfl
      rotate_left
      · simp only [Act.put, List.setIfInBounds_toArray, List.set_cons_zero, List.set_cons_succ, i64_w, i32_w]
        rfl
      refine one_ (i := 4) (N := some 48) #[true, true, true, true, true, true, false, false] rfl rfl (by kernel_rfl) (by decide) (fun K hK => ?_)
      refine goes_ Try.func18 (by kernel_rfl) rfl #[.pointer (some ⟨g, 0, none⟩)] (by rfl) rfl rfl (by simp only [List.map_toArray, List.map_cons, List.map_nil]; rfl) ?_
      with_reducible refine (tally_v (.agg #[.int .i64 (s.came + 1), .int .i64 (s.frames), .int .i64 (s.gone 0), .int .i64 (s.gone 1), .int .i64 (s.gone 2), .int .i64 (s.gone 3 + 1), .int .i64 (s.gone 4), .int .i64 (s.gone 5), .int .i64 (s.gone 6), .int .i64 (s.gone 7), .int .i64 (s.gone 8), .int .i64 (s.held), .int .i64 (s.packets)]) g (s.lost 3) _ rfl (by exact hb5)).mono ?_
      rintro e w6 ⟨rfl, hw6⟩
      refine ⟨_, rfl, ?_⟩
      refine hK.out _ _ ⟨(((HC.out.drew.fr hf5 hbg).below hw6).cell 0).trans rfl, (((HC.out.drew.fr hf5 hbg).below hw6).cell 1).trans rfl, (((HC.out.drew.fr hf5 hbg).below hw6).cell 2).trans rfl, (((HC.out.drew.fr hf5 hbg).below hw6).cell 3).trans rfl, (((HC.out.drew.fr hf5 hbg).below hw6).cell 4).trans rfl, (((HC.out.drew.fr hf5 hbg).below hw6).cell 5).trans rfl, (((HC.out.drew.fr hf5 hbg).below hw6).cell 6).trans rfl, (((HC.out.drew.fr hf5 hbg).below hw6).cell 7).trans rfl, (((HC.out.drew.fr hf5 hbg).below hw6).cell 8).trans rfl, (((HC.out.drew.fr hf5 hbg).below hw6).cell 9).trans rfl, (((HC.out.drew.fr hf5 hbg).below hw6).cell 10).trans rfl, (((HC.out.drew.fr hf5 hbg).below hw6).cell 11).trans rfl, (((HC.out.drew.fr hf5 hbg).below hw6).cell 12).trans rfl⟩ (fun hHeld => ?_)
      clear hK K
      refine norm_ (a' := ?_) ?_ ?_
      rotate_left
      · show Act.put _ (some 48) _ = _
        simp only [Act.put, List.setIfInBounds_toArray, List.set_cons_zero, List.set_cons_succ, i64_w, i32_w]
        rfl
      refine pure_ (i := 6) (N := some 50) (v := ?_) (a' := ?_) #[true, true, true, true, true, true, true, false] rfl rfl (by kernel_rfl) (fun _ _ _ h => h) (Or.inl ⟨by rfl, ?_⟩) ?_ ?_
      rotate_left
      · intro w'
        go_simp
        with_reducible rfl
      rotate_left
      · simp only [Act.put, List.setIfInBounds_toArray, List.set_cons_zero, List.set_cons_succ, i64_w, i32_w]
        rfl
      refine pure_ (i := 7) (N := some 51) (v := ?_) (a' := ?_) #[true, true, true, true, true, true, true, true] rfl rfl (by kernel_rfl) (fun _ _ _ h => h) (Or.inl ⟨by rfl, ?_⟩) ?_ ?_
      rotate_left
      · intro w'
        go_simp
        with_reducible rfl
      rotate_left
      · simp only [Act.put, List.setIfInBounds_toArray, List.set_cons_zero, List.set_cons_succ, i64_w, i32_w]
        rfl
      refine done_ (by kernel_rfl) ?_
      go_wp2_with fail
      go_roundw
      case rel =>
        have B5 := Fr.to_below HL.out.drew hf5 HL.out.size (fun i e => by subst e; exact hgw)
        refine ⟨k + 1, by omega, by go_num, s.lost 3, hb5.below hw6, ?_, HHh.out, HM.out, B5.trans (hw6.mono B5.size)⟩
        have := HBn.out.lost 3
        push_cast
        rwa [Int.add_assoc] at this
      case measure => simp [intOf]; omega
end Go.Proofs.Ytpnmhhckmpeogaa
