/- FrameCut, walked. By this session. -/
import Derived.Test.YtepfjmmbjbfboaaFrameStill
namespace Go.Proofs.Ytepfjmmbjbfboaa.F
open Go.RowKit Go.Proofs.YtepfjmmbjbfboaaW.PrintWords Go.Proofs.YtepfjmmbjbfboaaW.PrintLast Go.Proofs.YtepfjmmbjbfboaaW.PrintMore
set_option linter.unusedVariables false
set_option linter.unusedSimpArgs false
theorem get_f {b : List Int} (ho : Oct b) (hl : b.length ≤ 20000) : ∃ k y e, getN b = ((k, y), e) ∧ frame_Get.f b = some ((k, y), e) := by
  refine ⟨(getN b).1.1, (getN b).1.2, (getN b).2, rfl, ?_⟩
  unfold frame_Get.f
  rw [if_pos ⟨ho, by omega⟩]
theorem ref_f {b : List Int} (ho : Oct b) (hl : b.length ≤ 20000) : ∃ y i, refopen b = (y, i) ∧ bowlineref02_Open.f b = some (y, i) := by
  refine ⟨(refopen b).1, (refopen b).2, rfl, ?_⟩
  unfold bowlineref02_Open.f
  rw [if_pos ⟨ho, by omega⟩]
/-- What is got of bytes is sealed. -/
theorem got_sealed {b : List Int} {k : Int} {y : List Int} {e : Int} {o : List Int} {i : Bool} (h : getN b = ((k, y), e)) (h2 : refopen b = (o, i)) : e ≠ 0 ∨ (i = true ∧ 8 ≤ b.length) := by
  rcases getN_cases b with ⟨_, h1⟩ | ⟨_, _, _, _, _, h3, h4⟩
  · left
    rw [h] at h1
    dsimp only at h1
    omega
  · right
    rw [h2] at h3
    exact ⟨h3, h4⟩
set_option maxHeartbeats 2000000 in
set_option maxRecDepth 100000 in
theorem cut_walk (k0 : Int) (A0 : Option Addr) (c0 : Nat) (l0 : List Int) (a1 a2 : Int) (b0 : (-9223372036854775808 : Int) ≤ k0 ∧ k0 ≤ 9223372036854775807) (b1 : 0 ≤ a1 ∧ a1 ≤ 65535) (b2 : 0 ≤ a2 ∧ a2 ≤ 255) (w : World) (hc0 : l0.length ≤ c0) (hr0 : Kd.C (Kd.int .u8) w A0 l0.length l0) (hg0 : l0.length + 4096 ≤ 140737488355328 ∧ Oct l0) :
    Calls Try.prog 8 #[.agg #[.int .i64 k0, .slice A0 l0.length c0], .int .u16 a1, .int .u8 a2] w fun e w' => e = .returned (.bool true) ∧ Below w.heap.size w w' := by
  have HC := Aside0.mk hc0; have HR := Aside0.mk hr0; have HO := Aside0.mk hg0.2
  clear hc0 hr0 hg0
  obtain ⟨p, hp⟩ : ∃ p, Aside0 (putN k0 l0 = p) := ⟨_, ⟨rfl⟩⟩
  have hpo := Aside0.mk (show Oct p from hp.out ▸ putN_oct k0 HO.out)
  have hz24 := zero_of (P := Try.prog) (t := 24) (z := .agg #[.int .i64 0, .slice none 0 0]) (by kernel_rfl)
  go_enter Try.func8, Try.ntmps8
  go_wp2_with fail
  have hB0 := (Below.refl w.heap.size w).alloc (Nat.le_refl _) (.cells #[.int .i64 k0, .slice A0 l0.length c0] 24)
  refine (head_walk _).mono ?_
  rintro e w1 ⟨rfl, hb1⟩
  have HF1 := Aside0.mk ((Blk.new w #[.int .i64 k0, .slice A0 l0.length c0] 24).below hb1)
  have B1 := Aside0.mk (hB0.trans (hb1.mono hB0.size))
  have HR1 := Aside0.mk (Kd.C_below HR.out B1.out)
  clear hb1 hB0 HR
  have hk0 := HF1.out.cell 0; have hk1 := HF1.out.cell 1
  go_wp2_with fail
  clear hk0 hk1
  refine (frame_Put.calls k0 A0 c0 l0 p _ HR1.out HC.out (by rw [← hp.out]; rfl)).mono ?_
  rintro e w2 ⟨v2, rfl, hR2, hb2⟩
  obtain ⟨A2, c2, rfl⟩ := Kd.R_slice hR2
  have B2 := Aside0.mk (B1.out.trans (hb2.mono B1.out.size))
  have HF2 := Aside0.mk (HF1.out.below hb2)
  have HP2 := Aside0.mk (Kd.R_reads' hR2)
  clear hb2 hR2 HF1 HR1
  have hk0 := HF2.out.cell 0; have hk1 := HF2.out.cell 1
  by_cases h3 : (3000 : Int) < (l0.length : Int)
  · have h3d : decide ((3000 : Int) < (l0.length : Int)) = true := decide_eq_true h3
    go_wp2_with fail
    go_ret
    exact ⟨rfl, B2.out⟩
  have h3d : decide ((3000 : Int) < (l0.length : Int)) = false := decide_eq_false h3
  by_cases hf : 1 ≤ k0 ∧ k0 ≤ 4 ∧ l0.length ≤ 2048
  case neg =>
    have hp0 : p = [] := by rw [← hp.out]; exact putN_no hf
    have hq0 : ((p.length : Int) == 0) = true := by rw [hp0]; rfl
    have hq1 : (p.length == 0) = true := by rw [hp0]; rfl
    clear hp0 hf
    go_wp2_with fail
    go_ret
    exact ⟨rfl, B2.out⟩
  have hpl := Aside0.mk (show 8 ≤ p.length ∧ p.length ≤ 2056 by rw [← hp.out, putN_len hf]; omega)
  have hq0 : ((p.length : Int) == 0) = false := beq_eq_false_iff_ne.mpr (by have := hpl.out; omega)
  have hq1 : (p.length == 0) = false := beq_eq_false_iff_ne.mpr (by have := hpl.out; omega)
  have hpz1 : ((p.length : Int) = 0) = False := eq_false (by have := hpl.out; omega)
  have hpz2 : (p.length = 0) = False := eq_false (by have := hpl.out; omega)
  have hpz3 : (p = []) = False := eq_false (fun e => by have := hpl.out; rw [e] at this; simp at this)
  obtain ⟨n, hn⟩ : ∃ n : Nat, Aside0 (n = a1.toNat % p.length) := ⟨_, ⟨rfl⟩⟩
  have hnl := Aside0.mk (show n < p.length by rw [hn.out]; exact Nat.mod_lt _ (by have := hpl.out; omega))
  have hwa : IntKind.i64.wrap a1 = a1 := IntWalk.i64_in _ (by omega)
  have hmod : Int.tmod a1 (p.length : Int) = (n : Int) := by
    rw [Int.tmod_eq_emod_of_nonneg b1.1, hn.out]
    have : a1 = ((a1.toNat : Nat) : Int) := by omega
    rw [this]; rfl
  obtain ⟨x, hx⟩ : ∃ x, Aside0 (p.take n = x) := ⟨_, ⟨rfl⟩⟩
  have hxl := Aside0.mk (show x.length = n by rw [← hx.out, List.length_take]; have := hnl.out; omega)
  have hcut : ∀ W : World, (Instr.slice 22 (.slice A2 p.length c2) none (some (.int .i64 (n : Int))) none).run Try.prog W = .ok (.slice A2 x.length c2) W := by
    obtain ⟨i0, hi0, hz1, hsz0, hz2⟩ := info_parts info5
    intro W
    have := cut_to (P := Try.prog) 22 5 .i64 Try.underlying22 hi0 A2 p.length c2 (n : Int) (by omega) (by have := hnl.out; omega) HP2.out.2.1 W
    rw [show ((n : Int)).toNat = x.length by have := hxl.out; omega] at this
    exact this
  have HX := Aside0.mk (fun (W : World) (hb : Below w2.heap.size w2 W) => (show Kd.C (Kd.int .u8) W A2 x.length x by
    have := Kd.C_take (Kd.C_below HP2.out.2.2 hb) (m := n) (by have := hnl.out; omega)
    rw [hx.out] at this
    exact this))
  have hxc := Aside0.mk (show x.length ≤ c2 by have := hxl.out; have := hnl.out; have := HP2.out.2.1; omega)
  have hxo := Aside0.mk (show Oct x from hx.out ▸ hpo.out.take _)
  obtain ⟨kx, bx, ex, hgx, hgxf⟩ := get_f hxo.out (by have := hxl.out; have := hnl.out; have := hpl.out; omega)
  obtain ⟨ox, ix, hox, hoxf⟩ := ref_f hxo.out (by have := hxl.out; have := hnl.out; have := hpl.out; omega)
  have hsx := Aside0.mk (got_sealed hgx hox)
  have HGX := Aside0.mk (And.intro hgxf hoxf)
  obtain ⟨y, hy⟩ : ∃ y, Aside0 (p ++ [a2] = y) := ⟨_, ⟨rfl⟩⟩
  have hyo := Aside0.mk (show Oct y from hy.out ▸ hpo.out.append (fun z hz => by rw [List.mem_singleton.1 hz]; omega))
  have hyl := Aside0.mk (show y.length = p.length + 1 by rw [← hy.out]; simp)
  obtain ⟨ky, by_, ey, hgy, hgyf⟩ := get_f hyo.out (by have := hyl.out; have := hpl.out; omega)
  obtain ⟨oy, iy, hoy, hoyf⟩ := ref_f hyo.out (by have := hyl.out; have := hpl.out; omega)
  have hsy := Aside0.mk (got_sealed hgy hoy)
  have HGY := Aside0.mk (And.intro hgyf hoyf)
  clear hf hgx hgxf hox hoxf hgy hgyf hoy hoyf
  go_wp2_with fail
  clear hk0 hk1 hcut hmod hwa h3 h3d
  refine (frame_Get.calls A2 c2 x kx bx ex _ (HX.out _ (Below.refl _ _)) hxc.out HGX.out.1).mono ?_
  rintro e w3 ⟨A3, c3, rfl, _, _, _, hb3⟩
  have D3 := Aside0.mk (hb3.alloc hb3.size (.cells #[.int .i64 kx, .slice A3 bx.length c3] 24))
  clear hb3
  go_wp2_with fail
  refine (bowlineref02_Open.calls A2 c2 x ox ix _ (HX.out _ D3.out) hxc.out HGX.out.2).mono ?_
  rintro e w4 ⟨v4, rfl, hR4, hb4⟩
  obtain ⟨A4, c4, rfl⟩ := Kd.R_slice hR4
  have D4 := Aside0.mk (D3.out.trans (hb4.mono D3.out.size))
  clear hR4 hb4
  go_wp2_with (first
    | ((with_reducible refine gate_dst (N := 49) rfl ?_); refine Kd.R_lit (Kd.int .u8) (w0 := w4) w4.heap.size 5 ?hg (N := 49) ?hd (xs := ([] : List Int)) (inner := []) (ok := fun _ => True) (okp := fun _ => True) ?hr ?hp (fun _ hk => hk) trivial (Below.refl _ _) (Nat.le_refl _) (by simp) ?_; (case hd => rfl); (case hg => rfl); (case hr => first | (go_simp; done) | (go_simp; rfl)); (case hp => exact (Reps.none _ _)); intro v5 w5 ho5 hb5 hg_ hnew_; clear hg_ hnew_; have HO5 := Aside0.mk ho5; have HB5 := Aside0.mk hb5; clear ho5 hb5)
    | ((with_reducible refine gate_builtin (b := .append) (xs := #[.tmp 49, .tmp 50]) rfl ?_); at_builtin; refine Kd.R_append_rows (Kd.int .u8) (w0 := w4) w4.heap.size rfl (.tmp 49) (.tmp 50) 22 5 (.int .u8 0) 1 rfl Try.underlying22 info5 rfl (by decide) (by omega) v5 [] p _ _ _ (fun _ => True) (fun _ => False) rfl rfl HO5.out (Kd.C_below HP2.out.2.2 (D4.out.trans (HB5.out.mono D4.out.size))) (fun _ _ h => h) (fun _ h => h.elim) (fun _ _ => trivial) HB5.out HB5.out.size (by have := hpl.out; simp; omega) ?_; intro v6 w6 ho hb hg hat; have HO6 := Aside0.mk ho; have HB6 := Aside0.mk hb; clear ho hb hg hat; rw [List.nil_append] at HO6)
    | ((with_reducible refine gate_builtin (b := .append) (xs := #[.tmp 51, .tmp 53]) rfl ?_); at_builtin; refine Kd.R_append_rows (Kd.int .u8) (w0 := w4) w4.heap.size rfl (.tmp 51) (.tmp 53) 22 5 (.int .u8 0) 1 rfl Try.underlying22 info5 rfl (by decide) (by omega) v6 p [a2] _ _ _ (fun _ => True) (fun _ => False) rfl rfl (Kd.R_alloc HO6.out (.cells #[.int .u8 a2] 5)) (lit_C w6 [a2] 5 (0, 0) _ rfl (by simp) (w6.alloc (.cells #[.int .u8 a2] 5)) (Below.refl _ _)) (fun _ _ h => h) (fun _ h => h.elim) (fun _ _ => trivial) (HB6.out.alloc HB6.out.size (.cells #[.int .u8 a2] 5)) (HB6.out.alloc HB6.out.size (.cells #[.int .u8 a2] 5)).size (by have := hpl.out; simp; omega) ?_; intro v8 w8 ho hb hg hat; have HO8 := Aside0.mk ho; have HB8 := Aside0.mk hb; clear ho hb hg hat; rw [hy.out] at HO8; obtain ⟨A8, c8, e8⟩ := Kd.R_slice HO8.out; subst e8))
  have D8 := Aside0.mk (D4.out.trans (HB8.out.mono D4.out.size))
  have HY := Aside0.mk (Kd.R_reads' HO8.out)
  clear HO5 HB5 HO6 HB6 HO8 HB8
  refine (frame_Get.calls A8 c8 y ky by_ ey _ HY.out.2.2 HY.out.2.1 HGY.out.1).mono ?_
  rintro e w9 ⟨A9, c9, rfl, _, _, _, hb9⟩
  have E9 := Aside0.mk (hb9.alloc hb9.size (.cells #[.int .i64 ky, .slice A9 by_.length c9] 24))
  clear hb9
  go_wp2_with fail
  refine (bowlineref02_Open.calls A8 c8 y oy iy _ (Kd.C_below HY.out.2.2 E9.out) HY.out.2.1 HGY.out.2).mono ?_
  rintro e w10 ⟨v10, rfl, hR10, hb10⟩
  have B10 := Aside0.mk (B2.out.trans ((D8.out.trans ((E9.out.trans (hb10.mono E9.out.size)).mono D8.out.size)).mono B2.out.size))
  obtain ⟨A10, c10, rfl⟩ := Kd.R_slice hR10
  clear hR10 hb10
  have key : ∀ (e : Int) (i : Bool) (n : Nat), (e ≠ 0 ∨ (i = true ∧ 8 ≤ n)) → (((e = 0) = False ∧ (e == 0) = false ∧ (e != 0) = true) ∨ (e = 0 ∧ i = true ∧ decide ((8 : Int) ≤ (n : Int)) = true ∧ decide (8 ≤ n) = true ∧ (8 ≤ n) = True)) := by
    intro e i n h
    by_cases he : e = 0
    · rcases h with h | ⟨h1, h2⟩
      · exact absurd he h
      · exact .inr ⟨he, h1, decide_eq_true (by omega), decide_eq_true h2, eq_true h2⟩
    · exact .inl ⟨eq_false he, beq_eq_false_iff_ne.mpr he, bne_iff_ne.mpr he⟩
  rcases key ex ix x.length hsx.out with ⟨h1, h2, h3⟩ | ⟨rfl, rfl, h2, h2', h2''⟩ <;> rcases key ey iy y.length hsy.out with ⟨h4, h5, h6⟩ | ⟨rfl, rfl, _, _, _⟩
  all_goals
    clear key
    go_wp2_with fail
    go_ret
    exact ⟨rfl, B10.out⟩
end Go.Proofs.Ytepfjmmbjbfboaa.F
