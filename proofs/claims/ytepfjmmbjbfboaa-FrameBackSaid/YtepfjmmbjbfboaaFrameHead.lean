/- The live question of layer 4, walked. By this session. -/
import Derived.Test.YtepfjmmbjbfboaaFrameGet
import Derived.Test.YtepfjmmbjbfboaaF6
import Derived.Lib.SmallJoins
import Derived.Lib.SlBytesConst
namespace Go.Proofs.Ytepfjmmbjbfboaa.F
open Go.RowKit Go.Proofs.YtepfjmmbjbfboaaW.PrintWords Go.Proofs.YtepfjmmbjbfboaaW.PrintLast Go.Proofs.YtepfjmmbjbfboaaW.PrintMore
set_option linter.unusedVariables false
set_option linter.unusedSimpArgs false
def hdB : List Int := [255, 3, 0, 61, 97, 98] ++ (Crc.four (Crc.sum [255, 3, 0, 61, 97, 98])).map Int.ofNat
def hdS : List Int := [255, 3, 0, 0] ++ (Crc.four (Crc.sum [255, 3, 0, 0])).map Int.ofNat
theorem hd_put : frame_Put.f 1 [97, 98] = some hdB := by kernel_rfl
theorem hd_put0 : frame_Put.f 0 [] = some [] := by kernel_rfl
theorem hd_len : hdB.length = 10 := by kernel_rfl
theorem hd_get : frame_Get.f hdB = some ((1, [97, 98]), 0) := by kernel_rfl
theorem hd_get7 : frame_Get.f (hdB.take 7) = some ((0, []), 41) := by kernel_rfl
theorem hd_get8 : frame_Get.f (List.replicate 8 0) = some ((0, []), 42) := by kernel_rfl
theorem hd_seal : bowlineref02_Seal.f 50 [255, 3, 0, 0] = some hdS := by kernel_rfl
theorem hd_getS : frame_Get.f hdS = some ((0, []), 43) := by kernel_rfl
theorem oct_zeros (n : Nat) : Oct (List.replicate n 0) := fun x hx => by rw [(List.mem_replicate.1 hx).2]; decide
theorem hd_getL : frame_Get.f (List.replicate 2057 0) = some ((0, []), 2) := by
  unfold frame_Get.f getN
  have hl : (List.replicate 2057 (0 : Int)).length = 2057 := List.length_replicate
  rw [if_pos ⟨oct_zeros _, by rw [hl]; decide⟩, hl, if_neg (by decide), if_pos (by decide)]
/-- A struct laid into a variable of its own. -/
theorem box_facts {w W : World} (hB : Below w.heap.size w W) (cs : Array Value) (z : Array Value) (t : TypeId) : Below w.heap.size w ((W.alloc (.cells z t)).setRow W.heap.size cs) ∧ Below W.heap.size W ((W.alloc (.cells z t)).setRow W.heap.size cs) ∧ Blk ((W.alloc (.cells z t)).setRow W.heap.size cs) W.heap.size cs t := by
  have h2 := below_setRow ((Below.refl W.heap.size W).alloc (Nat.le_refl _) (.cells z t)) (Nat.le_refl _) cs
  exact ⟨hB.trans (h2.mono hB.size), h2, setRow_heap _ _ _ _ _ _ (Blk.new _ _ _)⟩
def headF : Option Bool := some true
set_option maxHeartbeats 2000000 in
set_option maxRecDepth 100000 in
theorem head_walk (w : World) : Calls Try.prog 10 #[] w fun e w' => e = .returned (.bool true) ∧ Below w.heap.size w w' := by
  have kc := fun (W : World) (C : Array Value) (n c g : Nat) (hg : g = W.heap.size) => Go.Joins.run_convert_bytes_const_at (P := Try.prog) W 22 5 C n c g hg Try.underlying22 Try.underlying5
  have hz24 := zero_of (P := Try.prog) (t := 24) (z := .agg #[.int .i64 0, .slice none 0 0]) (by kernel_rfl)
  have hi24 := Aside0.mk (show (Try.prog.info? 24).map (·.size) = some 2 by kernel_rfl)
  obtain ⟨b, hb⟩ : ∃ b, Aside0 (hdB = b) := ⟨_, ⟨rfl⟩⟩
  have hbl := Aside0.mk (show b.length = 10 by rw [← hb.out]; exact hd_len)
  obtain ⟨b7, hb7⟩ : ∃ x, Aside0 (b.take 7 = x) := ⟨_, ⟨rfl⟩⟩
  obtain ⟨b6, hb6⟩ : ∃ x, Aside0 (b.take 6 = x) := ⟨_, ⟨rfl⟩⟩
  have hb6s : strOfNums b6 = ⟨#[255, 3, 0, 61, 97, 98]⟩ := by rw [← hb6.out, ← hb.out]; rfl
  go_enter Try.func10, Try.ntmps10
  go_wp2_with fail
  have hcl := lit_C w [97, 98] 5 (2, 3) _ rfl (by decide) _ (Below.refl _ _)
  refine (frame_Put.calls 1 (some ⟨w.heap.size, 0, none⟩) 2 [97, 98] b _ (by exact hcl) (by decide) (by rw [← hb.out]; exact hd_put)).mono ?_
  rintro e w1 ⟨v1, rfl, hR1, hb1⟩
  obtain ⟨A1, c1, rfl⟩ := Kd.R_slice hR1
  have B1 := Aside0.mk (((Below.refl w.heap.size w).alloc (Nat.le_refl _) _).trans (hb1.mono (by simp)))
  have HC1 := Aside0.mk (Kd.R_reads' hR1)
  clear hb1 hR1 hcl
  have hq10 : ((b.length : Int) == 10) = true := beq_iff_eq.mpr (by have := hbl.out; omega)
  have hn10 : ((b.length : Int) != 10) = false := bne_eq_false_iff_eq.mpr (by have := hbl.out; omega)
  have hn10' : (!((b.length : Int) == 10)) = false := by rw [hq10]; rfl
  go_wp2_with fail
  obtain ⟨y, hy⟩ : ∃ y : List Int, Aside0 ([97, 98] = y) := ⟨_, ⟨rfl⟩⟩
  obtain ⟨z, hz⟩ : ∃ z : List Int, Aside0 ([] = z) := ⟨_, ⟨rfl⟩⟩
  have hys : strOfNums y = ⟨#[97, 98]⟩ := by rw [← hy.out]; rfl
  refine (frame_Get.calls A1 c1 b 1 y 0 _ HC1.out.2.2 HC1.out.2.1 (by rw [← hb.out, ← hy.out]; exact hd_get)).mono ?_
  rintro e w2 ⟨A2, c2, rfl, hl2, hC2, _, hb2⟩
  have B2 := Aside0.mk (B1.out.trans (hb2.mono B1.out.size))
  have HCb2 := Aside0.mk (Kd.C_below HC1.out.2.2 hb2)
  have HC2 := Aside0.mk hC2
  have hct7 : ∀ W : World, (Instr.slice 22 (.slice A1 b.length c1) none (some (.int .i64 7)) none).run Try.prog W = .ok (.slice A1 b7.length c1) W := by
    obtain ⟨i0, hi0, hz1, hsz0, hz2⟩ := info_parts info5
    intro W
    have := cut_to (P := Try.prog) 22 5 .i64 Try.underlying22 hi0 A1 b.length c1 7 (by omega) (by have := hbl.out; omega) HC1.out.2.1 W
    rw [show ((7 : Int)).toNat = b7.length by rw [← hb7.out, List.length_take]; have := hbl.out; omega] at this
    exact this
  have hct6 : ∀ W : World, (Instr.slice 22 (.slice A1 b.length c1) none (some (.int .i64 6)) none).run Try.prog W = .ok (.slice A1 b6.length c1) W := by
    obtain ⟨i0, hi0, hz1, hsz0, hz2⟩ := info_parts info5
    intro W
    have := cut_to (P := Try.prog) 22 5 .i64 Try.underlying22 hi0 A1 b.length c1 6 (by omega) (by have := hbl.out; omega) HC1.out.2.1 W
    rw [show ((6 : Int)).toNat = b6.length by rw [← hb6.out, List.length_take]; have := hbl.out; omega] at this
    exact this
  have hc7 := Aside0.mk (show b7.length ≤ c1 by rw [← hb7.out, List.length_take]; have := HC1.out.2.1; omega)
  clear hb2 hC2 hl2
  go_wp2_with (refine wpList_store_row rfl 24 (.tmp 2) (.tmp 22) rfl w2.heap.size #[.int .i64 1, .slice A2 y.length c2] rfl rfl 24 #[.int .i64 0, .slice none 0 0] (Blk.new _ _ _) hi24.out rfl (by kernel_rfl) ?_; have X2 := box_facts B2.out #[.int .i64 1, .slice A2 y.length c2] #[.int .i64 0, .slice none 0 0] 24; generalize (w2.alloc (.cells #[.int .i64 0, .slice none 0 0] 24)).setRow w2.heap.size #[.int .i64 1, .slice A2 y.length c2] = W2 at X2 ⊢; have XB2 := Aside0.mk X2.1; have XD2 := Aside0.mk X2.2.1; have XK2 := Aside0.mk X2.2.2; clear X2)
  have HCb7 := Aside0.mk (show Kd.C (Kd.int .u8) W2 A1 b7.length b7 by have := Kd.C_take (Kd.C_below HCb2.out XD2.out) (m := 7) (by have := hbl.out; omega); rw [hb7.out] at this; exact this)
  refine (frame_Get.calls A1 c1 b7 0 z 41 _ HCb7.out hc7.out (by rw [← hb7.out, ← hb.out, ← hz.out]; exact hd_get7)).mono ?_
  rintro e w3 ⟨A3, c3, rfl, _, _, _, hb3⟩
  have B3 := Aside0.mk (XB2.out.trans (hb3.mono XB2.out.size))
  have K3 := Aside0.mk (XK2.out.below hb3)
  have HCb3 := Aside0.mk (Kd.C_below HCb2.out (XD2.out.trans (hb3.mono XD2.out.size)))
  have HCy3 := Aside0.mk (Kd.C_below HC2.out (XD2.out.trans (hb3.mono XD2.out.size)))
  clear hb3 XK2 XB2 HCb2 HCb7 HC2
  go_wp2_with (first
    | (refine wpList_store_row rfl 24 (.tmp 4) (.tmp 28) rfl w3.heap.size #[.int .i64 0, .slice A3 z.length c3] rfl rfl 24 #[.int .i64 0, .slice none 0 0] (Blk.new _ _ _) hi24.out rfl (by kernel_rfl) ?_; have X3 := box_facts B3.out #[.int .i64 0, .slice A3 z.length c3] #[.int .i64 0, .slice none 0 0] 24; generalize (w3.alloc (.cells #[.int .i64 0, .slice none 0 0] 24)).setRow w3.heap.size #[.int .i64 0, .slice A3 z.length c3] = W3 at X3 ⊢; have XB3 := Aside0.mk X3.1; have XD3 := Aside0.mk X3.2.1; have XK3 := Aside0.mk X3.2.2; clear X3)
    | ((with_reducible refine gate_dst (N := 31) rfl ?_); refine Kd.R_make (Kd.int .u8) (w0 := W3) W3.heap.size 5 rfl rfl 22 (.const (.int .i64 8)) (.const (.int .i64 8)) rfl 8 rfl rfl Try.underlying22 (.int .u8 0) 1 info5 rfl (by decide) (by omega) (0 : Int) (ok := fun _ => True) (okp := fun _ => True) rfl (fun _ h => h) trivial (by decide) (by decide) (Below.refl _ _) (Nat.le_refl _) ?_; intro v4 w4 hR hB hg hat; have HR4 := Aside0.mk hR; have HB4 := Aside0.mk hB; obtain ⟨A4, c4, e4⟩ := Kd.R_slice hR; subst e4; clear hR hB hg hat))
  refine (frame_Get.calls A4 c4 (List.replicate 8 0) 0 z 42 _ (Kd.R_reads' HR4.out).2.2 (Kd.R_reads' HR4.out).2.1 (by rw [← hz.out]; exact hd_get8)).mono ?_
  rintro e w5 ⟨A5, c5, rfl, _, _, _, hb5⟩
  have D5 := Aside0.mk (XD3.out.trans ((HB4.out.trans (hb5.mono HB4.out.size)).mono XD3.out.size))
  have B5 := Aside0.mk (B3.out.trans (D5.out.mono B3.out.size))
  have K5 := Aside0.mk (K3.out.below D5.out)
  have HCb5 := Aside0.mk (Kd.C_below HCb3.out D5.out)
  have HCy5 := Aside0.mk (Kd.C_below HCy3.out D5.out)
  clear hb5 D5 XK3 XB3 XD3 K3 HCb3 HCy3 HR4 HB4
  go_wp2_with (refine wpList_store_row rfl 24 (.tmp 6) (.tmp 33) rfl w5.heap.size #[.int .i64 0, .slice A5 z.length c5] rfl rfl 24 #[.int .i64 0, .slice none 0 0] (Blk.new _ _ _) hi24.out rfl (by kernel_rfl) ?_; have X5 := box_facts B5.out #[.int .i64 0, .slice A5 z.length c5] #[.int .i64 0, .slice none 0 0] 24; generalize (w5.alloc (.cells #[.int .i64 0, .slice none 0 0] 24)).setRow w5.heap.size #[.int .i64 0, .slice A5 z.length c5] = W5 at X5 ⊢; have XB5 := Aside0.mk X5.1; have XD5 := Aside0.mk X5.2.1; have XK5 := Aside0.mk X5.2.2; clear X5)
  refine (bowlineref02_Seal.calls 50 (some ⟨W5.heap.size, 0, none⟩) 4 [255, 3, 0, 0] hdS _ (by exact lit_C W5 [255, 3, 0, 0] 5 (0, 0) _ rfl (by decide) _ (Below.refl _ _)) (by decide) hd_seal).mono ?_
  rintro e w6 ⟨v6, rfl, hR6, hb6'⟩
  obtain ⟨A6, c6, rfl⟩ := Kd.R_slice hR6
  have D6 := Aside0.mk (((Below.refl W5.heap.size W5).alloc (Nat.le_refl _) (.cells #[.int .u8 255, .int .u8 3, .int .u8 0, .int .u8 0] 5)).trans (hb6'.mono (by simp)))
  have HR6 := Aside0.mk (Kd.R_reads' hR6)
  clear hb6' hR6
  go_wp2_with fail
  refine (frame_Get.calls A6 c6 hdS 0 z 43 _ HR6.out.2.2 HR6.out.2.1 (by rw [← hz.out]; exact hd_getS)).mono ?_
  rintro e w7 ⟨A7, c7, rfl, _, _, _, hb7'⟩
  have D7 := Aside0.mk (XD5.out.trans ((D6.out.trans (hb7'.mono D6.out.size)).mono XD5.out.size))
  have B7 := Aside0.mk (B5.out.trans (D7.out.mono B5.out.size))
  have K7 := Aside0.mk (K5.out.below D7.out)
  have HCb7 := Aside0.mk (Kd.C_below HCb5.out D7.out)
  have HCy7 := Aside0.mk (Kd.C_below HCy5.out D7.out)
  clear hb7' D6 D7 HR6 XK5 XB5 XD5 K5 HCb5 HCy5 B5
  go_wp2_with (first
    | (refine wpList_store_row rfl 24 (.tmp 8) (.tmp 39) rfl w7.heap.size #[.int .i64 0, .slice A7 z.length c7] rfl rfl 24 #[.int .i64 0, .slice none 0 0] (Blk.new _ _ _) hi24.out rfl (by kernel_rfl) ?_; have X7 := box_facts B7.out #[.int .i64 0, .slice A7 z.length c7] #[.int .i64 0, .slice none 0 0] 24; generalize (w7.alloc (.cells #[.int .i64 0, .slice none 0 0] 24)).setRow w7.heap.size #[.int .i64 0, .slice A7 z.length c7] = W7 at X7 ⊢; have XB7 := Aside0.mk X7.1; have XD7 := Aside0.mk X7.2.1; have XK7 := Aside0.mk X7.2.2; clear X7)
    | ((with_reducible refine gate_dst (N := 42) rfl ?_); refine Kd.R_make (Kd.int .u8) (w0 := W7) W7.heap.size 5 rfl rfl 22 (.const (.int .i64 2057)) (.const (.int .i64 2057)) rfl 2057 rfl rfl Try.underlying22 (.int .u8 0) 1 info5 rfl (by decide) (by omega) (0 : Int) (ok := fun _ => True) (okp := fun _ => True) rfl (fun _ h => h) trivial (by decide) (by decide) (Below.refl _ _) (Nat.le_refl _) ?_; intro v8 w8 hR hB hg hat; have HR8 := Aside0.mk hR; have HB8 := Aside0.mk hB; obtain ⟨A8, c8, e8⟩ := Kd.R_slice hR; subst e8; clear hR hB hg hat))
  refine (frame_Get.calls A8 c8 (List.replicate 2057 0) 0 z 2 _ (Kd.R_reads' HR8.out).2.2 (Kd.R_reads' HR8.out).2.1 (by rw [← hz.out]; exact hd_getL)).mono ?_
  rintro e w9 ⟨A9, c9, rfl, _, _, _, hb9⟩
  have D9 := Aside0.mk (XD7.out.trans ((HB8.out.trans (hb9.mono HB8.out.size)).mono XD7.out.size))
  have B9 := Aside0.mk (B7.out.trans (D9.out.mono B7.out.size))
  have K9 := Aside0.mk (K7.out.below D9.out)
  have HCb9 := Aside0.mk (Kd.C_below HCb7.out D9.out)
  have HCy9 := Aside0.mk (Kd.C_below HCy7.out D9.out)
  clear hb9 D9 HR8 HB8 XK7 XB7 XD7 K7 HCb7 HCy7 B7
  go_wp2_with (refine wpList_store_row rfl 24 (.tmp 10) (.tmp 44) rfl w9.heap.size #[.int .i64 0, .slice A9 z.length c9] rfl rfl 24 #[.int .i64 0, .slice none 0 0] (Blk.new _ _ _) hi24.out rfl (by kernel_rfl) ?_; have X9 := box_facts B9.out #[.int .i64 0, .slice A9 z.length c9] #[.int .i64 0, .slice none 0 0] 24; generalize (w9.alloc (.cells #[.int .i64 0, .slice none 0 0] 24)).setRow w9.heap.size #[.int .i64 0, .slice A9 z.length c9] = W9 at X9 ⊢; have XB9 := Aside0.mk X9.1; have XD9 := Aside0.mk X9.2.1; have XK9 := Aside0.mk X9.2.2; clear X9; have HW9 := Kd.C_below HCb9.out XD9.out; have hC6 := Kd.C_take HW9 (m := 6) (by have := hbl.out; omega); rw [hb6.out] at hC6; have hcv6 := Kd.C_string (P := Try.prog) (c := c1) Try.underlying22 Try.underlying5 Try.underlying9 hC6; have hcvy := Kd.C_string (P := Try.prog) (c := c2) Try.underlying22 Try.underlying5 Try.underlying9 (Kd.C_below HCy9.out XD9.out); have hk0 := (K9.out.below XD9.out).cell 0; have hk1 := (K9.out.below XD9.out).cell 1; rw [hb6s] at hcv6; rw [hys] at hcvy; clear HW9 hC6)
  refine (frame_Put.calls 0 none 0 [] [] _ (Kd.C_nil _ _) (Nat.le_refl _) hd_put0).mono ?_
  rintro e w10 ⟨v10, rfl, hR10, hb10⟩
  obtain ⟨A10, c10, rfl⟩ := Kd.R_slice hR10
  have B10 := Aside0.mk (XB9.out.trans (hb10.mono XB9.out.size))
  clear hR10 hb10
  go_wp2_with fail
  go_ret
  exact ⟨rfl, B10.out⟩
end Go.Proofs.Ytepfjmmbjbfboaa.F
