-- A text out of a program of this session's. Not trusted: Lean checks it.
import Derived.Test.YtjpaoinlekkakaaF0
import Derived.Test.YtjpaoinlekkakaaF2
import Derived.Test.YtjpaoinlekkakaaF4
import Derived.Test.YtjpaoinlekkakaaF5
import Derived.Lib.SmallJoins
import Derived.Lib.SlBytesConst
import Derived.Test.YtjpaoinlekkakaaCrc
namespace Go.Proofs.Ytjpaoinlekkakaa.F
open Go.RowKit Go.Proofs.YtjpaoinlekkakaaW.PrintWords Go.Proofs.YtjpaoinlekkakaaW.PrintLast Go.Proofs.YtjpaoinlekkakaaW.PrintMore
attribute [local go_sem] max2_int min2_int max_two min_two max_three min_three max_four min_four   -- for this text's walks alone
set_option linter.unusedVariables false
set_option linter.unusedSimpArgs false

/-! ### bowlinelaw02_head: function 9 (given) -/
-- GIVEN rounds=0 making=1
-- IMPORTS Derived.Lib.SmallJoins,Derived.Lib.SlBytesConst,Derived.Test.YtjpaoinlekkakaaCrc
def bowlinelaw02_head.f : Option Bool := some true
def headD : List Int := [49, 50, 51, 52, 53, 54, 55, 56, 57]
def headS : List Int := [49, 50, 51, 52, 53, 54, 55, 56, 57, 38, 57, 244, 203]
theorem headN_1 : fcs_Seal.f headD = some headS := by kernel_rfl
theorem headN_2 : fcs_Open.f headS = some (headD, true) := by kernel_rfl
theorem headN_3 : fcs_Open.f [1, 2, 3] = some ([], false) := by kernel_rfl
theorem headN_4 : fcs_Sum.f headD = some 3421780262 := by kernel_rfl
theorem headN_5 : fcs_Sum.f [] = some 0 := by kernel_rfl
set_option maxHeartbeats 1000000 in
set_option maxRecDepth 100000 in
theorem bowlinelaw02_head.calls (r : Bool) (w : World) (h : bowlinelaw02_head.f = some r) :
    Calls Try.prog 9 #[] w fun e w' => e = .returned (.bool r) ∧ Below w.heap.size w w' := by
  obtain rfl : true = r := Option.some.inj h
  clear h
  have kc := fun (W : World) (C : Array Value) (n c g : Nat) (hg : g = W.heap.size) => Go.Joins.run_convert_bytes_const_at (P := Try.prog) W 22 5 C n c g hg Try.underlying22 Try.underlying5
  go_enter Try.func9, Try.ntmps9
  go_wp2_with fail
  refine (fcs_Seal.calls (some ⟨w.heap.size, 0, none⟩) 9 headD headS _ (by exact lit_C w headD 5 (9, 10) _ rfl (by decide) _ (Below.refl _ _)) (by decide) headN_1).mono ?_
  rintro e w1 ⟨v1, rfl, hR1, hb1⟩
  obtain ⟨A1, c1, rfl⟩ := Kd.R_slice hR1
  rw [show headS.length = 13 from rfl] at hR1
  have B1 := Aside0.mk (((Below.refl w.heap.size w).alloc (Nat.le_refl _) _).trans (hb1.mono (by simp)))
  have HC1 := Aside0.mk (Kd.R_reads' hR1)
  clear hb1 hR1
  go_wp2_with fail
  refine (fcs_Open.calls A1 c1 headS headD true _ HC1.out.2.2 HC1.out.2.1 headN_2).mono ?_
  rintro e w2 ⟨v2, rfl, hR2, hb2⟩
  obtain ⟨A2, c2, rfl⟩ := Kd.R_slice hR2
  have B2 := Aside0.mk (B1.out.trans (hb2.mono B1.out.size))
  have HC1b := Aside0.mk (Kd.C_below HC1.out.2.2 hb2)
  have HC2 := Aside0.mk (Kd.R_reads' hR2).2.2
  clear hb2 hR2 B1 HC1
  go_wp2_with fail
  refine (fcs_Open.calls (some ⟨w2.heap.size, 0, none⟩) 3 [1, 2, 3] [] false _ (by exact lit_C w2 [1, 2, 3] 5 (0, 0) _ rfl (by decide) _ (Below.refl _ _)) (by decide) headN_3).mono ?_
  rintro e w3 ⟨v3, rfl, hR3, hb3⟩
  have hbb := ((Below.refl w2.heap.size w2).alloc (Nat.le_refl _) (.cells #[Value.int .u8 1, Value.int .u8 2, Value.int .u8 3] 5)).trans (hb3.mono (by simp))
  have B3 := Aside0.mk (B2.out.trans (hbb.mono B2.out.size))
  have HC1c := Aside0.mk (Kd.C_below HC1b.out hbb)
  have HC2b := Aside0.mk (Kd.C_below HC2.out hbb)
  clear hb3 hbb hR3 B2 HC1b HC2
  go_wp2_with fail
  refine (fcs_Sum.calls (some ⟨w3.heap.size, 0, none⟩) 9 headD 3421780262 _ (by exact lit_C w3 headD 5 (9, 10) _ rfl (by decide) _ (Below.refl _ _)) (by decide) headN_4).mono ?_
  rintro e w4 ⟨rfl, hb4⟩
  have hbb := ((Below.refl w3.heap.size w3).alloc (Nat.le_refl _) (.cells #[.int .u8 49, .int .u8 50, .int .u8 51, .int .u8 52, .int .u8 53, .int .u8 54, .int .u8 55, .int .u8 56, .int .u8 57] 5 (9, 10))).trans (hb4.mono (by simp))
  have B4 := Aside0.mk (B3.out.trans (hbb.mono B3.out.size))
  have HC1d := Aside0.mk (Kd.C_below HC1c.out hbb)
  have HC2c := Aside0.mk (Kd.C_below HC2b.out hbb)
  clear hb4 hbb B3 HC1c HC2b
  go_wp2_with fail
  refine (fcs_Sum.calls none 0 [] 0 _ (Kd.C_nil _ _) (Nat.le_refl _) headN_5).mono ?_
  rintro e w5 ⟨rfl, hb5⟩
  have B5 := Aside0.mk (B4.out.trans (hb5.mono B4.out.size))
  have hC1 := Kd.C_below HC1d.out hb5
  have hC2 := Kd.C_below HC2c.out hb5
  clear hb5 B4 HC1d HC2c
  have hg9 := Kd.C_get hC1 0 9 (by decide) (by decide)
  have hg12 := Kd.C_get hC1 0 12 (by decide) (by decide)
  obtain ⟨ad, cs, rfl, _, hK, hcc⟩ := hg9
  have hK' : cs = [.int .u8 38] := hK
  subst hK'
  have q9 : w5.cell? ⟨ad.block, ad.off + 9, none⟩ = some (.int .u8 38) := hcc 0 _ rfl
  clear hK hcc
  obtain ⟨ad', cs, he, _, hK, hcc⟩ := hg12
  obtain rfl := Option.some.inj he
  have hK' : cs = [.int .u8 203] := hK
  subst hK'
  have q12 : w5.cell? ⟨ad.block, ad.off + 12, none⟩ = some (.int .u8 203) := hcc 0 _ rfl
  clear hK hcc he hC1
  have hcv : (convert 22 9 (.slice A2 headD.length c2)).run Try.prog w5 = .ok (.string ⟨#[49, 50, 51, 52, 53, 54, 55, 56, 57]⟩) w5 := (Kd.C_string (P := Try.prog) Try.underlying22 Try.underlying5 Try.underlying9 hC2).trans (by rfl)
  clear hC2
  go_wp2_with fail
  go_ret
  exact ⟨rfl, B5.out⟩

end Go.Proofs.Ytjpaoinlekkakaa.F
