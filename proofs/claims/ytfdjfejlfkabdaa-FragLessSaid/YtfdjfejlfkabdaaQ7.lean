-- A text out of a program of this session's. Not trusted: Lean checks it.
import Derived.Test.YtfdjfejlfkabdaaQ0
import Derived.Test.YtfdjfejlfkabdaaQ1
import Derived.Test.YtfdjfejlfkabdaaQ2
import Derived.Test.YtfdjfejlfkabdaaQ3
import Derived.Test.YtfdjfejlfkabdaaQ5
import Derived.Test.YtfdjfejlfkabdaaQ6
import Derived.Lib.SmallJoins
import Derived.Lib.SlBytesConst
import Derived.Test.YtfdjfejlfkabdaaFr
namespace Go.Proofs.Ytfdjfejlfkabdaa.Q
open Go.RowKit Go.Proofs.YtfdjfejlfkabdaaW.PrintWords Go.Proofs.YtfdjfejlfkabdaaW.PrintLast Go.Proofs.YtfdjfejlfkabdaaW.PrintMore
attribute [local go_sem] max2_int min2_int max_two min_two max_three min_three max_four min_four   -- for this text's walks alone
set_option linter.unusedVariables false
set_option linter.unusedSimpArgs false

/-! ### bowlinelaw11_head: function 10 (given) -/
-- GIVEN rounds=0 making=1
-- IMPORTS Derived.Lib.SmallJoins,Derived.Lib.SlBytesConst,Derived.Test.YtfdjfejlfkabdaaFr
def bowlinelaw11_head.f : Option Bool := some true
theorem lit_C (w : World) (xs : List Int) (t : Nat) (fr : Nat × Nat) (g : Nat) (hg : g = w.heap.size) (hl : xs.length ≤ 100) (W : World) (hW : Below (g + 1) (w.alloc (.cells (xs.map (Value.int .u8)).toArray t fr)) W) : Kd.C (Kd.int .u8) W (some ⟨g, 0, none⟩) xs.length xs := by
  subst hg
  refine ⟨rfl, by omega, fun _ => ⟨_, rfl, fun j p hj => ⟨[.int .u8 p], rfl, rfl, fun i u hi => ?_⟩⟩⟩
  obtain rfl : i = 0 := by
    rcases i with _ | i
    · rfl
    · simp at hi
  obtain rfl : Value.int .u8 p = u := by simpa using hi
  have e : (Addr.mk w.heap.size 0 none).add (j * (Kd.int .u8).sz + 0) = ⟨w.heap.size, j, none⟩ := by
    show (Addr.mk w.heap.size 0 none).add (j * 1 + 0) = _
    unfold Addr.add
    split
    · have : j = 0 := by omega
      subst this; rfl
    · simp
  have hb : (w.alloc (.cells (xs.map (Value.int .u8)).toArray t fr)).heap[w.heap.size]? = some (.cells (xs.map (Value.int .u8)).toArray t fr) := by
    show (w.heap.push _)[w.heap.size]? = _
    simp
  rw [e, hW.cell (by show w.heap.size < w.heap.size + 1; omega), cell_of_row _ w.heap.size _ _ t fr hb]
  simp [hj]
def headPs : List S34 := [⟨true, false, [97, 98]⟩, ⟨false, true, [99]⟩]
def headW (w : World) : World := ((w.alloc (.cells #[.int .u8 97, .int .u8 98] 5 (2, 3))).alloc (.cells #[.int .u8 99] 5 (1, 2))).alloc (.cells #[.bool true, .bool false, .slice (some ⟨w.heap.size, 0, none⟩) 2 2, .bool false, .bool true, .slice (some ⟨w.heap.size + 1, 0, none⟩) 1 1] 34)
theorem lit_pieces (w : World) : Kd.C k34 (headW w) (some ⟨w.heap.size + 2, 0, none⟩) headPs.length headPs := by
  have hs1 : (w.alloc (.cells #[.int .u8 97, .int .u8 98] 5 (2, 3))).heap.size = w.heap.size + 1 := by simp
  have hs2 : ((w.alloc (.cells #[.int .u8 97, .int .u8 98] 5 (2, 3))).alloc (.cells #[.int .u8 99] 5 (1, 2))).heap.size = w.heap.size + 2 := by simp
  have b1 : Below (w.heap.size + 1) (w.alloc (.cells #[.int .u8 97, .int .u8 98] 5 (2, 3))) (headW w) := ((Below.refl _ _).alloc (by omega) _).alloc (by omega) _
  have b2 : Below (w.heap.size + 1 + 1) ((w.alloc (.cells #[.int .u8 97, .int .u8 98] 5 (2, 3))).alloc (.cells #[.int .u8 99] 5 (1, 2))) (headW w) := (Below.refl _ _).alloc (by omega) _
  have hc1 := lit_C w [97, 98] 5 (2, 3) _ rfl (by decide) (headW w) b1
  have hc2 := lit_C (w.alloc (.cells #[.int .u8 97, .int .u8 98] 5 (2, 3))) [99] 5 (1, 2) (w.heap.size + 1) hs1.symm (by decide) (headW w) b2
  have hb : (headW w).heap[w.heap.size + 2]? = some (.cells #[.bool true, .bool false, .slice (some ⟨w.heap.size, 0, none⟩) 2 2, .bool false, .bool true, .slice (some ⟨w.heap.size + 1, 0, none⟩) 1 1] 34) := by
    unfold headW
    show (Array.push _ _)[w.heap.size + 2]? = _
    rw [Array.getElem?_push, if_pos hs2.symm]
  have hcell : ∀ i, (headW w).cell? ⟨w.heap.size + 2, i, none⟩ = (#[.bool true, .bool false, .slice (some ⟨w.heap.size, 0, none⟩) 2 2, .bool false, .bool true, .slice (some ⟨w.heap.size + 1, 0, none⟩) 1 1] : Array Value)[i]? := fun i => cell_of_row _ _ _ _ _ (0, 0) hb
  have had : ∀ i, (Addr.mk (w.heap.size + 2) 0 none).add i = ⟨w.heap.size + 2, i, none⟩ := by
    intro i
    unfold Addr.add
    split
    · next h => subst h; rfl
    · simp
  refine ⟨rfl, by decide, fun _ => ⟨_, rfl, fun j p hj => ?_⟩⟩
  rcases j with _ | _ | j
  · obtain rfl : (⟨true, false, [97, 98]⟩ : S34) = p := by simpa [headPs] using hj
    refine ⟨[.bool true, .bool false, .slice (some ⟨w.heap.size, 0, none⟩) 2 2], rfl, k34_mk (headW w) (⟨true, false, [97, 98]⟩ : S34) (by decide) hc1, fun i u hi => ?_⟩
    rw [had, hcell]
    rcases i with _ | _ | _ | i
    · exact hi
    · exact hi
    · exact hi
    · simp at hi
  · obtain rfl : (⟨false, true, [99]⟩ : S34) = p := by simpa [headPs] using hj
    refine ⟨[.bool false, .bool true, .slice (some ⟨w.heap.size + 1, 0, none⟩) 1 1], rfl, k34_mk (headW w) (⟨false, true, [99]⟩ : S34) (by decide) hc2, fun i u hi => ?_⟩
    rw [had, hcell]
    rcases i with _ | _ | _ | i
    · exact hi
    · exact hi
    · exact hi
    · simp at hi
  · simp [headPs] at hj
theorem headPs_split : frag_Split.f [97, 98, 99] 2 = some headPs := by kernel_rfl
theorem headPs_join : frag_Join.f 4 headPs = some ([97, 98, 99], true) := by kernel_rfl
theorem headN_nil_join : frag_Join.f 4 [] = some ([], false) := by kernel_rfl
theorem headPs_same : bowlineref11_Same.f 4 headPs headPs = some true := by kernel_rfl
theorem headN_hz1 : frag_Size.f 100 = some 400 := by kernel_rfl
theorem headN_hz2 : frag_Size.f 1 = some 64 := by kernel_rfl
theorem headN_hz3 : frag_Size.f 9999 = some 1500 := by kernel_rfl
theorem headN_hm1 : frag_Many.f 3 2 = some 2 := by kernel_rfl
theorem headN_hm2 : frag_Many.f 0 2 = some 0 := by kernel_rfl
set_option maxHeartbeats 400000 in
set_option maxRecDepth 100000 in
theorem bowlinelaw11_head.calls (r : Bool) (w : World) (h : bowlinelaw11_head.f = some r) :
    Calls Try.prog 10 #[] w fun e w' => e = .returned (.bool r) ∧ Below w.heap.size w w' := by
  obtain rfl : true = r := Option.some.inj h
  clear h
  have kc := fun (W : World) (C : Array Value) (n c g : Nat) (hg : g = W.heap.size) => Go.Joins.run_convert_bytes_const_at (P := Try.prog) W 22 5 C n c g hg Try.underlying22 Try.underlying5
  obtain ⟨ps, hps⟩ : ∃ ps, Aside0 (ps = headPs) := ⟨_, ⟨rfl⟩⟩
  go_enter Try.func10, Try.ntmps10
  go_wp2_with fail
  refine (frag_Split.calls (some ⟨w.heap.size, 0, none⟩) 3 [97, 98, 99] 2 ps _ (by exact lit_C w [97, 98, 99] 5 (3, 4) _ rfl (by decide) _ (Below.refl _ _)) (by decide) (by rw [hps.out]; exact headPs_split)).mono ?_
  rintro e w1 ⟨v1, rfl, hS1, hb1⟩
  obtain ⟨A1, c1, rfl⟩ := Kd.S_slice hS1
  have hC1 := Aside0.mk (Kd.S_reads' hS1).2.2
  have hc1 := Aside0.mk (Kd.S_reads' hS1).2.1
  have B1 := Aside0.mk (((Below.refl w.heap.size w).alloc (Nat.le_refl _) _).trans (hb1.mono (by simp)))
  clear hb1 hS1
  go_wp2_with fail
  refine (frag_Join.calls 4 A1 c1 ps [97, 98, 99] true _ hC1.out hc1.out (by rw [hps.out]; exact headPs_join)).mono ?_
  rintro e w2 ⟨v2, rfl, hR2, hb2⟩
  obtain ⟨A2, c2, rfl⟩ := Kd.R_slice hR2
  have HR2 := Aside0.mk (Kd.R_reads' hR2).2.2
  have hC2 := Aside0.mk (Kd.C_below hC1.out hb2)
  have B2 := Aside0.mk (B1.out.trans (hb2.mono B1.out.size))
  clear hb2 hR2 hC1 B1
  go_wp2_with fail
  refine (frag_Join.calls 4 none 0 [] [] false _ (Kd.C_nil _ _) (Nat.le_refl _) headN_nil_join).mono ?_
  rintro e w3 ⟨v3, rfl, hR3, hb3⟩
  obtain ⟨A3, c3, rfl⟩ := Kd.R_slice hR3
  have HR3 := Aside0.mk (Kd.C_below HR2.out hb3)
  have hC3 := Aside0.mk (Kd.C_below hC2.out hb3)
  have B3 := Aside0.mk (B2.out.trans (hb3.mono B2.out.size))
  clear hb3 hR3 hC2 B2 HR2
  have hbh : Below w3.heap.size w3 (headW w3) := (((Below.refl _ _).alloc (by omega) _).alloc (by simp) _).alloc (by simp; omega) _
  have HR4 := Aside0.mk (Kd.C_below HR3.out hbh)
  have hC4 := Aside0.mk (Kd.C_below hC3.out hbh)
  have B4 := Aside0.mk (B3.out.trans (hbh.mono B3.out.size))
  clear hbh B3 hC3 HR3
  go_wp2_with fail
  have hcall := bowlineref11_Same.calls 4 A1 c1 ps (some ⟨w3.heap.size + 1 + 1, 0, none⟩) 2 headPs true (headW w3) hC4.out hc1.out (lit_pieces w3) (by decide) (by rw [hps.out]; exact headPs_same)
  have hlen : headPs.length = 2 := rfl
  rw [hlen] at hcall
  clear hlen
  unfold headW at hcall
  with_reducible refine hcall.mono ?_
  rintro e w4 ⟨rfl, ⟨nd, rfl⟩⟩
  rw [show ((w3.alloc (.cells #[.int .u8 97, .int .u8 98] 5 (2, 3))).alloc (.cells #[.int .u8 99] 5 (1, 2))).alloc (.cells #[.bool true, .bool false, .slice (some ⟨w3.heap.size, 0, none⟩) 2 2, .bool false, .bool true, .slice (some ⟨w3.heap.size + 1, 0, none⟩) 1 1] 34) = headW w3 from rfl]
  generalize headW w3 = w5 at *
  have hcv : ∀ m, (convert 22 9 (.slice A2 3 c2)).run Try.prog (w5.drewN m) = .ok (.string ⟨#[97, 98, 99]⟩) (w5.drewN m) := fun m => (Kd.C_string (P := Try.prog) Try.underlying22 Try.underlying5 Try.underlying9 (Kd.C_drewN HR4.out m)).trans (by rfl)
  have B5 := Aside0.mk (pw_below_drewN B4.out nd)
  clear B4 HR4 hC4 hcall
  go_wp2_with fail
  with_reducible refine (frag_Size.calls 100 400 _ headN_hz1).mono ?_
  rintro e w6 ⟨rfl, hb⟩
  have B6 := Aside0.mk (B5.out.trans (hb.mono B5.out.size))
  clear hb B5
  go_wp2_with fail
  with_reducible refine (frag_Size.calls 1 64 _ headN_hz2).mono ?_
  rintro e w7 ⟨rfl, hb⟩
  have B7 := Aside0.mk (B6.out.trans (hb.mono B6.out.size))
  clear hb B6
  go_wp2_with fail
  with_reducible refine (frag_Size.calls 9999 1500 _ headN_hz3).mono ?_
  rintro e w8 ⟨rfl, hb⟩
  have B8 := Aside0.mk (B7.out.trans (hb.mono B7.out.size))
  clear hb B7
  go_wp2_with fail
  with_reducible refine (frag_Many.calls 3 2 2 _ headN_hm1).mono ?_
  rintro e w9 ⟨rfl, ⟨n1, rfl⟩⟩
  go_wp2_with fail
  with_reducible refine (frag_Many.calls 0 2 0 _ headN_hm2).mono ?_
  rintro e w9 ⟨rfl, ⟨n2, rfl⟩⟩
  go_wp2_with fail
  go_ret
  exact ⟨rfl, pw_below_drewN B8.out (n1 + n2)⟩

end Go.Proofs.Ytfdjfejlfkabdaa.Q
