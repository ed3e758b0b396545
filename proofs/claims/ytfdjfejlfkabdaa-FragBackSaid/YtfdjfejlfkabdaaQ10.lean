-- A text out of a program of this session's. Not trusted: Lean checks it.
import Derived.Test.YtfdjfejlfkabdaaQ0
import Derived.Test.YtfdjfejlfkabdaaQ1
import Derived.Test.YtfdjfejlfkabdaaQ3
import Derived.Test.YtfdjfejlfkabdaaQ5
import Derived.Test.YtfdjfejlfkabdaaQ7
namespace Go.Proofs.Ytfdjfejlfkabdaa.Q
open Go.RowKit Go.Proofs.YtfdjfejlfkabdaaW.PrintWords Go.Proofs.YtfdjfejlfkabdaaW.PrintLast Go.Proofs.YtfdjfejlfkabdaaW.PrintMore
attribute [local go_sem] max2_int min2_int max_two min_two max_three min_three max_four min_four   -- for this text's walks alone
set_option linter.unusedVariables false
set_option linter.unusedSimpArgs false

/-! ### bowlinelaw11_FragBack: function 4 -/
mutual
def bowlinelaw11_FragBack.j0 : Nat → List Int → Int → Bool → List (S34) → Bool → Option (Bool)
  | 0, _, _, _, _, _ => none
  | k + 1, x0, x1, x5, x6, x7 => (frag_Many.f (x0.length : Int) x1).bind fun t156 => (if (x6.length : Int) = t156 then (bowlinelaw11_FragBack.j1 k x0 x1 x5 x6 x7 ((decide ((x6.length : Int) > 0)) != x7)) else (bowlinelaw11_FragBack.j1 k x0 x1 x5 x6 x7 true))
def bowlinelaw11_FragBack.j1 : Nat → List Int → Int → Bool → List (S34) → Bool → Bool → Option (Bool)
  | 0, _, _, _, _, _, _ => none
  | k + 1, x0, x1, x5, x6, x7, x48 => if x48 = true then (some false) else (bowlinelaw11_FragBack.l0 k x0 x1 x5 x6 x7 0)
def bowlinelaw11_FragBack.l0 : Nat → List Int → Int → Bool → List (S34) → Bool → Int → Option (Bool)
  | 0, _, _, _, _, _, _ => none
  | k + 1, x0, x1, x5, x6, x7, x8 => if x8 < (x6.length : Int) then (if 0 ≤ x8 then (if (((rd_T34 x6 x8).f0) != (x8 == 0)) = true then (some false) else (if (((rd_T34 x6 x8).f1) != (x8 == (wrap64 ((x6.length : Int) - 1)))) = true then (some false) else (if (((rd_T34 x6 x8).f2).length : Int) = 0 then (some false) else (if (((rd_T34 x6 x8).f2).length : Int) > x1 then (some false) else (if x8 < (wrap64 ((x6.length : Int) - 1)) then (if (((rd_T34 x6 x8).f2).length : Int) = x1 then (bowlinelaw11_FragBack.l0 k x0 x1 x5 x6 x7 (wrap64 (x8 + 1))) else (some false)) else (bowlinelaw11_FragBack.l0 k x0 x1 x5 x6 x7 (wrap64 (x8 + 1)))))))) else (none)) else ((frag_Join.f k x6).bind fun bt162 => (if x5 = true then (if (bt162.2 == x7) = true then (if x7 = true then (some ((strOfNums bt162.1).toList == (strOfNums x0).toList)) else (some true)) else (some false)) else (some false)))
end
def bowlinelaw11_FragBack.f (k : Nat) (l0 : List Int) (a1 : Int) : Option (Bool) := (bowlinelaw11_head.f).bind fun t152 => (if (l0.length : Int) > 9000 then (some t152) else ((frag_Split.f l0 a1).bind fun t153 => (if (l0.length : Int) ≥ 1 then (if (l0.length : Int) ≤ 2048 then (if a1 ≥ 1 then (bowlinelaw11_FragBack.j0 k l0 a1 t152 t153 (decide (a1 ≤ 2048))) else (bowlinelaw11_FragBack.j0 k l0 a1 t152 t153 false)) else (bowlinelaw11_FragBack.j0 k l0 a1 t152 t153 false)) else (bowlinelaw11_FragBack.j0 k l0 a1 t152 t153 false))))
theorem bowlinelaw11_FragBack.mono_l : ∀ k, (∀ y0 y1 y2 y3 y4, LeO (bowlinelaw11_FragBack.j0 k y0 y1 y2 y3 y4) (bowlinelaw11_FragBack.j0 (k + 1) y0 y1 y2 y3 y4)) ∧ (∀ y0 y1 y2 y3 y4 y5, LeO (bowlinelaw11_FragBack.j1 k y0 y1 y2 y3 y4 y5) (bowlinelaw11_FragBack.j1 (k + 1) y0 y1 y2 y3 y4 y5)) ∧ (∀ y0 y1 y2 y3 y4 y5, LeO (bowlinelaw11_FragBack.l0 k y0 y1 y2 y3 y4 y5) (bowlinelaw11_FragBack.l0 (k + 1) y0 y1 y2 y3 y4 y5))
  | 0 => ⟨fun _ _ _ _ _ r h => by simp [bowlinelaw11_FragBack.j0] at h, fun _ _ _ _ _ _ r h => by simp [bowlinelaw11_FragBack.j1] at h, fun _ _ _ _ _ _ r h => by simp [bowlinelaw11_FragBack.l0] at h⟩
  | k + 1 => by
    obtain ⟨ih0, ih1, ih2⟩ := bowlinelaw11_FragBack.mono_l k
    refine ⟨?_, ?_, ?_⟩
    · intro y0 y1 y2 y3 y4
      unfold bowlinelaw11_FragBack.j0
      repeat' first
      | (with_reducible exact ih0 _ _ _ _ _)
      | (with_reducible exact ih1 _ _ _ _ _ _)
      | (with_reducible exact ih2 _ _ _ _ _ _)
      | (with_reducible exact frag_Join.mono _ _)
      | (with_reducible exact LeO.refl _)
      | (with_reducible exact LeO.none _)
      | (with_reducible refine LeO.ite ?_ ?_)
      | (with_reducible refine LeO.bind ?_ (fun _ => ?_))
      | exact ih0 _ _ _ _ _
      | exact ih1 _ _ _ _ _ _
      | exact ih2 _ _ _ _ _ _
      | exact frag_Join.mono _ _
      | exact LeO.none _
      | refine LeO.ite ?_ ?_
      | refine LeO.bind ?_ (fun _ => ?_)
    · intro y0 y1 y2 y3 y4 y5
      unfold bowlinelaw11_FragBack.j1
      repeat' first
      | (with_reducible exact ih0 _ _ _ _ _)
      | (with_reducible exact ih1 _ _ _ _ _ _)
      | (with_reducible exact ih2 _ _ _ _ _ _)
      | (with_reducible exact frag_Join.mono _ _)
      | (with_reducible exact LeO.refl _)
      | (with_reducible exact LeO.none _)
      | (with_reducible refine LeO.ite ?_ ?_)
      | (with_reducible refine LeO.bind ?_ (fun _ => ?_))
      | exact ih0 _ _ _ _ _
      | exact ih1 _ _ _ _ _ _
      | exact ih2 _ _ _ _ _ _
      | exact frag_Join.mono _ _
      | exact LeO.none _
      | refine LeO.ite ?_ ?_
      | refine LeO.bind ?_ (fun _ => ?_)
    · intro y0 y1 y2 y3 y4 y5
      unfold bowlinelaw11_FragBack.l0
      repeat' first
      | (with_reducible exact ih0 _ _ _ _ _)
      | (with_reducible exact ih1 _ _ _ _ _ _)
      | (with_reducible exact ih2 _ _ _ _ _ _)
      | (with_reducible exact frag_Join.mono _ _)
      | (with_reducible exact LeO.refl _)
      | (with_reducible exact LeO.none _)
      | (with_reducible refine LeO.ite ?_ ?_)
      | (with_reducible refine LeO.bind ?_ (fun _ => ?_))
      | exact ih0 _ _ _ _ _
      | exact ih1 _ _ _ _ _ _
      | exact ih2 _ _ _ _ _ _
      | exact frag_Join.mono _ _
      | exact LeO.none _
      | refine LeO.ite ?_ ?_
      | refine LeO.bind ?_ (fun _ => ?_)
theorem bowlinelaw11_FragBack.mono : ∀ a0 a1 k, LeO (bowlinelaw11_FragBack.f k a0 a1) (bowlinelaw11_FragBack.f (k + 1) a0 a1) := by
  intro a0 a1 k
  obtain ⟨ih0, ih1, ih2⟩ := bowlinelaw11_FragBack.mono_l k
  unfold bowlinelaw11_FragBack.f
  repeat' first
      | (with_reducible exact ih0 _ _ _ _ _)
      | (with_reducible exact ih1 _ _ _ _ _ _)
      | (with_reducible exact ih2 _ _ _ _ _ _)
      | (with_reducible exact frag_Join.mono _ _)
      | (with_reducible exact LeO.refl _)
      | (with_reducible exact LeO.none _)
      | (with_reducible refine LeO.ite ?_ ?_)
      | (with_reducible refine LeO.bind ?_ (fun _ => ?_))
      | exact ih0 _ _ _ _ _
      | exact ih1 _ _ _ _ _ _
      | exact ih2 _ _ _ _ _ _
      | exact frag_Join.mono _ _
      | exact LeO.none _
      | refine LeO.ite ?_ ?_
      | refine LeO.bind ?_ (fun _ => ?_)
set_option maxHeartbeats 8000000 in
set_option maxRecDepth 100000 in
theorem bowlinelaw11_FragBack.calls (k : Nat) (A0 : Option Addr) (c0 : Nat) (l0 : List Int) (a1 : Int) (r : Bool) (w : World) (hr0 : Kd.C (Kd.int .u8) w A0 l0.length l0) (hc0 : l0.length ≤ c0) (h : bowlinelaw11_FragBack.f k l0 a1 = some r) :
    Calls Try.prog 4 #[.slice A0 l0.length c0, .int .i64 a1] w fun e w' => e = .returned (.bool r) ∧ Below w.heap.size w w' := by
  have HR0 := Aside0.mk hr0
  have HC0 := Aside0.mk hc0
  clear hr0 hc0
  have HB := Aside0.mk (Below.refl w.heap.size w)
  have H : ((bowlinelaw11_head.f).bind fun t152 => (if (l0.length : Int) > 9000 then (some t152) else ((frag_Split.f l0 a1).bind fun t153 => (if (l0.length : Int) ≥ 1 then (if (l0.length : Int) ≤ 2048 then (if a1 ≥ 1 then (bowlinelaw11_FragBack.j0 k l0 a1 t152 t153 (decide (a1 ≤ 2048))) else (bowlinelaw11_FragBack.j0 k l0 a1 t152 t153 false)) else (bowlinelaw11_FragBack.j0 k l0 a1 t152 t153 false)) else (bowlinelaw11_FragBack.j0 k l0 a1 t152 t153 false))))) = some r := h
  clear h
  replace H := Option.bind_eq_some_iff.mp H
  obtain ⟨t152, A30, H⟩ := H
  replace H : (if (l0.length : Int) > 9000 then (some t152) else ((frag_Split.f l0 a1).bind fun t153 => (if (l0.length : Int) ≥ 1 then (if (l0.length : Int) ≤ 2048 then (if a1 ≥ 1 then (bowlinelaw11_FragBack.j0 k l0 a1 t152 t153 (decide (a1 ≤ 2048))) else (bowlinelaw11_FragBack.j0 k l0 a1 t152 t153 false)) else (bowlinelaw11_FragBack.j0 k l0 a1 t152 t153 false)) else (bowlinelaw11_FragBack.j0 k l0 a1 t152 t153 false)))) = some r := H
  have A3 := Aside0.mk A30
  clear A30
  by_cases c4 : (l0.length : Int) > 9000
  · rw [if_pos c4] at H
    have c4b0 : decide (9000 < (l0.length : Int)) = true := decide_eq_true c4
    have c4b1 : decide (9000 < l0.length) = true := decide_eq_true (by omega)
    clear c4
    obtain rfl := Option.some.inj H
    go_enter Try.func4, Try.ntmps4
    go_wp2_with (first | ((with_reducible refine gate_callee (f := 10) rfl ?_); refine goesL_ (some 11) rfl rfl Try.func10 (by kernel_rfl) rfl #[] rfl (by (try simp only [List.map_toArray, List.map_cons, List.map_nil]); first | done | rfl | (simp only [List.length_drop, List.length_take]; rfl)) ?_; (with_reducible refine (bowlinelaw11_head.calls  t152 _ A3.out).mono ?_); rintro e w5 ⟨rfl, hb⟩; refine ⟨_, rfl, ?_⟩; have n0_ := Aside0.mk (below_step (by repeat (first | (with_reducible first | exact HB.out | apply below_alloc | apply pw_below_drewN | apply below_drew1) | exact HB.out)) hb); clear HB; have HB := n0_; clear n0_; (try clear hb); (try clear hb2); (try clear hk); (try clear hi)))
    go_ret
    exact ⟨by first | rfl | (simp [errW_none, errW_some] <;> rfl) | (simp [*, errW_none, errW_some] <;> rfl), by repeat (first | (with_reducible first | exact HB.out | apply below_alloc | apply pw_below_drewN | apply below_drew1) | exact HB.out)⟩
  · rw [if_neg c4] at H
    have c4b0 : decide (9000 < (l0.length : Int)) = false := decide_eq_false c4
    have c4b1 : decide (9000 < l0.length) = false := decide_eq_false (by omega)
    clear c4
    replace H := Option.bind_eq_some_iff.mp H
    obtain ⟨t153, A60, H⟩ := H
    replace H : (if (l0.length : Int) ≥ 1 then (if (l0.length : Int) ≤ 2048 then (if a1 ≥ 1 then (bowlinelaw11_FragBack.j0 k l0 a1 t152 t153 (decide (a1 ≤ 2048))) else (bowlinelaw11_FragBack.j0 k l0 a1 t152 t153 false)) else (bowlinelaw11_FragBack.j0 k l0 a1 t152 t153 false)) else (bowlinelaw11_FragBack.j0 k l0 a1 t152 t153 false)) = some r := H
    have A6 := Aside0.mk A60
    clear A60
    have HC7 := Aside0.mk H
    clear H
    go_enter Try.func4, Try.ntmps4
    go_upto_region 5 with (first | ((with_reducible refine gate_callee (f := 10) rfl ?_); refine goesL_ (some 11) rfl rfl Try.func10 (by kernel_rfl) rfl #[] rfl (by (try simp only [List.map_toArray, List.map_cons, List.map_nil]); first | done | rfl | (simp only [List.length_drop, List.length_take]; rfl)) ?_; (with_reducible refine (bowlinelaw11_head.calls  t152 _ A3.out).mono ?_); rintro e w8 ⟨rfl, hb⟩; refine ⟨_, rfl, ?_⟩; have n0_ := Aside0.mk (below_step (by repeat (first | (with_reducible first | exact HB.out | apply below_alloc | apply pw_below_drewN | apply below_drew1) | exact HB.out)) hb); clear HB; have HB := n0_; clear n0_; (try clear hb); (try clear hb2); (try clear hk); (try clear hi)) | ((with_reducible refine gate_callee (f := 15) rfl ?_); refine goesL_ (some 18) rfl rfl Try.func15 (by kernel_rfl) rfl #[.slice A0 l0.length c0, .int .i64 a1] rfl (by (try simp only [List.map_toArray, List.map_cons, List.map_nil]); first | done | rfl | (simp only [List.length_drop, List.length_take]; rfl)) ?_; (with_reducible refine (frag_Split.calls _ _ l0 a1 t153 _ ?side1 ?side2 A6.out).mono ?_); (case side1 => repeat (first | exact (Kd.C_below HR0.out HB.out) | (with_reducible refine Kd.C_alloc ?_ _) | (with_reducible refine Kd.C_drewN ?_ _) | (with_reducible refine Kd.C_drew ?_))); (case side2 => exact HC0.out); rintro e w9 ⟨v154, rfl, ho0, hb⟩; refine ⟨_, rfl, ?_⟩; have n0_ := Aside0.mk (Kd.S_lower ho0 (below_size (by repeat (first | (with_reducible first | exact HB.out | apply below_alloc | apply pw_below_drewN | apply below_drew1) | exact HB.out)))); have n1_ := Aside0.mk (below_step (by repeat (first | (with_reducible first | exact HB.out | apply below_alloc | apply pw_below_drewN | apply below_drew1) | exact HB.out)) hb); clear HB; have HO155 := n0_; have HB := n1_; clear n0_ n1_; (try clear hb); (try clear hb2); (try clear hk); (try clear hi); (try clear ho0)))
    (try simp only [Act.put, List.setIfInBounds_toArray, List.set_cons_zero, List.set_cons_succ])
    go_cut [7] (fun v7 wc => ∃ (kq : Nat) (x7_6 : Bool), v7 = .bool x7_6 ∧ Aside0 (bowlinelaw11_FragBack.j0 kq l0 a1 t152 t153 x7_6 = some r) ∧ Aside0 (kq ≤ k) ∧ Aside0 (Kd.S k34 34 wc w.heap.size (fun _ => True) v154 t153) ∧ Aside0 (Below w.heap.size w wc))
    case first =>
      have H := HC7.out
      clear HC7
      by_cases c10 : (l0.length : Int) ≥ 1
      · rw [if_pos c10] at H
        have c10b0 : decide (1 ≤ (l0.length : Int)) = true := decide_eq_true c10
        have c10b1 : decide (1 ≤ l0.length) = true := decide_eq_true (by omega)
        clear c10
        (first | rw [c10b0] | (simp only [i64_w, i32_w]; rw [c10b0]) | skip)
        by_cases c11 : (l0.length : Int) ≤ 2048
        · rw [if_pos c11] at H
          have c11b0 : decide ((l0.length : Int) ≤ 2048) = true := decide_eq_true c11
          have c11b1 : decide (l0.length ≤ 2048) = true := decide_eq_true (by omega)
          clear c11
          by_cases c12 : a1 ≥ 1
          · rw [if_pos c12] at H
            have c12b0 : decide (1 ≤ a1) = true := decide_eq_true c12
            clear c12
            have H' := Aside0.mk H
            clear H
            go_wp2
            go_meet
            case rel => exact ⟨_, (decide (a1 ≤ 2048)), (by first | rfl | (simp; done) | (simp [*]; done) | (simp; exact bq_ne _ _)), H', ⟨by first | omega | exact Nat.le_refl _⟩, ⟨by (with_reducible repeat (first | apply Kd.S_alloc | apply Kd.S_drewN | apply Kd.S_drew)); exact HO155.out⟩, ⟨by repeat (first | (with_reducible first | exact HB.out | apply below_alloc | apply pw_below_drewN | apply below_drew1) | exact HB.out)⟩⟩
          · rw [if_neg c12] at H
            have c12b0 : decide (1 ≤ a1) = false := decide_eq_false c12
            clear c12
            have H' := Aside0.mk H
            clear H
            go_wp2
            go_meet
            case rel => exact ⟨_, (false), (by first | rfl | (simp; done) | (simp [*]; done) | (simp; exact bq_ne _ _)), H', ⟨by first | omega | exact Nat.le_refl _⟩, ⟨by (with_reducible repeat (first | apply Kd.S_alloc | apply Kd.S_drewN | apply Kd.S_drew)); exact HO155.out⟩, ⟨by repeat (first | (with_reducible first | exact HB.out | apply below_alloc | apply pw_below_drewN | apply below_drew1) | exact HB.out)⟩⟩
        · rw [if_neg c11] at H
          have c11b0 : decide ((l0.length : Int) ≤ 2048) = false := decide_eq_false c11
          have c11b1 : decide (l0.length ≤ 2048) = false := decide_eq_false (by omega)
          clear c11
          have H' := Aside0.mk H
          clear H
          go_wp2
          go_meet
          case rel => exact ⟨_, (false), (by first | rfl | (simp; done) | (simp [*]; done) | (simp; exact bq_ne _ _)), H', ⟨by first | omega | exact Nat.le_refl _⟩, ⟨by (with_reducible repeat (first | apply Kd.S_alloc | apply Kd.S_drewN | apply Kd.S_drew)); exact HO155.out⟩, ⟨by repeat (first | (with_reducible first | exact HB.out | apply below_alloc | apply pw_below_drewN | apply below_drew1) | exact HB.out)⟩⟩
      · rw [if_neg c10] at H
        have c10b0 : decide (1 ≤ (l0.length : Int)) = false := decide_eq_false c10
        have c10b1 : decide (1 ≤ l0.length) = false := decide_eq_false (by omega)
        clear c10
        (first | rw [c10b0] | (simp only [i64_w, i32_w]; rw [c10b0]) | skip)
        have H' := Aside0.mk H
        clear H
        go_wp2
        go_meet
        case rel => exact ⟨_, (false), (by first | rfl | (simp; done) | (simp [*]; done) | (simp; exact bq_ne _ _)), H', ⟨by first | omega | exact Nat.le_refl _⟩, ⟨by (with_reducible repeat (first | apply Kd.S_alloc | apply Kd.S_drewN | apply Kd.S_drew)); exact HO155.out⟩, ⟨by repeat (first | (with_reducible first | exact HB.out | apply below_alloc | apply pw_below_drewN | apply below_drew1) | exact HB.out)⟩⟩
    case rest =>
      clear HC7
      try clear c1
      try clear p2
      try clear c4
      try clear c4b0
      try clear c4b1
      try clear c10
      try clear c10b0
      try clear c10b1
      try clear c11
      try clear c11b0
      try clear c11b1
      try clear c12
      try clear c12b0
      obtain ⟨kq, x7_6, rfl, HA, HJ6, HO_6, HB⟩ := hcut
      cases kq with
      | zero => exact absurd HA.out (by simp [bowlinelaw11_FragBack.j0])
      | succ kj6 =>
        have H := HA.out
        clear HA
        simp only [bowlinelaw11_FragBack.j0] at H
        have HC13 := Aside0.mk H
        clear H
        go_upto_region 6 with (fail)
        go_cut [48] (fun v48 wc => ∃ (kq : Nat) (x48_12 : Bool), v48 = .bool x48_12 ∧ Aside0 (bowlinelaw11_FragBack.j1 kq l0 a1 t152 t153 x7_6 x48_12 = some r) ∧ Aside0 (kq ≤ kj6) ∧ Aside0 (Kd.S k34 34 wc w.heap.size (fun _ => True) v154 t153) ∧ Aside0 (Below w.heap.size w wc))
        case first =>
          have H := HC13.out
          clear HC13
          replace H := Option.bind_eq_some_iff.mp H
          obtain ⟨t156, A140, H⟩ := H
          replace H : (if (t153.length : Int) = t156 then (bowlinelaw11_FragBack.j1 kj6 l0 a1 t152 t153 x7_6 ((decide ((t153.length : Int) > 0)) != x7_6)) else (bowlinelaw11_FragBack.j1 kj6 l0 a1 t152 t153 x7_6 true)) = some r := H
          have A14 := Aside0.mk A140
          clear A140
          by_cases c15 : (t153.length : Int) = t156
          · rw [if_pos c15] at H
            have c15b0 : ((t153.length : Int) == t156) = true := beq_iff_eq.mpr c15
            have c15b1 : ((t153.length : Int) != t156) = false := bne_eq_false_iff_eq.mpr c15
            clear c15
            (first | rw [c15b0] | (simp only [i64_w, i32_w]; rw [c15b0]) | skip)
            have H' := Aside0.mk H
            clear H
            obtain ⟨Ao16, co16, eo16⟩ := Kd.S_slice HO_6.out
            subst eo16
            go_wp2_with (first | ((with_reducible refine gate_callee (f := 19) rfl ?_); refine goesL_ (some 40) rfl rfl Try.func19 (by kernel_rfl) rfl #[.int .i64 (l0.length : Int), .int .i64 a1] rfl (by (try simp only [List.map_toArray, List.map_cons, List.map_nil]); first | done | rfl | (simp only [List.length_drop, List.length_take]; rfl)) ?_; (with_reducible refine (frag_Many.calls (l0.length : Int) a1 t156 _ A14.out).mono ?_); rintro e w' ⟨rfl, ⟨nd, rfl⟩⟩; refine ⟨_, rfl, ?_⟩))
            go_meet
            case rel => exact ⟨_, (((decide ((t153.length : Int) > 0)) != x7_6)), (by first | rfl | (simp; done) | (simp [*]; done) | (simp; exact bq_ne _ _)), H', ⟨by have := HJ6.out; first | omega | exact Nat.le_refl _⟩, ⟨by (with_reducible repeat (first | apply Kd.S_alloc | apply Kd.S_drewN | apply Kd.S_drew)); exact HO_6.out⟩, ⟨by repeat (first | (with_reducible first | exact HB.out | apply below_alloc | apply pw_below_drewN | apply below_drew1) | exact HB.out)⟩⟩
          · rw [if_neg c15] at H
            have c15b0 : ((t153.length : Int) == t156) = false := beq_eq_false_iff_ne.mpr c15
            have c15b1 : ((t153.length : Int) != t156) = true := bne_iff_ne.mpr c15
            (first | rw [c15b0] | (simp only [i64_w, i32_w]; rw [c15b0]) | skip)
            have H' := Aside0.mk H
            clear H
            obtain ⟨Ao17, co17, eo17⟩ := Kd.S_slice HO_6.out
            subst eo17
            go_wp2_with (first | ((with_reducible refine gate_callee (f := 19) rfl ?_); refine goesL_ (some 40) rfl rfl Try.func19 (by kernel_rfl) rfl #[.int .i64 (l0.length : Int), .int .i64 a1] rfl (by (try simp only [List.map_toArray, List.map_cons, List.map_nil]); first | done | rfl | (simp only [List.length_drop, List.length_take]; rfl)) ?_; (with_reducible refine (frag_Many.calls (l0.length : Int) a1 t156 _ A14.out).mono ?_); rintro e w' ⟨rfl, ⟨nd, rfl⟩⟩; refine ⟨_, rfl, ?_⟩))
            go_meet
            case rel => exact ⟨_, (true), (by first | rfl | (simp; done) | (simp [*]; done) | (simp; exact bq_ne _ _)), H', ⟨by have := HJ6.out; first | omega | exact Nat.le_refl _⟩, ⟨by (with_reducible repeat (first | apply Kd.S_alloc | apply Kd.S_drewN | apply Kd.S_drew)); exact HO_6.out⟩, ⟨by repeat (first | (with_reducible first | exact HB.out | apply below_alloc | apply pw_below_drewN | apply below_drew1) | exact HB.out)⟩⟩
        case rest =>
          clear HC13
          try clear c1
          try clear p2
          try clear c4
          try clear c4b0
          try clear c4b1
          try clear c10
          try clear c10b0
          try clear c10b1
          try clear c11
          try clear c11b0
          try clear c11b1
          try clear c12
          try clear c12b0
          try clear c15
          try clear c15b0
          try clear c15b1
          try clear p2
          obtain ⟨kq, x48_12, rfl, HA, HJ12, HO_6, HB⟩ := hcut
          cases kq with
          | zero => exact absurd HA.out (by simp [bowlinelaw11_FragBack.j1])
          | succ kj12 =>
            have H := HA.out
            clear HA
            simp only [bowlinelaw11_FragBack.j1] at H
            by_cases c18 : x48_12 = true
            · subst c18
              have H1 : (some false) = some r := by rw [if_pos rfl] at H; exact H
              clear H
              have H := H1
              clear H1
              obtain rfl := Option.some.inj H
              go_wp2
              go_ret
              exact ⟨by first | rfl | (simp [errW_none, errW_some] <;> rfl) | (simp [*, errW_none, errW_some] <;> rfl), by repeat (first | (with_reducible first | exact HB.out | apply below_alloc | apply pw_below_drewN | apply below_drew1) | exact HB.out)⟩
            · replace c18 := Bool.eq_false_iff.mpr c18
              subst c18
              have H1 : (bowlinelaw11_FragBack.l0 kj12 l0 a1 t152 t153 x7_6 0) = some r := by rw [if_neg (show ¬ (false = true) by decide)] at H; exact H
              clear H
              have H := H1
              clear H1
              have H' := Aside0.mk H
              clear H
              go_wp2
              go_loopg [8] kj12 (fun kq v8 w' => ∃ (x8_3 : Int), v8 = .int .i64 x8_3 ∧ Aside0 (bowlinelaw11_FragBack.l0 kq l0 a1 t152 t153 x7_6 x8_3 = some r) ∧ Aside0 (kq ≤ kj12) ∧ Aside0 (Kd.S k34 34 w' w.heap.size (fun _ => True) v154 t153) ∧ Aside0 (Below w.heap.size w w'))
              case atStart => exact ⟨(0), (by first | rfl | (simp; done) | (simp [*]; done) | (simp; exact bq_ne _ _)), H', ⟨Nat.le_refl _⟩, ⟨by (with_reducible repeat (first | apply Kd.S_alloc | apply Kd.S_drewN | apply Kd.S_drew)); exact HO_6.out⟩, ⟨by repeat (first | (with_reducible first | exact HB.out | apply below_alloc | apply pw_below_drewN | apply below_drew1) | exact HB.out)⟩⟩
              case round =>
                clear H'
                try clear c1
                try clear p2
                try clear c4
                try clear c4b0
                try clear c4b1
                try clear c10
                try clear c10b0
                try clear c10b1
                try clear c11
                try clear c11b0
                try clear c11b1
                try clear c12
                try clear c12b0
                try clear c15
                try clear c15b0
                try clear c15b1
                try clear c18
                try clear p2
                obtain ⟨x8_3, rfl, HA, HK3, HO_6, HB⟩ := hrel
                cases gk with
                | zero => exact absurd HA.out (by simp [bowlinelaw11_FragBack.l0])
                | succ k3 =>
                  have H := HA.out
                  clear HA
                  simp only [bowlinelaw11_FragBack.l0] at H
                  by_cases c19 : x8_3 < (t153.length : Int)
                  · rw [if_pos c19] at H
                    have c19b0 : decide (x8_3 < (t153.length : Int)) = true := decide_eq_true c19
                    clear c19
                    by_cases c20 : 0 ≤ x8_3
                    · rw [if_pos c20] at H
                      have c20b0 : decide (0 ≤ x8_3) = true := decide_eq_true c20
                      clear c20
                      by_cases c21 : (((rd_T34 t153 x8_3).f0) != (x8_3 == 0)) = true
                      · rw [if_pos c21] at H
                        have c21b0 : (((rd_T34 t153 x8_3).f0) != (x8_3 == 0)) = true := c21
                        (try (have c21b1 : decide (((rd_T34 t153 x8_3).f0) = (x8_3 == 0)) = false := by simpa using c21))
                        (try (have c21b2 : (((rd_T34 t153 x8_3).f0) == (x8_3 == 0)) = false := by simpa using c21))
                        (try (have c21b3 : ¬ (((rd_T34 t153 x8_3).f0) = (x8_3 == 0)) := by simpa using c21))
                        clear c21
                        obtain rfl := Option.some.inj H
                        obtain ⟨Ao22, co22, eo22⟩ := Kd.S_slice HO_6.out
                        subst eo22
                        have p157 : 0 ≤ (x8_3 : Int) := of_decide_eq_true (by first | (with_reducible assumption) | assumption)
                        have q157 : x8_3 < (t153.length : Int) := of_decide_eq_true (by first | (with_reducible assumption) | assumption)
                        obtain ⟨ad157, A157_2, c157_2, e157, hx157_0, hx157_1, hx157_2, hl157_2, hi157_2⟩ := at_T34 (Kd.S_reads' HO_6.out).2.2 x8_3 p157 q157
                        cases e157
                        obtain ⟨ce157, hce157, hMe157, hcc157⟩ := Kd.S_get HO_6.out z34 x8_3 p157 (by first | exact q157 | exact of_decide_eq_true (by first | (with_reducible assumption) | assumption) | (have e_ := (Kd.S_reads' HO_6.out).1; omega))
                        obtain ⟨ve157_2, rfl, ge157_2⟩ := k34_openM hMe157
                        have hv157_2 := hcc157 2 _ rfl
                        rw [add_field _ _ 2 (by omega)] at hv157_2
                        replace hv157_2 := Option.some.inj (hv157_2.symm.trans hx157_2)
                        rw [hv157_2] at ge157_2
                        have HL157_2 := Aside0.mk (show Kd.R (Kd.int .u8) 5 _ _ _ _ ((rd_T34 t153 x8_3).f2) from ge157_2)
                        clear hv157_2 ge157_2
                        clear hcc157 hce157
                        have HR157_2 := Aside0.mk hi157_2
                        have HC157_2 := Aside0.mk hl157_2
                        clear hi157_2 hl157_2
                        replace p157 := eq_true p157
                        replace q157 := eq_true q157
                        go_wp2
                        go_ret
                        exact ⟨by first | rfl | (simp [errW_none, errW_some] <;> rfl) | (simp [*, errW_none, errW_some] <;> rfl), by repeat (first | (with_reducible first | exact HB.out | apply below_alloc | apply pw_below_drewN | apply below_drew1) | exact HB.out)⟩
                      · rw [if_neg c21] at H
                        have c21b0 : (((rd_T34 t153 x8_3).f0) != (x8_3 == 0)) = false := by simpa using c21
                        (try (have c21b1 : decide (((rd_T34 t153 x8_3).f0) = (x8_3 == 0)) = true := by simpa using c21))
                        (try (have c21b2 : (((rd_T34 t153 x8_3).f0) == (x8_3 == 0)) = true := by simpa using c21))
                        clear c21
                        by_cases c23 : (((rd_T34 t153 x8_3).f1) != (x8_3 == (wrap64 ((t153.length : Int) - 1)))) = true
                        · rw [if_pos c23] at H
                          have c23b0 : (((rd_T34 t153 x8_3).f1) != (x8_3 == (wrap64 ((t153.length : Int) - 1)))) = true := c23
                          (try (have c23b1 : decide (((rd_T34 t153 x8_3).f1) = (x8_3 == (wrap64 ((t153.length : Int) - 1)))) = false := by simpa using c23))
                          (try (have c23b2 : (((rd_T34 t153 x8_3).f1) == (x8_3 == (wrap64 ((t153.length : Int) - 1)))) = false := by simpa using c23))
                          (try (have c23b3 : ¬ (((rd_T34 t153 x8_3).f1) = (x8_3 == (wrap64 ((t153.length : Int) - 1)))) := by simpa using c23))
                          clear c23
                          obtain rfl := Option.some.inj H
                          obtain ⟨Ao24, co24, eo24⟩ := Kd.S_slice HO_6.out
                          subst eo24
                          have p157 : 0 ≤ (x8_3 : Int) := of_decide_eq_true (by first | (with_reducible assumption) | assumption)
                          have q157 : x8_3 < (t153.length : Int) := of_decide_eq_true (by first | (with_reducible assumption) | assumption)
                          obtain ⟨ad157, A157_2, c157_2, e157, hx157_0, hx157_1, hx157_2, hl157_2, hi157_2⟩ := at_T34 (Kd.S_reads' HO_6.out).2.2 x8_3 p157 q157
                          cases e157
                          obtain ⟨ce157, hce157, hMe157, hcc157⟩ := Kd.S_get HO_6.out z34 x8_3 p157 (by first | exact q157 | exact of_decide_eq_true (by first | (with_reducible assumption) | assumption) | (have e_ := (Kd.S_reads' HO_6.out).1; omega))
                          obtain ⟨ve157_2, rfl, ge157_2⟩ := k34_openM hMe157
                          have hv157_2 := hcc157 2 _ rfl
                          rw [add_field _ _ 2 (by omega)] at hv157_2
                          replace hv157_2 := Option.some.inj (hv157_2.symm.trans hx157_2)
                          rw [hv157_2] at ge157_2
                          have HL157_2 := Aside0.mk (show Kd.R (Kd.int .u8) 5 _ _ _ _ ((rd_T34 t153 x8_3).f2) from ge157_2)
                          clear hv157_2 ge157_2
                          clear hcc157 hce157
                          have HR157_2 := Aside0.mk hi157_2
                          have HC157_2 := Aside0.mk hl157_2
                          clear hi157_2 hl157_2
                          replace p157 := eq_true p157
                          replace q157 := eq_true q157
                          have p158 : 0 ≤ (x8_3 : Int) := of_decide_eq_true (by first | (with_reducible assumption) | assumption)
                          have q158 : x8_3 < (t153.length : Int) := of_decide_eq_true (by first | (with_reducible assumption) | assumption)
                          obtain ⟨ad158, A158_2, c158_2, e158, hx158_0, hx158_1, hx158_2, hl158_2, hi158_2⟩ := at_T34 (Kd.S_reads' HO_6.out).2.2 x8_3 p158 q158
                          obtain rfl : ad157 = ad158 := (by injection e158)
                          obtain ⟨ce158, hce158, hMe158, hcc158⟩ := Kd.S_get HO_6.out z34 x8_3 p158 (by first | exact q158 | exact of_decide_eq_true (by first | (with_reducible assumption) | assumption) | (have e_ := (Kd.S_reads' HO_6.out).1; omega))
                          obtain ⟨ve158_2, rfl, ge158_2⟩ := k34_openM hMe158
                          have hv158_2 := hcc158 2 _ rfl
                          rw [add_field _ _ 2 (by omega)] at hv158_2
                          replace hv158_2 := Option.some.inj (hv158_2.symm.trans hx158_2)
                          rw [hv158_2] at ge158_2
                          have HL158_2 := Aside0.mk (show Kd.R (Kd.int .u8) 5 _ _ _ _ ((rd_T34 t153 x8_3).f2) from ge158_2)
                          clear hv158_2 ge158_2
                          clear hcc158 hce158
                          have HR158_2 := Aside0.mk hi158_2
                          have HC158_2 := Aside0.mk hl158_2
                          clear hi158_2 hl158_2
                          replace p158 := eq_true p158
                          replace q158 := eq_true q158
                          have ea_ := Option.some.inj (hx157_2.symm.trans hx158_2)
                          injection ea_ with ea_ en_ ec_
                          subst ea_
                          subst ec_
                          clear en_
                          go_wp2
                          go_ret
                          exact ⟨by first | rfl | (simp [errW_none, errW_some] <;> rfl) | (simp [*, errW_none, errW_some] <;> rfl), by repeat (first | (with_reducible first | exact HB.out | apply below_alloc | apply pw_below_drewN | apply below_drew1) | exact HB.out)⟩
                        · rw [if_neg c23] at H
                          have c23b0 : (((rd_T34 t153 x8_3).f1) != (x8_3 == (wrap64 ((t153.length : Int) - 1)))) = false := by simpa using c23
                          (try (have c23b1 : decide (((rd_T34 t153 x8_3).f1) = (x8_3 == (wrap64 ((t153.length : Int) - 1)))) = true := by simpa using c23))
                          (try (have c23b2 : (((rd_T34 t153 x8_3).f1) == (x8_3 == (wrap64 ((t153.length : Int) - 1)))) = true := by simpa using c23))
                          clear c23
                          by_cases c25 : (((rd_T34 t153 x8_3).f2).length : Int) = 0
                          · rw [if_pos c25] at H
                            have c25b0 : ((((rd_T34 t153 x8_3).f2).length : Int) == 0) = true := beq_iff_eq.mpr c25
                            have c25b1 : ((((rd_T34 t153 x8_3).f2).length : Int) != 0) = false := bne_eq_false_iff_eq.mpr c25
                            clear c25
                            obtain rfl := Option.some.inj H
                            obtain ⟨Ao26, co26, eo26⟩ := Kd.S_slice HO_6.out
                            subst eo26
                            have p157 : 0 ≤ (x8_3 : Int) := of_decide_eq_true (by first | (with_reducible assumption) | assumption)
                            have q157 : x8_3 < (t153.length : Int) := of_decide_eq_true (by first | (with_reducible assumption) | assumption)
                            obtain ⟨ad157, A157_2, c157_2, e157, hx157_0, hx157_1, hx157_2, hl157_2, hi157_2⟩ := at_T34 (Kd.S_reads' HO_6.out).2.2 x8_3 p157 q157
                            cases e157
                            obtain ⟨ce157, hce157, hMe157, hcc157⟩ := Kd.S_get HO_6.out z34 x8_3 p157 (by first | exact q157 | exact of_decide_eq_true (by first | (with_reducible assumption) | assumption) | (have e_ := (Kd.S_reads' HO_6.out).1; omega))
                            obtain ⟨ve157_2, rfl, ge157_2⟩ := k34_openM hMe157
                            have hv157_2 := hcc157 2 _ rfl
                            rw [add_field _ _ 2 (by omega)] at hv157_2
                            replace hv157_2 := Option.some.inj (hv157_2.symm.trans hx157_2)
                            rw [hv157_2] at ge157_2
                            have HL157_2 := Aside0.mk (show Kd.R (Kd.int .u8) 5 _ _ _ _ ((rd_T34 t153 x8_3).f2) from ge157_2)
                            clear hv157_2 ge157_2
                            clear hcc157 hce157
                            have HR157_2 := Aside0.mk hi157_2
                            have HC157_2 := Aside0.mk hl157_2
                            clear hi157_2 hl157_2
                            replace p157 := eq_true p157
                            replace q157 := eq_true q157
                            have p158 : 0 ≤ (x8_3 : Int) := of_decide_eq_true (by first | (with_reducible assumption) | assumption)
                            have q158 : x8_3 < (t153.length : Int) := of_decide_eq_true (by first | (with_reducible assumption) | assumption)
                            obtain ⟨ad158, A158_2, c158_2, e158, hx158_0, hx158_1, hx158_2, hl158_2, hi158_2⟩ := at_T34 (Kd.S_reads' HO_6.out).2.2 x8_3 p158 q158
                            obtain rfl : ad157 = ad158 := (by injection e158)
                            obtain ⟨ce158, hce158, hMe158, hcc158⟩ := Kd.S_get HO_6.out z34 x8_3 p158 (by first | exact q158 | exact of_decide_eq_true (by first | (with_reducible assumption) | assumption) | (have e_ := (Kd.S_reads' HO_6.out).1; omega))
                            obtain ⟨ve158_2, rfl, ge158_2⟩ := k34_openM hMe158
                            have hv158_2 := hcc158 2 _ rfl
                            rw [add_field _ _ 2 (by omega)] at hv158_2
                            replace hv158_2 := Option.some.inj (hv158_2.symm.trans hx158_2)
                            rw [hv158_2] at ge158_2
                            have HL158_2 := Aside0.mk (show Kd.R (Kd.int .u8) 5 _ _ _ _ ((rd_T34 t153 x8_3).f2) from ge158_2)
                            clear hv158_2 ge158_2
                            clear hcc158 hce158
                            have HR158_2 := Aside0.mk hi158_2
                            have HC158_2 := Aside0.mk hl158_2
                            clear hi158_2 hl158_2
                            replace p158 := eq_true p158
                            replace q158 := eq_true q158
                            have ea_ := Option.some.inj (hx157_2.symm.trans hx158_2)
                            injection ea_ with ea_ en_ ec_
                            subst ea_
                            subst ec_
                            clear en_
                            have p159 : 0 ≤ (x8_3 : Int) := of_decide_eq_true (by first | (with_reducible assumption) | assumption)
                            have q159 : x8_3 < (t153.length : Int) := of_decide_eq_true (by first | (with_reducible assumption) | assumption)
                            obtain ⟨ad159, A159_2, c159_2, e159, hx159_0, hx159_1, hx159_2, hl159_2, hi159_2⟩ := at_T34 (Kd.S_reads' HO_6.out).2.2 x8_3 p159 q159
                            obtain rfl : ad157 = ad159 := (by injection e159)
                            obtain ⟨ce159, hce159, hMe159, hcc159⟩ := Kd.S_get HO_6.out z34 x8_3 p159 (by first | exact q159 | exact of_decide_eq_true (by first | (with_reducible assumption) | assumption) | (have e_ := (Kd.S_reads' HO_6.out).1; omega))
                            obtain ⟨ve159_2, rfl, ge159_2⟩ := k34_openM hMe159
                            have hv159_2 := hcc159 2 _ rfl
                            rw [add_field _ _ 2 (by omega)] at hv159_2
                            replace hv159_2 := Option.some.inj (hv159_2.symm.trans hx159_2)
                            rw [hv159_2] at ge159_2
                            have HL159_2 := Aside0.mk (show Kd.R (Kd.int .u8) 5 _ _ _ _ ((rd_T34 t153 x8_3).f2) from ge159_2)
                            clear hv159_2 ge159_2
                            clear hcc159 hce159
                            have HR159_2 := Aside0.mk hi159_2
                            have HC159_2 := Aside0.mk hl159_2
                            clear hi159_2 hl159_2
                            replace p159 := eq_true p159
                            replace q159 := eq_true q159
                            have ea_ := Option.some.inj (hx157_2.symm.trans hx159_2)
                            injection ea_ with ea_ en_ ec_
                            subst ea_
                            subst ec_
                            clear en_
                            go_wp2
                            go_ret
                            exact ⟨by first | rfl | (simp [errW_none, errW_some] <;> rfl) | (simp [*, errW_none, errW_some] <;> rfl), by repeat (first | (with_reducible first | exact HB.out | apply below_alloc | apply pw_below_drewN | apply below_drew1) | exact HB.out)⟩
                          · rw [if_neg c25] at H
                            have c25b0 : ((((rd_T34 t153 x8_3).f2).length : Int) == 0) = false := beq_eq_false_iff_ne.mpr c25
                            have c25b1 : ((((rd_T34 t153 x8_3).f2).length : Int) != 0) = true := bne_iff_ne.mpr c25
                            have c25b2 : ¬ (((rd_T34 t153 x8_3).f2) = []) := fun h_ => c25 (by rw [h_]; rfl)
                            by_cases c27 : (((rd_T34 t153 x8_3).f2).length : Int) > a1
                            · rw [if_pos c27] at H
                              have c27b0 : decide (a1 < (((rd_T34 t153 x8_3).f2).length : Int)) = true := decide_eq_true c27
                              clear c27
                              obtain rfl := Option.some.inj H
                              obtain ⟨Ao28, co28, eo28⟩ := Kd.S_slice HO_6.out
                              subst eo28
                              have p157 : 0 ≤ (x8_3 : Int) := of_decide_eq_true (by first | (with_reducible assumption) | assumption)
                              have q157 : x8_3 < (t153.length : Int) := of_decide_eq_true (by first | (with_reducible assumption) | assumption)
                              obtain ⟨ad157, A157_2, c157_2, e157, hx157_0, hx157_1, hx157_2, hl157_2, hi157_2⟩ := at_T34 (Kd.S_reads' HO_6.out).2.2 x8_3 p157 q157
                              cases e157
                              obtain ⟨ce157, hce157, hMe157, hcc157⟩ := Kd.S_get HO_6.out z34 x8_3 p157 (by first | exact q157 | exact of_decide_eq_true (by first | (with_reducible assumption) | assumption) | (have e_ := (Kd.S_reads' HO_6.out).1; omega))
                              obtain ⟨ve157_2, rfl, ge157_2⟩ := k34_openM hMe157
                              have hv157_2 := hcc157 2 _ rfl
                              rw [add_field _ _ 2 (by omega)] at hv157_2
                              replace hv157_2 := Option.some.inj (hv157_2.symm.trans hx157_2)
                              rw [hv157_2] at ge157_2
                              have HL157_2 := Aside0.mk (show Kd.R (Kd.int .u8) 5 _ _ _ _ ((rd_T34 t153 x8_3).f2) from ge157_2)
                              clear hv157_2 ge157_2
                              clear hcc157 hce157
                              have HR157_2 := Aside0.mk hi157_2
                              have HC157_2 := Aside0.mk hl157_2
                              clear hi157_2 hl157_2
                              replace p157 := eq_true p157
                              replace q157 := eq_true q157
                              have p158 : 0 ≤ (x8_3 : Int) := of_decide_eq_true (by first | (with_reducible assumption) | assumption)
                              have q158 : x8_3 < (t153.length : Int) := of_decide_eq_true (by first | (with_reducible assumption) | assumption)
                              obtain ⟨ad158, A158_2, c158_2, e158, hx158_0, hx158_1, hx158_2, hl158_2, hi158_2⟩ := at_T34 (Kd.S_reads' HO_6.out).2.2 x8_3 p158 q158
                              obtain rfl : ad157 = ad158 := (by injection e158)
                              obtain ⟨ce158, hce158, hMe158, hcc158⟩ := Kd.S_get HO_6.out z34 x8_3 p158 (by first | exact q158 | exact of_decide_eq_true (by first | (with_reducible assumption) | assumption) | (have e_ := (Kd.S_reads' HO_6.out).1; omega))
                              obtain ⟨ve158_2, rfl, ge158_2⟩ := k34_openM hMe158
                              have hv158_2 := hcc158 2 _ rfl
                              rw [add_field _ _ 2 (by omega)] at hv158_2
                              replace hv158_2 := Option.some.inj (hv158_2.symm.trans hx158_2)
                              rw [hv158_2] at ge158_2
                              have HL158_2 := Aside0.mk (show Kd.R (Kd.int .u8) 5 _ _ _ _ ((rd_T34 t153 x8_3).f2) from ge158_2)
                              clear hv158_2 ge158_2
                              clear hcc158 hce158
                              have HR158_2 := Aside0.mk hi158_2
                              have HC158_2 := Aside0.mk hl158_2
                              clear hi158_2 hl158_2
                              replace p158 := eq_true p158
                              replace q158 := eq_true q158
                              have ea_ := Option.some.inj (hx157_2.symm.trans hx158_2)
                              injection ea_ with ea_ en_ ec_
                              subst ea_
                              subst ec_
                              clear en_
                              have p159 : 0 ≤ (x8_3 : Int) := of_decide_eq_true (by first | (with_reducible assumption) | assumption)
                              have q159 : x8_3 < (t153.length : Int) := of_decide_eq_true (by first | (with_reducible assumption) | assumption)
                              obtain ⟨ad159, A159_2, c159_2, e159, hx159_0, hx159_1, hx159_2, hl159_2, hi159_2⟩ := at_T34 (Kd.S_reads' HO_6.out).2.2 x8_3 p159 q159
                              obtain rfl : ad157 = ad159 := (by injection e159)
                              obtain ⟨ce159, hce159, hMe159, hcc159⟩ := Kd.S_get HO_6.out z34 x8_3 p159 (by first | exact q159 | exact of_decide_eq_true (by first | (with_reducible assumption) | assumption) | (have e_ := (Kd.S_reads' HO_6.out).1; omega))
                              obtain ⟨ve159_2, rfl, ge159_2⟩ := k34_openM hMe159
                              have hv159_2 := hcc159 2 _ rfl
                              rw [add_field _ _ 2 (by omega)] at hv159_2
                              replace hv159_2 := Option.some.inj (hv159_2.symm.trans hx159_2)
                              rw [hv159_2] at ge159_2
                              have HL159_2 := Aside0.mk (show Kd.R (Kd.int .u8) 5 _ _ _ _ ((rd_T34 t153 x8_3).f2) from ge159_2)
                              clear hv159_2 ge159_2
                              clear hcc159 hce159
                              have HR159_2 := Aside0.mk hi159_2
                              have HC159_2 := Aside0.mk hl159_2
                              clear hi159_2 hl159_2
                              replace p159 := eq_true p159
                              replace q159 := eq_true q159
                              have ea_ := Option.some.inj (hx157_2.symm.trans hx159_2)
                              injection ea_ with ea_ en_ ec_
                              subst ea_
                              subst ec_
                              clear en_
                              have p160 : 0 ≤ (x8_3 : Int) := of_decide_eq_true (by first | (with_reducible assumption) | assumption)
                              have q160 : x8_3 < (t153.length : Int) := of_decide_eq_true (by first | (with_reducible assumption) | assumption)
                              obtain ⟨ad160, A160_2, c160_2, e160, hx160_0, hx160_1, hx160_2, hl160_2, hi160_2⟩ := at_T34 (Kd.S_reads' HO_6.out).2.2 x8_3 p160 q160
                              obtain rfl : ad157 = ad160 := (by injection e160)
                              obtain ⟨ce160, hce160, hMe160, hcc160⟩ := Kd.S_get HO_6.out z34 x8_3 p160 (by first | exact q160 | exact of_decide_eq_true (by first | (with_reducible assumption) | assumption) | (have e_ := (Kd.S_reads' HO_6.out).1; omega))
                              obtain ⟨ve160_2, rfl, ge160_2⟩ := k34_openM hMe160
                              have hv160_2 := hcc160 2 _ rfl
                              rw [add_field _ _ 2 (by omega)] at hv160_2
                              replace hv160_2 := Option.some.inj (hv160_2.symm.trans hx160_2)
                              rw [hv160_2] at ge160_2
                              have HL160_2 := Aside0.mk (show Kd.R (Kd.int .u8) 5 _ _ _ _ ((rd_T34 t153 x8_3).f2) from ge160_2)
                              clear hv160_2 ge160_2
                              clear hcc160 hce160
                              have HR160_2 := Aside0.mk hi160_2
                              have HC160_2 := Aside0.mk hl160_2
                              clear hi160_2 hl160_2
                              replace p160 := eq_true p160
                              replace q160 := eq_true q160
                              have ea_ := Option.some.inj (hx157_2.symm.trans hx160_2)
                              injection ea_ with ea_ en_ ec_
                              subst ea_
                              subst ec_
                              clear en_
                              go_wp2
                              go_ret
                              exact ⟨by first | rfl | (simp [errW_none, errW_some] <;> rfl) | (simp [*, errW_none, errW_some] <;> rfl), by repeat (first | (with_reducible first | exact HB.out | apply below_alloc | apply pw_below_drewN | apply below_drew1) | exact HB.out)⟩
                            · rw [if_neg c27] at H
                              have c27b0 : decide (a1 < (((rd_T34 t153 x8_3).f2).length : Int)) = false := decide_eq_false c27
                              clear c27
                              by_cases c29 : x8_3 < (wrap64 ((t153.length : Int) - 1))
                              · rw [if_pos c29] at H
                                have c29b0 : decide (x8_3 < (wrap64 ((t153.length : Int) - 1))) = true := decide_eq_true c29
                                clear c29
                                by_cases c30 : (((rd_T34 t153 x8_3).f2).length : Int) = a1
                                · rw [if_pos c30] at H
                                  have c30b0 : ((((rd_T34 t153 x8_3).f2).length : Int) == a1) = true := beq_iff_eq.mpr c30
                                  have c30b1 : ((((rd_T34 t153 x8_3).f2).length : Int) != a1) = false := bne_eq_false_iff_eq.mpr c30
                                  clear c30
                                  have H' := Aside0.mk H
                                  clear H
                                  obtain ⟨Ao31, co31, eo31⟩ := Kd.S_slice HO_6.out
                                  subst eo31
                                  have p157 : 0 ≤ (x8_3 : Int) := of_decide_eq_true (by first | (with_reducible assumption) | assumption)
                                  have q157 : x8_3 < (t153.length : Int) := of_decide_eq_true (by first | (with_reducible assumption) | assumption)
                                  obtain ⟨ad157, A157_2, c157_2, e157, hx157_0, hx157_1, hx157_2, hl157_2, hi157_2⟩ := at_T34 (Kd.S_reads' HO_6.out).2.2 x8_3 p157 q157
                                  cases e157
                                  obtain ⟨ce157, hce157, hMe157, hcc157⟩ := Kd.S_get HO_6.out z34 x8_3 p157 (by first | exact q157 | exact of_decide_eq_true (by first | (with_reducible assumption) | assumption) | (have e_ := (Kd.S_reads' HO_6.out).1; omega))
                                  obtain ⟨ve157_2, rfl, ge157_2⟩ := k34_openM hMe157
                                  have hv157_2 := hcc157 2 _ rfl
                                  rw [add_field _ _ 2 (by omega)] at hv157_2
                                  replace hv157_2 := Option.some.inj (hv157_2.symm.trans hx157_2)
                                  rw [hv157_2] at ge157_2
                                  have HL157_2 := Aside0.mk (show Kd.R (Kd.int .u8) 5 _ _ _ _ ((rd_T34 t153 x8_3).f2) from ge157_2)
                                  clear hv157_2 ge157_2
                                  clear hcc157 hce157
                                  have HR157_2 := Aside0.mk hi157_2
                                  have HC157_2 := Aside0.mk hl157_2
                                  clear hi157_2 hl157_2
                                  replace p157 := eq_true p157
                                  replace q157 := eq_true q157
                                  have p158 : 0 ≤ (x8_3 : Int) := of_decide_eq_true (by first | (with_reducible assumption) | assumption)
                                  have q158 : x8_3 < (t153.length : Int) := of_decide_eq_true (by first | (with_reducible assumption) | assumption)
                                  obtain ⟨ad158, A158_2, c158_2, e158, hx158_0, hx158_1, hx158_2, hl158_2, hi158_2⟩ := at_T34 (Kd.S_reads' HO_6.out).2.2 x8_3 p158 q158
                                  obtain rfl : ad157 = ad158 := (by injection e158)
                                  obtain ⟨ce158, hce158, hMe158, hcc158⟩ := Kd.S_get HO_6.out z34 x8_3 p158 (by first | exact q158 | exact of_decide_eq_true (by first | (with_reducible assumption) | assumption) | (have e_ := (Kd.S_reads' HO_6.out).1; omega))
                                  obtain ⟨ve158_2, rfl, ge158_2⟩ := k34_openM hMe158
                                  have hv158_2 := hcc158 2 _ rfl
                                  rw [add_field _ _ 2 (by omega)] at hv158_2
                                  replace hv158_2 := Option.some.inj (hv158_2.symm.trans hx158_2)
                                  rw [hv158_2] at ge158_2
                                  have HL158_2 := Aside0.mk (show Kd.R (Kd.int .u8) 5 _ _ _ _ ((rd_T34 t153 x8_3).f2) from ge158_2)
                                  clear hv158_2 ge158_2
                                  clear hcc158 hce158
                                  have HR158_2 := Aside0.mk hi158_2
                                  have HC158_2 := Aside0.mk hl158_2
                                  clear hi158_2 hl158_2
                                  replace p158 := eq_true p158
                                  replace q158 := eq_true q158
                                  have ea_ := Option.some.inj (hx157_2.symm.trans hx158_2)
                                  injection ea_ with ea_ en_ ec_
                                  subst ea_
                                  subst ec_
                                  clear en_
                                  have p159 : 0 ≤ (x8_3 : Int) := of_decide_eq_true (by first | (with_reducible assumption) | assumption)
                                  have q159 : x8_3 < (t153.length : Int) := of_decide_eq_true (by first | (with_reducible assumption) | assumption)
                                  obtain ⟨ad159, A159_2, c159_2, e159, hx159_0, hx159_1, hx159_2, hl159_2, hi159_2⟩ := at_T34 (Kd.S_reads' HO_6.out).2.2 x8_3 p159 q159
                                  obtain rfl : ad157 = ad159 := (by injection e159)
                                  obtain ⟨ce159, hce159, hMe159, hcc159⟩ := Kd.S_get HO_6.out z34 x8_3 p159 (by first | exact q159 | exact of_decide_eq_true (by first | (with_reducible assumption) | assumption) | (have e_ := (Kd.S_reads' HO_6.out).1; omega))
                                  obtain ⟨ve159_2, rfl, ge159_2⟩ := k34_openM hMe159
                                  have hv159_2 := hcc159 2 _ rfl
                                  rw [add_field _ _ 2 (by omega)] at hv159_2
                                  replace hv159_2 := Option.some.inj (hv159_2.symm.trans hx159_2)
                                  rw [hv159_2] at ge159_2
                                  have HL159_2 := Aside0.mk (show Kd.R (Kd.int .u8) 5 _ _ _ _ ((rd_T34 t153 x8_3).f2) from ge159_2)
                                  clear hv159_2 ge159_2
                                  clear hcc159 hce159
                                  have HR159_2 := Aside0.mk hi159_2
                                  have HC159_2 := Aside0.mk hl159_2
                                  clear hi159_2 hl159_2
                                  replace p159 := eq_true p159
                                  replace q159 := eq_true q159
                                  have ea_ := Option.some.inj (hx157_2.symm.trans hx159_2)
                                  injection ea_ with ea_ en_ ec_
                                  subst ea_
                                  subst ec_
                                  clear en_
                                  have p160 : 0 ≤ (x8_3 : Int) := of_decide_eq_true (by first | (with_reducible assumption) | assumption)
                                  have q160 : x8_3 < (t153.length : Int) := of_decide_eq_true (by first | (with_reducible assumption) | assumption)
                                  obtain ⟨ad160, A160_2, c160_2, e160, hx160_0, hx160_1, hx160_2, hl160_2, hi160_2⟩ := at_T34 (Kd.S_reads' HO_6.out).2.2 x8_3 p160 q160
                                  obtain rfl : ad157 = ad160 := (by injection e160)
                                  obtain ⟨ce160, hce160, hMe160, hcc160⟩ := Kd.S_get HO_6.out z34 x8_3 p160 (by first | exact q160 | exact of_decide_eq_true (by first | (with_reducible assumption) | assumption) | (have e_ := (Kd.S_reads' HO_6.out).1; omega))
                                  obtain ⟨ve160_2, rfl, ge160_2⟩ := k34_openM hMe160
                                  have hv160_2 := hcc160 2 _ rfl
                                  rw [add_field _ _ 2 (by omega)] at hv160_2
                                  replace hv160_2 := Option.some.inj (hv160_2.symm.trans hx160_2)
                                  rw [hv160_2] at ge160_2
                                  have HL160_2 := Aside0.mk (show Kd.R (Kd.int .u8) 5 _ _ _ _ ((rd_T34 t153 x8_3).f2) from ge160_2)
                                  clear hv160_2 ge160_2
                                  clear hcc160 hce160
                                  have HR160_2 := Aside0.mk hi160_2
                                  have HC160_2 := Aside0.mk hl160_2
                                  clear hi160_2 hl160_2
                                  replace p160 := eq_true p160
                                  replace q160 := eq_true q160
                                  have ea_ := Option.some.inj (hx157_2.symm.trans hx160_2)
                                  injection ea_ with ea_ en_ ec_
                                  subst ea_
                                  subst ec_
                                  clear en_
                                  have p161 : 0 ≤ (x8_3 : Int) := of_decide_eq_true (by first | (with_reducible assumption) | assumption)
                                  have q161 : x8_3 < (t153.length : Int) := of_decide_eq_true (by first | (with_reducible assumption) | assumption)
                                  obtain ⟨ad161, A161_2, c161_2, e161, hx161_0, hx161_1, hx161_2, hl161_2, hi161_2⟩ := at_T34 (Kd.S_reads' HO_6.out).2.2 x8_3 p161 q161
                                  obtain rfl : ad157 = ad161 := (by injection e161)
                                  obtain ⟨ce161, hce161, hMe161, hcc161⟩ := Kd.S_get HO_6.out z34 x8_3 p161 (by first | exact q161 | exact of_decide_eq_true (by first | (with_reducible assumption) | assumption) | (have e_ := (Kd.S_reads' HO_6.out).1; omega))
                                  obtain ⟨ve161_2, rfl, ge161_2⟩ := k34_openM hMe161
                                  have hv161_2 := hcc161 2 _ rfl
                                  rw [add_field _ _ 2 (by omega)] at hv161_2
                                  replace hv161_2 := Option.some.inj (hv161_2.symm.trans hx161_2)
                                  rw [hv161_2] at ge161_2
                                  have HL161_2 := Aside0.mk (show Kd.R (Kd.int .u8) 5 _ _ _ _ ((rd_T34 t153 x8_3).f2) from ge161_2)
                                  clear hv161_2 ge161_2
                                  clear hcc161 hce161
                                  have HR161_2 := Aside0.mk hi161_2
                                  have HC161_2 := Aside0.mk hl161_2
                                  clear hi161_2 hl161_2
                                  replace p161 := eq_true p161
                                  replace q161 := eq_true q161
                                  have ea_ := Option.some.inj (hx157_2.symm.trans hx161_2)
                                  injection ea_ with ea_ en_ ec_
                                  subst ea_
                                  subst ec_
                                  clear en_
                                  go_wp2
                                  go_roundg k3
                                  case measure => have := HJ6.out; have := HJ12.out; have := HK3.out; omega
                                  case rel => exact ⟨(wrap64 (x8_3 + 1)), (by first | rfl | (simp; done) | (simp [*]; done) | (simp; exact bq_ne _ _)), H', ⟨by have := HJ6.out; have := HJ12.out; have := HK3.out; omega⟩, ⟨by (with_reducible repeat (first | apply Kd.S_alloc | apply Kd.S_drewN | apply Kd.S_drew)); exact HO_6.out⟩, ⟨by repeat (first | (with_reducible first | exact HB.out | apply below_alloc | apply pw_below_drewN | apply below_drew1) | exact HB.out)⟩⟩
                                · rw [if_neg c30] at H
                                  have c30b0 : ((((rd_T34 t153 x8_3).f2).length : Int) == a1) = false := beq_eq_false_iff_ne.mpr c30
                                  have c30b1 : ((((rd_T34 t153 x8_3).f2).length : Int) != a1) = true := bne_iff_ne.mpr c30
                                  obtain rfl := Option.some.inj H
                                  obtain ⟨Ao32, co32, eo32⟩ := Kd.S_slice HO_6.out
                                  subst eo32
                                  have p157 : 0 ≤ (x8_3 : Int) := of_decide_eq_true (by first | (with_reducible assumption) | assumption)
                                  have q157 : x8_3 < (t153.length : Int) := of_decide_eq_true (by first | (with_reducible assumption) | assumption)
                                  obtain ⟨ad157, A157_2, c157_2, e157, hx157_0, hx157_1, hx157_2, hl157_2, hi157_2⟩ := at_T34 (Kd.S_reads' HO_6.out).2.2 x8_3 p157 q157
                                  cases e157
                                  obtain ⟨ce157, hce157, hMe157, hcc157⟩ := Kd.S_get HO_6.out z34 x8_3 p157 (by first | exact q157 | exact of_decide_eq_true (by first | (with_reducible assumption) | assumption) | (have e_ := (Kd.S_reads' HO_6.out).1; omega))
                                  obtain ⟨ve157_2, rfl, ge157_2⟩ := k34_openM hMe157
                                  have hv157_2 := hcc157 2 _ rfl
                                  rw [add_field _ _ 2 (by omega)] at hv157_2
                                  replace hv157_2 := Option.some.inj (hv157_2.symm.trans hx157_2)
                                  rw [hv157_2] at ge157_2
                                  have HL157_2 := Aside0.mk (show Kd.R (Kd.int .u8) 5 _ _ _ _ ((rd_T34 t153 x8_3).f2) from ge157_2)
                                  clear hv157_2 ge157_2
                                  clear hcc157 hce157
                                  have HR157_2 := Aside0.mk hi157_2
                                  have HC157_2 := Aside0.mk hl157_2
                                  clear hi157_2 hl157_2
                                  replace p157 := eq_true p157
                                  replace q157 := eq_true q157
                                  have p158 : 0 ≤ (x8_3 : Int) := of_decide_eq_true (by first | (with_reducible assumption) | assumption)
                                  have q158 : x8_3 < (t153.length : Int) := of_decide_eq_true (by first | (with_reducible assumption) | assumption)
                                  obtain ⟨ad158, A158_2, c158_2, e158, hx158_0, hx158_1, hx158_2, hl158_2, hi158_2⟩ := at_T34 (Kd.S_reads' HO_6.out).2.2 x8_3 p158 q158
                                  obtain rfl : ad157 = ad158 := (by injection e158)
                                  obtain ⟨ce158, hce158, hMe158, hcc158⟩ := Kd.S_get HO_6.out z34 x8_3 p158 (by first | exact q158 | exact of_decide_eq_true (by first | (with_reducible assumption) | assumption) | (have e_ := (Kd.S_reads' HO_6.out).1; omega))
                                  obtain ⟨ve158_2, rfl, ge158_2⟩ := k34_openM hMe158
                                  have hv158_2 := hcc158 2 _ rfl
                                  rw [add_field _ _ 2 (by omega)] at hv158_2
                                  replace hv158_2 := Option.some.inj (hv158_2.symm.trans hx158_2)
                                  rw [hv158_2] at ge158_2
                                  have HL158_2 := Aside0.mk (show Kd.R (Kd.int .u8) 5 _ _ _ _ ((rd_T34 t153 x8_3).f2) from ge158_2)
                                  clear hv158_2 ge158_2
                                  clear hcc158 hce158
                                  have HR158_2 := Aside0.mk hi158_2
                                  have HC158_2 := Aside0.mk hl158_2
                                  clear hi158_2 hl158_2
                                  replace p158 := eq_true p158
                                  replace q158 := eq_true q158
                                  have ea_ := Option.some.inj (hx157_2.symm.trans hx158_2)
                                  injection ea_ with ea_ en_ ec_
                                  subst ea_
                                  subst ec_
                                  clear en_
                                  have p159 : 0 ≤ (x8_3 : Int) := of_decide_eq_true (by first | (with_reducible assumption) | assumption)
                                  have q159 : x8_3 < (t153.length : Int) := of_decide_eq_true (by first | (with_reducible assumption) | assumption)
                                  obtain ⟨ad159, A159_2, c159_2, e159, hx159_0, hx159_1, hx159_2, hl159_2, hi159_2⟩ := at_T34 (Kd.S_reads' HO_6.out).2.2 x8_3 p159 q159
                                  obtain rfl : ad157 = ad159 := (by injection e159)
                                  obtain ⟨ce159, hce159, hMe159, hcc159⟩ := Kd.S_get HO_6.out z34 x8_3 p159 (by first | exact q159 | exact of_decide_eq_true (by first | (with_reducible assumption) | assumption) | (have e_ := (Kd.S_reads' HO_6.out).1; omega))
                                  obtain ⟨ve159_2, rfl, ge159_2⟩ := k34_openM hMe159
                                  have hv159_2 := hcc159 2 _ rfl
                                  rw [add_field _ _ 2 (by omega)] at hv159_2
                                  replace hv159_2 := Option.some.inj (hv159_2.symm.trans hx159_2)
                                  rw [hv159_2] at ge159_2
                                  have HL159_2 := Aside0.mk (show Kd.R (Kd.int .u8) 5 _ _ _ _ ((rd_T34 t153 x8_3).f2) from ge159_2)
                                  clear hv159_2 ge159_2
                                  clear hcc159 hce159
                                  have HR159_2 := Aside0.mk hi159_2
                                  have HC159_2 := Aside0.mk hl159_2
                                  clear hi159_2 hl159_2
                                  replace p159 := eq_true p159
                                  replace q159 := eq_true q159
                                  have ea_ := Option.some.inj (hx157_2.symm.trans hx159_2)
                                  injection ea_ with ea_ en_ ec_
                                  subst ea_
                                  subst ec_
                                  clear en_
                                  have p160 : 0 ≤ (x8_3 : Int) := of_decide_eq_true (by first | (with_reducible assumption) | assumption)
                                  have q160 : x8_3 < (t153.length : Int) := of_decide_eq_true (by first | (with_reducible assumption) | assumption)
                                  obtain ⟨ad160, A160_2, c160_2, e160, hx160_0, hx160_1, hx160_2, hl160_2, hi160_2⟩ := at_T34 (Kd.S_reads' HO_6.out).2.2 x8_3 p160 q160
                                  obtain rfl : ad157 = ad160 := (by injection e160)
                                  obtain ⟨ce160, hce160, hMe160, hcc160⟩ := Kd.S_get HO_6.out z34 x8_3 p160 (by first | exact q160 | exact of_decide_eq_true (by first | (with_reducible assumption) | assumption) | (have e_ := (Kd.S_reads' HO_6.out).1; omega))
                                  obtain ⟨ve160_2, rfl, ge160_2⟩ := k34_openM hMe160
                                  have hv160_2 := hcc160 2 _ rfl
                                  rw [add_field _ _ 2 (by omega)] at hv160_2
                                  replace hv160_2 := Option.some.inj (hv160_2.symm.trans hx160_2)
                                  rw [hv160_2] at ge160_2
                                  have HL160_2 := Aside0.mk (show Kd.R (Kd.int .u8) 5 _ _ _ _ ((rd_T34 t153 x8_3).f2) from ge160_2)
                                  clear hv160_2 ge160_2
                                  clear hcc160 hce160
                                  have HR160_2 := Aside0.mk hi160_2
                                  have HC160_2 := Aside0.mk hl160_2
                                  clear hi160_2 hl160_2
                                  replace p160 := eq_true p160
                                  replace q160 := eq_true q160
                                  have ea_ := Option.some.inj (hx157_2.symm.trans hx160_2)
                                  injection ea_ with ea_ en_ ec_
                                  subst ea_
                                  subst ec_
                                  clear en_
                                  have p161 : 0 ≤ (x8_3 : Int) := of_decide_eq_true (by first | (with_reducible assumption) | assumption)
                                  have q161 : x8_3 < (t153.length : Int) := of_decide_eq_true (by first | (with_reducible assumption) | assumption)
                                  obtain ⟨ad161, A161_2, c161_2, e161, hx161_0, hx161_1, hx161_2, hl161_2, hi161_2⟩ := at_T34 (Kd.S_reads' HO_6.out).2.2 x8_3 p161 q161
                                  obtain rfl : ad157 = ad161 := (by injection e161)
                                  obtain ⟨ce161, hce161, hMe161, hcc161⟩ := Kd.S_get HO_6.out z34 x8_3 p161 (by first | exact q161 | exact of_decide_eq_true (by first | (with_reducible assumption) | assumption) | (have e_ := (Kd.S_reads' HO_6.out).1; omega))
                                  obtain ⟨ve161_2, rfl, ge161_2⟩ := k34_openM hMe161
                                  have hv161_2 := hcc161 2 _ rfl
                                  rw [add_field _ _ 2 (by omega)] at hv161_2
                                  replace hv161_2 := Option.some.inj (hv161_2.symm.trans hx161_2)
                                  rw [hv161_2] at ge161_2
                                  have HL161_2 := Aside0.mk (show Kd.R (Kd.int .u8) 5 _ _ _ _ ((rd_T34 t153 x8_3).f2) from ge161_2)
                                  clear hv161_2 ge161_2
                                  clear hcc161 hce161
                                  have HR161_2 := Aside0.mk hi161_2
                                  have HC161_2 := Aside0.mk hl161_2
                                  clear hi161_2 hl161_2
                                  replace p161 := eq_true p161
                                  replace q161 := eq_true q161
                                  have ea_ := Option.some.inj (hx157_2.symm.trans hx161_2)
                                  injection ea_ with ea_ en_ ec_
                                  subst ea_
                                  subst ec_
                                  clear en_
                                  go_wp2
                                  go_ret
                                  exact ⟨by first | rfl | (simp [errW_none, errW_some] <;> rfl) | (simp [*, errW_none, errW_some] <;> rfl), by repeat (first | (with_reducible first | exact HB.out | apply below_alloc | apply pw_below_drewN | apply below_drew1) | exact HB.out)⟩
                              · rw [if_neg c29] at H
                                have c29b0 : decide (x8_3 < (wrap64 ((t153.length : Int) - 1))) = false := decide_eq_false c29
                                clear c29
                                have H' := Aside0.mk H
                                clear H
                                obtain ⟨Ao33, co33, eo33⟩ := Kd.S_slice HO_6.out
                                subst eo33
                                have p157 : 0 ≤ (x8_3 : Int) := of_decide_eq_true (by first | (with_reducible assumption) | assumption)
                                have q157 : x8_3 < (t153.length : Int) := of_decide_eq_true (by first | (with_reducible assumption) | assumption)
                                obtain ⟨ad157, A157_2, c157_2, e157, hx157_0, hx157_1, hx157_2, hl157_2, hi157_2⟩ := at_T34 (Kd.S_reads' HO_6.out).2.2 x8_3 p157 q157
                                cases e157
                                obtain ⟨ce157, hce157, hMe157, hcc157⟩ := Kd.S_get HO_6.out z34 x8_3 p157 (by first | exact q157 | exact of_decide_eq_true (by first | (with_reducible assumption) | assumption) | (have e_ := (Kd.S_reads' HO_6.out).1; omega))
                                obtain ⟨ve157_2, rfl, ge157_2⟩ := k34_openM hMe157
                                have hv157_2 := hcc157 2 _ rfl
                                rw [add_field _ _ 2 (by omega)] at hv157_2
                                replace hv157_2 := Option.some.inj (hv157_2.symm.trans hx157_2)
                                rw [hv157_2] at ge157_2
                                have HL157_2 := Aside0.mk (show Kd.R (Kd.int .u8) 5 _ _ _ _ ((rd_T34 t153 x8_3).f2) from ge157_2)
                                clear hv157_2 ge157_2
                                clear hcc157 hce157
                                have HR157_2 := Aside0.mk hi157_2
                                have HC157_2 := Aside0.mk hl157_2
                                clear hi157_2 hl157_2
                                replace p157 := eq_true p157
                                replace q157 := eq_true q157
                                have p158 : 0 ≤ (x8_3 : Int) := of_decide_eq_true (by first | (with_reducible assumption) | assumption)
                                have q158 : x8_3 < (t153.length : Int) := of_decide_eq_true (by first | (with_reducible assumption) | assumption)
                                obtain ⟨ad158, A158_2, c158_2, e158, hx158_0, hx158_1, hx158_2, hl158_2, hi158_2⟩ := at_T34 (Kd.S_reads' HO_6.out).2.2 x8_3 p158 q158
                                obtain rfl : ad157 = ad158 := (by injection e158)
                                obtain ⟨ce158, hce158, hMe158, hcc158⟩ := Kd.S_get HO_6.out z34 x8_3 p158 (by first | exact q158 | exact of_decide_eq_true (by first | (with_reducible assumption) | assumption) | (have e_ := (Kd.S_reads' HO_6.out).1; omega))
                                obtain ⟨ve158_2, rfl, ge158_2⟩ := k34_openM hMe158
                                have hv158_2 := hcc158 2 _ rfl
                                rw [add_field _ _ 2 (by omega)] at hv158_2
                                replace hv158_2 := Option.some.inj (hv158_2.symm.trans hx158_2)
                                rw [hv158_2] at ge158_2
                                have HL158_2 := Aside0.mk (show Kd.R (Kd.int .u8) 5 _ _ _ _ ((rd_T34 t153 x8_3).f2) from ge158_2)
                                clear hv158_2 ge158_2
                                clear hcc158 hce158
                                have HR158_2 := Aside0.mk hi158_2
                                have HC158_2 := Aside0.mk hl158_2
                                clear hi158_2 hl158_2
                                replace p158 := eq_true p158
                                replace q158 := eq_true q158
                                have ea_ := Option.some.inj (hx157_2.symm.trans hx158_2)
                                injection ea_ with ea_ en_ ec_
                                subst ea_
                                subst ec_
                                clear en_
                                have p159 : 0 ≤ (x8_3 : Int) := of_decide_eq_true (by first | (with_reducible assumption) | assumption)
                                have q159 : x8_3 < (t153.length : Int) := of_decide_eq_true (by first | (with_reducible assumption) | assumption)
                                obtain ⟨ad159, A159_2, c159_2, e159, hx159_0, hx159_1, hx159_2, hl159_2, hi159_2⟩ := at_T34 (Kd.S_reads' HO_6.out).2.2 x8_3 p159 q159
                                obtain rfl : ad157 = ad159 := (by injection e159)
                                obtain ⟨ce159, hce159, hMe159, hcc159⟩ := Kd.S_get HO_6.out z34 x8_3 p159 (by first | exact q159 | exact of_decide_eq_true (by first | (with_reducible assumption) | assumption) | (have e_ := (Kd.S_reads' HO_6.out).1; omega))
                                obtain ⟨ve159_2, rfl, ge159_2⟩ := k34_openM hMe159
                                have hv159_2 := hcc159 2 _ rfl
                                rw [add_field _ _ 2 (by omega)] at hv159_2
                                replace hv159_2 := Option.some.inj (hv159_2.symm.trans hx159_2)
                                rw [hv159_2] at ge159_2
                                have HL159_2 := Aside0.mk (show Kd.R (Kd.int .u8) 5 _ _ _ _ ((rd_T34 t153 x8_3).f2) from ge159_2)
                                clear hv159_2 ge159_2
                                clear hcc159 hce159
                                have HR159_2 := Aside0.mk hi159_2
                                have HC159_2 := Aside0.mk hl159_2
                                clear hi159_2 hl159_2
                                replace p159 := eq_true p159
                                replace q159 := eq_true q159
                                have ea_ := Option.some.inj (hx157_2.symm.trans hx159_2)
                                injection ea_ with ea_ en_ ec_
                                subst ea_
                                subst ec_
                                clear en_
                                have p160 : 0 ≤ (x8_3 : Int) := of_decide_eq_true (by first | (with_reducible assumption) | assumption)
                                have q160 : x8_3 < (t153.length : Int) := of_decide_eq_true (by first | (with_reducible assumption) | assumption)
                                obtain ⟨ad160, A160_2, c160_2, e160, hx160_0, hx160_1, hx160_2, hl160_2, hi160_2⟩ := at_T34 (Kd.S_reads' HO_6.out).2.2 x8_3 p160 q160
                                obtain rfl : ad157 = ad160 := (by injection e160)
                                obtain ⟨ce160, hce160, hMe160, hcc160⟩ := Kd.S_get HO_6.out z34 x8_3 p160 (by first | exact q160 | exact of_decide_eq_true (by first | (with_reducible assumption) | assumption) | (have e_ := (Kd.S_reads' HO_6.out).1; omega))
                                obtain ⟨ve160_2, rfl, ge160_2⟩ := k34_openM hMe160
                                have hv160_2 := hcc160 2 _ rfl
                                rw [add_field _ _ 2 (by omega)] at hv160_2
                                replace hv160_2 := Option.some.inj (hv160_2.symm.trans hx160_2)
                                rw [hv160_2] at ge160_2
                                have HL160_2 := Aside0.mk (show Kd.R (Kd.int .u8) 5 _ _ _ _ ((rd_T34 t153 x8_3).f2) from ge160_2)
                                clear hv160_2 ge160_2
                                clear hcc160 hce160
                                have HR160_2 := Aside0.mk hi160_2
                                have HC160_2 := Aside0.mk hl160_2
                                clear hi160_2 hl160_2
                                replace p160 := eq_true p160
                                replace q160 := eq_true q160
                                have ea_ := Option.some.inj (hx157_2.symm.trans hx160_2)
                                injection ea_ with ea_ en_ ec_
                                subst ea_
                                subst ec_
                                clear en_
                                go_wp2
                                go_roundg k3
                                case measure => have := HJ6.out; have := HJ12.out; have := HK3.out; omega
                                case rel => exact ⟨(wrap64 (x8_3 + 1)), (by first | rfl | (simp; done) | (simp [*]; done) | (simp; exact bq_ne _ _)), H', ⟨by have := HJ6.out; have := HJ12.out; have := HK3.out; omega⟩, ⟨by (with_reducible repeat (first | apply Kd.S_alloc | apply Kd.S_drewN | apply Kd.S_drew)); exact HO_6.out⟩, ⟨by repeat (first | (with_reducible first | exact HB.out | apply below_alloc | apply pw_below_drewN | apply below_drew1) | exact HB.out)⟩⟩
                    · rw [if_neg c20] at H
                      exact absurd H (by simp)
                  · rw [if_neg c19] at H
                    have c19b0 : decide (x8_3 < (t153.length : Int)) = false := decide_eq_false c19
                    clear c19
                    replace H := Option.bind_eq_some_iff.mp H
                    obtain ⟨⟨t162, t163⟩, A340, H⟩ := H
                    replace H : (if t152 = true then (if (t163 == x7_6) = true then (if x7_6 = true then (some ((strOfNums t162).toList == (strOfNums l0).toList)) else (some true)) else (some false)) else (some false)) = some r := H
                    have A34 := Aside0.mk A340
                    clear A340
                    by_cases c35 : t152 = true
                    · subst c35
                      have H1 : (if (t163 == x7_6) = true then (if x7_6 = true then (some ((strOfNums t162).toList == (strOfNums l0).toList)) else (some true)) else (some false)) = some r := by rw [if_pos rfl] at H; exact H
                      clear H
                      have H := H1
                      clear H1
                      by_cases c36 : (t163 == x7_6) = true
                      · rw [if_pos c36] at H
                        have c36b0 : (t163 == x7_6) = true := c36
                        (try (have c36b1 : decide (t163 = x7_6) = true := by simpa using c36))
                        (try (have c36b2 : (t163 == x7_6) = true := by simpa using c36))
                        clear c36
                        by_cases c37 : x7_6 = true
                        · subst c37
                          have H1 : (some ((strOfNums t162).toList == (strOfNums l0).toList)) = some r := by rw [if_pos rfl] at H; exact H
                          clear H
                          have H := H1
                          clear H1
                          obtain rfl := Option.some.inj H
                          obtain ⟨Ao38, co38, eo38⟩ := Kd.S_slice HO_6.out
                          subst eo38
                          go_wp2_with (first | ((with_reducible refine gate_callee (f := 12) rfl ?_); refine goesL_ (some 114) rfl rfl Try.func12 (by kernel_rfl) rfl #[.slice Ao38 t153.length co38] rfl (by (try simp only [List.map_toArray, List.map_cons, List.map_nil]); first | done | rfl | (simp only [List.length_drop, List.length_take]; rfl)) ?_; (with_reducible refine (frag_Join.calls k3 _ _ t153 t162 t163 _ ?side1 ?side2 A34.out).mono ?_); (case side1 => repeat (first | exact (Kd.S_reads' HO_6.out).2.2 | (with_reducible refine Kd.C_alloc ?_ _) | (with_reducible refine Kd.C_drewN ?_ _) | (with_reducible refine Kd.C_drew ?_))); (case side2 => exact (Kd.S_reads' HO_6.out).2.1); rintro e w39 ⟨v164, rfl, ho0, hb⟩; refine ⟨_, rfl, ?_⟩; have n0_ := Aside0.mk (Kd.S_elder' (by (with_reducible repeat (first | apply Kd.S_alloc | apply Kd.S_drewN | apply Kd.S_drew)); exact HO_6.out) (Kd.R_base ho0) hb); have n1_ := Aside0.mk (Kd.R_lower ho0 (below_size (by repeat (first | (with_reducible first | exact HB.out | apply below_alloc | apply pw_below_drewN | apply below_drew1) | exact HB.out)))); have n2_ := Aside0.mk (below_step (by repeat (first | (with_reducible first | exact HB.out | apply below_alloc | apply pw_below_drewN | apply below_drew1) | exact HB.out)) hb); clear HO_6; clear HB; have HO_6 := n0_; have HO165 := n1_; have HB := n2_; clear n0_ n1_ n2_; (try clear hb); (try clear hb2); (try clear hk); (try clear hi); (try clear ho0); have hcv40 := own_string (P := Try.prog) Try.underlying22 Try.underlying5 Try.underlying9 (Kd.own_of_R HO165.out); have hcv40m := fun m_ => own_string (P := Try.prog) Try.underlying22 Try.underlying5 Try.underlying9 (Kd.own_of_R (Kd.R_drewN HO165.out m_)); have hcv41 := Kd.C_string (P := Try.prog) (A := A0) (c := c0) Try.underlying22 Try.underlying5 Try.underlying9 (Kd.C_below HR0.out HB.out)))
                          go_ret
                          exact ⟨by first | rfl | (simp [errW_none, errW_some] <;> rfl) | (simp [*, errW_none, errW_some] <;> rfl), by repeat (first | (with_reducible first | exact HB.out | apply below_alloc | apply pw_below_drewN | apply below_drew1) | exact HB.out)⟩
                        · replace c37 := Bool.eq_false_iff.mpr c37
                          subst c37
                          have H1 : (some true) = some r := by rw [if_neg (show ¬ (false = true) by decide)] at H; exact H
                          clear H
                          have H := H1
                          clear H1
                          obtain rfl := Option.some.inj H
                          obtain ⟨Ao42, co42, eo42⟩ := Kd.S_slice HO_6.out
                          subst eo42
                          go_wp2_with (first | ((with_reducible refine gate_callee (f := 12) rfl ?_); refine goesL_ (some 114) rfl rfl Try.func12 (by kernel_rfl) rfl #[.slice Ao42 t153.length co42] rfl (by (try simp only [List.map_toArray, List.map_cons, List.map_nil]); first | done | rfl | (simp only [List.length_drop, List.length_take]; rfl)) ?_; (with_reducible refine (frag_Join.calls k3 _ _ t153 t162 t163 _ ?side1 ?side2 A34.out).mono ?_); (case side1 => repeat (first | exact (Kd.S_reads' HO_6.out).2.2 | (with_reducible refine Kd.C_alloc ?_ _) | (with_reducible refine Kd.C_drewN ?_ _) | (with_reducible refine Kd.C_drew ?_))); (case side2 => exact (Kd.S_reads' HO_6.out).2.1); rintro e w43 ⟨v164, rfl, ho0, hb⟩; refine ⟨_, rfl, ?_⟩; have n0_ := Aside0.mk (Kd.S_elder' (by (with_reducible repeat (first | apply Kd.S_alloc | apply Kd.S_drewN | apply Kd.S_drew)); exact HO_6.out) (Kd.R_base ho0) hb); have n1_ := Aside0.mk (Kd.R_lower ho0 (below_size (by repeat (first | (with_reducible first | exact HB.out | apply below_alloc | apply pw_below_drewN | apply below_drew1) | exact HB.out)))); have n2_ := Aside0.mk (below_step (by repeat (first | (with_reducible first | exact HB.out | apply below_alloc | apply pw_below_drewN | apply below_drew1) | exact HB.out)) hb); clear HO_6; clear HB; have HO_6 := n0_; have HO165 := n1_; have HB := n2_; clear n0_ n1_ n2_; (try clear hb); (try clear hb2); (try clear hk); (try clear hi); (try clear ho0)))
                          go_ret
                          exact ⟨by first | rfl | (simp [errW_none, errW_some] <;> rfl) | (simp [*, errW_none, errW_some] <;> rfl), by repeat (first | (with_reducible first | exact HB.out | apply below_alloc | apply pw_below_drewN | apply below_drew1) | exact HB.out)⟩
                      · rw [if_neg c36] at H
                        have c36b0 : (t163 == x7_6) = false := by simpa using c36
                        (try (have c36b1 : decide (t163 = x7_6) = false := by simpa using c36))
                        (try (have c36b2 : (t163 == x7_6) = false := by simpa using c36))
                        (try (have c36b3 : ¬ (t163 = x7_6) := by simpa using c36))
                        clear c36
                        obtain rfl := Option.some.inj H
                        obtain ⟨Ao44, co44, eo44⟩ := Kd.S_slice HO_6.out
                        subst eo44
                        go_wp2_with (first | ((with_reducible refine gate_callee (f := 12) rfl ?_); refine goesL_ (some 114) rfl rfl Try.func12 (by kernel_rfl) rfl #[.slice Ao44 t153.length co44] rfl (by (try simp only [List.map_toArray, List.map_cons, List.map_nil]); first | done | rfl | (simp only [List.length_drop, List.length_take]; rfl)) ?_; (with_reducible refine (frag_Join.calls k3 _ _ t153 t162 t163 _ ?side1 ?side2 A34.out).mono ?_); (case side1 => repeat (first | exact (Kd.S_reads' HO_6.out).2.2 | (with_reducible refine Kd.C_alloc ?_ _) | (with_reducible refine Kd.C_drewN ?_ _) | (with_reducible refine Kd.C_drew ?_))); (case side2 => exact (Kd.S_reads' HO_6.out).2.1); rintro e w45 ⟨v164, rfl, ho0, hb⟩; refine ⟨_, rfl, ?_⟩; have n0_ := Aside0.mk (Kd.S_elder' (by (with_reducible repeat (first | apply Kd.S_alloc | apply Kd.S_drewN | apply Kd.S_drew)); exact HO_6.out) (Kd.R_base ho0) hb); have n1_ := Aside0.mk (Kd.R_lower ho0 (below_size (by repeat (first | (with_reducible first | exact HB.out | apply below_alloc | apply pw_below_drewN | apply below_drew1) | exact HB.out)))); have n2_ := Aside0.mk (below_step (by repeat (first | (with_reducible first | exact HB.out | apply below_alloc | apply pw_below_drewN | apply below_drew1) | exact HB.out)) hb); clear HO_6; clear HB; have HO_6 := n0_; have HO165 := n1_; have HB := n2_; clear n0_ n1_ n2_; (try clear hb); (try clear hb2); (try clear hk); (try clear hi); (try clear ho0)))
                        go_ret
                        exact ⟨by first | rfl | (simp [errW_none, errW_some] <;> rfl) | (simp [*, errW_none, errW_some] <;> rfl), by repeat (first | (with_reducible first | exact HB.out | apply below_alloc | apply pw_below_drewN | apply below_drew1) | exact HB.out)⟩
                    · replace c35 := Bool.eq_false_iff.mpr c35
                      subst c35
                      have H1 : (some false) = some r := by rw [if_neg (show ¬ (false = true) by decide)] at H; exact H
                      clear H
                      have H := H1
                      clear H1
                      obtain rfl := Option.some.inj H
                      obtain ⟨Ao46, co46, eo46⟩ := Kd.S_slice HO_6.out
                      subst eo46
                      go_wp2_with (first | ((with_reducible refine gate_callee (f := 12) rfl ?_); refine goesL_ (some 114) rfl rfl Try.func12 (by kernel_rfl) rfl #[.slice Ao46 t153.length co46] rfl (by (try simp only [List.map_toArray, List.map_cons, List.map_nil]); first | done | rfl | (simp only [List.length_drop, List.length_take]; rfl)) ?_; (with_reducible refine (frag_Join.calls k3 _ _ t153 t162 t163 _ ?side1 ?side2 A34.out).mono ?_); (case side1 => repeat (first | exact (Kd.S_reads' HO_6.out).2.2 | (with_reducible refine Kd.C_alloc ?_ _) | (with_reducible refine Kd.C_drewN ?_ _) | (with_reducible refine Kd.C_drew ?_))); (case side2 => exact (Kd.S_reads' HO_6.out).2.1); rintro e w47 ⟨v164, rfl, ho0, hb⟩; refine ⟨_, rfl, ?_⟩; have n0_ := Aside0.mk (Kd.S_elder' (by (with_reducible repeat (first | apply Kd.S_alloc | apply Kd.S_drewN | apply Kd.S_drew)); exact HO_6.out) (Kd.R_base ho0) hb); have n1_ := Aside0.mk (Kd.R_lower ho0 (below_size (by repeat (first | (with_reducible first | exact HB.out | apply below_alloc | apply pw_below_drewN | apply below_drew1) | exact HB.out)))); have n2_ := Aside0.mk (below_step (by repeat (first | (with_reducible first | exact HB.out | apply below_alloc | apply pw_below_drewN | apply below_drew1) | exact HB.out)) hb); clear HO_6; clear HB; have HO_6 := n0_; have HO165 := n1_; have HB := n2_; clear n0_ n1_ n2_; (try clear hb); (try clear hb2); (try clear hk); (try clear hi); (try clear ho0)))
                      go_ret
                      exact ⟨by first | rfl | (simp [errW_none, errW_some] <;> rfl) | (simp [*, errW_none, errW_some] <;> rfl), by repeat (first | (with_reducible first | exact HB.out | apply below_alloc | apply pw_below_drewN | apply below_drew1) | exact HB.out)⟩

/-- THE ONE PURE STATEMENT of bowlinelaw11_FragBack: yours. -/
def bowlinelaw11_FragBack.Pure : Prop := ∀ (l0 : List Int) (a1 : Int), l0.length ≤ maxLen → l0.length * 1 ≤ 140737488351232 → (∀ x ∈ l0, (Lit.int .u8 x).wf = true) → (Lit.int .i64 a1).wf = true → ∃ k, bowlinelaw11_FragBack.f k l0 a1 = some true
theorem bowlinelaw11_FragBack.walk (P : bowlinelaw11_FragBack.Pure) (a0 : Option Addr) (len0 cap0 : Nat) (z0 : List Int) (a1 : Int) (w : World) (w0 : (a0 = none ∧ len0 = 0 ∧ cap0 = 0 ∧ z0 = []) ∨ ∃ x, a0 = some x ∧ len0 ≤ cap0 ∧ cap0 ≤ maxLen ∧ z0.length = cap0 ∧ (∀ i, i < z0.length → w.cell? (x.add i) = some (.int .u8 (z0.getD i 0))) ∧ ∀ n ∈ z0, (Lit.int .u8 n).wf = true) (y0 : len0 * 1 ≤ 140737488351232) (w1 : (Lit.int .i64 a1).wf = true) :
    Calls Try.prog 4 #[.slice a0 len0 cap0, .int .i64 a1] w fun e w' => e = .returned (.bool true) ∧ Below w.heap.size w w' := by
  obtain ⟨l0, rfl, hr0, hm0, hw0, hc0⟩ := ReadsInt.ofRowC w0
  obtain ⟨k, h⟩ := P l0 a1 hm0 y0 hw0 w1
  refine (bowlinelaw11_FragBack.calls k _ _ l0 a1 true w (Kd.C_of_reads (d := (0 : Int)) (h1 := fun _ => rfl) hr0) hc0 h).mono ?_
  rintro e w' ⟨rfl, hd⟩
  exact ⟨rfl, hd⟩

end Go.Proofs.Ytfdjfejlfkabdaa.Q
