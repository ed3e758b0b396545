-- A text out of a program of this session's. Not trusted: Lean checks it.
import Derived.Test.YtfdjfejlfkabdaaQ0
namespace Go.Proofs.Ytfdjfejlfkabdaa.Q
open Go.RowKit Go.Proofs.YtfdjfejlfkabdaaW.PrintWords Go.Proofs.YtfdjfejlfkabdaaW.PrintLast Go.Proofs.YtfdjfejlfkabdaaW.PrintMore
attribute [local go_sem] max2_int min2_int max_two min_two max_three min_three max_four min_four   -- for this text's walks alone
set_option linter.unusedVariables false
set_option linter.unusedSimpArgs false

/-! ### bowlineref11_Same: function 14 (given) -/
-- GIVEN rounds=1 making=0
def bowlineref11_Same.l0 : Nat → List (S34) → List (S34) → Int → Option (Bool)
  | 0, _, _, _ => none
  | k + 1, x0, x1, x5 => if x5 < (x0.length : Int) then (if 0 ≤ x5 then (if x5 < (x1.length : Int) then (if (((rd_T34 x0 x5).f0) != ((rd_T34 x1 x5).f0)) = true then (some false) else (if (((rd_T34 x0 x5).f1) != ((rd_T34 x1 x5).f1)) = true then (some false) else (if (strOfNums ((rd_T34 x0 x5).f2)).toList = (strOfNums ((rd_T34 x1 x5).f2)).toList then (bowlineref11_Same.l0 k x0 x1 (wrap64 (x5 + 1))) else (some false)))) else (none)) else (none)) else (some true)
def bowlineref11_Same.f (k : Nat) (l0 : List (S34)) (l1 : List (S34)) : Option (Bool) := if (l0.length : Int) = (l1.length : Int) then (bowlineref11_Same.l0 k l0 l1 0) else (some false)
theorem bowlineref11_Same.mono_l : ∀ k, (∀ y0 y1 y2, LeO (bowlineref11_Same.l0 k y0 y1 y2) (bowlineref11_Same.l0 (k + 1) y0 y1 y2))
  | 0 => fun _ _ _ r h => by simp [bowlineref11_Same.l0] at h
  | k + 1 => by
    have ih0 := bowlineref11_Same.mono_l k
    · intro y0 y1 y2
      unfold bowlineref11_Same.l0
      repeat' first
      | (with_reducible exact ih0 _ _ _)
      | (with_reducible exact LeO.refl _)
      | (with_reducible exact LeO.none _)
      | (with_reducible refine LeO.ite ?_ ?_)
      | (with_reducible refine LeO.bind ?_ (fun _ => ?_))
      | exact ih0 _ _ _
      | exact LeO.none _
      | refine LeO.ite ?_ ?_
      | refine LeO.bind ?_ (fun _ => ?_)
theorem bowlineref11_Same.mono : ∀ a0 a1 k, LeO (bowlineref11_Same.f k a0 a1) (bowlineref11_Same.f (k + 1) a0 a1) := by
  intro a0 a1 k
  have ih0 := bowlineref11_Same.mono_l k
  unfold bowlineref11_Same.f
  repeat' first
      | (with_reducible exact ih0 _ _ _)
      | (with_reducible exact LeO.refl _)
      | (with_reducible exact LeO.none _)
      | (with_reducible refine LeO.ite ?_ ?_)
      | (with_reducible refine LeO.bind ?_ (fun _ => ?_))
      | exact ih0 _ _ _
      | exact LeO.none _
      | refine LeO.ite ?_ ?_
      | refine LeO.bind ?_ (fun _ => ?_)
set_option maxHeartbeats 8000000 in
set_option maxRecDepth 100000 in
theorem bowlineref11_Same.calls (k : Nat) (A0 : Option Addr) (c0 : Nat) (l0 : List (S34)) (A1 : Option Addr) (c1 : Nat) (l1 : List (S34)) (r : Bool) (w : World) (hr0 : Kd.C k34 w A0 l0.length l0) (hc0 : l0.length ≤ c0) (hr1 : Kd.C k34 w A1 l1.length l1) (hc1 : l1.length ≤ c1) (h : bowlineref11_Same.f k l0 l1 = some r) :
    Calls Try.prog 14 #[.slice A0 l0.length c0, .slice A1 l1.length c1] w fun e w' => e = .returned (.bool r) ∧ Drawn0 w w' := by
  have HR0 := Aside0.mk hr0
  have HC0 := Aside0.mk hc0
  clear hr0 hc0
  have HR1 := Aside0.mk hr1
  have HC1 := Aside0.mk hc1
  clear hr1 hc1
  have H : (if (l0.length : Int) = (l1.length : Int) then (bowlineref11_Same.l0 k l0 l1 0) else (some false)) = some r := h
  clear h
  by_cases c3 : (l0.length : Int) = (l1.length : Int)
  · rw [if_pos c3] at H
    have c3b0 : ((l0.length : Int) == (l1.length : Int)) = true := beq_iff_eq.mpr c3
    have c3b1 : ((l0.length : Int) != (l1.length : Int)) = false := bne_eq_false_iff_eq.mpr c3
    have c3b2 : (l0.length == l1.length) = true := by first | simpa using c3 | (simp at c3 ⊢; omega)
    clear c3
    have H' := Aside0.mk H
    clear H
    go_enter Try.func14, Try.ntmps14
    go_wp2
    repeat (go_quiet (fail); try go_wp2)
    go_loopg [5] k (fun kq v5 w' => ∃ (x5_1 : Int), v5 = .int .i64 x5_1 ∧ Aside0 (bowlineref11_Same.l0 kq l0 l1 x5_1 = some r) ∧ Aside0 (kq ≤ k) ∧ Drawn0 w w')
    case atStart => exact ⟨(0), (by first | rfl | (simp; done) | (simp [*]; done)), H', ⟨Nat.le_refl _⟩, by repeat (first | exact Drawn0.refl _ | apply Drawn0.step)⟩
    case round =>
      clear H'
      try clear c1
      try clear p2
      try clear c3
      try clear c3b0
      try clear c3b1
      try clear c3b2
      obtain ⟨x5_1, rfl, HA, HK1, ⟨m1, rfl⟩⟩ := hrel
      cases gk with
      | zero => exact absurd HA.out (by simp [bowlineref11_Same.l0])
      | succ k1 =>
        have H := HA.out
        clear HA
        simp only [bowlineref11_Same.l0] at H
        by_cases c4 : x5_1 < (l0.length : Int)
        · rw [if_pos c4] at H
          have c4b0 : decide (x5_1 < (l0.length : Int)) = true := decide_eq_true c4
          clear c4
          by_cases c5 : 0 ≤ x5_1
          · rw [if_pos c5] at H
            have c5b0 : decide (0 ≤ x5_1) = true := decide_eq_true c5
            clear c5
            by_cases c6 : x5_1 < (l1.length : Int)
            · rw [if_pos c6] at H
              have c6b0 : decide (x5_1 < (l1.length : Int)) = true := decide_eq_true c6
              clear c6
              by_cases c7 : (((rd_T34 l0 x5_1).f0) != ((rd_T34 l1 x5_1).f0)) = true
              · rw [if_pos c7] at H
                have c7b0 : (((rd_T34 l0 x5_1).f0) != ((rd_T34 l1 x5_1).f0)) = true := c7
                (try (have c7b1 : decide (((rd_T34 l0 x5_1).f0) = ((rd_T34 l1 x5_1).f0)) = false := by simpa using c7))
                (try (have c7b2 : (((rd_T34 l0 x5_1).f0) == ((rd_T34 l1 x5_1).f0)) = false := by simpa using c7))
                (try (have c7b3 : ¬ (((rd_T34 l0 x5_1).f0) = ((rd_T34 l1 x5_1).f0)) := by simpa using c7))
                clear c7
                obtain rfl := Option.some.inj H
                have p107 : 0 ≤ (x5_1 : Int) := of_decide_eq_true (by first | (with_reducible assumption) | assumption)
                have q107 : x5_1 < (l0.length : Int) := of_decide_eq_true (by first | (with_reducible assumption) | assumption)
                obtain ⟨ad107, A107_2, c107_2, e107, hx107_0, hx107_1, hx107_2, hl107_2, hi107_2⟩ := at_T34 HR0.out x5_1 p107 q107
                cases e107
                have HR107_2 := Aside0.mk hi107_2
                have HC107_2 := Aside0.mk hl107_2
                clear hi107_2 hl107_2
                replace p107 := eq_true p107
                replace q107 := eq_true q107
                have p108 : 0 ≤ (x5_1 : Int) := of_decide_eq_true (by first | (with_reducible assumption) | assumption)
                have q108 : x5_1 < (l1.length : Int) := of_decide_eq_true (by first | (with_reducible assumption) | assumption)
                obtain ⟨ad108, A108_2, c108_2, e108, hx108_0, hx108_1, hx108_2, hl108_2, hi108_2⟩ := at_T34 HR1.out x5_1 p108 q108
                cases e108
                have HR108_2 := Aside0.mk hi108_2
                have HC108_2 := Aside0.mk hl108_2
                clear hi108_2 hl108_2
                replace p108 := eq_true p108
                replace q108 := eq_true q108
                go_wp2
                repeat (go_quiet (fail); try go_wp2)
                go_ret
                exact ⟨by first | rfl | (simp; done) | (simp [*]; done), by repeat (first | exact Drawn0.refl _ | apply Drawn0.step)⟩
              · rw [if_neg c7] at H
                have c7b0 : (((rd_T34 l0 x5_1).f0) != ((rd_T34 l1 x5_1).f0)) = false := by simpa using c7
                (try (have c7b1 : decide (((rd_T34 l0 x5_1).f0) = ((rd_T34 l1 x5_1).f0)) = true := by simpa using c7))
                (try (have c7b2 : (((rd_T34 l0 x5_1).f0) == ((rd_T34 l1 x5_1).f0)) = true := by simpa using c7))
                clear c7
                by_cases c8 : (((rd_T34 l0 x5_1).f1) != ((rd_T34 l1 x5_1).f1)) = true
                · rw [if_pos c8] at H
                  have c8b0 : (((rd_T34 l0 x5_1).f1) != ((rd_T34 l1 x5_1).f1)) = true := c8
                  (try (have c8b1 : decide (((rd_T34 l0 x5_1).f1) = ((rd_T34 l1 x5_1).f1)) = false := by simpa using c8))
                  (try (have c8b2 : (((rd_T34 l0 x5_1).f1) == ((rd_T34 l1 x5_1).f1)) = false := by simpa using c8))
                  (try (have c8b3 : ¬ (((rd_T34 l0 x5_1).f1) = ((rd_T34 l1 x5_1).f1)) := by simpa using c8))
                  clear c8
                  obtain rfl := Option.some.inj H
                  have p107 : 0 ≤ (x5_1 : Int) := of_decide_eq_true (by first | (with_reducible assumption) | assumption)
                  have q107 : x5_1 < (l0.length : Int) := of_decide_eq_true (by first | (with_reducible assumption) | assumption)
                  obtain ⟨ad107, A107_2, c107_2, e107, hx107_0, hx107_1, hx107_2, hl107_2, hi107_2⟩ := at_T34 HR0.out x5_1 p107 q107
                  cases e107
                  have HR107_2 := Aside0.mk hi107_2
                  have HC107_2 := Aside0.mk hl107_2
                  clear hi107_2 hl107_2
                  replace p107 := eq_true p107
                  replace q107 := eq_true q107
                  have p108 : 0 ≤ (x5_1 : Int) := of_decide_eq_true (by first | (with_reducible assumption) | assumption)
                  have q108 : x5_1 < (l1.length : Int) := of_decide_eq_true (by first | (with_reducible assumption) | assumption)
                  obtain ⟨ad108, A108_2, c108_2, e108, hx108_0, hx108_1, hx108_2, hl108_2, hi108_2⟩ := at_T34 HR1.out x5_1 p108 q108
                  cases e108
                  have HR108_2 := Aside0.mk hi108_2
                  have HC108_2 := Aside0.mk hl108_2
                  clear hi108_2 hl108_2
                  replace p108 := eq_true p108
                  replace q108 := eq_true q108
                  have p109 : 0 ≤ (x5_1 : Int) := of_decide_eq_true (by first | (with_reducible assumption) | assumption)
                  have q109 : x5_1 < (l0.length : Int) := of_decide_eq_true (by first | (with_reducible assumption) | assumption)
                  obtain ⟨ad109, A109_2, c109_2, e109, hx109_0, hx109_1, hx109_2, hl109_2, hi109_2⟩ := at_T34 HR0.out x5_1 p109 q109
                  obtain rfl : ad107 = ad109 := (by injection e109)
                  have HR109_2 := Aside0.mk hi109_2
                  have HC109_2 := Aside0.mk hl109_2
                  clear hi109_2 hl109_2
                  replace p109 := eq_true p109
                  replace q109 := eq_true q109
                  have ea_ := Option.some.inj (hx107_2.symm.trans hx109_2)
                  injection ea_ with ea_ en_ ec_
                  subst ea_
                  subst ec_
                  clear en_
                  have p110 : 0 ≤ (x5_1 : Int) := of_decide_eq_true (by first | (with_reducible assumption) | assumption)
                  have q110 : x5_1 < (l1.length : Int) := of_decide_eq_true (by first | (with_reducible assumption) | assumption)
                  obtain ⟨ad110, A110_2, c110_2, e110, hx110_0, hx110_1, hx110_2, hl110_2, hi110_2⟩ := at_T34 HR1.out x5_1 p110 q110
                  obtain rfl : ad108 = ad110 := (by injection e110)
                  have HR110_2 := Aside0.mk hi110_2
                  have HC110_2 := Aside0.mk hl110_2
                  clear hi110_2 hl110_2
                  replace p110 := eq_true p110
                  replace q110 := eq_true q110
                  have ea_ := Option.some.inj (hx108_2.symm.trans hx110_2)
                  injection ea_ with ea_ en_ ec_
                  subst ea_
                  subst ec_
                  clear en_
                  go_wp2
                  repeat (go_quiet (fail); try go_wp2)
                  go_ret
                  exact ⟨by first | rfl | (simp; done) | (simp [*]; done), by repeat (first | exact Drawn0.refl _ | apply Drawn0.step)⟩
                · rw [if_neg c8] at H
                  have c8b0 : (((rd_T34 l0 x5_1).f1) != ((rd_T34 l1 x5_1).f1)) = false := by simpa using c8
                  (try (have c8b1 : decide (((rd_T34 l0 x5_1).f1) = ((rd_T34 l1 x5_1).f1)) = true := by simpa using c8))
                  (try (have c8b2 : (((rd_T34 l0 x5_1).f1) == ((rd_T34 l1 x5_1).f1)) = true := by simpa using c8))
                  clear c8
                  by_cases c9 : (strOfNums ((rd_T34 l0 x5_1).f2)).toList = (strOfNums ((rd_T34 l1 x5_1).f2)).toList
                  · rw [if_pos c9] at H
                    have c9b0 : ((strOfNums ((rd_T34 l0 x5_1).f2)).toList == (strOfNums ((rd_T34 l1 x5_1).f2)).toList) = true := beq_iff_eq.mpr c9
                    have c9b1 : ((strOfNums ((rd_T34 l0 x5_1).f2)).toList != (strOfNums ((rd_T34 l1 x5_1).f2)).toList) = false := bne_eq_false_iff_eq.mpr c9
                    clear c9
                    have H' := Aside0.mk H
                    clear H
                    have p107 : 0 ≤ (x5_1 : Int) := of_decide_eq_true (by first | (with_reducible assumption) | assumption)
                    have q107 : x5_1 < (l0.length : Int) := of_decide_eq_true (by first | (with_reducible assumption) | assumption)
                    obtain ⟨ad107, A107_2, c107_2, e107, hx107_0, hx107_1, hx107_2, hl107_2, hi107_2⟩ := at_T34 HR0.out x5_1 p107 q107
                    cases e107
                    have HR107_2 := Aside0.mk hi107_2
                    have HC107_2 := Aside0.mk hl107_2
                    clear hi107_2 hl107_2
                    replace p107 := eq_true p107
                    replace q107 := eq_true q107
                    have p108 : 0 ≤ (x5_1 : Int) := of_decide_eq_true (by first | (with_reducible assumption) | assumption)
                    have q108 : x5_1 < (l1.length : Int) := of_decide_eq_true (by first | (with_reducible assumption) | assumption)
                    obtain ⟨ad108, A108_2, c108_2, e108, hx108_0, hx108_1, hx108_2, hl108_2, hi108_2⟩ := at_T34 HR1.out x5_1 p108 q108
                    cases e108
                    have HR108_2 := Aside0.mk hi108_2
                    have HC108_2 := Aside0.mk hl108_2
                    clear hi108_2 hl108_2
                    replace p108 := eq_true p108
                    replace q108 := eq_true q108
                    have p109 : 0 ≤ (x5_1 : Int) := of_decide_eq_true (by first | (with_reducible assumption) | assumption)
                    have q109 : x5_1 < (l0.length : Int) := of_decide_eq_true (by first | (with_reducible assumption) | assumption)
                    obtain ⟨ad109, A109_2, c109_2, e109, hx109_0, hx109_1, hx109_2, hl109_2, hi109_2⟩ := at_T34 HR0.out x5_1 p109 q109
                    obtain rfl : ad107 = ad109 := (by injection e109)
                    have HR109_2 := Aside0.mk hi109_2
                    have HC109_2 := Aside0.mk hl109_2
                    clear hi109_2 hl109_2
                    replace p109 := eq_true p109
                    replace q109 := eq_true q109
                    have ea_ := Option.some.inj (hx107_2.symm.trans hx109_2)
                    injection ea_ with ea_ en_ ec_
                    subst ea_
                    subst ec_
                    clear en_
                    have p110 : 0 ≤ (x5_1 : Int) := of_decide_eq_true (by first | (with_reducible assumption) | assumption)
                    have q110 : x5_1 < (l1.length : Int) := of_decide_eq_true (by first | (with_reducible assumption) | assumption)
                    obtain ⟨ad110, A110_2, c110_2, e110, hx110_0, hx110_1, hx110_2, hl110_2, hi110_2⟩ := at_T34 HR1.out x5_1 p110 q110
                    obtain rfl : ad108 = ad110 := (by injection e110)
                    have HR110_2 := Aside0.mk hi110_2
                    have HC110_2 := Aside0.mk hl110_2
                    clear hi110_2 hl110_2
                    replace p110 := eq_true p110
                    replace q110 := eq_true q110
                    have ea_ := Option.some.inj (hx108_2.symm.trans hx110_2)
                    injection ea_ with ea_ en_ ec_
                    subst ea_
                    subst ec_
                    clear en_
                    have p111 : 0 ≤ (x5_1 : Int) := of_decide_eq_true (by first | (with_reducible assumption) | assumption)
                    have q111 : x5_1 < (l0.length : Int) := of_decide_eq_true (by first | (with_reducible assumption) | assumption)
                    obtain ⟨ad111, A111_2, c111_2, e111, hx111_0, hx111_1, hx111_2, hl111_2, hi111_2⟩ := at_T34 HR0.out x5_1 p111 q111
                    obtain rfl : ad107 = ad111 := (by injection e111)
                    have HR111_2 := Aside0.mk hi111_2
                    have HC111_2 := Aside0.mk hl111_2
                    clear hi111_2 hl111_2
                    replace p111 := eq_true p111
                    replace q111 := eq_true q111
                    have ea_ := Option.some.inj (hx107_2.symm.trans hx111_2)
                    injection ea_ with ea_ en_ ec_
                    subst ea_
                    subst ec_
                    clear en_
                    have hcv10 : ∀ m n, _ := fun m n => Kd.C_string (w := (w.drewN m).drewN n) (P := Try.prog) (A := A107_2) (c := c107_2) Try.underlying22 Try.underlying5 Try.underlying9 (Kd.C_drewN (Kd.C_drewN HR111_2.out m) n)
                    have hcw10 : ∀ m, _ := fun m => Kd.C_string (w := w.drewN m) (P := Try.prog) (A := A107_2) (c := c107_2) Try.underlying22 Try.underlying5 Try.underlying9 (Kd.C_drewN HR111_2.out m)
                    have p112 : 0 ≤ (x5_1 : Int) := of_decide_eq_true (by first | (with_reducible assumption) | assumption)
                    have q112 : x5_1 < (l1.length : Int) := of_decide_eq_true (by first | (with_reducible assumption) | assumption)
                    obtain ⟨ad112, A112_2, c112_2, e112, hx112_0, hx112_1, hx112_2, hl112_2, hi112_2⟩ := at_T34 HR1.out x5_1 p112 q112
                    obtain rfl : ad108 = ad112 := (by injection e112)
                    have HR112_2 := Aside0.mk hi112_2
                    have HC112_2 := Aside0.mk hl112_2
                    clear hi112_2 hl112_2
                    replace p112 := eq_true p112
                    replace q112 := eq_true q112
                    have ea_ := Option.some.inj (hx108_2.symm.trans hx112_2)
                    injection ea_ with ea_ en_ ec_
                    subst ea_
                    subst ec_
                    clear en_
                    have hcv11 : ∀ m n, _ := fun m n => Kd.C_string (w := (w.drewN m).drewN n) (P := Try.prog) (A := A108_2) (c := c108_2) Try.underlying22 Try.underlying5 Try.underlying9 (Kd.C_drewN (Kd.C_drewN HR112_2.out m) n)
                    have hcw11 : ∀ m, _ := fun m => Kd.C_string (w := w.drewN m) (P := Try.prog) (A := A108_2) (c := c108_2) Try.underlying22 Try.underlying5 Try.underlying9 (Kd.C_drewN HR112_2.out m)
                    go_wp2
                    repeat (go_quiet (fail); try go_wp2)
                    go_roundg k1
                    case measure => have := HK1.out; omega
                    case rel => exact ⟨(wrap64 (x5_1 + 1)), (by first | rfl | (simp; done) | (simp [*]; done)), H', ⟨by have := HK1.out; omega⟩, by repeat (first | exact Drawn0.refl _ | apply Drawn0.step)⟩
                  · rw [if_neg c9] at H
                    have c9b0 : ((strOfNums ((rd_T34 l0 x5_1).f2)).toList == (strOfNums ((rd_T34 l1 x5_1).f2)).toList) = false := beq_eq_false_iff_ne.mpr c9
                    have c9b1 : ((strOfNums ((rd_T34 l0 x5_1).f2)).toList != (strOfNums ((rd_T34 l1 x5_1).f2)).toList) = true := bne_iff_ne.mpr c9
                    obtain rfl := Option.some.inj H
                    have p107 : 0 ≤ (x5_1 : Int) := of_decide_eq_true (by first | (with_reducible assumption) | assumption)
                    have q107 : x5_1 < (l0.length : Int) := of_decide_eq_true (by first | (with_reducible assumption) | assumption)
                    obtain ⟨ad107, A107_2, c107_2, e107, hx107_0, hx107_1, hx107_2, hl107_2, hi107_2⟩ := at_T34 HR0.out x5_1 p107 q107
                    cases e107
                    have HR107_2 := Aside0.mk hi107_2
                    have HC107_2 := Aside0.mk hl107_2
                    clear hi107_2 hl107_2
                    replace p107 := eq_true p107
                    replace q107 := eq_true q107
                    have p108 : 0 ≤ (x5_1 : Int) := of_decide_eq_true (by first | (with_reducible assumption) | assumption)
                    have q108 : x5_1 < (l1.length : Int) := of_decide_eq_true (by first | (with_reducible assumption) | assumption)
                    obtain ⟨ad108, A108_2, c108_2, e108, hx108_0, hx108_1, hx108_2, hl108_2, hi108_2⟩ := at_T34 HR1.out x5_1 p108 q108
                    cases e108
                    have HR108_2 := Aside0.mk hi108_2
                    have HC108_2 := Aside0.mk hl108_2
                    clear hi108_2 hl108_2
                    replace p108 := eq_true p108
                    replace q108 := eq_true q108
                    have p109 : 0 ≤ (x5_1 : Int) := of_decide_eq_true (by first | (with_reducible assumption) | assumption)
                    have q109 : x5_1 < (l0.length : Int) := of_decide_eq_true (by first | (with_reducible assumption) | assumption)
                    obtain ⟨ad109, A109_2, c109_2, e109, hx109_0, hx109_1, hx109_2, hl109_2, hi109_2⟩ := at_T34 HR0.out x5_1 p109 q109
                    obtain rfl : ad107 = ad109 := (by injection e109)
                    have HR109_2 := Aside0.mk hi109_2
                    have HC109_2 := Aside0.mk hl109_2
                    clear hi109_2 hl109_2
                    replace p109 := eq_true p109
                    replace q109 := eq_true q109
                    have ea_ := Option.some.inj (hx107_2.symm.trans hx109_2)
                    injection ea_ with ea_ en_ ec_
                    subst ea_
                    subst ec_
                    clear en_
                    have p110 : 0 ≤ (x5_1 : Int) := of_decide_eq_true (by first | (with_reducible assumption) | assumption)
                    have q110 : x5_1 < (l1.length : Int) := of_decide_eq_true (by first | (with_reducible assumption) | assumption)
                    obtain ⟨ad110, A110_2, c110_2, e110, hx110_0, hx110_1, hx110_2, hl110_2, hi110_2⟩ := at_T34 HR1.out x5_1 p110 q110
                    obtain rfl : ad108 = ad110 := (by injection e110)
                    have HR110_2 := Aside0.mk hi110_2
                    have HC110_2 := Aside0.mk hl110_2
                    clear hi110_2 hl110_2
                    replace p110 := eq_true p110
                    replace q110 := eq_true q110
                    have ea_ := Option.some.inj (hx108_2.symm.trans hx110_2)
                    injection ea_ with ea_ en_ ec_
                    subst ea_
                    subst ec_
                    clear en_
                    have p111 : 0 ≤ (x5_1 : Int) := of_decide_eq_true (by first | (with_reducible assumption) | assumption)
                    have q111 : x5_1 < (l0.length : Int) := of_decide_eq_true (by first | (with_reducible assumption) | assumption)
                    obtain ⟨ad111, A111_2, c111_2, e111, hx111_0, hx111_1, hx111_2, hl111_2, hi111_2⟩ := at_T34 HR0.out x5_1 p111 q111
                    obtain rfl : ad107 = ad111 := (by injection e111)
                    have HR111_2 := Aside0.mk hi111_2
                    have HC111_2 := Aside0.mk hl111_2
                    clear hi111_2 hl111_2
                    replace p111 := eq_true p111
                    replace q111 := eq_true q111
                    have ea_ := Option.some.inj (hx107_2.symm.trans hx111_2)
                    injection ea_ with ea_ en_ ec_
                    subst ea_
                    subst ec_
                    clear en_
                    have hcv12 : ∀ m n, _ := fun m n => Kd.C_string (w := (w.drewN m).drewN n) (P := Try.prog) (A := A107_2) (c := c107_2) Try.underlying22 Try.underlying5 Try.underlying9 (Kd.C_drewN (Kd.C_drewN HR111_2.out m) n)
                    have hcw12 : ∀ m, _ := fun m => Kd.C_string (w := w.drewN m) (P := Try.prog) (A := A107_2) (c := c107_2) Try.underlying22 Try.underlying5 Try.underlying9 (Kd.C_drewN HR111_2.out m)
                    have p112 : 0 ≤ (x5_1 : Int) := of_decide_eq_true (by first | (with_reducible assumption) | assumption)
                    have q112 : x5_1 < (l1.length : Int) := of_decide_eq_true (by first | (with_reducible assumption) | assumption)
                    obtain ⟨ad112, A112_2, c112_2, e112, hx112_0, hx112_1, hx112_2, hl112_2, hi112_2⟩ := at_T34 HR1.out x5_1 p112 q112
                    obtain rfl : ad108 = ad112 := (by injection e112)
                    have HR112_2 := Aside0.mk hi112_2
                    have HC112_2 := Aside0.mk hl112_2
                    clear hi112_2 hl112_2
                    replace p112 := eq_true p112
                    replace q112 := eq_true q112
                    have ea_ := Option.some.inj (hx108_2.symm.trans hx112_2)
                    injection ea_ with ea_ en_ ec_
                    subst ea_
                    subst ec_
                    clear en_
                    have hcv13 : ∀ m n, _ := fun m n => Kd.C_string (w := (w.drewN m).drewN n) (P := Try.prog) (A := A108_2) (c := c108_2) Try.underlying22 Try.underlying5 Try.underlying9 (Kd.C_drewN (Kd.C_drewN HR112_2.out m) n)
                    have hcw13 : ∀ m, _ := fun m => Kd.C_string (w := w.drewN m) (P := Try.prog) (A := A108_2) (c := c108_2) Try.underlying22 Try.underlying5 Try.underlying9 (Kd.C_drewN HR112_2.out m)
                    go_wp2
                    repeat (go_quiet (fail); try go_wp2)
                    go_ret
                    exact ⟨by first | rfl | (simp; done) | (simp [*]; done), by repeat (first | exact Drawn0.refl _ | apply Drawn0.step)⟩
            · rw [if_neg c6] at H
              exact absurd H (by simp)
          · rw [if_neg c5] at H
            exact absurd H (by simp)
        · rw [if_neg c4] at H
          have c4b0 : decide (x5_1 < (l0.length : Int)) = false := decide_eq_false c4
          clear c4
          obtain rfl := Option.some.inj H
          go_wp2
          repeat (go_quiet (fail); try go_wp2)
          go_ret
          exact ⟨by first | rfl | (simp; done) | (simp [*]; done), by repeat (first | exact Drawn0.refl _ | apply Drawn0.step)⟩
  · rw [if_neg c3] at H
    have c3b0 : ((l0.length : Int) == (l1.length : Int)) = false := beq_eq_false_iff_ne.mpr c3
    have c3b1 : ((l0.length : Int) != (l1.length : Int)) = true := bne_iff_ne.mpr c3
    have c3b2 : (l0.length == l1.length) = false := by first | simpa using c3 | (simp at c3 ⊢; omega)
    obtain rfl := Option.some.inj H
    go_enter Try.func14, Try.ntmps14
    go_wp2
    repeat (go_quiet (fail); try go_wp2)
    go_ret
    exact ⟨by first | rfl | (simp; done) | (simp [*]; done), by repeat (first | exact Drawn0.refl _ | apply Drawn0.step)⟩


end Go.Proofs.Ytfdjfejlfkabdaa.Q
