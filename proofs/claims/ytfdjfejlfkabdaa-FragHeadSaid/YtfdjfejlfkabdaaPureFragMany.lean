import Derived.Test.YtfdjfejlfkabdaaQ12
import Derived.Test.YtfdjfejlfkabdaaFragPlain
namespace Go.Proofs.Ytfdjfejlfkabdaa.Pure
open Go.RowKit Go.Proofs.Ytfdjfejlfkabdaa.Q Go.Proofs.YtfdjfejlfkabdaaW.PrintWords Go.Proofs.YtfdjfejlfkabdaaW.PrintLast

theorem size_of (a : Int) (h : (Lit.int .u16 a).wf = true) : ∃ m : Nat, wrap64 (1 + (Int.tmod (wrap64 a) 2048)) = (m : Int) ∧ 1 ≤ m ∧ m ≤ 2048 := by
  have h1 : 0 ≤ a ∧ a < 65536 := by
    have e1 : IntKind.u16.min = 0 := by decide
    have e2 : IntKind.u16.max = 65535 := by decide
    simp [Lit.wf] at h
    omega
  rw [w64 a (by omega) (by omega), Int.tmod_eq_emod_of_nonneg h1.1, w64 _ (by omega) (by omega)]
  exact ⟨(1 + a % 2048).toNat, by omega, by omega, by omega⟩
theorem FragMany : bowlinelaw11_FragMany.Pure := by
  intro a0 a1 a2 w0 w1 w2
  obtain ⟨m, hm, m1, m2⟩ := size_of a0 w0
  obtain ⟨x, hx, x1, x2⟩ := size_of a1 w1
  obtain ⟨y, hy, y1, y2⟩ := size_of a2 w2
  unfold bowlinelaw11_FragMany.f
  rw [hm, hx, hy]
  simp only [many_eq, bowlinelaw11_head.f, Option.bind_some, if_true]
  have ex : ∀ s : Nat, 1 ≤ s → s ≤ 2048 → manyN (m : Int) (s : Int) = ((((m - 1) / s + 1 : Nat)) : Int) := by
    intro s h1 h2
    unfold manyN
    rw [if_pos (by omega)]
    push_cast
    rw [show ((m : Int) - 1) = ((m - 1 : Nat) : Int) by omega]
  have e1 : manyN (m : Int) 1 = m := by
    have := ex 1 (by omega) (by omega)
    rw [Nat.div_one] at this
    simpa [show m - 1 + 1 = m by omega] using this
  have e2 : manyN (m : Int) 2048 = 1 := by
    have := ex 2048 (by omega) (by omega)
    rw [Nat.div_eq_of_lt (by omega)] at this
    simpa using this
  rw [ex x x1 x2, ex y y1 y2, e1, e2]
  generalize hq : (m - 1) / x = q
  have hq1 : q * x ≤ m - 1 := by rw [← hq]; exact Nat.div_mul_le_self _ _
  have hq2 : m ≤ (q + 1) * x := by rw [← hq]; exact cut_ge x1 (Nat.le_refl _)
  have hq3 : q ≤ m - 1 := by rw [← hq]; exact Nat.div_le_self _ _
  have hq4 : (q + 1) * x = q * x + x := by rw [Nat.add_mul, Nat.one_mul]
  rw [w64 (((q + 1 : Nat) : Int) - 1) (by omega) (by omega)]
  have c1 : (((q + 1 : Nat) : Int) - 1) * (x : Int) = ((q * x : Nat) : Int) := by rw [show (((q + 1 : Nat) : Int) - 1) = (q : Int) by omega]; exact (Int.natCast_mul q x).symm
  have c2 : ((q + 1 : Nat) : Int) * (x : Int) = (((q + 1) * x : Nat) : Int) := (Int.natCast_mul (q + 1) x).symm
  rw [c1, c2, w64 ((q * x : Nat) : Int) (by omega) (by omega), w64 (((q + 1) * x : Nat) : Int) (by omega) (by omega)]
  rw [if_pos (by omega), if_pos (by omega)]
  by_cases h : (x : Int) > y
  · rw [if_pos h, if_pos rfl]; simp
  · rw [if_neg h]
    have : (m - 1) / y ≤ (m - 1) / x := Nat.div_le_div_left (by omega) (by omega)
    rw [if_pos (by omega), if_pos rfl]; simp

end Go.Proofs.Ytfdjfejlfkabdaa.Pure
