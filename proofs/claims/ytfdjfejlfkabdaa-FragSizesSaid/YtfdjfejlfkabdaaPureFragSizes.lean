import Derived.Test.YtfdjfejlfkabdaaQ11
namespace Go.Proofs.Ytfdjfejlfkabdaa.Pure
open Go.RowKit Go.Proofs.Ytfdjfejlfkabdaa.Q Go.Proofs.YtfdjfejlfkabdaaW.PrintWords Go.Proofs.YtfdjfejlfkabdaaW.PrintLast

/-- YOURS: ∀ (a0 : Int) (a1 : Int), (Lit.int .i64 a0).wf = true → (Lit.int .i64 a1).wf = true → bowlinelaw11_FragSizes.f a0 a1 = some true
What it reaches (each with k first where it has rounds; `.mono`: more rounds tell the same; `.l0`, ..: its loops, with `.mono_l`): frag_within.f, frag_Join.f, bowlineref11_Same.f, frag_Many.f, frag_ends.f, slices_Clone_byte_byte.f, frag_Split.f, frag_Size.f, bowlinelaw11_head.f, bowlinelaw11_FragSizes.f -/
theorem FragSizes : bowlinelaw11_FragSizes.Pure := by
  intro a0 a1 _ _
  simp only [bowlinelaw11_FragSizes.f, bowlinelaw11_head.f, frag_Size.f, Option.bind_some, if_true]
  have hm : ∀ a b : Int, mn a b = if b < a then b else a := fun _ _ => rfl
  have hx : ∀ a b : Int, mx a b = if a < b then b else a := fun _ _ => rfl
  have b1 : ∀ a, 64 ≤ mn (mx (4 * (mn (mx a 0) 65536)) 64) 1500 ∧ mn (mx (4 * (mn (mx a 0) 65536)) 64) 1500 ≤ 1500 := by
    intro a
    simp only [hm, hx]
    repeat' split
    all_goals omega
  have b2 : ∀ a b, a ≤ b → mn (mx (4 * (mn (mx a 0) 65536)) 64) 1500 ≤ mn (mx (4 * (mn (mx b 0) 65536)) 64) 1500 := by
    intro a b hab
    have e : ∀ a, ∃ c, mn (mx a 0) 65536 = c ∧ (a ≤ 0 ∧ c = 0 ∨ 0 ≤ a ∧ a ≤ 65536 ∧ c = a ∨ 65536 ≤ a ∧ c = 65536) := by
      intro a; refine ⟨_, rfl, ?_⟩; simp only [hm, hx]; split <;> split <;> omega
    obtain ⟨c, hc, h1⟩ := e a
    obtain ⟨d, hd, h2⟩ := e b
    rw [hc, hd]
    have hcd : c ≤ d := by omega
    simp only [hm, hx]
    repeat' split
    all_goals omega
  have h1 := b1 a0
  have h2 := b1 a1
  have h3 := b2 a0 a1
  have h4 := b2 a1 a0
  generalize mn (mx (4 * (mn (mx a0 0) 65536)) 64) 1500 = x at *
  generalize mn (mx (4 * (mn (mx a1 0) 65536)) 64) 1500 = y at *
  rw [if_pos (by omega), if_pos (by omega)]
  by_cases h : a0 > a1
  · rw [if_pos h, if_neg (by omega)]
    have := h4 (by omega)
    simp; omega
  · rw [if_neg h, if_pos (h3 (by omega))]
    by_cases h' : a0 < a1
    · rw [if_pos h']
    · rw [if_neg h']
      have := h4 (by omega)
      simp; omega

end Go.Proofs.Ytfdjfejlfkabdaa.Pure
