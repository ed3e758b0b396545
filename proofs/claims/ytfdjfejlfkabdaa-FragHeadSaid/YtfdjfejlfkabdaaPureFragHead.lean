import Derived.Test.YtfdjfejlfkabdaaPureFragMany
namespace Go.Proofs.Ytfdjfejlfkabdaa.Pure
open Go.RowKit Go.Proofs.Ytfdjfejlfkabdaa.Q Go.Proofs.YtfdjfejlfkabdaaW.PrintWords Go.Proofs.YtfdjfejlfkabdaaW.PrintLast

theorem split_case (l : List Int) (n : Nat) (_ : 1 ≤ n) (_ : n ≤ 2048) : ∃ r, frag_Split.f l (n : Int) = some r ∧ (r = [] ∨ 1 ≤ l.length ∧ l.length ≤ 2048 ∧ r = pcs l n) := by
  rw [split_eq]
  by_cases h : 1 ≤ l.length ∧ l.length ≤ 2048 ∧ 1 ≤ (n : Int) ∧ (n : Int) ≤ 2048
  · rw [if_pos h]; exact ⟨_, rfl, .inr ⟨h.1, h.2.1, by simp⟩⟩
  · rw [if_neg h]; exact ⟨_, rfl, .inl rfl⟩
/-- A piece that begins a packet, behind another one: no packet. -/
theorem two_none {u v : List S34} {q : S34} (hu : 1 ≤ u.length) (hv : v[0]? = some q) (hq : q.f0 = true) : (joinN (u ++ v)).2 = false := by
  rcases h : (joinN (u ++ v)).2 with _ | _
  · rfl
  · have h1 := joinN_at h u.length q (by rw [List.getElem?_append_right (Nat.le_refl _)]; simpa using hv)
    rw [hq] at h1
    have h2 := h1.1
    rw [beq_eq_false_iff_ne.mpr (by omega)] at h2
    cases h2
theorem FragHead : bowlinelaw11_FragHead.Pure := by
  intro l0 l1 a2 m0 _ _ m1 _ _ w2
  obtain ⟨n, hn, n1, n2⟩ := size_of a2 w2
  obtain ⟨K, hK⟩ : ∃ K : Nat, 5000 < K := ⟨5001, by omega⟩
  refine ⟨K + 1, ?_⟩
  unfold bowlinelaw11_FragHead.f
  rw [hn]
  obtain ⟨r0, e0, h0⟩ := split_case l0 n n1 n2
  obtain ⟨r1, e1, h1⟩ := split_case l1 n n1 n2
  rw [show bowlinelaw11_head.f = some true from rfl, Option.bind_some, e0, Option.bind_some, e1, Option.bind_some]
  have ex : bowlinelaw11_FragHead.j0 (K + 1) l0 true r0 r1 true = some true := by
    rw [bowlinelaw11_FragHead.j0, if_pos rfl]
  split
  · exact ex
  · split
    · exact ex
    · next hc hr =>
      rcases h0 with rfl | ⟨a1, a3, rfl⟩
      · simp at hr
      rcases h1 with rfl | ⟨b1, b2, rfl⟩
      · exact ex
      have hp0 := pcs_len_le (sz := n) a3 a1
      have hp1 := pcs_len_le (sz := n) b2 b1
      have z0 : 0 < (pcs l0 n).length := by rw [pcs_len]; exact Nat.succ_pos _
      have z1 : 0 < (pcs l1 n).length := by rw [pcs_len]; exact Nat.succ_pos _
      have hq : (pcs l1 n)[0]? = some (pc l1 n ((l1.length - 1) / n + 1) 0) := pcs_get (Nat.succ_pos _)
      rw [beq_eq_false_iff_ne.mpr (by omega)]
      rw [bowlinelaw11_FragHead.j0]
      rw [if_neg (by simp)]
      simp only [Option.bind_some, List.nil_append, List.length_nil]
      rw [if_pos (by omega), if_pos (by omega), join_eq _ (by rw [List.length_append]; omega) _ (by rw [List.length_append]; omega), Option.bind_some, if_pos (by omega),
        if_pos (by rw [List.length_take]; omega), if_pos (by rw [List.length_take]; omega), join_eq _ (by rw [List.length_append, List.length_take]; omega) _ (by rw [List.length_append, List.length_take]; omega), Option.bind_some,
        join_eq _ (by omega) _ (by omega), Option.bind_some, if_pos trivial]
      rw [two_none (by omega) hq rfl, two_none (by rw [List.length_take]; omega) hq rfl, join_pcs a1 a3 n1]
      simp

end Go.Proofs.Ytfdjfejlfkabdaa.Pure
