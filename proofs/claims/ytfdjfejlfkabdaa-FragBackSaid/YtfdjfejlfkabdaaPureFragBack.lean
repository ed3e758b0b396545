import Derived.Test.YtfdjfejlfkabdaaQ10
import Derived.Test.YtfdjfejlfkabdaaFragPlain
namespace Go.Proofs.Ytfdjfejlfkabdaa.Pure
open Go.RowKit Go.Proofs.Ytfdjfejlfkabdaa.Q Go.Proofs.YtfdjfejlfkabdaaW.PrintWords Go.Proofs.YtfdjfejlfkabdaaW.PrintLast

theorem rd_get {l : List S34} {i : Nat} {p : S34} (h : l[i]? = some p) : rd_T34 l (i : Int) = p := by
  simp [rd_T34, h]
/-- The loop over the pieces, all of which are as they should. -/
theorem back_l0 (l : List Int) (a1 : Int) (x : List S34) (x7 : Bool) (hx : x.length ≤ 4000) (hp : ∀ i p, x[i]? = some p → p.f0 = (i == 0) ∧ p.f1 = (i + 1 == x.length) ∧ 1 ≤ p.f2.length ∧ (p.f2.length : Int) ≤ a1 ∧ (i + 1 < x.length → (p.f2.length : Int) = a1))
    (r : List Int) (hj : joinN x = (r, x7)) (hr : x7 = true → r = l) : ∀ (d i k : Nat), i + d = x.length → d + 5000 < k → bowlinelaw11_FragBack.l0 k l a1 true x x7 (i : Int) = some true := by
  intro d
  induction d with
  | zero =>
    intro i k hi hk
    obtain ⟨k, rfl⟩ : ∃ k', k = k' + 1 := ⟨k - 1, by omega⟩
    rw [bowlinelaw11_FragBack.l0, if_neg (by omega), join_eq _ (by omega) _ (by omega), Option.bind_some, if_pos rfl, hj, if_pos (by simp)]
    by_cases h : x7 = true
    · rw [if_pos h, hr h]; simp
    · rw [if_neg h]
  | succ d ih =>
    intro i k hi hk
    obtain ⟨k, rfl⟩ : ∃ k', k = k' + 1 := ⟨k - 1, by omega⟩
    obtain ⟨p, he⟩ : ∃ p, x[i]? = some p := ⟨_, List.getElem?_eq_getElem (by omega)⟩
    obtain ⟨h0, h1, h2, h3, h4⟩ := hp i p he
    have e0 : ((i : Int) == 0) = (i == 0) := beqi _ 0
    have e2 : wrap64 ((x.length : Int) - 1) = (x.length : Int) - 1 := w64 _ (by omega) (by omega)
    have e1 : ((i : Int) == (x.length : Int) - 1) = (i + 1 == x.length) := by
      by_cases hq : i + 1 = x.length
      · rw [beq_iff_eq.mpr hq, beq_iff_eq.mpr (by omega)]
      · rw [beq_eq_false_iff_ne.mpr hq, beq_eq_false_iff_ne.mpr (by omega)]
    rw [bowlinelaw11_FragBack.l0, if_pos (by omega), if_pos (by omega), rd_get he, e0, e2, e1, if_neg (by rw [h0]; simp), if_neg (by rw [h1]; simp), if_neg (by omega), if_neg (by omega), w64 _ (by omega) (by omega)]
    have := ih (i + 1) k (by omega) (by omega)
    have e3 : ((i + 1 : Nat) : Int) = (i : Int) + 1 := by omega
    rw [e3] at this
    rw [this]
    by_cases hq : (i : Int) < (x.length : Int) - 1
    · rw [if_pos hq, if_pos (h4 (by omega))]
    · rw [if_neg hq]
theorem FragBack : bowlinelaw11_FragBack.Pure := by
  intro l a1 _ _ _ _
  obtain ⟨K, hK⟩ : ∃ K : Nat, 10000 < K := ⟨10001, by omega⟩
  refine ⟨K + 1 + 1, ?_⟩
  rw [bowlinelaw11_FragBack.f, show bowlinelaw11_head.f = some true from rfl, Option.bind_some]
  by_cases h9 : (l.length : Int) > 9000
  · rw [if_pos h9]
  rw [if_neg h9, split_eq, Option.bind_some]
  have key : ∀ b : Bool, b = decide (1 ≤ l.length ∧ l.length ≤ 2048 ∧ 1 ≤ a1 ∧ a1 ≤ 2048) → bowlinelaw11_FragBack.j0 (K + 1 + 1) l a1 true (if 1 ≤ l.length ∧ l.length ≤ 2048 ∧ 1 ≤ a1 ∧ a1 ≤ 2048 then pcs l a1.toNat else []) b = some true := by
    intro b hb
    by_cases hf : 1 ≤ l.length ∧ l.length ≤ 2048 ∧ 1 ≤ a1 ∧ a1 ≤ 2048
    · rw [decide_eq_true hf] at hb
      subst hb
      rw [if_pos hf]
      have hlen := pcs_len l a1.toNat
      have hle := pcs_len_le (l := l) (sz := a1.toNat) hf.2.1 hf.1
      have hm : manyN (l.length : Int) a1 = ((pcs l a1.toNat).length : Int) := by
        unfold manyN
        rw [if_pos (by omega), hlen]
        push_cast
        rw [show ((l.length : Int) - 1) = ((l.length - 1 : Nat) : Int) by omega, Int.toNat_of_nonneg (by omega)]
      have hgo := back_l0 l a1 (pcs l a1.toNat) true (by omega) (fun i p he => by
        obtain ⟨hi, rfl⟩ := pcs_at he
        have h := pc_len (l := l) (sz := a1.toNat) (n := (l.length - 1) / a1.toNat + 1) hf.1 (by omega) hi
        refine ⟨rfl, by rw [hlen]; rfl, h.1, by omega, fun h2 => ?_⟩
        rw [hlen] at h2
        have := h.2.2 h2
        omega) l (join_pcs hf.1 hf.2.1 (by omega)) (fun _ => rfl) (pcs l a1.toNat).length 0 K (by omega) (by omega)
      have hpos : 0 < (pcs l a1.toNat).length := by rw [hlen]; exact Nat.succ_pos _
      rw [bowlinelaw11_FragBack.j0, many_eq, Option.bind_some, hm, if_pos rfl, decide_eq_true (by omega), bowlinelaw11_FragBack.j1, if_neg (by simp)]
      exact hgo
    · rw [decide_eq_false hf] at hb
      subst hb
      rw [if_neg hf]
      have hm : manyN (l.length : Int) a1 = 0 := by
        unfold manyN
        rw [if_neg (by omega)]
      have hgo := back_l0 l a1 [] false (by simp) (fun i p he => by simp at he) [] rfl (fun h => by cases h) 0 0 K rfl (by omega)
      rw [bowlinelaw11_FragBack.j0, many_eq, Option.bind_some, hm, if_pos (by simp), decide_eq_false (by simp), bowlinelaw11_FragBack.j1, if_neg (by simp)]
      exact hgo
  by_cases h1 : (l.length : Int) ≥ 1
  · rw [if_pos h1]
    by_cases h2 : (l.length : Int) ≤ 2048
    · rw [if_pos h2]
      by_cases h3 : a1 ≥ 1
      · rw [if_pos h3]
        refine key _ ?_
        by_cases h4 : a1 ≤ 2048
        · rw [decide_eq_true h4, decide_eq_true (by omega)]
        · rw [decide_eq_false h4, decide_eq_false (by omega)]
      · rw [if_neg h3]; exact key _ (by rw [decide_eq_false (by omega)])
    · rw [if_neg h2]; exact key _ (by rw [decide_eq_false (by omega)])
  · rw [if_neg h1]; exact key _ (by rw [decide_eq_false (by omega)])

end Go.Proofs.Ytfdjfejlfkabdaa.Pure
