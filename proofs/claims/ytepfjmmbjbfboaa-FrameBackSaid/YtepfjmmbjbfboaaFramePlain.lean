/- Frames in plain numbers: what is put is got; the document's answers are the same. By this session. -/
import Derived.Test.YtepfjmmbjbfboaaFrameGet
import Derived.Test.YtepfjmmbjbfboaaF8
import Derived.Test.YtepfjmmbjbfboaaOpen
namespace Go.Proofs.Ytepfjmmbjbfboaa.F
open Go.RowKit Go.Proofs.YtepfjmmbjbfboaaW.PrintWords Go.Proofs.YtepfjmmbjbfboaaW.PrintLast Go.Proofs.YtepfjmmbjbfboaaW.PrintMore
set_option linter.unusedVariables false
set_option linter.unusedSimpArgs false
theorem stL_take (k : Int) (l : List Int) : (stL k ++ l).take 4 = stL k := List.take_left' (stL_len k)
theorem stL_drop (k : Int) (l : List Int) : (stL k ++ l).drop 4 = l := List.drop_left' (stL_len k)
theorem putN_fine {k : Int} {l : List Int} (h : 1 ≤ k ∧ k ≤ 4 ∧ l.length ≤ 2048) : putN k l = sealN (stL k ++ l) := if_pos h
theorem putN_no {k : Int} {l : List Int} (h : ¬ (1 ≤ k ∧ k ≤ 4 ∧ l.length ≤ 2048)) : putN k l = [] := if_neg h
theorem putN_len {k : Int} {l : List Int} (h : 1 ≤ k ∧ k ≤ 4 ∧ l.length ≤ 2048) : (putN k l).length = l.length + 8 := by
  rw [putN_fine h, sealN_len, List.length_append, stL_len]; omega
theorem putN_oct (k : Int) {l : List Int} (ho : Oct l) : Oct (putN k l) := by
  unfold putN
  split
  · exact sealN_oct ((stL_oct k).append ho)
  · intro x hx; cases hx
theorem putN_le (k : Int) (l : List Int) : (putN k l).length ≤ 2056 := by
  by_cases h : 1 ≤ k ∧ k ≤ 4 ∧ l.length ≤ 2048
  · rw [putN_len h]; omega
  · rw [putN_no h]; simp
theorem get_put {k : Int} {l : List Int} (h : 1 ≤ k ∧ k ≤ 4 ∧ l.length ≤ 2048) : getN (putN k l) = ((k, l), 0) := by
  have hl := putN_len h
  unfold getN
  rw [if_neg (by omega), if_neg (by omega), putN_fine h, refopen_seal, if_neg (by simp)]
  dsimp only
  rw [kindOf_eq h.1 h.2.1 (stL_take k l), if_neg (by omega), stL_drop]
theorem kindOf_range (x : List Int) : kindOf x = 0 ∨ (1 ≤ kindOf x ∧ kindOf x ≤ 4 ∧ x.take 4 = stL (kindOf x)) := by
  unfold kindOf
  by_cases h1 : x.take 4 = stL 1
  · rw [if_pos h1]; exact .inr ⟨by decide, by decide, h1⟩
  rw [if_neg h1]
  by_cases h2 : x.take 4 = stL 2
  · rw [if_pos h2]; exact .inr ⟨by decide, by decide, h2⟩
  rw [if_neg h2]
  by_cases h3 : x.take 4 = stL 3
  · rw [if_pos h3]; exact .inr ⟨by decide, by decide, h3⟩
  rw [if_neg h3]
  by_cases h4 : x.take 4 = stL 4
  · rw [if_pos h4]; exact .inr ⟨by decide, by decide, h4⟩
  rw [if_neg h4]
  exact .inl rfl
/-- What is got has the bytes. -/
theorem getN_cases (b : List Int) : ((getN b).1 = (0, []) ∧ ((getN b).2 = 41 ∨ (getN b).2 = 2 ∨ (getN b).2 = 42 ∨ (getN b).2 = 43)) ∨
    ((getN b).2 = 0 ∧ 1 ≤ (getN b).1.1 ∧ (getN b).1.1 ≤ 4 ∧ (getN b).1.2.length ≤ 2048 ∧ putN (getN b).1.1 (getN b).1.2 = b ∧ (refopen b).2 = true ∧ 8 ≤ b.length) := by
  unfold getN
  by_cases h8 : b.length < 8
  · rw [if_pos h8]; exact .inl ⟨rfl, .inl rfl⟩
  rw [if_neg h8]
  by_cases h9 : 2056 < b.length
  · rw [if_pos h9]; exact .inl ⟨rfl, .inr (.inl rfl)⟩
  rw [if_neg h9]
  by_cases h0 : (refopen b).2 = false
  · rw [if_pos h0]; exact .inl ⟨rfl, .inr (.inr (.inl rfl))⟩
  rw [if_neg h0]
  by_cases hk : kindOf (refopen b).1 = 0
  · rw [if_pos hk]; exact .inl ⟨rfl, .inr (.inr (.inr rfl))⟩
  rw [if_neg hk]
  right
  have ht : (refopen b).2 = true := by simpa using h0
  obtain ⟨h1, h2⟩ := refopen_true ht
  rcases kindOf_range (refopen b).1 with hz | ⟨k1, k4, kt⟩
  · exact absurd hz hk
  have hx : stL (kindOf (refopen b).1) ++ (refopen b).1.drop 4 = (refopen b).1 := by rw [← kt]; exact List.take_append_drop 4 _
  have hl : ((refopen b).1.drop 4).length ≤ 2048 := by rw [List.length_drop]; omega
  refine ⟨rfl, k1, k4, hl, ?_, ht, by omega⟩
  dsimp only
  rw [putN_fine ⟨k1, k4, hl⟩, hx, h1]
theorem getN_oct {b : List Int} (ho : Oct b) : Oct (getN b).1.2 := by
  rcases getN_cases b with ⟨h, _⟩ | ⟨h, h1, h4, hl, hp, _, _⟩
  · rw [h]; intro x hx; cases hx
  · have e : b = sealN (stL (getN b).1.1 ++ (getN b).1.2) := by rw [← putN_fine ⟨h1, h4, hl⟩, hp]
    intro x hx
    refine ho x ?_
    rw [e, sealN]
    simp [hx]
theorem proto_eq (k : Int) : bowlineref04_proto.f k = some (if k = 1 then 61 else if k = 2 then 16479 else if k = 3 then 49185 else if k = 4 then 87 else 0) := by
  unfold bowlineref04_proto.f
  repeat (first | rfl | split)
theorem refput_eq {k : Int} {l : List Int} (ho : Oct l) (hl : l.length ≤ 9000) {K : Nat} (hK : 10 * (l.length + 4) < K) : bowlineref04_Put.f K k l = some (putN k l) := by
  unfold bowlineref04_Put.f
  rw [proto_eq, Option.bind_some]
  have key : ∀ t : Int, t ≠ 0 → (1 ≤ k ∧ k ≤ 4) → [255, 3, (wrap64 (Int.tdiv t 256)) % 256, (Int.tmod t 256) % 256] = stL k →
      (if t = 0 then some ([] : List Int) else (if (l.length : Int) > 2048 then (some ([] : List Int)) else ((some (([255, 3, (wrap64 (Int.tdiv t 256)) % 256, (Int.tmod t 256) % 256] : List Int) : List Int)).bind fun y152 => (if y152.length + l.length < 140737488355328 then ((bowlineref02_Seal.f K (y152 ++ l)).bind fun t158 => (some t158)) else (none))))) = some (putN k l) := by
    intro t ht hk hs
    rw [if_neg ht]
    by_cases hb : (l.length : Int) > 2048
    · rw [if_pos hb, putN_no (by omega)]
    · rw [if_neg hb, Option.bind_some, hs, if_pos (by rw [stL_len]; omega), refseal_eq _ ((stL_oct k).append ho) (by rw [List.length_append, stL_len]; omega) K (by rw [List.length_append, stL_len]; omega), Option.bind_some, putN_fine (by omega)]
  by_cases h1 : k = 1
  · rw [if_pos h1]; exact key 61 (by decide) (by omega) (by rw [h1]; decide +kernel)
  rw [if_neg h1]
  by_cases h2 : k = 2
  · rw [if_pos h2]; exact key 16479 (by decide) (by omega) (by rw [h2]; decide +kernel)
  rw [if_neg h2]
  by_cases h3 : k = 3
  · rw [if_pos h3]; exact key 49185 (by decide) (by omega) (by rw [h3]; decide +kernel)
  rw [if_neg h3]
  by_cases h4 : k = 4
  · rw [if_pos h4]; exact key 87 (by decide) (by omega) (by rw [h4]; decide +kernel)
  rw [if_neg h4, if_pos rfl, putN_no (by omega)]
theorem refget_l0 {x : List Int} (ho : Oct x) (h4 : 4 ≤ x.length) (hl : x.length ≤ 20000) : ∀ (d j K : Nat), j + d = 5 → d < K → 1 ≤ j → (∀ i : Int, 1 ≤ i → i < (j : Int) → x.take 4 ≠ stL i) →
    bowlineref04_Get.l0 K x (j : Int) = some (if kindOf x = 0 then (0, [], 43) else (kindOf x, x.drop 4, 0)) := by
  obtain ⟨x0, x1, x2, x3, rest, hx⟩ : ∃ x0 x1 x2 x3 rest, x = x0 :: x1 :: x2 :: x3 :: rest := by
    match x, h4 with
    | x0 :: x1 :: x2 :: x3 :: rest, _ => exact ⟨x0, x1, x2, x3, rest, rfl⟩
  have o0 := ho x0 (by rw [hx]; simp)
  have o1 := ho x1 (by rw [hx]; simp)
  have o2 := ho x2 (by rw [hx]; simp)
  have o3 := ho x3 (by rw [hx]; simp)
  have r0 : rd x 0 = x0 := by rw [hx]; rfl
  have r1 : rd x 1 = x1 := by rw [hx]; rfl
  have r2 : rd x 2 = x2 := by rw [hx]; rfl
  have r3 : rd x 3 = x3 := by rw [hx]; rfl
  have ht : x.take 4 = [x0, x1, x2, x3] := by rw [hx]; rfl
  intro d
  induction d with
  | zero =>
    intro j K hj hK h1 hno
    obtain ⟨K, rfl⟩ : ∃ m, K = m + 1 := ⟨K - 1, by omega⟩
    have hk := kindOf_none (x := x) (fun i h1 h4 => hno i h1 (by omega))
    rw [bowlineref04_Get.l0, if_neg (by omega), if_pos hk]
  | succ d ih =>
    intro j K hj hK h1 hno
    obtain ⟨K, rfl⟩ : ∃ m, K = m + 1 := ⟨K - 1, by omega⟩
    have hwj := Aside0.mk (show wrap64 ((j : Int) + 1) = ((j + 1 : Nat) : Int) by unfold wrap64; omega)
    have hw2 := Aside0.mk (show wrap64 (wrap64 (256 * wrap64 x2) + wrap64 x3) = 256 * x2 + x3 by rw [wz (x := x2) (by omega) (by omega), wz (x := x3) (by omega) (by omega), wz (x := 256 * x2) (by omega) (by omega), wz (x := 256 * x2 + x3) (by omega) (by omega)])
    have hnext : x.take 4 ≠ stL (j : Int) → bowlineref04_Get.l0 K x (wrap64 ((j : Int) + 1)) = some (if kindOf x = 0 then (0, [], 43) else (kindOf x, x.drop 4, 0)) := by
      intro hne
      rw [hwj.out]
      refine ih (j + 1) K (by omega) (by omega) (by omega) (fun i hi1 hi2 => ?_)
      by_cases e : i = (j : Int)
      · rw [e]; exact hne
      · exact hno i hi1 (by omega)
    have hst : ∀ p : Int, (if (j : Int) = 1 then (61 : Int) else if (j : Int) = 2 then 16479 else if (j : Int) = 3 then 49185 else if (j : Int) = 4 then 87 else 0) = p → (x.take 4 = stL (j : Int) ↔ x0 = 255 ∧ x1 = 3 ∧ 256 * x2 + x3 = p) := by
      intro p hp
      rw [ht]
      rcases (show j = 1 ∨ j = 2 ∨ j = 3 ∨ j = 4 by omega) with rfl | rfl | rfl | rfl
      all_goals
        subst hp
        simp [stL]
        try omega
    rw [bowlineref04_Get.l0, if_pos (by omega), if_pos (by omega), r0]
    by_cases e0 : x0 = 255
    · rw [if_pos e0, if_pos (by omega), r1]
      by_cases e1 : x1 = 3
      · rw [if_pos e1, if_pos (by omega), if_pos (by omega), proto_eq, Option.bind_some, r2, r3, hw2.out]
        by_cases e2 : 256 * x2 + x3 = (if (j : Int) = 1 then (61 : Int) else if (j : Int) = 2 then 16479 else if (j : Int) = 3 then 49185 else if (j : Int) = 4 then 87 else 0)
        · have hm := (hst _ rfl).2 ⟨e0, e1, e2⟩
          have hk := kindOf_eq (x := x) (j := (j : Int)) (by omega) (by omega) hm
          rw [if_pos e2, Option.bind_some, if_pos (by omega), Option.bind_some, if_pos (by rw [List.length_drop]; simp; omega), hk, if_neg (by omega)]
          rfl
        · rw [if_neg e2]; exact hnext (fun h => e2 ((hst _ rfl).1 h).2.2)
      · rw [if_neg e1]; exact hnext (fun h => e1 ((hst _ rfl).1 h).2.1)
    · rw [if_neg e0]; exact hnext (fun h => e0 ((hst _ rfl).1 h).1)
theorem refget_eq {b : List Int} (ho : Oct b) (hl : b.length ≤ 20000) {K : Nat} (hK : 5 < K) : bowlineref04_Get.f K b = some ((getN b).1.1, (getN b).1.2, (getN b).2) := by
  unfold bowlineref04_Get.f getN
  by_cases h8 : b.length < 8
  · rw [if_pos (by omega), if_pos h8]
  rw [if_neg (by omega), if_neg h8]
  by_cases h9 : 2056 < b.length
  · rw [if_pos (by omega), if_pos h9]
  rw [if_neg (by omega), if_neg h9]
  unfold bowlineref02_Open.f
  rw [if_pos ⟨ho, by omega⟩, Option.bind_some]
  by_cases h0 : (refopen b).2 = false
  · rw [if_pos h0, if_neg (by rw [h0]; decide)]
  rw [if_neg h0]
  have ht : (refopen b).2 = true := by simpa using h0
  rw [if_pos ht]
  obtain ⟨_, h2⟩ := refopen_true ht
  have := refget_l0 (refopen_oct ho) (by omega) (by omega) 4 1 K rfl (by omega) (by omega) (fun i h1 h2 => by omega)
  rw [show ((1 : Nat) : Int) = 1 from rfl] at this
  rw [this]
  split <;> rfl
end Go.Proofs.Ytepfjmmbjbfboaa.F
