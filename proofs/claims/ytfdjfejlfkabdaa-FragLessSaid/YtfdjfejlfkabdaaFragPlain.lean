/- What the functions of the frag layer compute, in plain lists. By this session. -/
import Derived.Test.YtfdjfejlfkabdaaQ5
namespace Go.Proofs.Ytfdjfejlfkabdaa.Q
open Go.RowKit Go.Proofs.YtfdjfejlfkabdaaW.PrintWords Go.Proofs.YtfdjfejlfkabdaaW.PrintLast
set_option linter.unusedVariables false

theorem w64 (x : Int) (h1 : -9223372036854775808 ≤ x) (h2 : x < 9223372036854775808) : wrap64 x = x := by unfold wrap64; omega
theorem within_eq (n a b : Int) : frag_within.f n a b = some (decide (a ≤ n ∧ n ≤ b)) := by
  unfold frag_within.f
  by_cases h1 : n ≥ a
  · rw [if_pos h1]; congr 1; simp; omega
  · rw [if_neg h1]; congr 1; simp; omega

/-! ### Many -/
def manyN (n s : Int) : Int := if 1 ≤ n ∧ n ≤ 2048 ∧ 1 ≤ s ∧ s ≤ 2048 then (n - 1) / s + 1 else 0
theorem many_eq (n s : Int) : frag_Many.f n s = some (manyN n s) := by
  unfold frag_Many.f manyN
  rw [within_eq, within_eq]
  simp only [Option.bind_some, decide_eq_true_eq]
  by_cases h1 : 1 ≤ n ∧ n ≤ 2048
  · rw [if_pos h1]
    by_cases h2 : 1 ≤ s ∧ s ≤ 2048
    · rw [if_pos h2, if_neg (by omega), if_pos (by omega)]
      have z3 : 0 ≤ (n - 1) / s := Int.ediv_nonneg (by omega) (by omega)
      have z4 : (n - 1) / s ≤ n - 1 := Int.ediv_le_self _ (by omega)
      rw [w64 (n - 1) (by omega) (by omega), Int.tdiv_eq_ediv_of_nonneg (by omega), w64 ((n - 1) / s) (by omega) (by omega), w64 _ (by omega) (by omega)]
    · rw [if_neg h2, if_neg (by omega)]
  · rw [if_neg h1, if_neg (by omega)]

/-! ### Join -/
def jn (L : Nat) : Nat → List Int → List S34 → List Int × Bool
  | _, acc, [] => (acc, true)
  | i, acc, p :: ps => if p.f0 = (i == 0) ∧ p.f1 = (i + 1 == L) ∧ 1 ≤ p.f2.length ∧ acc.length + p.f2.length ≤ 2048 then jn L (i + 1) (acc ++ p.f2) ps else ([], false)
theorem rd_at (l pre ps : List S34) (p : S34) (h : l = pre ++ p :: ps) : rd_T34 l (pre.length : Int) = p := by
  subst h
  simp [rd_T34]
theorem beqi (a b : Nat) : ((a : Int) == (b : Int)) = (a == b) := by
  by_cases h : a = b
  · subst h; simp
  · rw [beq_eq_false_iff_ne.mpr h, beq_eq_false_iff_ne.mpr (by omega)]
theorem join_l0 (l : List S34) (hl : l.length ≤ 9223372036854775807) : ∀ (ps pre : List S34) (acc : List Int) (k : Nat), l = pre ++ ps → acc.length ≤ 2048 → ps.length < k →
    frag_Join.l0 k l acc l (l.length : Int) (pre.length : Int) = some (jn l.length pre.length acc ps) := by
  intro ps
  induction ps with
  | nil =>
    intro pre acc k h ha hk
    obtain ⟨k, rfl⟩ : ∃ k', k = k' + 1 := ⟨k - 1, by simp at hk; omega⟩
    unfold frag_Join.l0
    rw [if_neg (by rw [h]; simp)]
    rfl
  | cons p ps ih =>
    intro pre acc k h ha hk
    obtain ⟨k, rfl⟩ : ∃ k', k = k' + 1 := ⟨k - 1, by simp at hk; omega⟩
    have hlen : pre.length + (ps.length + 1) = l.length := by rw [h]; simp
    unfold frag_Join.l0
    rw [if_pos (by omega), if_pos (by omega), if_pos (by omega), rd_at l pre ps p h, within_eq]
    have e0 : ((pre.length : Int) == 0) = (pre.length == 0) := beqi _ 0
    have e1 : ((pre.length : Int) == wrap64 ((l.length : Int) - 1)) = (pre.length + 1 == l.length) := by
      rw [w64 _ (by omega) (by omega)]
      by_cases hq : pre.length + 1 = l.length
      · rw [beq_iff_eq.mpr hq, beq_iff_eq.mpr (by omega)]
      · rw [beq_eq_false_iff_ne.mpr hq, beq_eq_false_iff_ne.mpr (by omega)]
    rw [e0, e1, w64 (2048 - (acc.length : Int)) (by omega) (by omega)]
    simp only [Option.bind_some, decide_eq_true_eq]
    unfold jn
    by_cases h0 : p.f0 = (pre.length == 0)
    · rw [if_neg (by rw [h0]; simp)]
      by_cases h1 : p.f1 = (pre.length + 1 == l.length)
      · rw [if_neg (by rw [h1]; simp)]
        by_cases h2 : 1 ≤ p.f2.length ∧ acc.length + p.f2.length ≤ 2048
        · rw [if_pos (by omega), if_pos (by omega), if_pos ⟨h0, h1, h2⟩, w64 _ (by omega) (by omega)]
          have := ih (pre ++ [p]) (acc ++ p.f2) k (by rw [h]; simp) (by rw [List.length_append]; omega) (by simp at hk; omega)
          rw [List.length_append] at this
          simpa using this
        · rw [if_neg (by omega), if_neg (fun h => h2 h.2.2)]
      · rw [if_pos (by simpa using h1), if_neg (fun h => h1 h.2.1)]
    · rw [if_pos (by simpa using h0), if_neg (fun h => h0 h.1)]
def joinN (l : List S34) : List Int × Bool := if l.length = 0 then ([], false) else jn l.length 0 [] l
theorem join_eq (l : List S34) (hl : l.length ≤ 9223372036854775807) (k : Nat) (hk : l.length < k) : frag_Join.f k l = some (joinN l) := by
  unfold frag_Join.f joinN
  by_cases h : l.length = 0
  · rw [if_pos (by omega), if_pos h]
  · rw [if_neg (by omega), if_neg h]
    exact join_l0 l hl l [] [] k rfl (by simp) hk
theorem jn_at {L : Nat} : ∀ (ps : List S34) (i : Nat) (acc : List Int), (jn L i acc ps).2 = true → ∀ j p, ps[j]? = some p → p.f0 = (i + j == 0) ∧ p.f1 = (i + j + 1 == L) ∧ 1 ≤ p.f2.length := by
  intro ps
  induction ps with
  | nil => intro i acc _ j p h; simp at h
  | cons q ps ih =>
    intro i acc h j p hj
    unfold jn at h
    split at h
    · next hc =>
      rcases j with _ | j
      · obtain rfl : q = p := by simpa using hj
        exact ⟨hc.1, hc.2.1, hc.2.2.1⟩
      · have := ih (i + 1) _ h j p (by simpa using hj)
        rw [show i + (j + 1) = i + 1 + j by omega]
        exact this
    · simp at h
theorem jn_no {L : Nat} : ∀ (ps : List S34) (i : Nat) (acc : List Int), (jn L i acc ps).2 = false → jn L i acc ps = ([], false) := by
  intro ps
  induction ps with
  | nil => intro i acc h; simp [jn] at h
  | cons q ps ih =>
    intro i acc h
    unfold jn at h ⊢
    split
    · next hc => rw [if_pos hc] at h; exact ih _ _ h
    · rfl
def lens (ps : List S34) : Nat := (ps.map (·.f2.length)).sum
theorem jn_len {L : Nat} : ∀ (ps : List S34) (i : Nat) (acc : List Int), acc.length ≤ 2048 → (jn L i acc ps).2 = true → (jn L i acc ps).1.length = acc.length + lens ps ∧ acc.length + lens ps ≤ 2048 := by
  intro ps
  induction ps with
  | nil => intro i acc h _; simp [jn, lens]; exact h
  | cons q ps ih =>
    intro i acc ha h
    unfold jn at h ⊢
    split at h
    · next hc =>
      rw [if_pos hc]
      have := ih (i + 1) (acc ++ q.f2) (by rw [List.length_append]; omega) h
      rw [List.length_append] at this
      simp only [lens, List.map_cons, List.sum_cons] at this ⊢
      omega
    · simp at h
theorem joinN_at {l : List S34} (h : (joinN l).2 = true) (j : Nat) (p : S34) (hj : l[j]? = some p) : p.f0 = (j == 0) ∧ p.f1 = (j + 1 == l.length) ∧ 1 ≤ p.f2.length := by
  unfold joinN at h
  split at h
  · simp at h
  · have := jn_at l 0 [] h j p hj
    simpa using this
theorem joinN_no {l : List S34} (h : (joinN l).2 = false) : joinN l = ([], false) := by
  unfold joinN at h ⊢
  split
  · rfl
  · next hc => rw [if_neg hc] at h; exact jn_no _ _ _ h
theorem joinN_len {l : List S34} (h : (joinN l).2 = true) : (joinN l).1.length = lens l ∧ lens l ≤ 2048 ∧ 0 < l.length := by
  unfold joinN at h ⊢
  split at h
  · simp at h
  · next hc =>
    rw [if_neg hc]
    have := jn_len l 0 [] (by simp) h
    simp at this
    exact ⟨this.1, this.2, by omega⟩

/-! ### Split -/
def pc (l : List Int) (sz n i : Nat) : S34 := ⟨i == 0, i + 1 == n, (l.take ((i + 1) * sz)).drop (i * sz)⟩
def pcs (l : List Int) (sz : Nat) : List S34 := (List.range ((l.length - 1) / sz + 1)).map (pc l sz ((l.length - 1) / sz + 1))
theorem cut_lt {L sz i : Nat} (hL : 1 ≤ L) (hs : 1 ≤ sz) (h : i < (L - 1) / sz + 1) : i * sz < L := by
  have : i ≤ (L - 1) / sz := by omega
  have := (Nat.le_div_iff_mul_le hs).1 this
  omega
theorem cut_ge {L sz i : Nat} (hs : 1 ≤ sz) (h : (L - 1) / sz + 1 ≤ i) : L ≤ i * sz := by
  have : (L - 1) / sz < i := by omega
  have := (Nat.div_lt_iff_lt_mul hs).1 this
  omega
theorem pieces_eq (l : List Int) (sz : Nat) (hL : 1 ≤ l.length) (hs : 1 ≤ sz) : piecesP l sz = pcs l sz := by
  unfold piecesP pcs rawcuts
  rw [List.map_map]
  refine List.map_congr_left (fun i hi => ?_)
  have hi' : i < (l.length - 1) / sz + 1 := by simpa using hi
  have h1 := cut_lt hL hs hi'
  have h2 : i * sz + sz = (i + 1) * sz := by rw [Nat.add_mul]; omega
  have ht : ∀ m : Nat, l.length ≤ m → l.take m = l := fun m hm => List.take_of_length_le hm
  show pieceOf l (rawcut l.length sz i) = pc l sz _ i
  unfold pieceOf rawcut pc
  have e0 : (((i * sz : Nat) : Int) == 0) = (i == 0) := by
    by_cases h : i = 0
    · subst h; simp
    · rw [beq_eq_false_iff_ne.mpr h, beq_eq_false_iff_ne.mpr]
      have : 1 * 1 ≤ i * sz := Nat.mul_le_mul (by omega) hs
      omega
  by_cases hn : i + 1 = (l.length - 1) / sz + 1
  · have h3 : l.length ≤ (i + 1) * sz := cut_ge hs (by omega)
    have e1 : (if (l.length : Int) < ((i * sz : Nat) : Int) + sz then (l.length : Int) else ((i * sz : Nat) : Int) + sz) = l.length := by split <;> omega
    simp only [e0, e1, beq_iff_eq.mpr hn, Int.toNat_natCast]
    rw [ht ((i + 1) * sz) h3, ht l.length (Nat.le_refl _), beq_iff_eq.mpr (rfl : (l.length : Int) = l.length)]
  · have h3 : (i + 1) * sz < l.length := cut_lt hL hs (by omega)
    have e1 : (if (l.length : Int) < ((i * sz : Nat) : Int) + sz then (l.length : Int) else ((i * sz : Nat) : Int) + sz) = (((i + 1) * sz : Nat) : Int) := by split <;> omega
    simp only [e0, e1, beq_eq_false_iff_ne.mpr hn]
    have e2 : ((((i + 1) * sz : Nat) : Int) == (l.length : Int)) = false := beq_eq_false_iff_ne.mpr (by omega)
    rw [e2]
    simp only [Int.toNat_natCast]
theorem split_eq (l : List Int) (a : Int) : frag_Split.f l a = some (if 1 ≤ l.length ∧ l.length ≤ 2048 ∧ 1 ≤ a ∧ a ≤ 2048 then pcs l a.toNat else []) := by
  unfold frag_Split.f
  split
  · next h => rw [pieces_eq l a.toNat h.1 (by omega)]
  · rfl
theorem pcs_len (l : List Int) (sz : Nat) : (pcs l sz).length = (l.length - 1) / sz + 1 := by simp [pcs]
theorem pcs_at {l : List Int} {sz j : Nat} {p : S34} (h : (pcs l sz)[j]? = some p) : j < (l.length - 1) / sz + 1 ∧ p = pc l sz ((l.length - 1) / sz + 1) j := by
  unfold pcs at h
  rw [List.getElem?_map] at h
  obtain ⟨i, hi, rfl⟩ := Option.map_eq_some_iff.1 h
  rw [List.getElem?_range (by
    rcases Nat.lt_or_ge j ((l.length - 1) / sz + 1) with h | h
    · exact h
    · rw [List.getElem?_eq_none (by simpa using h)] at hi; simp at hi)] at hi
  obtain rfl := Option.some.inj hi
  refine ⟨?_, rfl⟩
  rcases Nat.lt_or_ge j ((l.length - 1) / sz + 1) with h' | h'
  · exact h'
  · rw [List.getElem?_eq_none (by simpa using h')] at h; simp at h
theorem pcs_get {l : List Int} {sz j : Nat} (h : j < (l.length - 1) / sz + 1) : (pcs l sz)[j]? = some (pc l sz ((l.length - 1) / sz + 1) j) := by
  unfold pcs
  rw [List.getElem?_map, List.getElem?_range h]; rfl
/-- How long a piece is. -/
theorem pc_len {l : List Int} {sz n i : Nat} (hL : 1 ≤ l.length) (hs : 1 ≤ sz) (hi : i < (l.length - 1) / sz + 1) :
    1 ≤ (pc l sz n i).f2.length ∧ (pc l sz n i).f2.length ≤ sz ∧ (i + 1 < (l.length - 1) / sz + 1 → (pc l sz n i).f2.length = sz) := by
  have h1 := cut_lt hL hs hi
  have h2 : i * sz + sz = (i + 1) * sz := by rw [Nat.add_mul]; omega
  have e : (pc l sz n i).f2.length = min ((i + 1) * sz) l.length - i * sz := by simp [pc]
  rw [e]
  refine ⟨by omega, by omega, fun h => ?_⟩
  have := cut_lt hL hs h
  omega
theorem jn_pcs {l : List Int} {sz : Nat} (hL : 1 ≤ l.length) (hL2 : l.length ≤ 2048) (hs : 1 ≤ sz) : ∀ (d i : Nat), i + d = (l.length - 1) / sz + 1 →
    jn ((l.length - 1) / sz + 1) i (l.take (i * sz)) ((pcs l sz).drop i) = (l, true) := by
  intro d
  induction d with
  | zero =>
    intro i hi
    rw [List.drop_of_length_le (by rw [pcs_len]; omega)]
    unfold jn
    rw [List.take_of_length_le (cut_ge hs (by omega))]
  | succ d ih =>
    intro i hi
    have hi' : i < (l.length - 1) / sz + 1 := by omega
    rw [List.drop_eq_getElem_cons (by rw [pcs_len]; exact hi')]
    have hg : (pcs l sz)[i]'(by rw [pcs_len]; exact hi') = pc l sz ((l.length - 1) / sz + 1) i := by
      have := pcs_get (l := l) (sz := sz) hi'
      rw [List.getElem?_eq_getElem (by rw [pcs_len]; exact hi')] at this
      exact Option.some.inj this
    rw [hg]
    have hp := pc_len (n := (l.length - 1) / sz + 1) hL hs hi'
    have h1 := cut_lt hL hs hi'
    have h2 : i * sz + sz = (i + 1) * sz := by rw [Nat.add_mul]; omega
    have e : (pc l sz ((l.length - 1) / sz + 1) i).f2.length = min ((i + 1) * sz) l.length - i * sz := by simp [pc]
    unfold jn
    rw [if_pos ⟨rfl, rfl, hp.1, by rw [e, List.length_take]; omega⟩]
    have : l.take (i * sz) ++ (pc l sz ((l.length - 1) / sz + 1) i).f2 = l.take ((i + 1) * sz) := by
      show l.take (i * sz) ++ (l.take ((i + 1) * sz)).drop (i * sz) = _
      have := List.take_append_drop (i * sz) (l.take ((i + 1) * sz))
      rw [List.take_take, Nat.min_eq_left (by omega)] at this
      exact this
    rw [this]
    exact ih (i + 1) (by omega)
theorem join_pcs {l : List Int} {sz : Nat} (hL : 1 ≤ l.length) (hL2 : l.length ≤ 2048) (hs : 1 ≤ sz) : joinN (pcs l sz) = (l, true) := by
  unfold joinN
  rw [if_neg (by rw [pcs_len]; exact Nat.succ_ne_zero _), pcs_len]
  have := jn_pcs hL hL2 hs ((l.length - 1) / sz + 1) 0 (by omega)
  simpa using this
theorem pcs_len_le {l : List Int} {sz : Nat} (hL2 : l.length ≤ 2048) (hL : 1 ≤ l.length) : (pcs l sz).length ≤ 2048 := by
  rw [pcs_len]
  have := Nat.div_le_self (l.length - 1) sz
  omega
end Go.Proofs.Ytfdjfejlfkabdaa.Q
