/- The document's answers of the frag layer, in plain lists. By this session. -/
import Derived.Test.YtfdjfejlfkabdaaFragPlain
import Derived.Test.YtfdjfejlfkabdaaQ8
import Derived.Test.YtfdjfejlfkabdaaQ2
namespace Go.Proofs.Ytfdjfejlfkabdaa.Q
open Go.RowKit Go.Proofs.YtfdjfejlfkabdaaW.PrintWords Go.Proofs.YtfdjfejlfkabdaaW.PrintLast
set_option linter.unusedVariables false

theorem great_some (l : List S34) (hl : l.length ≤ 9223372036854775806) : ∀ (d i k : Nat) (x : Int), i + d = l.length → d < k → ∃ b, bowlinelaw11_great.l0 k l x (i : Int) = some b := by
  intro d
  induction d with
  | zero =>
    intro i k x hi hk
    obtain ⟨k, rfl⟩ : ∃ k', k = k' + 1 := ⟨k - 1, by omega⟩
    rw [bowlinelaw11_great.l0, if_neg (by omega)]
    exact ⟨_, rfl⟩
  | succ d ih =>
    intro i k x hi hk
    obtain ⟨k, rfl⟩ : ∃ k', k = k' + 1 := ⟨k - 1, by omega⟩
    rw [bowlinelaw11_great.l0, if_pos (by omega)]
    by_cases h : x < 20000
    · rw [if_pos h, if_pos (by omega), w64 ((i : Int) + 1) (by omega) (by omega)]
      exact ih (i + 1) k _ (by omega) (by omega)
    · rw [if_neg h]; exact ⟨_, rfl⟩
theorem jn_yes {L i : Nat} {acc : List Int} {p : S34} {ps : List S34} (h : p.f0 = (i == 0) ∧ p.f1 = (i + 1 == L) ∧ 1 ≤ p.f2.length ∧ acc.length + p.f2.length ≤ 2048) : jn L i acc (p :: ps) = jn L (i + 1) (acc ++ p.f2) ps := by
  rw [jn, if_pos h]
theorem jn_nope {L i : Nat} {acc : List Int} {p : S34} {ps : List S34} (h : ¬ (p.f0 = (i == 0) ∧ p.f1 = (i + 1 == L) ∧ 1 ≤ p.f2.length ∧ acc.length + p.f2.length ≤ 2048)) : jn L i acc (p :: ps) = ([], false) := by
  rw [jn, if_neg h]
def rj (L : Nat) (x : List Int × Bool) : List Int × Bool := if x.2 = true then (x.1, decide (0 < L)) else ([], false)
theorem rjoin_l0 (l : List S34) (hl : l.length ≤ 9223372036854775806) : ∀ (ps pre : List S34) (acc : List Int) (k : Nat), l = pre ++ ps → acc.length ≤ 2048 → ps.length < k →
    bowlineref11_Join.l0 k l acc (pre.length : Int) = some (rj l.length (jn l.length pre.length acc ps)) := by
  intro ps
  induction ps with
  | nil =>
    intro pre acc k h ha hk
    obtain ⟨k, rfl⟩ : ∃ k', k = k' + 1 := ⟨k - 1, by simp at hk; omega⟩
    rw [bowlineref11_Join.l0, if_neg (by rw [h]; simp), jn, rj, if_pos rfl]
    congr 2
    exact decide_eq_decide.2 (by omega)
  | cons p ps ih =>
    intro pre acc k h ha hk
    obtain ⟨k, rfl⟩ : ∃ k', k = k' + 1 := ⟨k - 1, by simp at hk; omega⟩
    have hlen : pre.length + (ps.length + 1) = l.length := by rw [h]; simp
    have e0 : ((pre.length : Int) == 0) = (pre.length == 0) := beqi _ 0
    have e1 : ((pre.length : Int) == wrap64 ((l.length : Int) - 1)) = (pre.length + 1 == l.length) := by
      rw [w64 _ (by omega) (by omega)]
      by_cases hq : pre.length + 1 = l.length
      · rw [beq_iff_eq.mpr hq, beq_iff_eq.mpr (by omega)]
      · rw [beq_eq_false_iff_ne.mpr hq, beq_eq_false_iff_ne.mpr (by omega)]
    rw [bowlineref11_Join.l0, if_pos (by omega), if_pos (by omega), rd_at l pre ps p h, e0, e1, w64 (2048 - (acc.length : Int)) (by omega) (by omega)]
    by_cases h0 : p.f0 = (pre.length == 0)
    · rw [if_neg (by rw [h0]; simp)]
      by_cases h1 : p.f1 = (pre.length + 1 == l.length)
      · rw [if_neg (by rw [h1]; simp)]
        by_cases h2 : 1 ≤ p.f2.length
        · rw [if_neg (by omega)]
          by_cases h3 : acc.length + p.f2.length ≤ 2048
          · rw [if_neg (by omega), if_pos (by omega), jn_yes ⟨h0, h1, h2, h3⟩, w64 _ (by omega) (by omega)]
            have := ih (pre ++ [p]) (acc ++ p.f2) k (by rw [h]; simp) (by rw [List.length_append]; omega) (by simp at hk; omega)
            rw [List.length_append, List.length_singleton] at this
            exact this
          · rw [if_pos (by omega), jn_nope (fun h => h3 h.2.2.2)]; rfl
        · rw [if_pos (by omega), jn_nope (fun h => h2 h.2.2.1)]; rfl
      · rw [if_pos (by simpa using h1), jn_nope (fun h => h1 h.2.1)]; rfl
    · rw [if_pos (by simpa using h0), jn_nope (fun h => h0 h.1)]; rfl
theorem rjoin_eq (l : List S34) (hl : l.length ≤ 9223372036854775806) (k : Nat) (hk : l.length < k) : bowlineref11_Join.f k l = some (joinN l) := by
  rw [bowlineref11_Join.f]
  have h : bowlineref11_Join.l0 k l [] 0 = some (rj l.length (jn l.length 0 [] l)) := rjoin_l0 l hl l [] [] k rfl (by simp) hk
  rw [h]
  unfold joinN
  by_cases h0 : l.length = 0
  · rw [if_pos h0]
    obtain rfl : l = [] := List.length_eq_zero_iff.1 h0
    rfl
  · rw [if_neg h0, rj]
    rcases hb : (jn l.length 0 [] l).2 with _ | _
    · rw [if_neg (by simp), jn_no _ _ _ hb]
    · rw [if_pos rfl, decide_eq_true (by omega), ← hb]
theorem rlen_eq (n : Int) : bowlineref11_length.f n = some (decide (1 ≤ n ∧ n ≤ 2048)) := by
  unfold bowlineref11_length.f
  by_cases h1 : n ≥ 1
  · rw [if_pos h1]; congr 1; simp; omega
  · rw [if_neg h1]; congr 1; simp; omega
theorem rmany_eq (n s : Int) : bowlineref11_Many.f n s = some (manyN n s) := by
  unfold bowlineref11_Many.f manyN
  rw [rlen_eq, rlen_eq]
  simp only [Option.bind_some, decide_eq_true_eq]
  by_cases h1 : 1 ≤ n ∧ n ≤ 2048
  · rw [if_pos h1]
    by_cases h2 : 1 ≤ s ∧ s ≤ 2048
    · rw [if_pos h2, if_neg (by omega), if_pos (by omega)]
      have z3 : 0 ≤ (n - 1) / s := Int.ediv_nonneg (by omega) (by omega)
      have z4 : (n - 1) / s ≤ n - 1 := Int.ediv_le_self _ (by omega)
      have z5 : (n + s - 1) / s = (n - 1) / s + 1 := by
        rw [show n + s - 1 = (n - 1) + 1 * s by omega, Int.add_mul_ediv_right _ _ (by omega)]
      rw [w64 (n + s) (by omega) (by omega), w64 (n + s - 1) (by omega) (by omega), Int.tdiv_eq_ediv_of_nonneg (by omega), z5, w64 _ (by omega) (by omega)]
    · rw [if_neg h2, if_neg (by omega)]
  · rw [if_neg h1, if_neg (by omega)]
theorem same_refl (x : List S34) (hx : x.length ≤ 9223372036854775806) : ∀ (d i k : Nat), i + d = x.length → d < k → bowlineref11_Same.l0 k x x (i : Int) = some true := by
  intro d
  induction d with
  | zero =>
    intro i k hi hk
    obtain ⟨k, rfl⟩ : ∃ k', k = k' + 1 := ⟨k - 1, by omega⟩
    rw [bowlineref11_Same.l0, if_neg (by omega)]
  | succ d ih =>
    intro i k hi hk
    obtain ⟨k, rfl⟩ : ∃ k', k = k' + 1 := ⟨k - 1, by omega⟩
    rw [bowlineref11_Same.l0, if_pos (by omega), if_pos (by omega), if_pos (by omega), if_neg (by simp), if_neg (by simp), if_pos rfl, w64 _ (by omega) (by omega)]
    exact ih (i + 1) k (by omega) (by omega)
theorem same_eq (x : List S34) (hx : x.length ≤ 9223372036854775806) (k : Nat) (hk : x.length < k) : bowlineref11_Same.f k x x = some true := by
  rw [bowlineref11_Same.f, if_pos rfl]
  exact same_refl x hx x.length 0 k (by omega) hk
theorem rsplit_l0 (l : List Int) (sz : Nat) (hL : 1 ≤ l.length) (hL2 : l.length ≤ 2048) (hs : 1 ≤ sz) (hs2 : sz ≤ 2048) : ∀ (d i k : Nat), i + d = (l.length - 1) / sz + 1 → d < k →
    bowlineref11_Split.l0 k l (sz : Int) ((pcs l sz).take i) (i : Int) = some (pcs l sz) := by
  have hm : manyN (l.length : Int) (sz : Int) = (((l.length - 1) / sz + 1 : Nat) : Int) := by
    unfold manyN
    rw [if_pos (by omega)]
    push_cast
    rw [show ((l.length : Int) - 1) = ((l.length - 1 : Nat) : Int) by omega]
  have hle := Nat.div_le_self (l.length - 1) sz
  have hpl := pcs_len l sz
  generalize hn : (l.length - 1) / sz + 1 = n at *
  intro d
  induction d with
  | zero =>
    intro i k hi hk
    obtain ⟨k, rfl⟩ : ∃ k', k = k' + 1 := ⟨k - 1, by omega⟩
    rw [bowlineref11_Split.l0, rmany_eq, Option.bind_some, hm, if_neg (by omega), List.take_of_length_le (by omega)]
  | succ d ih =>
    intro i k hi hk
    obtain ⟨k, rfl⟩ : ∃ k', k = k' + 1 := ⟨k - 1, by omega⟩
    have hi' : i < n := by omega
    have h1 : i * sz < l.length := cut_lt hL hs (by omega)
    have h2 : i * sz + sz = (i + 1) * sz := by rw [Nat.add_mul]; omega
    have h3 : i + 1 = n → l.length ≤ (i + 1) * sz := fun h => cut_ge hs (by omega)
    have h4 : i + 1 < n → (i + 1) * sz < l.length := fun h => cut_lt hL hs (by omega)
    have hg : (pcs l sz).take i ++ [pc l sz n i] = (pcs l sz).take (i + 1) := by
      have := pcs_get (l := l) (sz := sz) (j := i) (by omega)
      rw [hn] at this
      rw [List.take_add_one, this]
      rfl
    have hpc : pc l sz n i = ⟨i == 0, i + 1 == n, (l.take ((i + 1) * sz)).drop (i * sz)⟩ := rfl
    generalize hp : i * sz = p at *
    generalize hq : (i + 1) * sz = q at *
    have bp1 : -9223372036854775808 ≤ (p : Int) := by omega
    have bp2 : (p : Int) < 9223372036854775808 := by omega
    have bq1 : -9223372036854775808 ≤ (q : Int) := by omega
    have bq2 : (q : Int) < 9223372036854775808 := by omega
    obtain ⟨u, hu, hu1, hu2, hu3, hu4⟩ : ∃ u : Nat, mn (q : Int) (l.length : Int) = (u : Int) ∧ p ≤ u ∧ u ≤ l.length ∧ l.take u = l.take q ∧ (((u : Int) == (l.length : Int)) = (i + 1 == n)) := by
      by_cases hn1 : i + 1 = n
      · have h5 := h3 hn1
        refine ⟨l.length, ?_, by omega, by omega, ?_, ?_⟩
        · unfold mn; split <;> omega
        · rw [List.take_of_length_le h5, List.take_of_length_le (Nat.le_refl _)]
        · rw [beq_iff_eq.mpr hn1, beq_iff_eq.mpr rfl]
      · have h5 := h4 (by omega)
        refine ⟨q, ?_, by omega, by omega, rfl, ?_⟩
        · unfold mn; rw [if_neg (by omega)]
        · rw [beq_eq_false_iff_ne.mpr hn1, beq_eq_false_iff_ne.mpr (by omega)]
    have e0 : ((i : Int) == 0) = (i == 0) := beqi _ 0
    have hlt : ((pcs l sz).take i).length ≤ 2048 := by rw [List.length_take]; omega
    have hlc : ((l.take u).drop p).length ≤ 2048 := by rw [List.length_drop, List.length_take]; omega
    have hpiece : ([] : List Int) ++ (l.take u).drop p = (l.take q).drop p := by rw [hu3]; rfl
    have go := ih (i + 1) k (by omega) (by omega)
    rw [← hg, hpc] at go
    generalize (pcs l sz).take i = front at *
    have q1 : (0 : Int) ≤ (p : Int) := Int.natCast_nonneg _
    have q2 : (p : Int) ≤ (u : Int) := by omega
    have q3 : (u : Int) ≤ (l.length : Int) := by omega
    have q4 : ([] : List Int).length + ((l.take u).drop p).length < 140737488355328 := by rw [List.length_nil]; omega
    have q5 : (i : Int) < (n : Int) := by omega
    have q6 : front.length < 4398046511104 := by omega
    have b0 : wrap64 ((i : Int) + 1) = ((i + 1 : Nat) : Int) := (w64 _ (by omega) (by omega)).trans (by omega)
    have b1 : wrap64 ((i : Int) * (sz : Int)) = (p : Int) := by rw [← Int.natCast_mul, hp]; exact w64 _ bp1 bp2
    have b2 : wrap64 (((i + 1 : Nat) : Int) * (sz : Int)) = (q : Int) := by rw [← Int.natCast_mul, hq]; exact w64 _ bq1 bq2
    rw [bowlineref11_Split.l0, rmany_eq, Option.bind_some, hm, if_pos q5, Option.bind_some, b0, b1, b2, hu, e0, hu4, Int.toNat_natCast, Int.toNat_natCast, if_pos q1, if_pos q2, if_pos q3, if_pos q4, if_pos q6, hpiece]
    exact go
theorem rsplit_eq (l : List Int) (a : Int) (k : Nat) (hk : 3000 < k) : bowlineref11_Split.f k l a = some (if 1 ≤ l.length ∧ l.length ≤ 2048 ∧ 1 ≤ a ∧ a ≤ 2048 then pcs l a.toNat else []) := by
  rw [bowlineref11_Split.f]
  by_cases h : 1 ≤ l.length ∧ l.length ≤ 2048 ∧ 1 ≤ a ∧ a ≤ 2048
  · rw [if_pos h]
    obtain ⟨s, rfl⟩ : ∃ s : Nat, a = (s : Int) := ⟨a.toNat, by omega⟩
    have hle := Nat.div_le_self (l.length - 1) s
    have := rsplit_l0 l s h.1 h.2.1 (by omega) (by omega) ((l.length - 1) / s + 1) 0 k (by omega) (by omega)
    rw [List.take_zero] at this
    rw [Int.toNat_natCast]
    exact this
  · rw [if_neg h]
    obtain ⟨k, rfl⟩ : ∃ k', k = k' + 1 := ⟨k - 1, by omega⟩
    have hm : manyN (l.length : Int) a = 0 := by
      unfold manyN
      rw [if_neg (by omega)]
    rw [bowlineref11_Split.l0, rmany_eq, Option.bind_some, hm, if_neg (by omega)]
end Go.Proofs.Ytfdjfejlfkabdaa.Q
